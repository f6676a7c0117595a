/- A helper text: contracts of functions of the program, and plain lemmas. -/
import Derived.Test.YtjkoeomndepolaaMzGe2
import Derived.Test.YtjkoeomndepolaaMzSame
set_option maxRecDepth 100000
set_option maxHeartbeats 0
set_option linter.unusedVariables false
set_option linter.unusedSimpArgs false
namespace Go.Proofs.Try.My
open Go Go.Ev

theorem pc_GaugeEdges (p : List Int) (thr a noise : Int) : PC Try.prog 5 [ints p, i64 thr, i64 a, i64 noise] (.bool true) := by
  by_cases hl : p.length ≤ 100
  rotate_left
  · refine pc_of_body hm Try.func5 (by kernel_rfl) ?_
    conv => whnf
    (repeat' (first | (refine And.intro (a := _ = true → _) (b := _ = false → _) (fun hh => ?_) (fun hh => ?_) <;> (first | simp only [decide_eq_true_eq, decide_eq_false_iff_not, Bool.or_eq_true, Bool.and_eq_true, Bool.or_eq_false_iff, Bool.and_eq_false_iff, Bool.not_eq_true', Bool.not_eq_false', ge_iff_le, gt_iff_lt] at hh | skip) <;> (first | (exfalso; omega) | (exfalso; simp [*] at hh; done) | (exfalso; revert hh; decide) | exact absurd (by assumption) hh | (conv => whnf))) | (refine ⟨by kernel_rfl, ?_⟩; (conv => whnf)) | (refine And.intro (a := _ ∧ _) ⟨by omega, by omega⟩ ?_; (conv => whnf)) | (refine And.intro (a := _ ∧ _) ⟨by decide, by decide⟩ ?_; (conv => whnf)) | (refine And.intro (a := _ ≤ _) (by omega) ?_; (conv => whnf)) | (refine And.intro (a := _ ≠ _) (by omega) ?_; (conv => whnf))))
  have hl2 : p.length < 2 ^ 40 := by omega
  have h1 := pc_gRise p thr a noise hl2
  have h2 := pc_r5Rise p thr a noise hl2
  have h3 := pc_gFall p thr a noise hl2
  have h4 := pc_r5Fall p thr a noise hl2
  have h5 := pc_gWidth p thr noise hl2
  have h6 := pc_r5Width p thr noise hl2
  have h7 := pc_Same p hl2
  generalize edgF p thr a noise 1 = A at *
  generalize edgF p thr a noise (-1) = B at *
  generalize widE p thr noise = C at *
  refine pc_of_body hm Try.func5 (by kernel_rfl) ?_
  conv => whnf
  (repeat' (first | (refine And.intro (a := _ = true → _) (b := _ = false → _) (fun hh => ?_) (fun hh => ?_) <;> (first | simp only [decide_eq_true_eq, decide_eq_false_iff_not, Bool.or_eq_true, Bool.and_eq_true, Bool.or_eq_false_iff, Bool.and_eq_false_iff, Bool.not_eq_true', Bool.not_eq_false', ge_iff_le, gt_iff_lt] at hh | skip) <;> (first | (exfalso; omega) | (exfalso; simp [*] at hh; done) | (exfalso; revert hh; decide) | exact absurd (by assumption) hh | (conv => whnf))) | (refine ⟨by kernel_rfl, ?_⟩; (conv => whnf)) | (refine And.intro (a := _ ∧ _) ⟨by omega, by omega⟩ ?_; (conv => whnf)) | (refine And.intro (a := _ ∧ _) ⟨by decide, by decide⟩ ?_; (conv => whnf)) | (refine And.intro (a := _ ≤ _) (by omega) ?_; (conv => whnf)) | (refine And.intro (a := _ ≠ _) (by omega) ?_; (conv => whnf))))
  refine ⟨⟨Int, 1, 0, eI, []⟩, p, rfl, ⟨rfl, rfl⟩, rfl, ?_, ?_, fun y _ => ⟨rfl, rfl, rfl⟩, ?_⟩
  · show (0 + p.length) * 8 ≤ _; omega
  · show 0 + p.length ≤ _; omega
  (conv => whnf)
  (first | (refine Or.inl ?_; (conv => whnf); refine ⟨true, ?_⟩) | refine ⟨true, ?_⟩)
  (conv => whnf)
  (repeat' (first | (refine And.intro (a := _ = true → _) (b := _ = false → _) (fun hh => ?_) (fun hh => ?_) <;> (first | simp only [decide_eq_true_eq, decide_eq_false_iff_not, Bool.or_eq_true, Bool.and_eq_true, Bool.or_eq_false_iff, Bool.and_eq_false_iff, Bool.not_eq_true', Bool.not_eq_false', ge_iff_le, gt_iff_lt] at hh | skip) <;> (first | (exfalso; omega) | (exfalso; simp [*] at hh; done) | (exfalso; revert hh; decide) | exact absurd (by assumption) hh | (conv => whnf))) | (refine ⟨by kernel_rfl, ?_⟩; (conv => whnf)) | (refine And.intro (a := _ ∧ _) ⟨by omega, by omega⟩ ?_; (conv => whnf)) | (refine And.intro (a := _ ∧ _) ⟨by decide, by decide⟩ ?_; (conv => whnf)) | (refine And.intro (a := _ ≤ _) (by omega) ?_; (conv => whnf)) | (refine And.intro (a := _ ≠ _) (by omega) ?_; (conv => whnf)) | (refine Or.inl ?_; (conv => whnf); first | (refine ⟨_, by first | exact h1 | exact h2 | exact h3 | exact h4 | exact h5 | exact h6 | exact h7, ?_⟩; (conv => whnf)) | (refine ⟨false, ?_⟩; (conv => whnf); refine ⟨_, by first | exact h1 | exact h2 | exact h3 | exact h4 | exact h5 | exact h6 | exact h7, ?_⟩; (conv => whnf))) | (refine ⟨_, by first | exact h1 | exact h2 | exact h3 | exact h4 | exact h5 | exact h6 | exact h7, ?_⟩; (conv => whnf))))
  all_goals simp
end Go.Proofs.Try.My
