/- A helper text: contracts of functions of the program, and plain lemmas. -/
import Derived.Test.YtjkoeomndepolaaMnGa2
import Derived.Test.YtjkoeomndepolaaMnEa
set_option maxRecDepth 100000
set_option maxHeartbeats 0
set_option linter.unusedVariables false
set_option linter.unusedSimpArgs false
namespace Go.Proofs.Try.My
open Go Go.Ev

theorem pc_gasked (p : List Int) (thr a noise : Int) (hl : p.length < 2 ^ 40) : PC Try.prog 61 [ints p, i64 thr, i64 a, i64 noise] (i64 (if profB p then (if askE p thr a noise then 0 else 2) else 50)) := by
  have c1 := pc_CheckProfile p hl
  have hw : IntKind.i64.wrap ((p.length : Int) - 1) = (p.length : Int) - 1 := w64 _ (by omega) (by omega)
  cases hp : profB p
  · rw [hp] at c1
    refine pc_of_body hm Try.func61 (by kernel_rfl) ?_
    conv => whnf
    (repeat' (first | (refine And.intro (a := _ = true → _) (b := _ = false → _) (fun hh => ?_) (fun hh => ?_) <;> (first | simp only [decide_eq_true_eq, decide_eq_false_iff_not, Bool.or_eq_true, Bool.and_eq_true, Bool.or_eq_false_iff, Bool.and_eq_false_iff, Bool.not_eq_true', Bool.not_eq_false', ge_iff_le, gt_iff_lt] at hh | skip) <;> (first | (exfalso; omega) | (exfalso; simp [*] at hh; done) | (exfalso; revert hh; decide) | exact absurd (by assumption) hh | (conv => whnf))) | (refine ⟨by kernel_rfl, ?_⟩; (conv => whnf)) | (refine And.intro (a := _ ∧ _) ⟨by omega, by omega⟩ ?_; (conv => whnf)) | (refine And.intro (a := _ ∧ _) ⟨by decide, by decide⟩ ?_; (conv => whnf)) | (refine And.intro (a := _ ≤ _) (by omega) ?_; (conv => whnf)) | (refine And.intro (a := _ ≠ _) (by omega) ?_; (conv => whnf)) | (refine Or.inl ?_; (conv => whnf); first | (refine ⟨_, by first | exact c1, ?_⟩; (conv => whnf)) | (refine ⟨false, ?_⟩; (conv => whnf); refine ⟨_, by first | exact c1, ?_⟩; (conv => whnf))) | (refine ⟨_, by first | exact c1, ?_⟩; (conv => whnf))))
    all_goals simp
  rw [hp] at c1
  refine pc_of_body hm Try.func61 (by kernel_rfl) ?_
  conv => whnf
  (repeat' (first | (refine And.intro (a := _ = true → _) (b := _ = false → _) (fun hh => ?_) (fun hh => ?_) <;> (first | simp only [decide_eq_true_eq, decide_eq_false_iff_not, Bool.or_eq_true, Bool.and_eq_true, Bool.or_eq_false_iff, Bool.and_eq_false_iff, Bool.not_eq_true', Bool.not_eq_false', ge_iff_le, gt_iff_lt] at hh | skip) <;> (first | (exfalso; omega) | (exfalso; simp [*] at hh; done) | (exfalso; revert hh; decide) | exact absurd (by assumption) hh | (conv => whnf))) | (refine ⟨by kernel_rfl, ?_⟩; (conv => whnf)) | (refine And.intro (a := _ ∧ _) ⟨by omega, by omega⟩ ?_; (conv => whnf)) | (refine And.intro (a := _ ∧ _) ⟨by decide, by decide⟩ ?_; (conv => whnf)) | (refine And.intro (a := _ ≤ _) (by omega) ?_; (conv => whnf)) | (refine And.intro (a := _ ≠ _) (by omega) ?_; (conv => whnf)) | (refine Or.inl ?_; (conv => whnf); first | (refine ⟨_, by first | exact c1 | exact pc_gfrom _ _ _, ?_⟩; (conv => whnf)) | (refine ⟨false, ?_⟩; (conv => whnf); refine ⟨_, by first | exact c1 | exact pc_gfrom _ _ _, ?_⟩; (conv => whnf))) | (refine ⟨_, by first | exact c1 | exact pc_gfrom _ _ _, ?_⟩; (conv => whnf))))
  all_goals (first | (simp_all [askE, withB]; done) | (simp_all [askE, withB]; intros; omega))
theorem pc_r5asked (p : List Int) (thr a noise : Int) (hl : p.length < 2 ^ 40) : PC Try.prog 64 [ints p, i64 thr, i64 a, i64 noise] (i64 (if profB p then (if askE p thr a noise then 0 else 2) else 50)) := by
  have c1 := pc_ValidProfile5 p hl
  have hw : IntKind.i64.wrap ((p.length : Int) - 1) = (p.length : Int) - 1 := w64 _ (by omega) (by omega)
  cases hp : profB p
  · rw [hp] at c1
    refine pc_of_body hm Try.func64 (by kernel_rfl) ?_
    conv => whnf
    (repeat' (first | (refine And.intro (a := _ = true → _) (b := _ = false → _) (fun hh => ?_) (fun hh => ?_) <;> (first | simp only [decide_eq_true_eq, decide_eq_false_iff_not, Bool.or_eq_true, Bool.and_eq_true, Bool.or_eq_false_iff, Bool.and_eq_false_iff, Bool.not_eq_true', Bool.not_eq_false', ge_iff_le, gt_iff_lt] at hh | skip) <;> (first | (exfalso; omega) | (exfalso; simp [*] at hh; done) | (exfalso; revert hh; decide) | exact absurd (by assumption) hh | (conv => whnf))) | (refine ⟨by kernel_rfl, ?_⟩; (conv => whnf)) | (refine And.intro (a := _ ∧ _) ⟨by omega, by omega⟩ ?_; (conv => whnf)) | (refine And.intro (a := _ ∧ _) ⟨by decide, by decide⟩ ?_; (conv => whnf)) | (refine And.intro (a := _ ≤ _) (by omega) ?_; (conv => whnf)) | (refine And.intro (a := _ ≠ _) (by omega) ?_; (conv => whnf)) | (refine Or.inl ?_; (conv => whnf); first | (refine ⟨_, by first | exact c1, ?_⟩; (conv => whnf)) | (refine ⟨false, ?_⟩; (conv => whnf); refine ⟨_, by first | exact c1, ?_⟩; (conv => whnf))) | (refine ⟨_, by first | exact c1, ?_⟩; (conv => whnf))))
    all_goals simp
  rw [hp] at c1
  refine pc_of_body hm Try.func64 (by kernel_rfl) ?_
  conv => whnf
  (repeat' (first | (refine And.intro (a := _ = true → _) (b := _ = false → _) (fun hh => ?_) (fun hh => ?_) <;> (first | simp only [decide_eq_true_eq, decide_eq_false_iff_not, Bool.or_eq_true, Bool.and_eq_true, Bool.or_eq_false_iff, Bool.and_eq_false_iff, Bool.not_eq_true', Bool.not_eq_false', ge_iff_le, gt_iff_lt] at hh | skip) <;> (first | (exfalso; omega) | (exfalso; simp [*] at hh; done) | (exfalso; revert hh; decide) | exact absurd (by assumption) hh | (conv => whnf))) | (refine ⟨by kernel_rfl, ?_⟩; (conv => whnf)) | (refine And.intro (a := _ ∧ _) ⟨by omega, by omega⟩ ?_; (conv => whnf)) | (refine And.intro (a := _ ∧ _) ⟨by decide, by decide⟩ ?_; (conv => whnf)) | (refine And.intro (a := _ ≤ _) (by omega) ?_; (conv => whnf)) | (refine And.intro (a := _ ≠ _) (by omega) ?_; (conv => whnf)) | (refine Or.inl ?_; (conv => whnf); first | (refine ⟨_, by first | exact c1 | exact pc_within5 _ _ _, ?_⟩; (conv => whnf)) | (refine ⟨false, ?_⟩; (conv => whnf); refine ⟨_, by first | exact c1 | exact pc_within5 _ _ _, ?_⟩; (conv => whnf))) | (refine ⟨_, by first | exact c1 | exact pc_within5 _ _ _, ?_⟩; (conv => whnf))))
  all_goals (first | (simp_all [askE, withB]; done) | (simp_all [askE, withB]; intros; omega))
theorem prof_byte {p : List Int} (h : profB p = true) : byteL p := fun i hi => val_bounds (prof_val h) i hi
theorem ask_known {p : List Int} {thr a noise : Int} (h : askE p thr a noise = true) : 1 ≤ thr ∧ thr ≤ 255 ∧ 0 ≤ a ∧ a < p.length ∧ 0 ≤ noise ∧ noise ≤ 64 := by
  simp only [askE, Bool.and_eq_true, decide_eq_true_eq] at h
  omega
theorem pc_ways (n : Int) (a d : Int) : PC Try.prog 108 [i64 n, i64 a, i64 d] (.fn (.func 133) [] [.pt [i64 a] 0, .pt [i64 n] 0, .pt [i64 d] 0]) := by
  refine pc_of_body hm Try.func108 (by kernel_rfl) ?_
  conv => whnf
theorem pc_gwhole (n : Int) : PC Try.prog 73 [i64 n] (fr (n, 1)) := by
  refine pc_of_body hm Try.func73 (by kernel_rfl) ?_
  conv => whnf
  (repeat' (first | (refine And.intro (a := _ = true → _) (b := _ = false → _) (fun hh => ?_) (fun hh => ?_) <;> (first | simp only [decide_eq_true_eq, decide_eq_false_iff_not, Bool.or_eq_true, Bool.and_eq_true, Bool.or_eq_false_iff, Bool.and_eq_false_iff, Bool.not_eq_true', Bool.not_eq_false', ge_iff_le, gt_iff_lt] at hh | skip) <;> (first | (exfalso; omega) | (exfalso; simp [*] at hh; done) | (exfalso; revert hh; decide) | exact absurd (by assumption) hh | (conv => whnf))) | (refine ⟨by kernel_rfl, ?_⟩; (conv => whnf)) | (refine And.intro (a := _ ∧ _) ⟨by omega, by omega⟩ ?_; (conv => whnf)) | (refine And.intro (a := _ ∧ _) ⟨by decide, by decide⟩ ?_; (conv => whnf)) | (refine And.intro (a := _ ≤ _) (by omega) ?_; (conv => whnf)) | (refine And.intro (a := _ ≠ _) (by omega) ?_; (conv => whnf))))
end Go.Proofs.Try.My
