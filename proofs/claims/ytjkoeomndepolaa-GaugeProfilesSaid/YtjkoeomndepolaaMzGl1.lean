/- A helper text: contracts of functions of the program, and plain lemmas. -/
import Derived.Test.YtjkoeomndepolaaMzGa7
import Derived.Test.YtjkoeomndepolaaMzSame
set_option maxRecDepth 100000
set_option maxHeartbeats 0
set_option linter.unusedVariables false
set_option linter.unusedSimpArgs false
namespace Go.Proofs.Try.My
open Go Go.Ev

theorem pc_GaugeProfiles (p : List Int) (thr a noise : Int) : PC Try.prog 3 [ints p, i64 thr, i64 a, i64 noise] (.bool true) := by
  by_cases hl : p.length ≤ 100
  rotate_left
  · refine pc_of_body hm Try.func3 (by kernel_rfl) ?_
    conv => whnf
    (repeat' (first | (refine And.intro (a := _ = true → _) (b := _ = false → _) (fun hh => ?_) (fun hh => ?_) <;> (first | simp only [decide_eq_true_eq, decide_eq_false_iff_not, Bool.or_eq_true, Bool.and_eq_true, Bool.or_eq_false_iff, Bool.and_eq_false_iff, Bool.not_eq_true', Bool.not_eq_false', ge_iff_le, gt_iff_lt] at hh | skip) <;> (first | (exfalso; omega) | (exfalso; simp [*] at hh; done) | (exfalso; revert hh; decide) | exact absurd (by assumption) hh | (conv => whnf))) | (refine ⟨by kernel_rfl, ?_⟩; (conv => whnf)) | (refine And.intro (a := _ ∧ _) ⟨by omega, by omega⟩ ?_; (conv => whnf)) | (refine And.intro (a := _ ∧ _) ⟨by decide, by decide⟩ ?_; (conv => whnf)) | (refine And.intro (a := _ ≤ _) (by omega) ?_; (conv => whnf)) | (refine And.intro (a := _ ≠ _) (by omega) ?_; (conv => whnf))))
  have hl2 : p.length < 2 ^ 40 := by omega
  have h1 := pc_gFirst p thr a hl2
  have h2 := pc_rFirst p thr a hl2
  have h3 := pc_gLast p thr a hl2
  have h4 := pc_rLast p thr a hl2
  have h5 := pc_CheckProfile p hl2
  have h6 := pc_CheckProfile5 p hl2
  have h7 := pc_Same p hl2
  generalize firF p thr a 1 = F at *
  generalize firF p thr a (-1) = L at *
  generalize (if profB p = true then (0 : Int) else 50) = C at *
  cases hn : nzB p noise
  · have u1 := pc_Upper_bad p noise hl2 hn
    have u2 := pc_rUpper_bad p noise hl2 hn
    have l1 := pc_Lower_bad p noise hl2 hn
    have l2 := pc_rLower_bad p noise hl2 hn
    generalize (if profB p = true then (2 : Int) else 50) = E at *
    refine pc_of_body hm Try.func3 (by kernel_rfl) ?_
    conv => whnf
    (repeat' (first | (refine And.intro (a := _ = true → _) (b := _ = false → _) (fun hh => ?_) (fun hh => ?_) <;> (first | simp only [decide_eq_true_eq, decide_eq_false_iff_not, Bool.or_eq_true, Bool.and_eq_true, Bool.or_eq_false_iff, Bool.and_eq_false_iff, Bool.not_eq_true', Bool.not_eq_false', ge_iff_le, gt_iff_lt] at hh | skip) <;> (first | (exfalso; omega) | (exfalso; simp [*] at hh; done) | (exfalso; revert hh; decide) | exact absurd (by assumption) hh | (conv => whnf))) | (refine ⟨by kernel_rfl, ?_⟩; (conv => whnf)) | (refine And.intro (a := _ ∧ _) ⟨by omega, by omega⟩ ?_; (conv => whnf)) | (refine And.intro (a := _ ∧ _) ⟨by decide, by decide⟩ ?_; (conv => whnf)) | (refine And.intro (a := _ ≤ _) (by omega) ?_; (conv => whnf)) | (refine And.intro (a := _ ≠ _) (by omega) ?_; (conv => whnf))))
    refine ⟨⟨Int, 1, 0, eI, []⟩, p, rfl, ⟨rfl, rfl⟩, rfl, ?_, ?_, fun y _ => ⟨rfl, rfl, rfl⟩, ?_⟩
    · show (0 + p.length) * 8 ≤ _; omega
    · show 0 + p.length ≤ _; omega
    (conv => whnf)
    (first | (refine Or.inl ?_; (conv => whnf); refine ⟨true, ?_⟩) | refine ⟨true, ?_⟩)
    (conv => whnf)
    (repeat' (first | (refine And.intro (a := _ = true → _) (b := _ = false → _) (fun hh => ?_) (fun hh => ?_) <;> (first | simp only [decide_eq_true_eq, decide_eq_false_iff_not, Bool.or_eq_true, Bool.and_eq_true, Bool.or_eq_false_iff, Bool.and_eq_false_iff, Bool.not_eq_true', Bool.not_eq_false', ge_iff_le, gt_iff_lt] at hh | skip) <;> (first | (exfalso; omega) | (exfalso; simp [*] at hh; done) | (exfalso; revert hh; decide) | exact absurd (by assumption) hh | (conv => whnf))) | (refine ⟨by kernel_rfl, ?_⟩; (conv => whnf)) | (refine And.intro (a := _ ∧ _) ⟨by omega, by omega⟩ ?_; (conv => whnf)) | (refine And.intro (a := _ ∧ _) ⟨by decide, by decide⟩ ?_; (conv => whnf)) | (refine And.intro (a := _ ≤ _) (by omega) ?_; (conv => whnf)) | (refine And.intro (a := _ ≠ _) (by omega) ?_; (conv => whnf)) | (refine Or.inl ?_; (conv => whnf); first | (refine ⟨_, by first | exact h1 | exact h2 | exact h3 | exact h4 | exact u1 | exact u2 | exact l1 | exact l2 | exact h5 | exact h6 | exact pc_SameInts_nils, ?_⟩; (conv => whnf)) | (refine ⟨false, ?_⟩; (conv => whnf); refine ⟨_, by first | exact h1 | exact h2 | exact h3 | exact h4 | exact u1 | exact u2 | exact l1 | exact l2 | exact h5 | exact h6 | exact pc_SameInts_nils, ?_⟩; (conv => whnf))) | (refine ⟨_, by first | exact h1 | exact h2 | exact h3 | exact h4 | exact u1 | exact u2 | exact l1 | exact l2 | exact h5 | exact h6 | exact pc_SameInts_nils, ?_⟩; (conv => whnf))))
    refine Or.inl ⟨2, ?_⟩
    (conv => whnf)
    (repeat' (first | (refine And.intro (a := _ = true → _) (b := _ = false → _) (fun hh => ?_) (fun hh => ?_) <;> (first | simp only [decide_eq_true_eq, decide_eq_false_iff_not, Bool.or_eq_true, Bool.and_eq_true, Bool.or_eq_false_iff, Bool.and_eq_false_iff, Bool.not_eq_true', Bool.not_eq_false', ge_iff_le, gt_iff_lt] at hh | skip) <;> (first | (exfalso; omega) | (exfalso; simp [*] at hh; done) | (exfalso; revert hh; decide) | exact absurd (by assumption) hh | (conv => whnf))) | (refine ⟨by kernel_rfl, ?_⟩; (conv => whnf)) | (refine And.intro (a := _ ∧ _) ⟨by omega, by omega⟩ ?_; (conv => whnf)) | (refine And.intro (a := _ ∧ _) ⟨by decide, by decide⟩ ?_; (conv => whnf)) | (refine And.intro (a := _ ≤ _) (by omega) ?_; (conv => whnf)) | (refine And.intro (a := _ ≠ _) (by omega) ?_; (conv => whnf)) | (refine Or.inl ?_; (conv => whnf); first | (refine ⟨_, by first | exact h7, ?_⟩; (conv => whnf)) | (refine ⟨false, ?_⟩; (conv => whnf); refine ⟨_, by first | exact h7, ?_⟩; (conv => whnf))) | (refine ⟨_, by first | exact h7, ?_⟩; (conv => whnf))))
  · have hk := nz_known hn
    have u1 := pw_Upper p noise hn
    have u2 := pc_rUpper p noise hn
    have l1 := pw_Lower p noise hn
    have l2 := pc_rLower p noise hn
    have m1 := movL_length p noise
    have m2 := movL_length p (-noise)
    generalize movL p noise = s at *
    generalize movL p (-noise) = t at *
    have s1 := pc_Same s (by omega)
    have s2 := pc_Same t (by omega)
    refine pc_of_body hm Try.func3 (by kernel_rfl) ?_
    conv => whnf
    (repeat' (first | (refine And.intro (a := _ = true → _) (b := _ = false → _) (fun hh => ?_) (fun hh => ?_) <;> (first | simp only [decide_eq_true_eq, decide_eq_false_iff_not, Bool.or_eq_true, Bool.and_eq_true, Bool.or_eq_false_iff, Bool.and_eq_false_iff, Bool.not_eq_true', Bool.not_eq_false', ge_iff_le, gt_iff_lt] at hh | skip) <;> (first | (exfalso; omega) | (exfalso; simp [*] at hh; done) | (exfalso; revert hh; decide) | exact absurd (by assumption) hh | (conv => whnf))) | (refine ⟨by kernel_rfl, ?_⟩; (conv => whnf)) | (refine And.intro (a := _ ∧ _) ⟨by omega, by omega⟩ ?_; (conv => whnf)) | (refine And.intro (a := _ ∧ _) ⟨by decide, by decide⟩ ?_; (conv => whnf)) | (refine And.intro (a := _ ≤ _) (by omega) ?_; (conv => whnf)) | (refine And.intro (a := _ ≠ _) (by omega) ?_; (conv => whnf))))
    refine ⟨⟨Int, 1, 0, eI, []⟩, p, rfl, ⟨rfl, rfl⟩, rfl, ?_, ?_, fun y _ => ⟨rfl, rfl, rfl⟩, ?_⟩
    · show (0 + p.length) * 8 ≤ _; omega
    · show 0 + p.length ≤ _; omega
    (conv => whnf)
    (first | (refine Or.inl ?_; (conv => whnf); refine ⟨true, ?_⟩) | refine ⟨true, ?_⟩)
    (conv => whnf)
    (repeat' (first | (refine And.intro (a := _ = true → _) (b := _ = false → _) (fun hh => ?_) (fun hh => ?_) <;> (first | simp only [decide_eq_true_eq, decide_eq_false_iff_not, Bool.or_eq_true, Bool.and_eq_true, Bool.or_eq_false_iff, Bool.and_eq_false_iff, Bool.not_eq_true', Bool.not_eq_false', ge_iff_le, gt_iff_lt] at hh | skip) <;> (first | (exfalso; omega) | (exfalso; simp [*] at hh; done) | (exfalso; revert hh; decide) | exact absurd (by assumption) hh | (conv => whnf))) | (refine ⟨by kernel_rfl, ?_⟩; (conv => whnf)) | (refine And.intro (a := _ ∧ _) ⟨by omega, by omega⟩ ?_; (conv => whnf)) | (refine And.intro (a := _ ∧ _) ⟨by decide, by decide⟩ ?_; (conv => whnf)) | (refine And.intro (a := _ ≤ _) (by omega) ?_; (conv => whnf)) | (refine And.intro (a := _ ≠ _) (by omega) ?_; (conv => whnf)) | (refine Or.inl ?_; (conv => whnf); first | (refine ⟨_, by first | exact h1 | exact h2 | exact h3 | exact h4, ?_⟩; (conv => whnf)) | (refine ⟨false, ?_⟩; (conv => whnf); refine ⟨_, by first | exact h1 | exact h2 | exact h3 | exact h4, ?_⟩; (conv => whnf))) | (refine ⟨_, by first | exact h1 | exact h2 | exact h3 | exact h4, ?_⟩; (conv => whnf))))
    (refine Or.inr ⟨[ ], [ 65 ], by kernel_rfl, ?_⟩; (conv => whnf); refine ⟨[ ], _, _, _, _, ⟨ u1, rfl, rfl, by kernel_rfl⟩, ?_⟩)
    (conv => whnf)
    (repeat' (first | (refine And.intro (a := _ = true → _) (b := _ = false → _) (fun hh => ?_) (fun hh => ?_) <;> (first | simp only [decide_eq_true_eq, decide_eq_false_iff_not, Bool.or_eq_true, Bool.and_eq_true, Bool.or_eq_false_iff, Bool.and_eq_false_iff, Bool.not_eq_true', Bool.not_eq_false', ge_iff_le, gt_iff_lt] at hh | skip) <;> (first | (exfalso; omega) | (exfalso; simp [*] at hh; done) | (exfalso; revert hh; decide) | exact absurd (by assumption) hh | (conv => whnf))) | (refine ⟨by kernel_rfl, ?_⟩; (conv => whnf)) | (refine And.intro (a := _ ∧ _) ⟨by omega, by omega⟩ ?_; (conv => whnf)) | (refine And.intro (a := _ ∧ _) ⟨by decide, by decide⟩ ?_; (conv => whnf)) | (refine And.intro (a := _ ≤ _) (by omega) ?_; (conv => whnf)) | (refine And.intro (a := _ ≠ _) (by omega) ?_; (conv => whnf)) | (refine Or.inl ?_; (conv => whnf); first | (refine ⟨_, by first | exact u2, ?_⟩; (conv => whnf)) | (refine ⟨false, ?_⟩; (conv => whnf); refine ⟨_, by first | exact u2, ?_⟩; (conv => whnf))) | (refine ⟨_, by first | exact u2, ?_⟩; (conv => whnf))))
    (refine Or.inr ⟨[ ], [ 77 ], by kernel_rfl, ?_⟩; (conv => whnf); refine ⟨[ ], _, _, _, _, ⟨ l1, rfl, rfl, by kernel_rfl⟩, ?_⟩)
    (conv => whnf)
    (repeat' (first | (refine And.intro (a := _ = true → _) (b := _ = false → _) (fun hh => ?_) (fun hh => ?_) <;> (first | simp only [decide_eq_true_eq, decide_eq_false_iff_not, Bool.or_eq_true, Bool.and_eq_true, Bool.or_eq_false_iff, Bool.and_eq_false_iff, Bool.not_eq_true', Bool.not_eq_false', ge_iff_le, gt_iff_lt] at hh | skip) <;> (first | (exfalso; omega) | (exfalso; simp [*] at hh; done) | (exfalso; revert hh; decide) | exact absurd (by assumption) hh | (conv => whnf))) | (refine ⟨by kernel_rfl, ?_⟩; (conv => whnf)) | (refine And.intro (a := _ ∧ _) ⟨by omega, by omega⟩ ?_; (conv => whnf)) | (refine And.intro (a := _ ∧ _) ⟨by decide, by decide⟩ ?_; (conv => whnf)) | (refine And.intro (a := _ ≤ _) (by omega) ?_; (conv => whnf)) | (refine And.intro (a := _ ≠ _) (by omega) ?_; (conv => whnf)) | (refine Or.inl ?_; (conv => whnf); first | (refine ⟨_, by first | exact l2 | exact h5 | exact h6 | exact s1 | exact s2, ?_⟩; (conv => whnf)) | (refine ⟨false, ?_⟩; (conv => whnf); refine ⟨_, by first | exact l2 | exact h5 | exact h6 | exact s1 | exact s2, ?_⟩; (conv => whnf))) | (refine ⟨_, by first | exact l2 | exact h5 | exact h6 | exact s1 | exact s2, ?_⟩; (conv => whnf))))
    refine Or.inr ⟨Nat, [133], [65], [], fun k => [i64 k], fun k => [.vec 3 1 0 eI (mixL s (fun _ => -7) k)], fun _ => [], fun k => s.length - k, fun k => k ≤ s.length, ?_⟩
    (conv => whnf)
    refine ⟨⟨0, ?_⟩, ?_⟩
    · (conv => whnf)
      refine ⟨⟨Nat.zero_le _, rfl, ?_, rfl⟩, by kernel_rfl, by kernel_rfl⟩
      show [Row.vec 3 1 0 eI s] = [Row.vec 3 1 0 eI (mixL s (fun _ => -7) 0)]
      rw [mixL_zero]
    · intro k hk
      (conv => whnf)
      refine ⟨fun h => ?_, fun h => ?_⟩
      · have h := of_decide_eq_true h
        (conv => whnf)
        refine ⟨⟨by omega, by rw [mixL_length]; omega⟩, ?_⟩
        (conv => whnf)
        refine ⟨-7, rfl, by rw [mixL_length]; omega, ?_⟩
        (conv => whnf)
        refine ⟨k + 1, ?_⟩
        (conv => whnf)
        refine ⟨⟨⟨Nat.sub_lt_sub_left (by omega) (Nat.lt_succ_self k), by omega⟩, ?_, ?_, rfl⟩, by kernel_rfl, by kernel_rfl⟩
        · rw [w64 _ (by omega) (by omega)]; rfl
        · show [Row.vec _ 1 0 eI ((mixL s (fun _ => -7) k).set k (-7))] = _
          rw [show (mixL s (fun _ => -7) k).set k (-7) = mixL s (fun _ => -7) (k + 1) from mixL_succ s (fun _ => -7) k]
      · have h := of_decide_eq_false h
        (conv => whnf)
        (repeat' (first | (refine And.intro (a := _ = true → _) (b := _ = false → _) (fun hh => ?_) (fun hh => ?_) <;> (first | simp only [decide_eq_true_eq, decide_eq_false_iff_not, Bool.or_eq_true, Bool.and_eq_true, Bool.or_eq_false_iff, Bool.and_eq_false_iff, Bool.not_eq_true', Bool.not_eq_false', ge_iff_le, gt_iff_lt] at hh | skip) <;> (first | (exfalso; omega) | (exfalso; simp [*] at hh; done) | (exfalso; revert hh; decide) | exact absurd (by assumption) hh | (conv => whnf))) | (refine ⟨by kernel_rfl, ?_⟩; (conv => whnf)) | (refine And.intro (a := _ ∧ _) ⟨by omega, by omega⟩ ?_; (conv => whnf)) | (refine And.intro (a := _ ∧ _) ⟨by decide, by decide⟩ ?_; (conv => whnf)) | (refine And.intro (a := _ ≤ _) (by omega) ?_; (conv => whnf)) | (refine And.intro (a := _ ≠ _) (by omega) ?_; (conv => whnf)) | (refine Or.inl ?_; (conv => whnf); first | (refine ⟨_, by first | exact h7, ?_⟩; (conv => whnf)) | (refine ⟨false, ?_⟩; (conv => whnf); refine ⟨_, by first | exact h7, ?_⟩; (conv => whnf))) | (refine ⟨_, by first | exact h7, ?_⟩; (conv => whnf))))
end Go.Proofs.Try.My
