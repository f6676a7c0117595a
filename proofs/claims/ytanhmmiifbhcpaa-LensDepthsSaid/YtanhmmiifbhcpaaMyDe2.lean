/- A helper text: contracts of functions of the program, and plain lemmas. -/
import Derived.Test.YtanhmmiifbhcpaaMyDe1
import Derived.Test.YtanhmmiifbhcpaaMyRf5
set_option maxRecDepth 100000
set_option maxHeartbeats 0
set_option linter.unusedVariables false
set_option linter.unusedSimpArgs false
namespace Go.Proofs.Try.My
open Go Go.Ev

theorem pc_rTangent (c : CamT) (u : SpT) (hc : I4 c.1 ∧ I4 c.2) (hu : I4 u) : PC Try.prog 30 [cam c, sp u] (.tup [sp (tanF c u).1, i64 (tanF c u).2]) := by
  have c1 := pc_rValidSpan c.1 hc.1.1 hc.1.2.1 hc.1.2.2.1 hc.1.2.2.2
  have c2 := pc_rValidSpan c.2 hc.2.1 hc.2.2.1 hc.2.2.2.1 hc.2.2.2.2
  have c3 := pc_rSub4 u c.2 hu hc.2
  have c4 := fun h : (subS u c.2).2 = 0 => pc_rDiv4 (subS u c.2).1 c.1 (spanB_i (subS_ok h).2.2) hc.1
  have hs : tanF c u = if spanB c.1 && spanB c.2 && decide (0 < c.1.1.1) then (if (subS u c.2).2 = 0 then divS (subS u c.2).1 c.1 else (zS, (subS u c.2).2)) else (zS, 8) := rfl
  rw [hs]
  generalize divS (subS u c.2).1 c.1 = r at *
  generalize subS u c.2 = d at *
  cases h1 : spanB c.1
  · rw [h1] at c1
    refine pc_of_body hm Try.func30 (by kernel_rfl) ?_
    conv => whnf
    (repeat' (first | (refine And.intro (a := _ = true → _) (b := _ = false → _) (fun hh => ?_) (fun hh => ?_) <;> (first | simp only [decide_eq_true_eq, decide_eq_false_iff_not, Bool.or_eq_true, Bool.and_eq_true, Bool.or_eq_false_iff, Bool.and_eq_false_iff, Bool.not_eq_true', Bool.not_eq_false', ge_iff_le, gt_iff_lt] at hh | skip) <;> (first | (exfalso; omega) | (exfalso; simp [*] at hh; done) | (exfalso; revert hh; decide) | exact absurd (by assumption) hh | (conv => whnf))) | (refine ⟨by kernel_rfl, ?_⟩; (conv => whnf)) | (refine And.intro (a := _ ∧ _) ⟨by omega, by omega⟩ ?_; (conv => whnf)) | (refine And.intro (a := _ ∧ _) ⟨by decide, by decide⟩ ?_; (conv => whnf)) | (refine And.intro (a := _ ≤ _) (by omega) ?_; (conv => whnf)) | (refine And.intro (a := _ ≠ _) (by omega) ?_; (conv => whnf)) | (refine Or.inl ?_; (conv => whnf); first | (refine ⟨_, by first | exact c1, ?_⟩; (conv => whnf)) | (refine ⟨false, ?_⟩; (conv => whnf); refine ⟨_, by first | exact c1, ?_⟩; (conv => whnf))) | (refine ⟨_, by first | exact c1, ?_⟩; (conv => whnf))))
    all_goals simp
  cases h2 : spanB c.2
  · rw [h1] at c1; rw [h2] at c2
    refine pc_of_body hm Try.func30 (by kernel_rfl) ?_
    conv => whnf
    (repeat' (first | (refine And.intro (a := _ = true → _) (b := _ = false → _) (fun hh => ?_) (fun hh => ?_) <;> (first | simp only [decide_eq_true_eq, decide_eq_false_iff_not, Bool.or_eq_true, Bool.and_eq_true, Bool.or_eq_false_iff, Bool.and_eq_false_iff, Bool.not_eq_true', Bool.not_eq_false', ge_iff_le, gt_iff_lt] at hh | skip) <;> (first | (exfalso; omega) | (exfalso; simp [*] at hh; done) | (exfalso; revert hh; decide) | exact absurd (by assumption) hh | (conv => whnf))) | (refine ⟨by kernel_rfl, ?_⟩; (conv => whnf)) | (refine And.intro (a := _ ∧ _) ⟨by omega, by omega⟩ ?_; (conv => whnf)) | (refine And.intro (a := _ ∧ _) ⟨by decide, by decide⟩ ?_; (conv => whnf)) | (refine And.intro (a := _ ≤ _) (by omega) ?_; (conv => whnf)) | (refine And.intro (a := _ ≠ _) (by omega) ?_; (conv => whnf)) | (refine Or.inl ?_; (conv => whnf); first | (refine ⟨_, by first | exact c1 | exact c2, ?_⟩; (conv => whnf)) | (refine ⟨false, ?_⟩; (conv => whnf); refine ⟨_, by first | exact c1 | exact c2, ?_⟩; (conv => whnf))) | (refine ⟨_, by first | exact c1 | exact c2, ?_⟩; (conv => whnf))))
    all_goals simp
  rw [h1] at c1; rw [h2] at c2
  by_cases h3 : 0 < c.1.1.1
  · by_cases h4 : d.2 = 0
    · have c4 := c4 h4
      rw [h4] at c3
      refine pc_of_body hm Try.func30 (by kernel_rfl) ?_
      conv => whnf
      (repeat' (first | (refine And.intro (a := _ = true → _) (b := _ = false → _) (fun hh => ?_) (fun hh => ?_) <;> (first | simp only [decide_eq_true_eq, decide_eq_false_iff_not, Bool.or_eq_true, Bool.and_eq_true, Bool.or_eq_false_iff, Bool.and_eq_false_iff, Bool.not_eq_true', Bool.not_eq_false', ge_iff_le, gt_iff_lt] at hh | skip) <;> (first | (exfalso; omega) | (exfalso; simp [*] at hh; done) | (exfalso; revert hh; decide) | exact absurd (by assumption) hh | (conv => whnf))) | (refine ⟨by kernel_rfl, ?_⟩; (conv => whnf)) | (refine And.intro (a := _ ∧ _) ⟨by omega, by omega⟩ ?_; (conv => whnf)) | (refine And.intro (a := _ ∧ _) ⟨by decide, by decide⟩ ?_; (conv => whnf)) | (refine And.intro (a := _ ≤ _) (by omega) ?_; (conv => whnf)) | (refine And.intro (a := _ ≠ _) (by omega) ?_; (conv => whnf)) | (refine Or.inl ?_; (conv => whnf); first | (refine ⟨_, by first | exact c1 | exact c2 | exact c3 | exact c4, ?_⟩; (conv => whnf)) | (refine ⟨false, ?_⟩; (conv => whnf); refine ⟨_, by first | exact c1 | exact c2 | exact c3 | exact c4, ?_⟩; (conv => whnf))) | (refine ⟨_, by first | exact c1 | exact c2 | exact c3 | exact c4, ?_⟩; (conv => whnf))))
      all_goals simp [h3, h4]
    · refine pc_of_body hm Try.func30 (by kernel_rfl) ?_
      conv => whnf
      (repeat' (first | (refine And.intro (a := _ = true → _) (b := _ = false → _) (fun hh => ?_) (fun hh => ?_) <;> (first | simp only [decide_eq_true_eq, decide_eq_false_iff_not, Bool.or_eq_true, Bool.and_eq_true, Bool.or_eq_false_iff, Bool.and_eq_false_iff, Bool.not_eq_true', Bool.not_eq_false', ge_iff_le, gt_iff_lt] at hh | skip) <;> (first | (exfalso; omega) | (exfalso; simp [*] at hh; done) | (exfalso; revert hh; decide) | exact absurd (by assumption) hh | (conv => whnf))) | (refine ⟨by kernel_rfl, ?_⟩; (conv => whnf)) | (refine And.intro (a := _ ∧ _) ⟨by omega, by omega⟩ ?_; (conv => whnf)) | (refine And.intro (a := _ ∧ _) ⟨by decide, by decide⟩ ?_; (conv => whnf)) | (refine And.intro (a := _ ≤ _) (by omega) ?_; (conv => whnf)) | (refine And.intro (a := _ ≠ _) (by omega) ?_; (conv => whnf)) | (refine Or.inl ?_; (conv => whnf); first | (refine ⟨_, by first | exact c1 | exact c2 | exact c3, ?_⟩; (conv => whnf)) | (refine ⟨false, ?_⟩; (conv => whnf); refine ⟨_, by first | exact c1 | exact c2 | exact c3, ?_⟩; (conv => whnf))) | (refine ⟨_, by first | exact c1 | exact c2 | exact c3, ?_⟩; (conv => whnf))))
      all_goals simp [h3, h4]
  · refine pc_of_body hm Try.func30 (by kernel_rfl) ?_
    conv => whnf
    (repeat' (first | (refine And.intro (a := _ = true → _) (b := _ = false → _) (fun hh => ?_) (fun hh => ?_) <;> (first | simp only [decide_eq_true_eq, decide_eq_false_iff_not, Bool.or_eq_true, Bool.and_eq_true, Bool.or_eq_false_iff, Bool.and_eq_false_iff, Bool.not_eq_true', Bool.not_eq_false', ge_iff_le, gt_iff_lt] at hh | skip) <;> (first | (exfalso; omega) | (exfalso; simp [*] at hh; done) | (exfalso; revert hh; decide) | exact absurd (by assumption) hh | (conv => whnf))) | (refine ⟨by kernel_rfl, ?_⟩; (conv => whnf)) | (refine And.intro (a := _ ∧ _) ⟨by omega, by omega⟩ ?_; (conv => whnf)) | (refine And.intro (a := _ ∧ _) ⟨by decide, by decide⟩ ?_; (conv => whnf)) | (refine And.intro (a := _ ≤ _) (by omega) ?_; (conv => whnf)) | (refine And.intro (a := _ ≠ _) (by omega) ?_; (conv => whnf)) | (refine Or.inl ?_; (conv => whnf); first | (refine ⟨_, by first | exact c1 | exact c2, ?_⟩; (conv => whnf)) | (refine ⟨false, ?_⟩; (conv => whnf); refine ⟨_, by first | exact c1 | exact c2, ?_⟩; (conv => whnf))) | (refine ⟨_, by first | exact c1 | exact c2, ?_⟩; (conv => whnf))))
    all_goals simp [h3]
theorem pc_rDepth (a b : CamT) (base : Int) (u v : SpT) (ha : I4 a.1 ∧ I4 a.2) (hb' : I4 b.1 ∧ I4 b.2) (hu : I4 u) (hv : I4 v) : PC Try.prog 32 [cam a, cam b, i64 base, sp u, sp v] (.tup [sp (depF a b base u v).1, i64 (depF a b base u v).2]) := by
  have c1 := pc_within base 1 1000
  have c2 := pc_rTangent a u ha hu
  have c3 := pc_rTangent b v hb' hv
  have c4 := fun (h1 : (tanF a u).2 = 0) (h2 : (tanF b v).2 = 0) => pc_rSub4 (tanF a u).1 (tanF b v).1 (spanB_i (tanF_ok h1)) (spanB_i (tanF_ok h2))
  have c5 := fun (hb : 1 ≤ base ∧ base ≤ 1000) (h : (subS (tanF a u).1 (tanF b v).1).2 = 0) => pc_rDiv4 ((base, 1), (base, 1)) (subS (tanF a u).1 (tanF b v).1).1 (by unfold I4 I64; simp; omega) (spanB_i (subS_ok h).2.2)
  have hs : depF a b base u v = if 1 ≤ base ∧ base ≤ 1000 then
    (if (tanF a u).2 = 0 then (if (tanF b v).2 = 0 then (if (subS (tanF a u).1 (tanF b v).1).2 = 0 then (if (subS (tanF a u).1 (tanF b v).1).1.1.1 ≤ 0 then (zS, 6) else divS ((base, 1), (base, 1)) (subS (tanF a u).1 (tanF b v).1).1) else (zS, (subS (tanF a u).1 (tanF b v).1).2)) else (zS, (tanF b v).2)) else (zS, (tanF a u).2))
      else (zS, 2) := rfl
  rw [hs]
  generalize divS ((base, 1), (base, 1)) (subS (tanF a u).1 (tanF b v).1).1 = r at *
  generalize subS (tanF a u).1 (tanF b v).1 = d at *
  generalize tanF a u = x at *
  generalize tanF b v = y at *
  by_cases hb : 1 ≤ base ∧ base ≤ 1000
  rotate_left
  · rw [show withB base 1 1000 = false by simp [withB]; omega] at c1
    rw [if_neg hb]
    refine pc_of_body hm Try.func32 (by kernel_rfl) ?_
    conv => whnf
    (repeat' (first | (refine And.intro (a := _ = true → _) (b := _ = false → _) (fun hh => ?_) (fun hh => ?_) <;> (first | simp only [decide_eq_true_eq, decide_eq_false_iff_not, Bool.or_eq_true, Bool.and_eq_true, Bool.or_eq_false_iff, Bool.and_eq_false_iff, Bool.not_eq_true', Bool.not_eq_false', ge_iff_le, gt_iff_lt] at hh | skip) <;> (first | (exfalso; omega) | (exfalso; simp [*] at hh; done) | (exfalso; revert hh; decide) | exact absurd (by assumption) hh | (conv => whnf))) | (refine ⟨by kernel_rfl, ?_⟩; (conv => whnf)) | (refine And.intro (a := _ ∧ _) ⟨by omega, by omega⟩ ?_; (conv => whnf)) | (refine And.intro (a := _ ∧ _) ⟨by decide, by decide⟩ ?_; (conv => whnf)) | (refine And.intro (a := _ ≤ _) (by omega) ?_; (conv => whnf)) | (refine And.intro (a := _ ≠ _) (by omega) ?_; (conv => whnf)) | (refine Or.inl ?_; (conv => whnf); first | (refine ⟨_, by first | exact c1, ?_⟩; (conv => whnf)) | (refine ⟨false, ?_⟩; (conv => whnf); refine ⟨_, by first | exact c1, ?_⟩; (conv => whnf))) | (refine ⟨_, by first | exact c1, ?_⟩; (conv => whnf))))
  rw [show withB base 1 1000 = true by simp [withB]; omega] at c1
  rw [if_pos hb]
  by_cases h1 : x.2 = 0
  rotate_left
  · refine pc_of_body hm Try.func32 (by kernel_rfl) ?_
    conv => whnf
    (repeat' (first | (refine And.intro (a := _ = true → _) (b := _ = false → _) (fun hh => ?_) (fun hh => ?_) <;> (first | simp only [decide_eq_true_eq, decide_eq_false_iff_not, Bool.or_eq_true, Bool.and_eq_true, Bool.or_eq_false_iff, Bool.and_eq_false_iff, Bool.not_eq_true', Bool.not_eq_false', ge_iff_le, gt_iff_lt] at hh | skip) <;> (first | (exfalso; omega) | (exfalso; simp [*] at hh; done) | (exfalso; revert hh; decide) | exact absurd (by assumption) hh | (conv => whnf))) | (refine ⟨by kernel_rfl, ?_⟩; (conv => whnf)) | (refine And.intro (a := _ ∧ _) ⟨by omega, by omega⟩ ?_; (conv => whnf)) | (refine And.intro (a := _ ∧ _) ⟨by decide, by decide⟩ ?_; (conv => whnf)) | (refine And.intro (a := _ ≤ _) (by omega) ?_; (conv => whnf)) | (refine And.intro (a := _ ≠ _) (by omega) ?_; (conv => whnf)) | (refine Or.inl ?_; (conv => whnf); first | (refine ⟨_, by first | exact c1 | exact c2, ?_⟩; (conv => whnf)) | (refine ⟨false, ?_⟩; (conv => whnf); refine ⟨_, by first | exact c1 | exact c2, ?_⟩; (conv => whnf))) | (refine ⟨_, by first | exact c1 | exact c2, ?_⟩; (conv => whnf))))
    all_goals simp [h1]
  by_cases h2 : y.2 = 0
  rotate_left
  · refine pc_of_body hm Try.func32 (by kernel_rfl) ?_
    conv => whnf
    (repeat' (first | (refine And.intro (a := _ = true → _) (b := _ = false → _) (fun hh => ?_) (fun hh => ?_) <;> (first | simp only [decide_eq_true_eq, decide_eq_false_iff_not, Bool.or_eq_true, Bool.and_eq_true, Bool.or_eq_false_iff, Bool.and_eq_false_iff, Bool.not_eq_true', Bool.not_eq_false', ge_iff_le, gt_iff_lt] at hh | skip) <;> (first | (exfalso; omega) | (exfalso; simp [*] at hh; done) | (exfalso; revert hh; decide) | exact absurd (by assumption) hh | (conv => whnf))) | (refine ⟨by kernel_rfl, ?_⟩; (conv => whnf)) | (refine And.intro (a := _ ∧ _) ⟨by omega, by omega⟩ ?_; (conv => whnf)) | (refine And.intro (a := _ ∧ _) ⟨by decide, by decide⟩ ?_; (conv => whnf)) | (refine And.intro (a := _ ≤ _) (by omega) ?_; (conv => whnf)) | (refine And.intro (a := _ ≠ _) (by omega) ?_; (conv => whnf)) | (refine Or.inl ?_; (conv => whnf); first | (refine ⟨_, by first | exact c1 | exact c2 | exact c3, ?_⟩; (conv => whnf)) | (refine ⟨false, ?_⟩; (conv => whnf); refine ⟨_, by first | exact c1 | exact c2 | exact c3, ?_⟩; (conv => whnf))) | (refine ⟨_, by first | exact c1 | exact c2 | exact c3, ?_⟩; (conv => whnf))))
    all_goals simp [h1, h2]
  have c4 := c4 h1 h2
  by_cases h3 : d.2 = 0
  rotate_left
  · refine pc_of_body hm Try.func32 (by kernel_rfl) ?_
    conv => whnf
    (repeat' (first | (refine And.intro (a := _ = true → _) (b := _ = false → _) (fun hh => ?_) (fun hh => ?_) <;> (first | simp only [decide_eq_true_eq, decide_eq_false_iff_not, Bool.or_eq_true, Bool.and_eq_true, Bool.or_eq_false_iff, Bool.and_eq_false_iff, Bool.not_eq_true', Bool.not_eq_false', ge_iff_le, gt_iff_lt] at hh | skip) <;> (first | (exfalso; omega) | (exfalso; simp [*] at hh; done) | (exfalso; revert hh; decide) | exact absurd (by assumption) hh | (conv => whnf))) | (refine ⟨by kernel_rfl, ?_⟩; (conv => whnf)) | (refine And.intro (a := _ ∧ _) ⟨by omega, by omega⟩ ?_; (conv => whnf)) | (refine And.intro (a := _ ∧ _) ⟨by decide, by decide⟩ ?_; (conv => whnf)) | (refine And.intro (a := _ ≤ _) (by omega) ?_; (conv => whnf)) | (refine And.intro (a := _ ≠ _) (by omega) ?_; (conv => whnf)) | (refine Or.inl ?_; (conv => whnf); first | (refine ⟨_, by first | exact c1 | exact c2 | exact c3 | exact c4, ?_⟩; (conv => whnf)) | (refine ⟨false, ?_⟩; (conv => whnf); refine ⟨_, by first | exact c1 | exact c2 | exact c3 | exact c4, ?_⟩; (conv => whnf))) | (refine ⟨_, by first | exact c1 | exact c2 | exact c3 | exact c4, ?_⟩; (conv => whnf))))
    all_goals simp [h1, h2, h3]
  have c5 := c5 hb h3
  by_cases h4 : d.1.1.1 ≤ 0
  · refine pc_of_body hm Try.func32 (by kernel_rfl) ?_
    conv => whnf
    (repeat' (first | (refine And.intro (a := _ = true → _) (b := _ = false → _) (fun hh => ?_) (fun hh => ?_) <;> (first | simp only [decide_eq_true_eq, decide_eq_false_iff_not, Bool.or_eq_true, Bool.and_eq_true, Bool.or_eq_false_iff, Bool.and_eq_false_iff, Bool.not_eq_true', Bool.not_eq_false', ge_iff_le, gt_iff_lt] at hh | skip) <;> (first | (exfalso; omega) | (exfalso; simp [*] at hh; done) | (exfalso; revert hh; decide) | exact absurd (by assumption) hh | (conv => whnf))) | (refine ⟨by kernel_rfl, ?_⟩; (conv => whnf)) | (refine And.intro (a := _ ∧ _) ⟨by omega, by omega⟩ ?_; (conv => whnf)) | (refine And.intro (a := _ ∧ _) ⟨by decide, by decide⟩ ?_; (conv => whnf)) | (refine And.intro (a := _ ≤ _) (by omega) ?_; (conv => whnf)) | (refine And.intro (a := _ ≠ _) (by omega) ?_; (conv => whnf)) | (refine Or.inl ?_; (conv => whnf); first | (refine ⟨_, by first | exact c1 | exact c2 | exact c3 | exact c4, ?_⟩; (conv => whnf)) | (refine ⟨false, ?_⟩; (conv => whnf); refine ⟨_, by first | exact c1 | exact c2 | exact c3 | exact c4, ?_⟩; (conv => whnf))) | (refine ⟨_, by first | exact c1 | exact c2 | exact c3 | exact c4, ?_⟩; (conv => whnf))))
    all_goals simp [h1, h2, h3, h4]
  · refine pc_of_body hm Try.func32 (by kernel_rfl) ?_
    conv => whnf
    (repeat' (first | (refine And.intro (a := _ = true → _) (b := _ = false → _) (fun hh => ?_) (fun hh => ?_) <;> (first | simp only [decide_eq_true_eq, decide_eq_false_iff_not, Bool.or_eq_true, Bool.and_eq_true, Bool.or_eq_false_iff, Bool.and_eq_false_iff, Bool.not_eq_true', Bool.not_eq_false', ge_iff_le, gt_iff_lt] at hh | skip) <;> (first | (exfalso; omega) | (exfalso; simp [*] at hh; done) | (exfalso; revert hh; decide) | exact absurd (by assumption) hh | (conv => whnf))) | (refine ⟨by kernel_rfl, ?_⟩; (conv => whnf)) | (refine And.intro (a := _ ∧ _) ⟨by omega, by omega⟩ ?_; (conv => whnf)) | (refine And.intro (a := _ ∧ _) ⟨by decide, by decide⟩ ?_; (conv => whnf)) | (refine And.intro (a := _ ≤ _) (by omega) ?_; (conv => whnf)) | (refine And.intro (a := _ ≠ _) (by omega) ?_; (conv => whnf)) | (refine Or.inl ?_; (conv => whnf); first | (refine ⟨_, by first | exact c1 | exact c2 | exact c3 | exact c4 | exact c5, ?_⟩; (conv => whnf)) | (refine ⟨false, ?_⟩; (conv => whnf); refine ⟨_, by first | exact c1 | exact c2 | exact c3 | exact c4 | exact c5, ?_⟩; (conv => whnf))) | (refine ⟨_, by first | exact c1 | exact c2 | exact c3 | exact c4 | exact c5, ?_⟩; (conv => whnf))))
    all_goals simp [h1, h2, h3, h4]
theorem pc_LensDepths (a b : CamT) (base : Int) (u v : SpT) (ha : I4 a.1 ∧ I4 a.2) (hb : I4 b.1 ∧ I4 b.2) (hu : I4 u) (hv : I4 v) : PC Try.prog 6 [cam a, cam b, i64 base, sp u, sp v] (.bool true) := by
  have h1 := pc_Tangent a u
  have h2 := pc_rTangent a u ha hu
  have h3 := pc_Depth a b base u v
  have h4 := pc_rDepth a b base u v ha hb hu hv
  generalize tanF a u = x at *
  generalize depF a b base u v = y at *
  refine pc_of_body hm Try.func6 (by kernel_rfl) ?_
  conv => whnf
  (repeat' (first | (refine And.intro (a := _ = true → _) (b := _ = false → _) (fun hh => ?_) (fun hh => ?_) <;> (first | simp only [decide_eq_true_eq, decide_eq_false_iff_not, Bool.or_eq_true, Bool.and_eq_true, Bool.or_eq_false_iff, Bool.and_eq_false_iff, Bool.not_eq_true', Bool.not_eq_false', ge_iff_le, gt_iff_lt] at hh | skip) <;> (first | (exfalso; omega) | (exfalso; simp [*] at hh; done) | (exfalso; revert hh; decide) | exact absurd (by assumption) hh | (conv => whnf))) | (refine ⟨by kernel_rfl, ?_⟩; (conv => whnf)) | (refine And.intro (a := _ ∧ _) ⟨by omega, by omega⟩ ?_; (conv => whnf)) | (refine And.intro (a := _ ∧ _) ⟨by decide, by decide⟩ ?_; (conv => whnf)) | (refine And.intro (a := _ ≤ _) (by omega) ?_; (conv => whnf)) | (refine And.intro (a := _ ≠ _) (by omega) ?_; (conv => whnf)) | (refine Or.inl ?_; (conv => whnf); first | (refine ⟨_, by first | exact h1 | exact h2 | exact h3 | exact h4, ?_⟩; (conv => whnf)) | (refine ⟨false, ?_⟩; (conv => whnf); refine ⟨_, by first | exact h1 | exact h2 | exact h3 | exact h4, ?_⟩; (conv => whnf))) | (refine ⟨_, by first | exact h1 | exact h2 | exact h3 | exact h4, ?_⟩; (conv => whnf))))
  all_goals simp
end Go.Proofs.Try.My
