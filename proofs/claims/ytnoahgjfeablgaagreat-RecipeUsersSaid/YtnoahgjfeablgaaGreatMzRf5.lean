/- A helper text: contracts of functions of the program, and plain lemmas. -/
import Derived.Test.YtnoahgjfeablgaaGreatEvSix
import Derived.Test.YtnoahgjfeablgaaGreatMzRf4
set_option maxRecDepth 100000
set_option maxHeartbeats 0
set_option linter.unusedVariables false
set_option linter.unusedSimpArgs false
namespace Go.Proofs.Tryz.My
open Go Go.Ev
theorem mulS_eq {a b : SpT} (ha : spanB a = true) (hb : spanB b = true) : mulS a b = fourF (mulF a.1 b.1) (mulF a.1 b.2) (mulF a.2 b.1) (mulF a.2 b.2) := by
  obtain ⟨a1, a2, a3⟩ := spanB_iff.1 ha
  obtain ⟨b1, b2, b3⟩ := spanB_iff.1 hb
  have h := ends_four (op := mulF) (p := (a.1, b.1)) (q := (a.1, b.2)) (r := (a.2, b.1)) (s := (a.2, b.2)) ⟨_, mulF_fits a1 b1⟩ ⟨_, mulF_fits a1 b2⟩ ⟨_, mulF_fits a2 b1⟩ ⟨_, mulF_fits a2 b2⟩
  unfold mulS
  rw [ha, hb]
  exact h
theorem pc_rMulSpans (a b : SpT) (h1 : I64 a.1.1) (h2 : I64 a.1.2) (h3 : I64 a.2.1) (h4 : I64 a.2.2) (k1 : I64 b.1.1) (k2 : I64 b.1.2) (k3 : I64 b.2.1) (k4 : I64 b.2.2) : PC Tryz.prog 134 [sp a, sp b] (.tup [sp (mulS a b).1, i64 (mulS a b).2]) := by
  have c1 := pc_rValidSpan a h1 h2 h3 h4
  have c2 := pc_rValidSpan b k1 k2 k3 k4
  have no : spanB a = false ∨ spanB b = false → mulS a b = (zS, 8) := fun h => by unfold mulS; rcases h with h | h <;> simp [h]
  cases ha : spanB a
  · rw [no (.inl ha)]
    rw [ha] at c1
    refine pc_of_bodyF hm Tryz.func134 (by kernel_rfl) ?_
    conv => whnf
    (repeat' (first | (refine And.intro (a := _ = true → _) (b := _ = false → _) (fun hh => ?_) (fun hh => ?_) <;> (first | simp only [decide_eq_true_eq, decide_eq_false_iff_not, Bool.or_eq_true, Bool.and_eq_true, Bool.or_eq_false_iff, Bool.and_eq_false_iff, Bool.not_eq_true', Bool.not_eq_false', ge_iff_le, gt_iff_lt] at hh | skip) <;> (first | (exfalso; omega) | (exfalso; simp [*] at hh; done) | (exfalso; revert hh; decide) | exact absurd (by assumption) hh | (conv => whnf))) | (refine ⟨by kernel_rfl, ?_⟩; (conv => whnf)) | (refine And.intro (a := _ ∧ _) ⟨by omega, by omega⟩ ?_; (conv => whnf)) | (refine And.intro (a := _ ∧ _) ⟨by decide, by decide⟩ ?_; (conv => whnf)) | (refine And.intro (a := _ ≤ _) (by omega) ?_; (conv => whnf)) | (refine And.intro (a := _ ≠ _) (by omega) ?_; (conv => whnf)) | (refine Or.inl ?_; (conv => whnf); first | (refine ⟨_, by first | exact c1, ?_⟩; (conv => whnf)) | (refine ⟨false, ?_⟩; (conv => whnf); refine ⟨_, by first | exact c1, ?_⟩; (conv => whnf))) | (refine ⟨_, by first | exact c1, ?_⟩; (conv => whnf))))
    all_goals simp
  cases hb : spanB b
  · rw [no (.inr hb)]
    rw [ha] at c1
    rw [hb] at c2
    refine pc_of_bodyF hm Tryz.func134 (by kernel_rfl) ?_
    conv => whnf
    (repeat' (first | (refine And.intro (a := _ = true → _) (b := _ = false → _) (fun hh => ?_) (fun hh => ?_) <;> (first | simp only [decide_eq_true_eq, decide_eq_false_iff_not, Bool.or_eq_true, Bool.and_eq_true, Bool.or_eq_false_iff, Bool.and_eq_false_iff, Bool.not_eq_true', Bool.not_eq_false', ge_iff_le, gt_iff_lt] at hh | skip) <;> (first | (exfalso; omega) | (exfalso; simp [*] at hh; done) | (exfalso; revert hh; decide) | exact absurd (by assumption) hh | (conv => whnf))) | (refine ⟨by kernel_rfl, ?_⟩; (conv => whnf)) | (refine And.intro (a := _ ∧ _) ⟨by omega, by omega⟩ ?_; (conv => whnf)) | (refine And.intro (a := _ ∧ _) ⟨by decide, by decide⟩ ?_; (conv => whnf)) | (refine And.intro (a := _ ≤ _) (by omega) ?_; (conv => whnf)) | (refine And.intro (a := _ ≠ _) (by omega) ?_; (conv => whnf)) | (refine Or.inl ?_; (conv => whnf); first | (refine ⟨_, by first | exact c1 | exact c2, ?_⟩; (conv => whnf)) | (refine ⟨false, ?_⟩; (conv => whnf); refine ⟨_, by first | exact c1 | exact c2, ?_⟩; (conv => whnf))) | (refine ⟨_, by first | exact c1 | exact c2, ?_⟩; (conv => whnf))))
    all_goals simp
  rw [ha] at c1
  rw [hb] at c2
  obtain ⟨a1, a2, a3⟩ := spanB_iff.1 ha
  obtain ⟨b1, b2, b3⟩ := spanB_iff.1 hb
  rw [mulS_eq ha hb]
  have o1 := pc_rTimes a.1 b.1 a1 b1
  have o2 := pc_rTimes a.1 b.2 a1 b2
  have o3 := pc_rTimes a.2 b.1 a2 b1
  have o4 := pc_rTimes a.2 b.2 a2 b2
  have cf := pc_four (mulF a.1 b.1) (mulF a.1 b.2) (mulF a.2 b.1) (mulF a.2 b.2) (mulF_ok2 _ _ a1 b1) (mulF_ok2 _ _ a1 b2) (mulF_ok2 _ _ a2 b1) (mulF_ok2 _ _ a2 b2)
  generalize mulF a.1 b.1 = r1 at *
  generalize mulF a.1 b.2 = r2 at *
  generalize mulF a.2 b.1 = r3 at *
  generalize mulF a.2 b.2 = r4 at *
  refine pc_of_bodyF hm Tryz.func134 (by kernel_rfl) ?_
  conv => whnf
  (repeat' (first | (refine And.intro (a := _ = true → _) (b := _ = false → _) (fun hh => ?_) (fun hh => ?_) <;> (first | simp only [decide_eq_true_eq, decide_eq_false_iff_not, Bool.or_eq_true, Bool.and_eq_true, Bool.or_eq_false_iff, Bool.and_eq_false_iff, Bool.not_eq_true', Bool.not_eq_false', ge_iff_le, gt_iff_lt] at hh | skip) <;> (first | (exfalso; omega) | (exfalso; simp [*] at hh; done) | (exfalso; revert hh; decide) | exact absurd (by assumption) hh | (conv => whnf))) | (refine ⟨by kernel_rfl, ?_⟩; (conv => whnf)) | (refine And.intro (a := _ ∧ _) ⟨by omega, by omega⟩ ?_; (conv => whnf)) | (refine And.intro (a := _ ∧ _) ⟨by decide, by decide⟩ ?_; (conv => whnf)) | (refine And.intro (a := _ ≤ _) (by omega) ?_; (conv => whnf)) | (refine And.intro (a := _ ≠ _) (by omega) ?_; (conv => whnf)) | (refine Or.inl ?_; (conv => whnf); first | (refine ⟨_, by first | exact c1 | exact c2 | exact o1 | exact o2 | exact o3 | exact o4 | exact cf, ?_⟩; (conv => whnf)) | (refine ⟨false, ?_⟩; (conv => whnf); refine ⟨_, by first | exact c1 | exact c2 | exact o1 | exact o2 | exact o3 | exact o4 | exact cf, ?_⟩; (conv => whnf))) | (refine ⟨_, by first | exact c1 | exact c2 | exact o1 | exact o2 | exact o3 | exact o4 | exact cf, ?_⟩; (conv => whnf))))
abbrev I4 (s : SpT) : Prop := I64 s.1.1 ∧ I64 s.1.2 ∧ I64 s.2.1 ∧ I64 s.2.2
theorem pc_rMul4 (a b : SpT) (ha : I4 a) (hb : I4 b) : PC Tryz.prog 134 [sp a, sp b] (.tup [sp (mulS a b).1, i64 (mulS a b).2]) := pc_rMulSpans a b ha.1 ha.2.1 ha.2.2.1 ha.2.2.2 hb.1 hb.2.1 hb.2.2.1 hb.2.2.2
end Go.Proofs.Tryz.My
