/- A helper text: contracts of functions of the program, and plain lemmas. -/
import Derived.Test.YtiimhccemdcnpaaGreatEvSix
import Derived.Test.YtiimhccemdcnpaaGreatMzExB
set_option maxRecDepth 100000
set_option maxHeartbeats 0
set_option linter.unusedVariables false
set_option linter.unusedSimpArgs false
namespace Go.Proofs.Tryz.My
open Go Go.Ev

theorem pc_whole (n : Int) : PC Tryz.prog 97 [i64 n] (fr (n, 1)) := by
  refine pc_of_bodyF hm Tryz.func97 (by kernel_rfl) ?_
  conv => whnf
  (repeat' (first | (refine And.intro (a := _ = true → _) (b := _ = false → _) (fun hh => ?_) (fun hh => ?_) <;> (first | simp only [decide_eq_true_eq, decide_eq_false_iff_not, Bool.or_eq_true, Bool.and_eq_true, Bool.or_eq_false_iff, Bool.and_eq_false_iff, Bool.not_eq_true', Bool.not_eq_false', ge_iff_le, gt_iff_lt] at hh | skip) <;> (first | (exfalso; omega) | (exfalso; simp [*] at hh; done) | (exfalso; revert hh; decide) | exact absurd (by assumption) hh | (conv => whnf))) | (refine ⟨by kernel_rfl, ?_⟩; (conv => whnf)) | (refine And.intro (a := _ ∧ _) ⟨by omega, by omega⟩ ?_; (conv => whnf)) | (refine And.intro (a := _ ∧ _) ⟨by decide, by decide⟩ ?_; (conv => whnf)) | (refine And.intro (a := _ ≤ _) (by omega) ?_; (conv => whnf)) | (refine And.intro (a := _ ≠ _) (by omega) ?_; (conv => whnf))))
/-- A sum of spans, up to the first error. -/
abbrev sme (x : SpT × Int) : AV := .agg [i64 x.1.1.1, i64 x.1.1.2, i64 x.1.2.1, i64 x.1.2.2, i64 x.2]
def withF (op : SpT → SpT → SpT × Int) (x : SpT × Int) (s : SpT) : SpT × Int := if x.2 = 0 then op x.1 s else x
def bus (s c : SpT) : SpT × Int := subS c s
end Go.Proofs.Tryz.My
set_option maxRecDepth 100000
set_option maxHeartbeats 0
set_option linter.unusedVariables false
set_option linter.unusedSimpArgs false
namespace Go.Proofs.Tryz.My
open Go Go.Ev

theorem addF_comm (a b : Int × Int) : addF a b = addF b a := by
  unfold addF
  rw [Int.add_comm, Int.mul_comm a.2]
theorem addS_comm (a b : SpT) : addS a b = addS b a := by
  unfold addS
  rw [Bool.and_comm]
  simp only [endsF, endsG, addF_comm a.1 b.1, addF_comm a.2 b.2]
theorem addS_ok {a b : SpT} (h : (addS a b).2 = 0) : spanB a = true ∧ spanB b = true ∧ spanB (addS a b).1 = true := by
  unfold addS at h ⊢
  cases ha : spanB a <;> cases hb : spanB b <;> rw [ha, hb] at h <;> simp at h
  obtain ⟨a1, a2, _⟩ := spanB_iff.1 ha
  obtain ⟨b1, b2, _⟩ := spanB_iff.1 hb
  exact ⟨rfl, rfl, (endsF_ok addF_ok2 _ (by simp [a1, a2, b1, b2]) (by simp) h).1⟩
theorem mulS_ok {a b : SpT} (h : (mulS a b).2 = 0) : spanB a = true ∧ spanB b = true ∧ spanB (mulS a b).1 = true := by
  unfold mulS at h ⊢
  cases ha : spanB a <;> cases hb : spanB b <;> rw [ha, hb] at h <;> simp at h
  exact ⟨rfl, rfl, (endsF_ok mulF_ok2 _ (allP_valid ha hb) (by simp [allP]) h).1⟩
end Go.Proofs.Tryz.My
