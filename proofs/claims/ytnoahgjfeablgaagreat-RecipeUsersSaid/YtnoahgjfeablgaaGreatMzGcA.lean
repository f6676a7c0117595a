/- A helper text: contracts of functions of the program, and plain lemmas. -/
import Derived.Test.YtnoahgjfeablgaaGreatEvSix
import Derived.Test.YtnoahgjfeablgaaGreatMzExB
set_option maxRecDepth 100000
set_option maxHeartbeats 0
set_option linter.unusedVariables false
set_option linter.unusedSimpArgs false
namespace Go.Proofs.Tryz.My
open Go Go.Ev
abbrev sme (x : SpT × Int) : AV := .agg [i64 x.1.1.1, i64 x.1.1.2, i64 x.1.2.1, i64 x.1.2.2, i64 x.2]
def withF (op : SpT → SpT → SpT × Int) (x : SpT × Int) (s : SpT) : SpT × Int := if x.2 = 0 then op x.1 s else x
def bus (s c : SpT) : SpT × Int := subS c s
end Go.Proofs.Tryz.My
set_option maxRecDepth 100000
set_option maxHeartbeats 0
set_option linter.unusedVariables false
set_option linter.unusedSimpArgs false
namespace Go.Proofs.Tryz.My
open Go Go.Ev
theorem mulS_ok {a b : SpT} (h : (mulS a b).2 = 0) : spanB a = true ∧ spanB b = true ∧ spanB (mulS a b).1 = true := by
  unfold mulS at h ⊢
  cases ha : spanB a <;> cases hb : spanB b <;> rw [ha, hb] at h <;> simp at h
  exact ⟨rfl, rfl, (endsF_ok mulF_ok2 _ (allP_valid ha hb) (by simp [allP]) h).1⟩
end Go.Proofs.Tryz.My
