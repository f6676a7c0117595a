/- A helper text: contracts of functions of the program, and plain lemmas. -/
import Derived.Test.YtiimhccemdcnpaaGreatMzGn0
import Derived.Test.YtiimhccemdcnpaaGreatMzGd3
import Derived.Test.YtiimhccemdcnpaaGreatMzGcA
set_option maxRecDepth 100000
set_option maxHeartbeats 0
set_option linter.unusedVariables false
set_option linter.unusedSimpArgs false
namespace Go.Proofs.Tryz.My
open Go Go.Ev

theorem hasB_qv {s : SpT} {x : Int × Int} (h1 : validB s.1 = true) (h2 : validB s.2 = true) (hx : validB x = true) : hasB s x = true ↔ qv s.1 ≤ qv x ∧ qv x ≤ qv s.2 := by
  unfold hasB
  rw [Bool.and_eq_true, decide_eq_true_eq, decide_eq_true_eq, cmpF_le h1 hx, cmpF_le hx h2]
end Go.Proofs.Tryz.My
