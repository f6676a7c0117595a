/- A helper text: contracts of functions of the program, and plain lemmas. -/
import Derived.Test.YtnoahgjfeablgaaGreatMzExB
import Derived.Test.YtnoahgjfeablgaaGreatMzEa
set_option maxRecDepth 100000
set_option maxHeartbeats 0
set_option linter.unusedVariables false
set_option linter.unusedSimpArgs false
namespace Go.Proofs.Tryz.My
open Go Go.Ev
def insB (s t : SpT) : Bool := decide ((meetF s t).2 = 0) && decide ((meetF s t).1 = s)
def InR (s : SpT) (u : Rat) : Prop := qv s.1 ≤ u ∧ u ≤ qv s.2
end Go.Proofs.Tryz.My
