/- A helper text: contracts of functions of the program, and plain lemmas. -/
import Derived.Test.YtnoahgjfeablgaaGreatEvSix
import Derived.Test.YtnoahgjfeablgaaGreatMzRf3
import Derived.Test.YtnoahgjfeablgaaGreatMzExB
set_option maxRecDepth 100000
set_option maxHeartbeats 0
set_option linter.unusedVariables false
set_option linter.unusedSimpArgs false
namespace Go.Proofs.Tryz.My
open Go Go.Ev
def fourF (a b c d : (Int × Int) × Int) : SpT × Int := if a.2 = 0 ∧ b.2 = 0 ∧ c.2 = 0 ∧ d.2 = 0 then ((lesF (lesF (lesF a.1 b.1) c.1) d.1, greF (greF (greF a.1 b.1) c.1) d.1), 0) else (zS, 4)
end Go.Proofs.Tryz.My
set_option maxRecDepth 100000
set_option maxHeartbeats 0
set_option linter.unusedVariables false
set_option linter.unusedSimpArgs false
namespace Go.Proofs.Tryz.My
open Go Go.Ev
abbrev I4 (s : SpT) : Prop := I64 s.1.1 ∧ I64 s.1.2 ∧ I64 s.2.1 ∧ I64 s.2.2
end Go.Proofs.Tryz.My
