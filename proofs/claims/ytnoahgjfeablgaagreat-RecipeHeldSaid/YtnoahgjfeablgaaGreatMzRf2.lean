/- A helper text: contracts of functions of the program, and plain lemmas. -/
import Derived.Test.YtnoahgjfeablgaaGreatEvSix
import Derived.Test.YtnoahgjfeablgaaGreatMzRf1
set_option maxRecDepth 100000
set_option maxHeartbeats 0
set_option linter.unusedVariables false
set_option linter.unusedSimpArgs false
namespace Go.Proofs.Tryz.My
open Go Go.Ev
def lowN (sg : Int) (n d : Nat) : (Int × Int) × Bool := if n ≤ 4611686018427387903 ∧ d ≤ 4611686018427387903 then ((if sg < 0 then -(n : Int) else (n : Int), (d : Int)), true) else ((0, 0), false)
def lowF (sg : Int) (N D : Nat) : (Int × Int) × Bool := lowN sg (N / Nat.gcd N D) (D / Nat.gcd N D)
end Go.Proofs.Tryz.My
