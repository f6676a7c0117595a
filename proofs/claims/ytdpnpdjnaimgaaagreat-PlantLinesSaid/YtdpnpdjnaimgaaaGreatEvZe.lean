/- slices.Insert at []int, as a call that takes over rows and hands back one. A helper text: it speaks of no program. -/
import Derived.Test.YtdpnpdjnaimgaaaGreatEvSeven
import Derived.Shelf.Spec.SlicesInsert
import Derived.Shelf.Spec.SlicesInsertGrow
import Derived.Conc.MuLone
set_option linter.unusedVariables false
set_option linter.unusedSimpArgs false
namespace Go.Ev
section
variable {P : Program} {β : Nat → Option Hd} {F : Nat → Prop} {w w' : World}
end
end Go.Ev
