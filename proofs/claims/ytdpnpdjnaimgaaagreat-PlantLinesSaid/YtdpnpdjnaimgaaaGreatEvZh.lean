/- slices.Delete of one element, as a call that takes over a row whose elements hold slices of their own, and hands back one. A helper text: it speaks of no program. -/
import Derived.Shelf.SlLaysE0
import Derived.Shelf.SlicesE.Kit
import Derived.Shelf.RegionOpenPlain
import Derived.WalkKit
import Derived.Deep.LoopGhost
import Derived.Deep.RegionLaw
import Derived.Lib.Walk
import Derived.Sort.WalkB12
import Derived.Lib.SliceRun
import Derived.Lib.SlicesDelete
import Derived.Shelf.SlicesE.Delete
import Derived.Test.YtdpnpdjnaimgaaaGreatEvZe
set_option linter.unusedVariables false
set_option linter.unusedSimpArgs false
namespace Go.Ev
open Go Go.Proofs Go.Shelf Go.RowKit Go.Lib Go.Sort
variable {P : Program} {ρ : Ren}
def shf (i k : Nat) : Nat := if k < i then k else k + 1
end Go.Ev
