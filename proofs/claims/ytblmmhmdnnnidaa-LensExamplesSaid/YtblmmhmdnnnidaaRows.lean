/-
  No cell of these rows narrows 'for every input' (looked for: loops, veiled, ifaces, maps, wideKeys, modest, calm, conditions, laid).
  DERIVED. THE GIVEN ROWS OF THIS SEAT. 10 by the template 'for every input the law returns true; each argument reads behind the call as it read before'; 0 by the template 'total and deterministic' (their statements: YtblmmhmdnnnidaaTotals.lean).
  GIVEN WITH THE SEED: the statements are not yours to turn. If you find one false, say at which input.
  Laid BY PROGRAM, IN A SANDBOX (cutbox-rows.mjs): the forced cells as the released guide's own fill.sh prints them over the translation 16c332f25d921c3d… (all of the seat's roots in one cut). By AI agents, Wed Nov 11 2026. No macro, syntax, notation, axiom, sorry.
-/
import Derived.Test.YtblmmhmdnnnidaaChecked
import GoSem.Claim
import GoSem.ClaimJoined
import GoSem.ClaimMapViews
import Derived.JoinedTies
import Derived.KernelRfl
namespace Go.Proofs.Ytblmmhmdnnnidaa
/- THE CELL 'sum', in the pinned program and in every row, IS THE sha256 OF THE DUMP (.gsa) THAT YtblmmhmdnnnidaaProg.lean LOADS. Nothing in Lean hashes anything: it is a label: what it is worth is what the hold of that sum in a sandbox is worth. -/
noncomputable def Try.pinned : Pinned := { name := "ytblmmhmdnnnidaa", sum := "16c332f25d921c3d3dbb47dfd593690ccf6dd55d0bc7b2aadbacb5b1ceeb325e", checked := Try.checked }
namespace Rows
def none {H : Type} : Left H := { results := [], args := [] }

/-- 'sightbenchlaw04.LensCameras': WHATEVER THE INPUT: true; the input reads as it did. -/
def lensCamerasSpec : ChangeSpec := { name := "lensCameras", fn := fun _ => fun
  | [d1, d2, d3] => { results := [.lit (.bool true)], args := [d1, d2, d3] }
  | _ => none }
def lensCamerasRow : OpenClaim := { program := "ytblmmhmdnnnidaa", sum := "16c332f25d921c3d3dbb47dfd593690ccf6dd55d0bc7b2aadbacb5b1ceeb325e", func := "sightbench/sightbenchlaw04.LensCameras", spec := "lensCameras", inPlace := ["math/bits.Add64", "math/bits.Sub64"], unfollowed := true, recurses := true, apart := false }
def LensCamerasSaid : Prop := lensCamerasRow.holds Try.pinned (OpenSpec.ofChange lensCamerasSpec)

/-- ITS FALSE NEIGHBOUR: 'it returns false'. Refute it at one input. -/
def lensCamerasWrong : ChangeSpec := { name := "lensCameras", fn := fun _ => fun
  | [d1, d2, d3] => { results := [.lit (.bool false)], args := [d1, d2, d3] }
  | _ => none }
def LensCamerasWrongFalsely : Prop := lensCamerasRow.holds Try.pinned (OpenSpec.ofChange lensCamerasWrong)

/-- 'sightbenchlaw04.LensExamples': WHATEVER THE INPUT: true; the input reads as it did. -/
def lensExamplesSpec : ChangeSpec := { name := "lensExamples", fn := fun _ => fun
  | [] => { results := [.lit (.bool true)], args := [] }
  | _ => none }
def lensExamplesRow : OpenClaim := { program := "ytblmmhmdnnnidaa", sum := "16c332f25d921c3d3dbb47dfd593690ccf6dd55d0bc7b2aadbacb5b1ceeb325e", func := "sightbench/sightbenchlaw04.LensExamples", spec := "lensExamples", inPlace := ["math/bits.Add64", "math/bits.Sub64"], unfollowed := true, recurses := true, named := ["math/bits.divideError", "math/bits.overflowError"], apart := false }
def LensExamplesSaid : Prop := lensExamplesRow.holds Try.pinned (OpenSpec.ofChange lensExamplesSpec)

/-- ITS FALSE NEIGHBOUR: 'it returns false'. Refute it at one input. -/
def lensExamplesWrong : ChangeSpec := { name := "lensExamples", fn := fun _ => fun
  | [] => { results := [.lit (.bool false)], args := [] }
  | _ => none }
def LensExamplesWrongFalsely : Prop := lensExamplesRow.holds Try.pinned (OpenSpec.ofChange lensExamplesWrong)

/-- 'sightbenchlaw05.GaugeCorners': WHATEVER THE INPUT: true; the input reads as it did. -/
def gaugeCornersSpec : ChangeSpec := { name := "gaugeCorners", fn := fun _ => fun
  | [d1, d2] => { results := [.lit (.bool true)], args := [d1, d2] }
  | _ => none }
def gaugeCornersRow : OpenClaim := { program := "ytblmmhmdnnnidaa", sum := "16c332f25d921c3d3dbb47dfd593690ccf6dd55d0bc7b2aadbacb5b1ceeb325e", func := "sightbench/sightbenchlaw05.GaugeCorners", spec := "gaugeCorners", inPlace := ["math/bits.Add64", "math/bits.Sub64"], unfollowed := true, recurses := true, named := ["math/bits.divideError", "math/bits.overflowError"], apart := false }
def GaugeCornersSaid : Prop := gaugeCornersRow.holds Try.pinned (OpenSpec.ofChange gaugeCornersSpec)

/-- ITS FALSE NEIGHBOUR: 'it returns false'. Refute it at one input. -/
def gaugeCornersWrong : ChangeSpec := { name := "gaugeCorners", fn := fun _ => fun
  | [d1, d2] => { results := [.lit (.bool false)], args := [d1, d2] }
  | _ => none }
def GaugeCornersWrongFalsely : Prop := gaugeCornersRow.holds Try.pinned (OpenSpec.ofChange gaugeCornersWrong)

/-- 'sightbenchlaw05.GaugeDecides': WHATEVER THE INPUT: true; the input reads as it did. -/
def gaugeDecidesSpec : ChangeSpec := { name := "gaugeDecides", fn := fun _ => fun
  | [d1, d2, d3] => { results := [.lit (.bool true)], args := [d1, d2, d3] }
  | _ => none }
def gaugeDecidesRow : OpenClaim := { program := "ytblmmhmdnnnidaa", sum := "16c332f25d921c3d3dbb47dfd593690ccf6dd55d0bc7b2aadbacb5b1ceeb325e", func := "sightbench/sightbenchlaw05.GaugeDecides", spec := "gaugeDecides", inPlace := ["math/bits.Add64", "math/bits.Sub64"], unfollowed := true, recurses := true, named := ["math/bits.divideError", "math/bits.overflowError"], apart := false }
def GaugeDecidesSaid : Prop := gaugeDecidesRow.holds Try.pinned (OpenSpec.ofChange gaugeDecidesSpec)

/-- ITS FALSE NEIGHBOUR: 'it returns false'. Refute it at one input. -/
def gaugeDecidesWrong : ChangeSpec := { name := "gaugeDecides", fn := fun _ => fun
  | [d1, d2, d3] => { results := [.lit (.bool false)], args := [d1, d2, d3] }
  | _ => none }
def GaugeDecidesWrongFalsely : Prop := gaugeDecidesRow.holds Try.pinned (OpenSpec.ofChange gaugeDecidesWrong)

/-- 'sightbenchtop.TopMeasured': WHATEVER THE INPUT: true; the input reads as it did. -/
def topMeasuredSpec : ChangeSpec := { name := "topMeasured", fn := fun _ => fun
  | [d1, d2, d3, d4, d5, d6, d7, d8, d9] => { results := [.lit (.bool true)], args := [d1, d2, d3, d4, d5, d6, d7, d8, d9] }
  | _ => none }
def topMeasuredRow : OpenClaim := { program := "ytblmmhmdnnnidaa", sum := "16c332f25d921c3d3dbb47dfd593690ccf6dd55d0bc7b2aadbacb5b1ceeb325e", func := "sightbench/sightbenchtop.TopMeasured", spec := "topMeasured", inPlace := ["math/bits.Add64", "math/bits.Sub64"], unfollowed := true, recurses := true, named := ["math/bits.divideError", "math/bits.overflowError"], apart := false }
def TopMeasuredSaid : Prop := topMeasuredRow.holds Try.pinned (OpenSpec.ofChange topMeasuredSpec)

/-- ITS FALSE NEIGHBOUR: 'it returns false'. Refute it at one input. -/
def topMeasuredWrong : ChangeSpec := { name := "topMeasured", fn := fun _ => fun
  | [d1, d2, d3, d4, d5, d6, d7, d8, d9] => { results := [.lit (.bool false)], args := [d1, d2, d3, d4, d5, d6, d7, d8, d9] }
  | _ => none }
def TopMeasuredWrongFalsely : Prop := topMeasuredRow.holds Try.pinned (OpenSpec.ofChange topMeasuredWrong)

/-- 'sightbenchlaw05.GaugeBright': WHATEVER THE INPUT: true; the input reads as it did. -/
def gaugeBrightSpec : ChangeSpec := { name := "gaugeBright", fn := fun _ => fun
  | [d1, d2, d3] => { results := [.lit (.bool true)], args := [d1, d2, d3] }
  | _ => none }
def gaugeBrightRow : OpenClaim := { program := "ytblmmhmdnnnidaa", sum := "16c332f25d921c3d3dbb47dfd593690ccf6dd55d0bc7b2aadbacb5b1ceeb325e", func := "sightbench/sightbenchlaw05.GaugeBright", spec := "gaugeBright", inPlace := ["math/bits.Add64", "math/bits.Sub64"], unfollowed := true, recurses := true, named := ["math/bits.divideError", "math/bits.overflowError"], apart := false }
def GaugeBrightSaid : Prop := gaugeBrightRow.holds Try.pinned (OpenSpec.ofChange gaugeBrightSpec)

/-- ITS FALSE NEIGHBOUR: 'it returns false'. Refute it at one input. -/
def gaugeBrightWrong : ChangeSpec := { name := "gaugeBright", fn := fun _ => fun
  | [d1, d2, d3] => { results := [.lit (.bool false)], args := [d1, d2, d3] }
  | _ => none }
def GaugeBrightWrongFalsely : Prop := gaugeBrightRow.holds Try.pinned (OpenSpec.ofChange gaugeBrightWrong)

/-- 'sightbenchlaw05.GaugeExamples': WHATEVER THE INPUT: true; the input reads as it did. -/
def gaugeExamplesSpec : ChangeSpec := { name := "gaugeExamples", fn := fun _ => fun
  | [] => { results := [.lit (.bool true)], args := [] }
  | _ => none }
def gaugeExamplesRow : OpenClaim := { program := "ytblmmhmdnnnidaa", sum := "16c332f25d921c3d3dbb47dfd593690ccf6dd55d0bc7b2aadbacb5b1ceeb325e", func := "sightbench/sightbenchlaw05.GaugeExamples", spec := "gaugeExamples", inPlace := ["math/bits.Add64", "math/bits.Sub64"], unfollowed := true, recurses := true, named := ["math/bits.divideError", "math/bits.overflowError"], apart := false }
def GaugeExamplesSaid : Prop := gaugeExamplesRow.holds Try.pinned (OpenSpec.ofChange gaugeExamplesSpec)

/-- ITS FALSE NEIGHBOUR: 'it returns false'. Refute it at one input. -/
def gaugeExamplesWrong : ChangeSpec := { name := "gaugeExamples", fn := fun _ => fun
  | [] => { results := [.lit (.bool false)], args := [] }
  | _ => none }
def GaugeExamplesWrongFalsely : Prop := gaugeExamplesRow.holds Try.pinned (OpenSpec.ofChange gaugeExamplesWrong)

/-- 'sightbenchlaw05.GaugeMeets': WHATEVER THE INPUT: true; the input reads as it did. -/
def gaugeMeetsSpec : ChangeSpec := { name := "gaugeMeets", fn := fun _ => fun
  | [d1, d2, d3] => { results := [.lit (.bool true)], args := [d1, d2, d3] }
  | _ => none }
def gaugeMeetsRow : OpenClaim := { program := "ytblmmhmdnnnidaa", sum := "16c332f25d921c3d3dbb47dfd593690ccf6dd55d0bc7b2aadbacb5b1ceeb325e", func := "sightbench/sightbenchlaw05.GaugeMeets", spec := "gaugeMeets", inPlace := ["math/bits.Add64", "math/bits.Sub64"], unfollowed := true, recurses := true, named := ["math/bits.divideError", "math/bits.overflowError"], apart := false }
def GaugeMeetsSaid : Prop := gaugeMeetsRow.holds Try.pinned (OpenSpec.ofChange gaugeMeetsSpec)

/-- ITS FALSE NEIGHBOUR: 'it returns false'. Refute it at one input. -/
def gaugeMeetsWrong : ChangeSpec := { name := "gaugeMeets", fn := fun _ => fun
  | [d1, d2, d3] => { results := [.lit (.bool false)], args := [d1, d2, d3] }
  | _ => none }
def GaugeMeetsWrongFalsely : Prop := gaugeMeetsRow.holds Try.pinned (OpenSpec.ofChange gaugeMeetsWrong)

/-- 'sightbenchlaw05.GaugeStraight': WHATEVER THE INPUT: true; the input reads as it did. -/
def gaugeStraightSpec : ChangeSpec := { name := "gaugeStraight", fn := fun _ => fun
  | [d1, d2, d3, d4, d5, d6, d7] => { results := [.lit (.bool true)], args := [d1, d2, d3, d4, d5, d6, d7] }
  | _ => none }
def gaugeStraightRow : OpenClaim := { program := "ytblmmhmdnnnidaa", sum := "16c332f25d921c3d3dbb47dfd593690ccf6dd55d0bc7b2aadbacb5b1ceeb325e", func := "sightbench/sightbenchlaw05.GaugeStraight", spec := "gaugeStraight", inPlace := ["math/bits.Add64", "math/bits.Sub64"], unfollowed := true, recurses := true, named := ["math/bits.divideError", "math/bits.overflowError"], apart := false }
def GaugeStraightSaid : Prop := gaugeStraightRow.holds Try.pinned (OpenSpec.ofChange gaugeStraightSpec)

/-- ITS FALSE NEIGHBOUR: 'it returns false'. Refute it at one input. -/
def gaugeStraightWrong : ChangeSpec := { name := "gaugeStraight", fn := fun _ => fun
  | [d1, d2, d3, d4, d5, d6, d7] => { results := [.lit (.bool false)], args := [d1, d2, d3, d4, d5, d6, d7] }
  | _ => none }
def GaugeStraightWrongFalsely : Prop := gaugeStraightRow.holds Try.pinned (OpenSpec.ofChange gaugeStraightWrong)

/-- 'sightbenchlaw05.GaugeBad': WHATEVER THE INPUT: true; the input reads as it did. -/
def gaugeBadSpec : ChangeSpec := { name := "gaugeBad", fn := fun _ => fun
  | [d1, d2, d3] => { results := [.lit (.bool true)], args := [d1, d2, d3] }
  | _ => none }
def gaugeBadRow : OpenClaim := { program := "ytblmmhmdnnnidaa", sum := "16c332f25d921c3d3dbb47dfd593690ccf6dd55d0bc7b2aadbacb5b1ceeb325e", func := "sightbench/sightbenchlaw05.GaugeBad", spec := "gaugeBad", inPlace := ["math/bits.Add64", "math/bits.Sub64"], unfollowed := true, recurses := true, named := ["math/bits.divideError", "math/bits.overflowError"], apart := false }
def GaugeBadSaid : Prop := gaugeBadRow.holds Try.pinned (OpenSpec.ofChange gaugeBadSpec)

/-- ITS FALSE NEIGHBOUR: 'it returns false'. Refute it at one input. -/
def gaugeBadWrong : ChangeSpec := { name := "gaugeBad", fn := fun _ => fun
  | [d1, d2, d3] => { results := [.lit (.bool false)], args := [d1, d2, d3] }
  | _ => none }
def GaugeBadWrongFalsely : Prop := gaugeBadRow.holds Try.pinned (OpenSpec.ofChange gaugeBadWrong)

/- THE SECOND FORM. 'bulk': how many values and letters a reading holds, each counted each time it is reached (what is shared counts as often as it is met; a slice's spare places count too). A statement '..UptoSaid' is the law's where the arguments, and the package variables that the reading takes, are together of bulk at most 1048576: NARROWER than '..Said'. Prove '..Said' where nothing that the law and all that it calls make is longer than what came in: it says more and counts as full. Else prove '..UptoSaid'. A law counts once. -/
mutual
def uptoBulk {H : Type} : DataW H → Nat
  | .lit (.string bytes) => bytes.length + 1
  | .lit _ => 1
  | .nil => 1
  | .ptr d => uptoBulk d + 1
  | .slice elems spare => uptoBulkAll elems + uptoBulkAll spare + 1
  | .agg parts => uptoBulkAll parts + 1
  | .iface _ d => uptoBulk d + 1
  | .map entries => uptoBulkEntries entries + 1
  | .held _ => 1
def uptoBulkAll {H : Type} : List (DataW H) → Nat
  | [] => 0
  | d :: r => uptoBulk d + uptoBulkAll r
def uptoBulkEntries {H : Type} : List (Lit × DataW H) → Nat
  | [] => 0
  | x :: r => uptoBulkEntry x + uptoBulkEntries r
def uptoBulkEntry {H : Type} : Lit × DataW H → Nat
  | (.string bytes, d) => bytes.length + uptoBulk d + 1
  | (_, d) => uptoBulk d + 1
 end
def uptoSmall : (H : Type) → List (DataW H) → Bool := fun _ ds => decide (uptoBulkAll ds ≤ 1048576)
def OpenSpec.upto (s : _root_.Go.ChangeSpec) : _root_.Go.OpenSpec := { _root_.Go.OpenSpec.ofChange s with cond := some uptoSmall }

/-- 'sightbenchlaw04.LensCameras', WHERE WHAT IT READS IS OF BULK AT MOST 1048576: true; the input reads as it did. -/
def lensCamerasUptoRow : OpenClaim := { program := "ytblmmhmdnnnidaa", sum := "16c332f25d921c3d3dbb47dfd593690ccf6dd55d0bc7b2aadbacb5b1ceeb325e", func := "sightbench/sightbenchlaw04.LensCameras", spec := "lensCameras", inPlace := ["math/bits.Add64", "math/bits.Sub64"], unfollowed := true, recurses := true, apart := false, narrowed := true }
def LensCamerasUptoSaid : Prop := lensCamerasUptoRow.holds Try.pinned (OpenSpec.upto lensCamerasSpec)

/-- 'sightbenchlaw04.LensExamples', WHERE WHAT IT READS IS OF BULK AT MOST 1048576: true; the input reads as it did. -/
def lensExamplesUptoRow : OpenClaim := { program := "ytblmmhmdnnnidaa", sum := "16c332f25d921c3d3dbb47dfd593690ccf6dd55d0bc7b2aadbacb5b1ceeb325e", func := "sightbench/sightbenchlaw04.LensExamples", spec := "lensExamples", inPlace := ["math/bits.Add64", "math/bits.Sub64"], unfollowed := true, recurses := true, named := ["math/bits.divideError", "math/bits.overflowError"], apart := false, narrowed := true }
def LensExamplesUptoSaid : Prop := lensExamplesUptoRow.holds Try.pinned (OpenSpec.upto lensExamplesSpec)

/-- 'sightbenchlaw05.GaugeCorners', WHERE WHAT IT READS IS OF BULK AT MOST 1048576: true; the input reads as it did. -/
def gaugeCornersUptoRow : OpenClaim := { program := "ytblmmhmdnnnidaa", sum := "16c332f25d921c3d3dbb47dfd593690ccf6dd55d0bc7b2aadbacb5b1ceeb325e", func := "sightbench/sightbenchlaw05.GaugeCorners", spec := "gaugeCorners", inPlace := ["math/bits.Add64", "math/bits.Sub64"], unfollowed := true, recurses := true, named := ["math/bits.divideError", "math/bits.overflowError"], apart := false, narrowed := true }
def GaugeCornersUptoSaid : Prop := gaugeCornersUptoRow.holds Try.pinned (OpenSpec.upto gaugeCornersSpec)

/-- 'sightbenchlaw05.GaugeDecides', WHERE WHAT IT READS IS OF BULK AT MOST 1048576: true; the input reads as it did. -/
def gaugeDecidesUptoRow : OpenClaim := { program := "ytblmmhmdnnnidaa", sum := "16c332f25d921c3d3dbb47dfd593690ccf6dd55d0bc7b2aadbacb5b1ceeb325e", func := "sightbench/sightbenchlaw05.GaugeDecides", spec := "gaugeDecides", inPlace := ["math/bits.Add64", "math/bits.Sub64"], unfollowed := true, recurses := true, named := ["math/bits.divideError", "math/bits.overflowError"], apart := false, narrowed := true }
def GaugeDecidesUptoSaid : Prop := gaugeDecidesUptoRow.holds Try.pinned (OpenSpec.upto gaugeDecidesSpec)

/-- 'sightbenchtop.TopMeasured', WHERE WHAT IT READS IS OF BULK AT MOST 1048576: true; the input reads as it did. -/
def topMeasuredUptoRow : OpenClaim := { program := "ytblmmhmdnnnidaa", sum := "16c332f25d921c3d3dbb47dfd593690ccf6dd55d0bc7b2aadbacb5b1ceeb325e", func := "sightbench/sightbenchtop.TopMeasured", spec := "topMeasured", inPlace := ["math/bits.Add64", "math/bits.Sub64"], unfollowed := true, recurses := true, named := ["math/bits.divideError", "math/bits.overflowError"], apart := false, narrowed := true }
def TopMeasuredUptoSaid : Prop := topMeasuredUptoRow.holds Try.pinned (OpenSpec.upto topMeasuredSpec)

/-- 'sightbenchlaw05.GaugeBright', WHERE WHAT IT READS IS OF BULK AT MOST 1048576: true; the input reads as it did. -/
def gaugeBrightUptoRow : OpenClaim := { program := "ytblmmhmdnnnidaa", sum := "16c332f25d921c3d3dbb47dfd593690ccf6dd55d0bc7b2aadbacb5b1ceeb325e", func := "sightbench/sightbenchlaw05.GaugeBright", spec := "gaugeBright", inPlace := ["math/bits.Add64", "math/bits.Sub64"], unfollowed := true, recurses := true, named := ["math/bits.divideError", "math/bits.overflowError"], apart := false, narrowed := true }
def GaugeBrightUptoSaid : Prop := gaugeBrightUptoRow.holds Try.pinned (OpenSpec.upto gaugeBrightSpec)

/-- 'sightbenchlaw05.GaugeExamples', WHERE WHAT IT READS IS OF BULK AT MOST 1048576: true; the input reads as it did. -/
def gaugeExamplesUptoRow : OpenClaim := { program := "ytblmmhmdnnnidaa", sum := "16c332f25d921c3d3dbb47dfd593690ccf6dd55d0bc7b2aadbacb5b1ceeb325e", func := "sightbench/sightbenchlaw05.GaugeExamples", spec := "gaugeExamples", inPlace := ["math/bits.Add64", "math/bits.Sub64"], unfollowed := true, recurses := true, named := ["math/bits.divideError", "math/bits.overflowError"], apart := false, narrowed := true }
def GaugeExamplesUptoSaid : Prop := gaugeExamplesUptoRow.holds Try.pinned (OpenSpec.upto gaugeExamplesSpec)

/-- 'sightbenchlaw05.GaugeMeets', WHERE WHAT IT READS IS OF BULK AT MOST 1048576: true; the input reads as it did. -/
def gaugeMeetsUptoRow : OpenClaim := { program := "ytblmmhmdnnnidaa", sum := "16c332f25d921c3d3dbb47dfd593690ccf6dd55d0bc7b2aadbacb5b1ceeb325e", func := "sightbench/sightbenchlaw05.GaugeMeets", spec := "gaugeMeets", inPlace := ["math/bits.Add64", "math/bits.Sub64"], unfollowed := true, recurses := true, named := ["math/bits.divideError", "math/bits.overflowError"], apart := false, narrowed := true }
def GaugeMeetsUptoSaid : Prop := gaugeMeetsUptoRow.holds Try.pinned (OpenSpec.upto gaugeMeetsSpec)

/-- 'sightbenchlaw05.GaugeStraight', WHERE WHAT IT READS IS OF BULK AT MOST 1048576: true; the input reads as it did. -/
def gaugeStraightUptoRow : OpenClaim := { program := "ytblmmhmdnnnidaa", sum := "16c332f25d921c3d3dbb47dfd593690ccf6dd55d0bc7b2aadbacb5b1ceeb325e", func := "sightbench/sightbenchlaw05.GaugeStraight", spec := "gaugeStraight", inPlace := ["math/bits.Add64", "math/bits.Sub64"], unfollowed := true, recurses := true, named := ["math/bits.divideError", "math/bits.overflowError"], apart := false, narrowed := true }
def GaugeStraightUptoSaid : Prop := gaugeStraightUptoRow.holds Try.pinned (OpenSpec.upto gaugeStraightSpec)

/-- 'sightbenchlaw05.GaugeBad', WHERE WHAT IT READS IS OF BULK AT MOST 1048576: true; the input reads as it did. -/
def gaugeBadUptoRow : OpenClaim := { program := "ytblmmhmdnnnidaa", sum := "16c332f25d921c3d3dbb47dfd593690ccf6dd55d0bc7b2aadbacb5b1ceeb325e", func := "sightbench/sightbenchlaw05.GaugeBad", spec := "gaugeBad", inPlace := ["math/bits.Add64", "math/bits.Sub64"], unfollowed := true, recurses := true, named := ["math/bits.divideError", "math/bits.overflowError"], apart := false, narrowed := true }
def GaugeBadUptoSaid : Prop := gaugeBadUptoRow.holds Try.pinned (OpenSpec.upto gaugeBadSpec)

end Rows
end Go.Proofs.Ytblmmhmdnnnidaa
