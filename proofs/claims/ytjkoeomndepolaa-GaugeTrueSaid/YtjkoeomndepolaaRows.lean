/-
  No cell of these rows narrows 'for every input' (looked for: loops, veiled, ifaces, maps, wideKeys, modest, calm, conditions, laid).
  DERIVED. THE GIVEN ROWS OF THIS SEAT. 12 by the template 'for every input the law returns true; each argument reads behind the call as it read before'; 0 by the template 'total and deterministic' (their statements: YtjkoeomndepolaaTotals.lean).
  GIVEN WITH THE SEED: the statements are not yours to turn. If you find one false, say at which input.
  Laid BY PROGRAM, IN A SANDBOX (cutbox-rows.mjs): the forced cells as the released guide's own fill.sh prints them over the translation 530b83894d886eaf… (all of the seat's roots in one cut). By AI agents, Wed Nov 11 2026. No macro, syntax, notation, axiom, sorry.
-/
import Derived.Test.YtjkoeomndepolaaChecked
import GoSem.Claim
import GoSem.ClaimJoined
import GoSem.ClaimMapViews
import Derived.JoinedTies
import Derived.KernelRfl
namespace Go.Proofs.Ytjkoeomndepolaa
/- THE CELL 'sum', in the pinned program and in every row, IS THE sha256 OF THE DUMP (.gsa) THAT YtjkoeomndepolaaProg.lean LOADS. Nothing in Lean hashes anything: it is a label: what it is worth is what the hold of that sum in a sandbox is worth. -/
noncomputable def Try.pinned : Pinned := { name := "ytjkoeomndepolaa", sum := "530b83894d886eaffada35a0d177fdf9103a0d39e617c89482ef525806cf00d0", checked := Try.checked }
namespace Rows
def none {H : Type} : Left H := { results := [], args := [] }

/-- 'sightbenchlaw05.GaugeProfiles': WHATEVER THE INPUT: true; the input reads as it did. -/
def gaugeProfilesSpec : ChangeSpec := { name := "gaugeProfiles", fn := fun _ => fun
  | [d1, d2, d3, d4] => { results := [.lit (.bool true)], args := [d1, d2, d3, d4] }
  | _ => none }
def gaugeProfilesRow : OpenClaim := { program := "ytjkoeomndepolaa", sum := "530b83894d886eaffada35a0d177fdf9103a0d39e617c89482ef525806cf00d0", func := "sightbench/sightbenchlaw05.GaugeProfiles", spec := "gaugeProfiles", inPlace := ["math/bits.Add64", "math/bits.Sub64"], unfollowed := true, recurses := true, named := ["math/bits.divideError", "math/bits.overflowError"], apart := false }
def GaugeProfilesSaid : Prop := gaugeProfilesRow.holds Try.pinned (OpenSpec.ofChange gaugeProfilesSpec)

/-- ITS FALSE NEIGHBOUR: 'it returns false'. Refute it at one input. -/
def gaugeProfilesWrong : ChangeSpec := { name := "gaugeProfiles", fn := fun _ => fun
  | [d1, d2, d3, d4] => { results := [.lit (.bool false)], args := [d1, d2, d3, d4] }
  | _ => none }
def GaugeProfilesWrongFalsely : Prop := gaugeProfilesRow.holds Try.pinned (OpenSpec.ofChange gaugeProfilesWrong)

/-- 'sightbenchlaw05.GaugeCorners': WHATEVER THE INPUT: true; the input reads as it did. -/
def gaugeCornersSpec : ChangeSpec := { name := "gaugeCorners", fn := fun _ => fun
  | [d1, d2] => { results := [.lit (.bool true)], args := [d1, d2] }
  | _ => none }
def gaugeCornersRow : OpenClaim := { program := "ytjkoeomndepolaa", sum := "530b83894d886eaffada35a0d177fdf9103a0d39e617c89482ef525806cf00d0", func := "sightbench/sightbenchlaw05.GaugeCorners", spec := "gaugeCorners", inPlace := ["math/bits.Add64", "math/bits.Sub64"], unfollowed := true, recurses := true, named := ["math/bits.divideError", "math/bits.overflowError"], apart := false }
def GaugeCornersSaid : Prop := gaugeCornersRow.holds Try.pinned (OpenSpec.ofChange gaugeCornersSpec)

/-- ITS FALSE NEIGHBOUR: 'it returns false'. Refute it at one input. -/
def gaugeCornersWrong : ChangeSpec := { name := "gaugeCorners", fn := fun _ => fun
  | [d1, d2] => { results := [.lit (.bool false)], args := [d1, d2] }
  | _ => none }
def GaugeCornersWrongFalsely : Prop := gaugeCornersRow.holds Try.pinned (OpenSpec.ofChange gaugeCornersWrong)

/-- 'sightbenchlaw05.GaugeEdges': WHATEVER THE INPUT: true; the input reads as it did. -/
def gaugeEdgesSpec : ChangeSpec := { name := "gaugeEdges", fn := fun _ => fun
  | [d1, d2, d3, d4] => { results := [.lit (.bool true)], args := [d1, d2, d3, d4] }
  | _ => none }
def gaugeEdgesRow : OpenClaim := { program := "ytjkoeomndepolaa", sum := "530b83894d886eaffada35a0d177fdf9103a0d39e617c89482ef525806cf00d0", func := "sightbench/sightbenchlaw05.GaugeEdges", spec := "gaugeEdges", inPlace := ["math/bits.Add64", "math/bits.Sub64"], unfollowed := true, recurses := true, named := ["math/bits.divideError", "math/bits.overflowError"], apart := false }
def GaugeEdgesSaid : Prop := gaugeEdgesRow.holds Try.pinned (OpenSpec.ofChange gaugeEdgesSpec)

/-- ITS FALSE NEIGHBOUR: 'it returns false'. Refute it at one input. -/
def gaugeEdgesWrong : ChangeSpec := { name := "gaugeEdges", fn := fun _ => fun
  | [d1, d2, d3, d4] => { results := [.lit (.bool false)], args := [d1, d2, d3, d4] }
  | _ => none }
def GaugeEdgesWrongFalsely : Prop := gaugeEdgesRow.holds Try.pinned (OpenSpec.ofChange gaugeEdgesWrong)

/-- 'sightbenchlaw05.GaugeDecides': WHATEVER THE INPUT: true; the input reads as it did. -/
def gaugeDecidesSpec : ChangeSpec := { name := "gaugeDecides", fn := fun _ => fun
  | [d1, d2, d3] => { results := [.lit (.bool true)], args := [d1, d2, d3] }
  | _ => none }
def gaugeDecidesRow : OpenClaim := { program := "ytjkoeomndepolaa", sum := "530b83894d886eaffada35a0d177fdf9103a0d39e617c89482ef525806cf00d0", func := "sightbench/sightbenchlaw05.GaugeDecides", spec := "gaugeDecides", inPlace := ["math/bits.Add64", "math/bits.Sub64"], unfollowed := true, recurses := true, named := ["math/bits.divideError", "math/bits.overflowError"], apart := false }
def GaugeDecidesSaid : Prop := gaugeDecidesRow.holds Try.pinned (OpenSpec.ofChange gaugeDecidesSpec)

/-- ITS FALSE NEIGHBOUR: 'it returns false'. Refute it at one input. -/
def gaugeDecidesWrong : ChangeSpec := { name := "gaugeDecides", fn := fun _ => fun
  | [d1, d2, d3] => { results := [.lit (.bool false)], args := [d1, d2, d3] }
  | _ => none }
def GaugeDecidesWrongFalsely : Prop := gaugeDecidesRow.holds Try.pinned (OpenSpec.ofChange gaugeDecidesWrong)

/-- 'sightbenchlaw05.GaugeNoise': WHATEVER THE INPUT: true; the input reads as it did. -/
def gaugeNoiseSpec : ChangeSpec := { name := "gaugeNoise", fn := fun _ => fun
  | [d1, d2, d3, d4, d5] => { results := [.lit (.bool true)], args := [d1, d2, d3, d4, d5] }
  | _ => none }
def gaugeNoiseRow : OpenClaim := { program := "ytjkoeomndepolaa", sum := "530b83894d886eaffada35a0d177fdf9103a0d39e617c89482ef525806cf00d0", func := "sightbench/sightbenchlaw05.GaugeNoise", spec := "gaugeNoise", inPlace := ["math/bits.Add64", "math/bits.Sub64"], unfollowed := true, recurses := true, named := ["math/bits.divideError", "math/bits.overflowError"], apart := false }
def GaugeNoiseSaid : Prop := gaugeNoiseRow.holds Try.pinned (OpenSpec.ofChange gaugeNoiseSpec)

/-- ITS FALSE NEIGHBOUR: 'it returns false'. Refute it at one input. -/
def gaugeNoiseWrong : ChangeSpec := { name := "gaugeNoise", fn := fun _ => fun
  | [d1, d2, d3, d4, d5] => { results := [.lit (.bool false)], args := [d1, d2, d3, d4, d5] }
  | _ => none }
def GaugeNoiseWrongFalsely : Prop := gaugeNoiseRow.holds Try.pinned (OpenSpec.ofChange gaugeNoiseWrong)

/-- 'sightbenchlaw05.GaugeTolerance': WHATEVER THE INPUT: true; the input reads as it did. -/
def gaugeToleranceSpec : ChangeSpec := { name := "gaugeTolerance", fn := fun _ => fun
  | [d1, d2, d3, d4, d5] => { results := [.lit (.bool true)], args := [d1, d2, d3, d4, d5] }
  | _ => none }
def gaugeToleranceRow : OpenClaim := { program := "ytjkoeomndepolaa", sum := "530b83894d886eaffada35a0d177fdf9103a0d39e617c89482ef525806cf00d0", func := "sightbench/sightbenchlaw05.GaugeTolerance", spec := "gaugeTolerance", inPlace := ["math/bits.Add64", "math/bits.Sub64"], unfollowed := true, recurses := true, named := ["math/bits.divideError", "math/bits.overflowError"], apart := false }
def GaugeToleranceSaid : Prop := gaugeToleranceRow.holds Try.pinned (OpenSpec.ofChange gaugeToleranceSpec)

/-- ITS FALSE NEIGHBOUR: 'it returns false'. Refute it at one input. -/
def gaugeToleranceWrong : ChangeSpec := { name := "gaugeTolerance", fn := fun _ => fun
  | [d1, d2, d3, d4, d5] => { results := [.lit (.bool false)], args := [d1, d2, d3, d4, d5] }
  | _ => none }
def GaugeToleranceWrongFalsely : Prop := gaugeToleranceRow.holds Try.pinned (OpenSpec.ofChange gaugeToleranceWrong)

/-- 'sightbenchlaw05.GaugeMirror': WHATEVER THE INPUT: true; the input reads as it did. -/
def gaugeMirrorSpec : ChangeSpec := { name := "gaugeMirror", fn := fun _ => fun
  | [d1, d2, d3, d4] => { results := [.lit (.bool true)], args := [d1, d2, d3, d4] }
  | _ => none }
def gaugeMirrorRow : OpenClaim := { program := "ytjkoeomndepolaa", sum := "530b83894d886eaffada35a0d177fdf9103a0d39e617c89482ef525806cf00d0", func := "sightbench/sightbenchlaw05.GaugeMirror", spec := "gaugeMirror", inPlace := ["math/bits.Add64", "math/bits.Sub64"], unfollowed := true, recurses := true, named := ["math/bits.divideError", "math/bits.overflowError"], apart := false }
def GaugeMirrorSaid : Prop := gaugeMirrorRow.holds Try.pinned (OpenSpec.ofChange gaugeMirrorSpec)

/-- ITS FALSE NEIGHBOUR: 'it returns false'. Refute it at one input. -/
def gaugeMirrorWrong : ChangeSpec := { name := "gaugeMirror", fn := fun _ => fun
  | [d1, d2, d3, d4] => { results := [.lit (.bool false)], args := [d1, d2, d3, d4] }
  | _ => none }
def GaugeMirrorWrongFalsely : Prop := gaugeMirrorRow.holds Try.pinned (OpenSpec.ofChange gaugeMirrorWrong)

/-- 'sightbenchlaw05.GaugeHolds': WHATEVER THE INPUT: true; the input reads as it did. -/
def gaugeHoldsSpec : ChangeSpec := { name := "gaugeHolds", fn := fun _ => fun
  | [d1, d2, d3, d4, d5] => { results := [.lit (.bool true)], args := [d1, d2, d3, d4, d5] }
  | _ => none }
def gaugeHoldsRow : OpenClaim := { program := "ytjkoeomndepolaa", sum := "530b83894d886eaffada35a0d177fdf9103a0d39e617c89482ef525806cf00d0", func := "sightbench/sightbenchlaw05.GaugeHolds", spec := "gaugeHolds", inPlace := ["math/bits.Add64", "math/bits.Sub64"], unfollowed := true, recurses := true, named := ["math/bits.divideError", "math/bits.overflowError"], apart := false }
def GaugeHoldsSaid : Prop := gaugeHoldsRow.holds Try.pinned (OpenSpec.ofChange gaugeHoldsSpec)

/-- ITS FALSE NEIGHBOUR: 'it returns false'. Refute it at one input. -/
def gaugeHoldsWrong : ChangeSpec := { name := "gaugeHolds", fn := fun _ => fun
  | [d1, d2, d3, d4, d5] => { results := [.lit (.bool false)], args := [d1, d2, d3, d4, d5] }
  | _ => none }
def GaugeHoldsWrongFalsely : Prop := gaugeHoldsRow.holds Try.pinned (OpenSpec.ofChange gaugeHoldsWrong)

/-- 'sightbenchlaw05.GaugeDecided': WHATEVER THE INPUT: true; the input reads as it did. -/
def gaugeDecidedSpec : ChangeSpec := { name := "gaugeDecided", fn := fun _ => fun
  | [d1, d2, d3] => { results := [.lit (.bool true)], args := [d1, d2, d3] }
  | _ => none }
def gaugeDecidedRow : OpenClaim := { program := "ytjkoeomndepolaa", sum := "530b83894d886eaffada35a0d177fdf9103a0d39e617c89482ef525806cf00d0", func := "sightbench/sightbenchlaw05.GaugeDecided", spec := "gaugeDecided", inPlace := ["math/bits.Add64", "math/bits.Sub64"], unfollowed := true, recurses := true, named := ["math/bits.divideError", "math/bits.overflowError"], apart := false }
def GaugeDecidedSaid : Prop := gaugeDecidedRow.holds Try.pinned (OpenSpec.ofChange gaugeDecidedSpec)

/-- ITS FALSE NEIGHBOUR: 'it returns false'. Refute it at one input. -/
def gaugeDecidedWrong : ChangeSpec := { name := "gaugeDecided", fn := fun _ => fun
  | [d1, d2, d3] => { results := [.lit (.bool false)], args := [d1, d2, d3] }
  | _ => none }
def GaugeDecidedWrongFalsely : Prop := gaugeDecidedRow.holds Try.pinned (OpenSpec.ofChange gaugeDecidedWrong)

/-- 'sightbenchtop.TopMeasured': WHATEVER THE INPUT: true; the input reads as it did. -/
def topMeasuredSpec : ChangeSpec := { name := "topMeasured", fn := fun _ => fun
  | [d1, d2, d3, d4, d5, d6, d7, d8, d9] => { results := [.lit (.bool true)], args := [d1, d2, d3, d4, d5, d6, d7, d8, d9] }
  | _ => none }
def topMeasuredRow : OpenClaim := { program := "ytjkoeomndepolaa", sum := "530b83894d886eaffada35a0d177fdf9103a0d39e617c89482ef525806cf00d0", func := "sightbench/sightbenchtop.TopMeasured", spec := "topMeasured", inPlace := ["math/bits.Add64", "math/bits.Sub64"], unfollowed := true, recurses := true, named := ["math/bits.divideError", "math/bits.overflowError"], apart := false }
def TopMeasuredSaid : Prop := topMeasuredRow.holds Try.pinned (OpenSpec.ofChange topMeasuredSpec)

/-- ITS FALSE NEIGHBOUR: 'it returns false'. Refute it at one input. -/
def topMeasuredWrong : ChangeSpec := { name := "topMeasured", fn := fun _ => fun
  | [d1, d2, d3, d4, d5, d6, d7, d8, d9] => { results := [.lit (.bool false)], args := [d1, d2, d3, d4, d5, d6, d7, d8, d9] }
  | _ => none }
def TopMeasuredWrongFalsely : Prop := topMeasuredRow.holds Try.pinned (OpenSpec.ofChange topMeasuredWrong)

/-- 'sightbenchlaw05.GaugeTrue': WHATEVER THE INPUT: true; the input reads as it did. -/
def gaugeTrueSpec : ChangeSpec := { name := "gaugeTrue", fn := fun _ => fun
  | [d1, d2, d3, d4] => { results := [.lit (.bool true)], args := [d1, d2, d3, d4] }
  | _ => none }
def gaugeTrueRow : OpenClaim := { program := "ytjkoeomndepolaa", sum := "530b83894d886eaffada35a0d177fdf9103a0d39e617c89482ef525806cf00d0", func := "sightbench/sightbenchlaw05.GaugeTrue", spec := "gaugeTrue", inPlace := ["math/bits.Add64", "math/bits.Sub64"], unfollowed := true, recurses := true, named := ["math/bits.divideError", "math/bits.overflowError"], apart := false }
def GaugeTrueSaid : Prop := gaugeTrueRow.holds Try.pinned (OpenSpec.ofChange gaugeTrueSpec)

/-- ITS FALSE NEIGHBOUR: 'it returns false'. Refute it at one input. -/
def gaugeTrueWrong : ChangeSpec := { name := "gaugeTrue", fn := fun _ => fun
  | [d1, d2, d3, d4] => { results := [.lit (.bool false)], args := [d1, d2, d3, d4] }
  | _ => none }
def GaugeTrueWrongFalsely : Prop := gaugeTrueRow.holds Try.pinned (OpenSpec.ofChange gaugeTrueWrong)

/-- 'sightbenchlaw05.GaugeReached': WHATEVER THE INPUT: true; the input reads as it did. -/
def gaugeReachedSpec : ChangeSpec := { name := "gaugeReached", fn := fun _ => fun
  | [d1, d2, d3, d4] => { results := [.lit (.bool true)], args := [d1, d2, d3, d4] }
  | _ => none }
def gaugeReachedRow : OpenClaim := { program := "ytjkoeomndepolaa", sum := "530b83894d886eaffada35a0d177fdf9103a0d39e617c89482ef525806cf00d0", func := "sightbench/sightbenchlaw05.GaugeReached", spec := "gaugeReached", inPlace := ["math/bits.Add64", "math/bits.Sub64"], unfollowed := true, recurses := true, named := ["math/bits.divideError", "math/bits.overflowError"], apart := false }
def GaugeReachedSaid : Prop := gaugeReachedRow.holds Try.pinned (OpenSpec.ofChange gaugeReachedSpec)

/-- ITS FALSE NEIGHBOUR: 'it returns false'. Refute it at one input. -/
def gaugeReachedWrong : ChangeSpec := { name := "gaugeReached", fn := fun _ => fun
  | [d1, d2, d3, d4] => { results := [.lit (.bool false)], args := [d1, d2, d3, d4] }
  | _ => none }
def GaugeReachedWrongFalsely : Prop := gaugeReachedRow.holds Try.pinned (OpenSpec.ofChange gaugeReachedWrong)

/- THE SECOND FORM. 'bulk': how many values and letters a reading holds, each counted each time it is reached (what is shared counts as often as it is met; a slice's spare places count too). A statement '..UptoSaid' is the law's where the arguments, and the package variables that the reading takes, are together of bulk at most 1048576: NARROWER than '..Said'. Prove '..Said' where nothing that the law and all that it calls make is longer than what came in: it says more and counts as full. Else prove '..UptoSaid'. A law counts once. -/
mutual
def uptoBulk {H : Type} : DataW H → Nat
  | .lit (.string bytes) => bytes.length + 1
  | .lit _ => 1
  | .nil => 1
  | .ptr d => uptoBulk d + 1
  | .slice elems spare => uptoBulkAll elems + uptoBulkAll spare + 1
  | .agg parts => uptoBulkAll parts + 1
  | .iface _ d => uptoBulk d + 1
  | .map entries => uptoBulkEntries entries + 1
  | .held _ => 1
def uptoBulkAll {H : Type} : List (DataW H) → Nat
  | [] => 0
  | d :: r => uptoBulk d + uptoBulkAll r
def uptoBulkEntries {H : Type} : List (Lit × DataW H) → Nat
  | [] => 0
  | x :: r => uptoBulkEntry x + uptoBulkEntries r
def uptoBulkEntry {H : Type} : Lit × DataW H → Nat
  | (.string bytes, d) => bytes.length + uptoBulk d + 1
  | (_, d) => uptoBulk d + 1
 end
def uptoSmall : (H : Type) → List (DataW H) → Bool := fun _ ds => decide (uptoBulkAll ds ≤ 1048576)
def OpenSpec.upto (s : _root_.Go.ChangeSpec) : _root_.Go.OpenSpec := { _root_.Go.OpenSpec.ofChange s with cond := some uptoSmall }

/-- 'sightbenchlaw05.GaugeProfiles', WHERE WHAT IT READS IS OF BULK AT MOST 1048576: true; the input reads as it did. -/
def gaugeProfilesUptoRow : OpenClaim := { program := "ytjkoeomndepolaa", sum := "530b83894d886eaffada35a0d177fdf9103a0d39e617c89482ef525806cf00d0", func := "sightbench/sightbenchlaw05.GaugeProfiles", spec := "gaugeProfiles", inPlace := ["math/bits.Add64", "math/bits.Sub64"], unfollowed := true, recurses := true, named := ["math/bits.divideError", "math/bits.overflowError"], apart := false, narrowed := true }
def GaugeProfilesUptoSaid : Prop := gaugeProfilesUptoRow.holds Try.pinned (OpenSpec.upto gaugeProfilesSpec)

/-- 'sightbenchlaw05.GaugeCorners', WHERE WHAT IT READS IS OF BULK AT MOST 1048576: true; the input reads as it did. -/
def gaugeCornersUptoRow : OpenClaim := { program := "ytjkoeomndepolaa", sum := "530b83894d886eaffada35a0d177fdf9103a0d39e617c89482ef525806cf00d0", func := "sightbench/sightbenchlaw05.GaugeCorners", spec := "gaugeCorners", inPlace := ["math/bits.Add64", "math/bits.Sub64"], unfollowed := true, recurses := true, named := ["math/bits.divideError", "math/bits.overflowError"], apart := false, narrowed := true }
def GaugeCornersUptoSaid : Prop := gaugeCornersUptoRow.holds Try.pinned (OpenSpec.upto gaugeCornersSpec)

/-- 'sightbenchlaw05.GaugeEdges', WHERE WHAT IT READS IS OF BULK AT MOST 1048576: true; the input reads as it did. -/
def gaugeEdgesUptoRow : OpenClaim := { program := "ytjkoeomndepolaa", sum := "530b83894d886eaffada35a0d177fdf9103a0d39e617c89482ef525806cf00d0", func := "sightbench/sightbenchlaw05.GaugeEdges", spec := "gaugeEdges", inPlace := ["math/bits.Add64", "math/bits.Sub64"], unfollowed := true, recurses := true, named := ["math/bits.divideError", "math/bits.overflowError"], apart := false, narrowed := true }
def GaugeEdgesUptoSaid : Prop := gaugeEdgesUptoRow.holds Try.pinned (OpenSpec.upto gaugeEdgesSpec)

/-- 'sightbenchlaw05.GaugeDecides', WHERE WHAT IT READS IS OF BULK AT MOST 1048576: true; the input reads as it did. -/
def gaugeDecidesUptoRow : OpenClaim := { program := "ytjkoeomndepolaa", sum := "530b83894d886eaffada35a0d177fdf9103a0d39e617c89482ef525806cf00d0", func := "sightbench/sightbenchlaw05.GaugeDecides", spec := "gaugeDecides", inPlace := ["math/bits.Add64", "math/bits.Sub64"], unfollowed := true, recurses := true, named := ["math/bits.divideError", "math/bits.overflowError"], apart := false, narrowed := true }
def GaugeDecidesUptoSaid : Prop := gaugeDecidesUptoRow.holds Try.pinned (OpenSpec.upto gaugeDecidesSpec)

/-- 'sightbenchlaw05.GaugeNoise', WHERE WHAT IT READS IS OF BULK AT MOST 1048576: true; the input reads as it did. -/
def gaugeNoiseUptoRow : OpenClaim := { program := "ytjkoeomndepolaa", sum := "530b83894d886eaffada35a0d177fdf9103a0d39e617c89482ef525806cf00d0", func := "sightbench/sightbenchlaw05.GaugeNoise", spec := "gaugeNoise", inPlace := ["math/bits.Add64", "math/bits.Sub64"], unfollowed := true, recurses := true, named := ["math/bits.divideError", "math/bits.overflowError"], apart := false, narrowed := true }
def GaugeNoiseUptoSaid : Prop := gaugeNoiseUptoRow.holds Try.pinned (OpenSpec.upto gaugeNoiseSpec)

/-- 'sightbenchlaw05.GaugeTolerance', WHERE WHAT IT READS IS OF BULK AT MOST 1048576: true; the input reads as it did. -/
def gaugeToleranceUptoRow : OpenClaim := { program := "ytjkoeomndepolaa", sum := "530b83894d886eaffada35a0d177fdf9103a0d39e617c89482ef525806cf00d0", func := "sightbench/sightbenchlaw05.GaugeTolerance", spec := "gaugeTolerance", inPlace := ["math/bits.Add64", "math/bits.Sub64"], unfollowed := true, recurses := true, named := ["math/bits.divideError", "math/bits.overflowError"], apart := false, narrowed := true }
def GaugeToleranceUptoSaid : Prop := gaugeToleranceUptoRow.holds Try.pinned (OpenSpec.upto gaugeToleranceSpec)

/-- 'sightbenchlaw05.GaugeMirror', WHERE WHAT IT READS IS OF BULK AT MOST 1048576: true; the input reads as it did. -/
def gaugeMirrorUptoRow : OpenClaim := { program := "ytjkoeomndepolaa", sum := "530b83894d886eaffada35a0d177fdf9103a0d39e617c89482ef525806cf00d0", func := "sightbench/sightbenchlaw05.GaugeMirror", spec := "gaugeMirror", inPlace := ["math/bits.Add64", "math/bits.Sub64"], unfollowed := true, recurses := true, named := ["math/bits.divideError", "math/bits.overflowError"], apart := false, narrowed := true }
def GaugeMirrorUptoSaid : Prop := gaugeMirrorUptoRow.holds Try.pinned (OpenSpec.upto gaugeMirrorSpec)

/-- 'sightbenchlaw05.GaugeHolds', WHERE WHAT IT READS IS OF BULK AT MOST 1048576: true; the input reads as it did. -/
def gaugeHoldsUptoRow : OpenClaim := { program := "ytjkoeomndepolaa", sum := "530b83894d886eaffada35a0d177fdf9103a0d39e617c89482ef525806cf00d0", func := "sightbench/sightbenchlaw05.GaugeHolds", spec := "gaugeHolds", inPlace := ["math/bits.Add64", "math/bits.Sub64"], unfollowed := true, recurses := true, named := ["math/bits.divideError", "math/bits.overflowError"], apart := false, narrowed := true }
def GaugeHoldsUptoSaid : Prop := gaugeHoldsUptoRow.holds Try.pinned (OpenSpec.upto gaugeHoldsSpec)

/-- 'sightbenchlaw05.GaugeDecided', WHERE WHAT IT READS IS OF BULK AT MOST 1048576: true; the input reads as it did. -/
def gaugeDecidedUptoRow : OpenClaim := { program := "ytjkoeomndepolaa", sum := "530b83894d886eaffada35a0d177fdf9103a0d39e617c89482ef525806cf00d0", func := "sightbench/sightbenchlaw05.GaugeDecided", spec := "gaugeDecided", inPlace := ["math/bits.Add64", "math/bits.Sub64"], unfollowed := true, recurses := true, named := ["math/bits.divideError", "math/bits.overflowError"], apart := false, narrowed := true }
def GaugeDecidedUptoSaid : Prop := gaugeDecidedUptoRow.holds Try.pinned (OpenSpec.upto gaugeDecidedSpec)

/-- 'sightbenchtop.TopMeasured', WHERE WHAT IT READS IS OF BULK AT MOST 1048576: true; the input reads as it did. -/
def topMeasuredUptoRow : OpenClaim := { program := "ytjkoeomndepolaa", sum := "530b83894d886eaffada35a0d177fdf9103a0d39e617c89482ef525806cf00d0", func := "sightbench/sightbenchtop.TopMeasured", spec := "topMeasured", inPlace := ["math/bits.Add64", "math/bits.Sub64"], unfollowed := true, recurses := true, named := ["math/bits.divideError", "math/bits.overflowError"], apart := false, narrowed := true }
def TopMeasuredUptoSaid : Prop := topMeasuredUptoRow.holds Try.pinned (OpenSpec.upto topMeasuredSpec)

/-- 'sightbenchlaw05.GaugeTrue', WHERE WHAT IT READS IS OF BULK AT MOST 1048576: true; the input reads as it did. -/
def gaugeTrueUptoRow : OpenClaim := { program := "ytjkoeomndepolaa", sum := "530b83894d886eaffada35a0d177fdf9103a0d39e617c89482ef525806cf00d0", func := "sightbench/sightbenchlaw05.GaugeTrue", spec := "gaugeTrue", inPlace := ["math/bits.Add64", "math/bits.Sub64"], unfollowed := true, recurses := true, named := ["math/bits.divideError", "math/bits.overflowError"], apart := false, narrowed := true }
def GaugeTrueUptoSaid : Prop := gaugeTrueUptoRow.holds Try.pinned (OpenSpec.upto gaugeTrueSpec)

/-- 'sightbenchlaw05.GaugeReached', WHERE WHAT IT READS IS OF BULK AT MOST 1048576: true; the input reads as it did. -/
def gaugeReachedUptoRow : OpenClaim := { program := "ytjkoeomndepolaa", sum := "530b83894d886eaffada35a0d177fdf9103a0d39e617c89482ef525806cf00d0", func := "sightbench/sightbenchlaw05.GaugeReached", spec := "gaugeReached", inPlace := ["math/bits.Add64", "math/bits.Sub64"], unfollowed := true, recurses := true, named := ["math/bits.divideError", "math/bits.overflowError"], apart := false, narrowed := true }
def GaugeReachedUptoSaid : Prop := gaugeReachedUptoRow.holds Try.pinned (OpenSpec.upto gaugeReachedSpec)

end Rows
end Go.Proofs.Ytjkoeomndepolaa
