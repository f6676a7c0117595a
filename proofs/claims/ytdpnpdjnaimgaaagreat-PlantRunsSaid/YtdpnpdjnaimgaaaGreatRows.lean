/-
  No cell of these rows narrows 'for every input' (looked for: loops, veiled, ifaces, maps, wideKeys, modest, calm, conditions, laid).
  DERIVED. THE GIVEN ROWS OF THIS SEAT. 12 by the template 'for every input the law returns true; each argument reads behind the call as it read before'; 0 by the template 'total and deterministic' (their statements: YtdpnpdjnaimgaaaGreatTotals.lean).
  GIVEN WITH THE SEED: the statements are not yours to turn. If you find one false, say at which input.
  Laid BY PROGRAM, IN A SANDBOX (cutbox-rows.mjs): the forced cells as the released guide's own fill.sh prints them over the translation 3b59c1214142943d… (all of the seat's roots in one cut). By AI agents, Wed Nov 11 2026. No macro, syntax, notation, axiom, sorry.
-/
import Derived.Test.YtdpnpdjnaimgaaaGreatChecked
import GoSem.Claim
import GoSem.ClaimJoined
import GoSem.ClaimMapViews
import Derived.JoinedTies
import Derived.KernelRfl
namespace Go.Proofs.YtdpnpdjnaimgaaaGreat
/- THE CELL 'sum', in the pinned program and in every row, IS THE sha256 OF THE DUMP (.gsa) THAT YtdpnpdjnaimgaaaGreatProg.lean LOADS. Nothing in Lean hashes anything: it is a label: what it is worth is what the hold of that sum in a sandbox is worth. -/
noncomputable def Tryz.pinned : Pinned := { name := "ytdpnpdjnaimgaaagreat", sum := "3b59c1214142943d9c9509cb2d3d40f934f967f898035c44827e6d541c9d2508", checked := Tryz.checked }
namespace Rows
def none {H : Type} : Left H := { results := [], args := [] }

/-- 'sightbenchlaw11.PlantLines': WHATEVER THE INPUT: true; the input reads as it did. -/
def plantLinesSpec : ChangeSpec := { name := "plantLines", fn := fun _ => fun
  | [d1, d2, d3] => { results := [.lit (.bool true)], args := [d1, d2, d3] }
  | _ => none }
def plantLinesRow : OpenClaim := { program := "ytdpnpdjnaimgaaagreat", sum := "3b59c1214142943d9c9509cb2d3d40f934f967f898035c44827e6d541c9d2508", func := "sightbench/sightbenchlaw11.PlantLines", spec := "plantLines", inPlace := ["math/bits.Add64", "math/bits.Sub64"], unfollowed := true, recurses := true, named := ["math/bits.divideError", "math/bits.overflowError"], apart := false }
def PlantLinesSaid : Prop := plantLinesRow.holds Tryz.pinned (OpenSpec.ofChange plantLinesSpec)

/-- ITS FALSE NEIGHBOUR: 'it returns false'. Refute it at one input. -/
def plantLinesWrong : ChangeSpec := { name := "plantLines", fn := fun _ => fun
  | [d1, d2, d3] => { results := [.lit (.bool false)], args := [d1, d2, d3] }
  | _ => none }
def PlantLinesWrongFalsely : Prop := plantLinesRow.holds Tryz.pinned (OpenSpec.ofChange plantLinesWrong)

/-- 'sightbenchlaw11.PlantSteps': WHATEVER THE INPUT: true; the input reads as it did. -/
def plantStepsSpec : ChangeSpec := { name := "plantSteps", fn := fun _ => fun
  | [d1, d2] => { results := [.lit (.bool true)], args := [d1, d2] }
  | _ => none }
def plantStepsRow : OpenClaim := { program := "ytdpnpdjnaimgaaagreat", sum := "3b59c1214142943d9c9509cb2d3d40f934f967f898035c44827e6d541c9d2508", func := "sightbench/sightbenchlaw11.PlantSteps", spec := "plantSteps", inPlace := ["math/bits.Add64", "math/bits.Sub64", "slices.overlaps[int]"], unfollowed := true, recurses := true, named := ["math/bits.divideError", "math/bits.overflowError"], apart := false }
def PlantStepsSaid : Prop := plantStepsRow.holds Tryz.pinned (OpenSpec.ofChange plantStepsSpec)

/-- ITS FALSE NEIGHBOUR: 'it returns false'. Refute it at one input. -/
def plantStepsWrong : ChangeSpec := { name := "plantSteps", fn := fun _ => fun
  | [d1, d2] => { results := [.lit (.bool false)], args := [d1, d2] }
  | _ => none }
def PlantStepsWrongFalsely : Prop := plantStepsRow.holds Tryz.pinned (OpenSpec.ofChange plantStepsWrong)

/-- 'sightbenchlaw11.PlantExamples': WHATEVER THE INPUT: true; the input reads as it did. -/
def plantExamplesSpec : ChangeSpec := { name := "plantExamples", fn := fun _ => fun
  | [] => { results := [.lit (.bool true)], args := [] }
  | _ => none }
def plantExamplesRow : OpenClaim := { program := "ytdpnpdjnaimgaaagreat", sum := "3b59c1214142943d9c9509cb2d3d40f934f967f898035c44827e6d541c9d2508", func := "sightbench/sightbenchlaw11.PlantExamples", spec := "plantExamples", inPlace := ["math/bits.Add64", "math/bits.Sub64", "slices.overlaps[int]"], unfollowed := true, recurses := true, named := ["math/bits.divideError", "math/bits.overflowError"], apart := false }
def PlantExamplesSaid : Prop := plantExamplesRow.holds Tryz.pinned (OpenSpec.ofChange plantExamplesSpec)

/-- ITS FALSE NEIGHBOUR: 'it returns false'. Refute it at one input. -/
def plantExamplesWrong : ChangeSpec := { name := "plantExamples", fn := fun _ => fun
  | [] => { results := [.lit (.bool false)], args := [] }
  | _ => none }
def PlantExamplesWrongFalsely : Prop := plantExamplesRow.holds Tryz.pinned (OpenSpec.ofChange plantExamplesWrong)

/-- 'sightbenchlaw11.PlantRuns': WHATEVER THE INPUT: true; the input reads as it did. -/
def plantRunsSpec : ChangeSpec := { name := "plantRuns", fn := fun _ => fun
  | [d1, d2] => { results := [.lit (.bool true)], args := [d1, d2] }
  | _ => none }
def plantRunsRow : OpenClaim := { program := "ytdpnpdjnaimgaaagreat", sum := "3b59c1214142943d9c9509cb2d3d40f934f967f898035c44827e6d541c9d2508", func := "sightbench/sightbenchlaw11.PlantRuns", spec := "plantRuns", inPlace := ["math/bits.Add64", "math/bits.Sub64", "slices.overlaps[int]"], unfollowed := true, recurses := true, named := ["math/bits.divideError", "math/bits.overflowError"], apart := false }
def PlantRunsSaid : Prop := plantRunsRow.holds Tryz.pinned (OpenSpec.ofChange plantRunsSpec)

/-- ITS FALSE NEIGHBOUR: 'it returns false'. Refute it at one input. -/
def plantRunsWrong : ChangeSpec := { name := "plantRuns", fn := fun _ => fun
  | [d1, d2] => { results := [.lit (.bool false)], args := [d1, d2] }
  | _ => none }
def PlantRunsWrongFalsely : Prop := plantRunsRow.holds Tryz.pinned (OpenSpec.ofChange plantRunsWrong)

/-- 'sightbenchlaw11.PlantNear': WHATEVER THE INPUT: true; the input reads as it did. -/
def plantNearSpec : ChangeSpec := { name := "plantNear", fn := fun _ => fun
  | [d1, d2] => { results := [.lit (.bool true)], args := [d1, d2] }
  | _ => none }
def plantNearRow : OpenClaim := { program := "ytdpnpdjnaimgaaagreat", sum := "3b59c1214142943d9c9509cb2d3d40f934f967f898035c44827e6d541c9d2508", func := "sightbench/sightbenchlaw11.PlantNear", spec := "plantNear", inPlace := ["math/bits.Add64", "math/bits.Sub64", "slices.overlaps[int]"], unfollowed := true, recurses := true, named := ["math/bits.divideError", "math/bits.overflowError"], apart := false }
def PlantNearSaid : Prop := plantNearRow.holds Tryz.pinned (OpenSpec.ofChange plantNearSpec)

/-- ITS FALSE NEIGHBOUR: 'it returns false'. Refute it at one input. -/
def plantNearWrong : ChangeSpec := { name := "plantNear", fn := fun _ => fun
  | [d1, d2] => { results := [.lit (.bool false)], args := [d1, d2] }
  | _ => none }
def PlantNearWrongFalsely : Prop := plantNearRow.holds Tryz.pinned (OpenSpec.ofChange plantNearWrong)

/-- 'sightbenchlaw11.PlantTrue': WHATEVER THE INPUT: true; the input reads as it did. -/
def plantTrueSpec : ChangeSpec := { name := "plantTrue", fn := fun _ => fun
  | [d1, d2] => { results := [.lit (.bool true)], args := [d1, d2] }
  | _ => none }
def plantTrueRow : OpenClaim := { program := "ytdpnpdjnaimgaaagreat", sum := "3b59c1214142943d9c9509cb2d3d40f934f967f898035c44827e6d541c9d2508", func := "sightbench/sightbenchlaw11.PlantTrue", spec := "plantTrue", inPlace := ["math/bits.Add64", "math/bits.Sub64", "slices.overlaps[int]"], unfollowed := true, recurses := true, named := ["math/bits.divideError", "math/bits.overflowError"], apart := false }
def PlantTrueSaid : Prop := plantTrueRow.holds Tryz.pinned (OpenSpec.ofChange plantTrueSpec)

/-- ITS FALSE NEIGHBOUR: 'it returns false'. Refute it at one input. -/
def plantTrueWrong : ChangeSpec := { name := "plantTrue", fn := fun _ => fun
  | [d1, d2] => { results := [.lit (.bool false)], args := [d1, d2] }
  | _ => none }
def PlantTrueWrongFalsely : Prop := plantTrueRow.holds Tryz.pinned (OpenSpec.ofChange plantTrueWrong)

/-- 'sightbenchlaw11.PlantOnce': WHATEVER THE INPUT: true; the input reads as it did. -/
def plantOnceSpec : ChangeSpec := { name := "plantOnce", fn := fun _ => fun
  | [d1, d2] => { results := [.lit (.bool true)], args := [d1, d2] }
  | _ => none }
def plantOnceRow : OpenClaim := { program := "ytdpnpdjnaimgaaagreat", sum := "3b59c1214142943d9c9509cb2d3d40f934f967f898035c44827e6d541c9d2508", func := "sightbench/sightbenchlaw11.PlantOnce", spec := "plantOnce", inPlace := ["math/bits.Add64", "math/bits.Sub64", "slices.overlaps[int]"], unfollowed := true, recurses := true, named := ["math/bits.divideError", "math/bits.overflowError"], apart := false }
def PlantOnceSaid : Prop := plantOnceRow.holds Tryz.pinned (OpenSpec.ofChange plantOnceSpec)

/-- ITS FALSE NEIGHBOUR: 'it returns false'. Refute it at one input. -/
def plantOnceWrong : ChangeSpec := { name := "plantOnce", fn := fun _ => fun
  | [d1, d2] => { results := [.lit (.bool false)], args := [d1, d2] }
  | _ => none }
def PlantOnceWrongFalsely : Prop := plantOnceRow.holds Tryz.pinned (OpenSpec.ofChange plantOnceWrong)

/-- 'sightbenchlaw11.PlantRejects': WHATEVER THE INPUT: true; the input reads as it did. -/
def plantRejectsSpec : ChangeSpec := { name := "plantRejects", fn := fun _ => fun
  | [d1, d2] => { results := [.lit (.bool true)], args := [d1, d2] }
  | _ => none }
def plantRejectsRow : OpenClaim := { program := "ytdpnpdjnaimgaaagreat", sum := "3b59c1214142943d9c9509cb2d3d40f934f967f898035c44827e6d541c9d2508", func := "sightbench/sightbenchlaw11.PlantRejects", spec := "plantRejects", inPlace := ["math/bits.Add64", "math/bits.Sub64", "slices.overlaps[int]"], unfollowed := true, recurses := true, named := ["math/bits.divideError", "math/bits.overflowError"], apart := false }
def PlantRejectsSaid : Prop := plantRejectsRow.holds Tryz.pinned (OpenSpec.ofChange plantRejectsSpec)

/-- ITS FALSE NEIGHBOUR: 'it returns false'. Refute it at one input. -/
def plantRejectsWrong : ChangeSpec := { name := "plantRejects", fn := fun _ => fun
  | [d1, d2] => { results := [.lit (.bool false)], args := [d1, d2] }
  | _ => none }
def PlantRejectsWrongFalsely : Prop := plantRejectsRow.holds Tryz.pinned (OpenSpec.ofChange plantRejectsWrong)

/-- 'sightbenchlaw11.PlantReplays': WHATEVER THE INPUT: true; the input reads as it did. -/
def plantReplaysSpec : ChangeSpec := { name := "plantReplays", fn := fun _ => fun
  | [d1, d2] => { results := [.lit (.bool true)], args := [d1, d2] }
  | _ => none }
def plantReplaysRow : OpenClaim := { program := "ytdpnpdjnaimgaaagreat", sum := "3b59c1214142943d9c9509cb2d3d40f934f967f898035c44827e6d541c9d2508", func := "sightbench/sightbenchlaw11.PlantReplays", spec := "plantReplays", inPlace := ["math/bits.Add64", "math/bits.Sub64", "slices.overlaps[int]"], unfollowed := true, recurses := true, named := ["math/bits.divideError", "math/bits.overflowError"], apart := false }
def PlantReplaysSaid : Prop := plantReplaysRow.holds Tryz.pinned (OpenSpec.ofChange plantReplaysSpec)

/-- ITS FALSE NEIGHBOUR: 'it returns false'. Refute it at one input. -/
def plantReplaysWrong : ChangeSpec := { name := "plantReplays", fn := fun _ => fun
  | [d1, d2] => { results := [.lit (.bool false)], args := [d1, d2] }
  | _ => none }
def PlantReplaysWrongFalsely : Prop := plantReplaysRow.holds Tryz.pinned (OpenSpec.ofChange plantReplaysWrong)

/-- 'sightbenchlaw11.PlantStops': WHATEVER THE INPUT: true; the input reads as it did. -/
def plantStopsSpec : ChangeSpec := { name := "plantStops", fn := fun _ => fun
  | [d1, d2, d3] => { results := [.lit (.bool true)], args := [d1, d2, d3] }
  | _ => none }
def plantStopsRow : OpenClaim := { program := "ytdpnpdjnaimgaaagreat", sum := "3b59c1214142943d9c9509cb2d3d40f934f967f898035c44827e6d541c9d2508", func := "sightbench/sightbenchlaw11.PlantStops", spec := "plantStops", inPlace := ["math/bits.Add64", "math/bits.Sub64", "slices.overlaps[int]"], unfollowed := true, recurses := true, named := ["math/bits.divideError", "math/bits.overflowError"], apart := false }
def PlantStopsSaid : Prop := plantStopsRow.holds Tryz.pinned (OpenSpec.ofChange plantStopsSpec)

/-- ITS FALSE NEIGHBOUR: 'it returns false'. Refute it at one input. -/
def plantStopsWrong : ChangeSpec := { name := "plantStops", fn := fun _ => fun
  | [d1, d2, d3] => { results := [.lit (.bool false)], args := [d1, d2, d3] }
  | _ => none }
def PlantStopsWrongFalsely : Prop := plantStopsRow.holds Tryz.pinned (OpenSpec.ofChange plantStopsWrong)

/-- 'sightbenchlaw11.PlantKeeps': WHATEVER THE INPUT: true; the input reads as it did. -/
def plantKeepsSpec : ChangeSpec := { name := "plantKeeps", fn := fun _ => fun
  | [d1, d2] => { results := [.lit (.bool true)], args := [d1, d2] }
  | _ => none }
def plantKeepsRow : OpenClaim := { program := "ytdpnpdjnaimgaaagreat", sum := "3b59c1214142943d9c9509cb2d3d40f934f967f898035c44827e6d541c9d2508", func := "sightbench/sightbenchlaw11.PlantKeeps", spec := "plantKeeps", inPlace := ["math/bits.Add64", "math/bits.Sub64", "slices.overlaps[int]"], unfollowed := true, recurses := true, named := ["math/bits.divideError", "math/bits.overflowError"], apart := false }
def PlantKeepsSaid : Prop := plantKeepsRow.holds Tryz.pinned (OpenSpec.ofChange plantKeepsSpec)

/-- ITS FALSE NEIGHBOUR: 'it returns false'. Refute it at one input. -/
def plantKeepsWrong : ChangeSpec := { name := "plantKeeps", fn := fun _ => fun
  | [d1, d2] => { results := [.lit (.bool false)], args := [d1, d2] }
  | _ => none }
def PlantKeepsWrongFalsely : Prop := plantKeepsRow.holds Tryz.pinned (OpenSpec.ofChange plantKeepsWrong)

/-- 'sightbenchlaw11.PlantCut': WHATEVER THE INPUT: true; the input reads as it did. -/
def plantCutSpec : ChangeSpec := { name := "plantCut", fn := fun _ => fun
  | [d1, d2] => { results := [.lit (.bool true)], args := [d1, d2] }
  | _ => none }
def plantCutRow : OpenClaim := { program := "ytdpnpdjnaimgaaagreat", sum := "3b59c1214142943d9c9509cb2d3d40f934f967f898035c44827e6d541c9d2508", func := "sightbench/sightbenchlaw11.PlantCut", spec := "plantCut", inPlace := ["math/bits.Add64", "math/bits.Sub64", "slices.overlaps[int]"], unfollowed := true, recurses := true, named := ["math/bits.divideError", "math/bits.overflowError"], apart := false }
def PlantCutSaid : Prop := plantCutRow.holds Tryz.pinned (OpenSpec.ofChange plantCutSpec)

/-- ITS FALSE NEIGHBOUR: 'it returns false'. Refute it at one input. -/
def plantCutWrong : ChangeSpec := { name := "plantCut", fn := fun _ => fun
  | [d1, d2] => { results := [.lit (.bool false)], args := [d1, d2] }
  | _ => none }
def PlantCutWrongFalsely : Prop := plantCutRow.holds Tryz.pinned (OpenSpec.ofChange plantCutWrong)

/- THE SECOND FORM. 'bulk': how many values and letters a reading holds, each counted each time it is reached (what is shared counts as often as it is met; a slice's spare places count too). A statement '..UptoSaid' is the law's where the arguments, and the package variables that the reading takes, are together of bulk at most 1048576: NARROWER than '..Said'. Prove '..Said' where nothing that the law and all that it calls make is longer than what came in: it says more and counts as full. Else prove '..UptoSaid'. A law counts once. -/
mutual
def uptoBulk {H : Type} : DataW H → Nat
  | .lit (.string bytes) => bytes.length + 1
  | .lit _ => 1
  | .nil => 1
  | .ptr d => uptoBulk d + 1
  | .slice elems spare => uptoBulkAll elems + uptoBulkAll spare + 1
  | .agg parts => uptoBulkAll parts + 1
  | .iface _ d => uptoBulk d + 1
  | .map entries => uptoBulkEntries entries + 1
  | .held _ => 1
def uptoBulkAll {H : Type} : List (DataW H) → Nat
  | [] => 0
  | d :: r => uptoBulk d + uptoBulkAll r
def uptoBulkEntries {H : Type} : List (Lit × DataW H) → Nat
  | [] => 0
  | x :: r => uptoBulkEntry x + uptoBulkEntries r
def uptoBulkEntry {H : Type} : Lit × DataW H → Nat
  | (.string bytes, d) => bytes.length + uptoBulk d + 1
  | (_, d) => uptoBulk d + 1
 end
def uptoSmall : (H : Type) → List (DataW H) → Bool := fun _ ds => decide (uptoBulkAll ds ≤ 1048576)
def OpenSpec.upto (s : _root_.Go.ChangeSpec) : _root_.Go.OpenSpec := { _root_.Go.OpenSpec.ofChange s with cond := some uptoSmall }

/-- 'sightbenchlaw11.PlantLines', WHERE WHAT IT READS IS OF BULK AT MOST 1048576: true; the input reads as it did. -/
def plantLinesUptoRow : OpenClaim := { program := "ytdpnpdjnaimgaaagreat", sum := "3b59c1214142943d9c9509cb2d3d40f934f967f898035c44827e6d541c9d2508", func := "sightbench/sightbenchlaw11.PlantLines", spec := "plantLines", inPlace := ["math/bits.Add64", "math/bits.Sub64"], unfollowed := true, recurses := true, named := ["math/bits.divideError", "math/bits.overflowError"], apart := false, narrowed := true }
def PlantLinesUptoSaid : Prop := plantLinesUptoRow.holds Tryz.pinned (OpenSpec.upto plantLinesSpec)

/-- 'sightbenchlaw11.PlantSteps', WHERE WHAT IT READS IS OF BULK AT MOST 1048576: true; the input reads as it did. -/
def plantStepsUptoRow : OpenClaim := { program := "ytdpnpdjnaimgaaagreat", sum := "3b59c1214142943d9c9509cb2d3d40f934f967f898035c44827e6d541c9d2508", func := "sightbench/sightbenchlaw11.PlantSteps", spec := "plantSteps", inPlace := ["math/bits.Add64", "math/bits.Sub64", "slices.overlaps[int]"], unfollowed := true, recurses := true, named := ["math/bits.divideError", "math/bits.overflowError"], apart := false, narrowed := true }
def PlantStepsUptoSaid : Prop := plantStepsUptoRow.holds Tryz.pinned (OpenSpec.upto plantStepsSpec)

/-- 'sightbenchlaw11.PlantExamples', WHERE WHAT IT READS IS OF BULK AT MOST 1048576: true; the input reads as it did. -/
def plantExamplesUptoRow : OpenClaim := { program := "ytdpnpdjnaimgaaagreat", sum := "3b59c1214142943d9c9509cb2d3d40f934f967f898035c44827e6d541c9d2508", func := "sightbench/sightbenchlaw11.PlantExamples", spec := "plantExamples", inPlace := ["math/bits.Add64", "math/bits.Sub64", "slices.overlaps[int]"], unfollowed := true, recurses := true, named := ["math/bits.divideError", "math/bits.overflowError"], apart := false, narrowed := true }
def PlantExamplesUptoSaid : Prop := plantExamplesUptoRow.holds Tryz.pinned (OpenSpec.upto plantExamplesSpec)

/-- 'sightbenchlaw11.PlantRuns', WHERE WHAT IT READS IS OF BULK AT MOST 1048576: true; the input reads as it did. -/
def plantRunsUptoRow : OpenClaim := { program := "ytdpnpdjnaimgaaagreat", sum := "3b59c1214142943d9c9509cb2d3d40f934f967f898035c44827e6d541c9d2508", func := "sightbench/sightbenchlaw11.PlantRuns", spec := "plantRuns", inPlace := ["math/bits.Add64", "math/bits.Sub64", "slices.overlaps[int]"], unfollowed := true, recurses := true, named := ["math/bits.divideError", "math/bits.overflowError"], apart := false, narrowed := true }
def PlantRunsUptoSaid : Prop := plantRunsUptoRow.holds Tryz.pinned (OpenSpec.upto plantRunsSpec)

/-- 'sightbenchlaw11.PlantNear', WHERE WHAT IT READS IS OF BULK AT MOST 1048576: true; the input reads as it did. -/
def plantNearUptoRow : OpenClaim := { program := "ytdpnpdjnaimgaaagreat", sum := "3b59c1214142943d9c9509cb2d3d40f934f967f898035c44827e6d541c9d2508", func := "sightbench/sightbenchlaw11.PlantNear", spec := "plantNear", inPlace := ["math/bits.Add64", "math/bits.Sub64", "slices.overlaps[int]"], unfollowed := true, recurses := true, named := ["math/bits.divideError", "math/bits.overflowError"], apart := false, narrowed := true }
def PlantNearUptoSaid : Prop := plantNearUptoRow.holds Tryz.pinned (OpenSpec.upto plantNearSpec)

/-- 'sightbenchlaw11.PlantTrue', WHERE WHAT IT READS IS OF BULK AT MOST 1048576: true; the input reads as it did. -/
def plantTrueUptoRow : OpenClaim := { program := "ytdpnpdjnaimgaaagreat", sum := "3b59c1214142943d9c9509cb2d3d40f934f967f898035c44827e6d541c9d2508", func := "sightbench/sightbenchlaw11.PlantTrue", spec := "plantTrue", inPlace := ["math/bits.Add64", "math/bits.Sub64", "slices.overlaps[int]"], unfollowed := true, recurses := true, named := ["math/bits.divideError", "math/bits.overflowError"], apart := false, narrowed := true }
def PlantTrueUptoSaid : Prop := plantTrueUptoRow.holds Tryz.pinned (OpenSpec.upto plantTrueSpec)

/-- 'sightbenchlaw11.PlantOnce', WHERE WHAT IT READS IS OF BULK AT MOST 1048576: true; the input reads as it did. -/
def plantOnceUptoRow : OpenClaim := { program := "ytdpnpdjnaimgaaagreat", sum := "3b59c1214142943d9c9509cb2d3d40f934f967f898035c44827e6d541c9d2508", func := "sightbench/sightbenchlaw11.PlantOnce", spec := "plantOnce", inPlace := ["math/bits.Add64", "math/bits.Sub64", "slices.overlaps[int]"], unfollowed := true, recurses := true, named := ["math/bits.divideError", "math/bits.overflowError"], apart := false, narrowed := true }
def PlantOnceUptoSaid : Prop := plantOnceUptoRow.holds Tryz.pinned (OpenSpec.upto plantOnceSpec)

/-- 'sightbenchlaw11.PlantRejects', WHERE WHAT IT READS IS OF BULK AT MOST 1048576: true; the input reads as it did. -/
def plantRejectsUptoRow : OpenClaim := { program := "ytdpnpdjnaimgaaagreat", sum := "3b59c1214142943d9c9509cb2d3d40f934f967f898035c44827e6d541c9d2508", func := "sightbench/sightbenchlaw11.PlantRejects", spec := "plantRejects", inPlace := ["math/bits.Add64", "math/bits.Sub64", "slices.overlaps[int]"], unfollowed := true, recurses := true, named := ["math/bits.divideError", "math/bits.overflowError"], apart := false, narrowed := true }
def PlantRejectsUptoSaid : Prop := plantRejectsUptoRow.holds Tryz.pinned (OpenSpec.upto plantRejectsSpec)

/-- 'sightbenchlaw11.PlantReplays', WHERE WHAT IT READS IS OF BULK AT MOST 1048576: true; the input reads as it did. -/
def plantReplaysUptoRow : OpenClaim := { program := "ytdpnpdjnaimgaaagreat", sum := "3b59c1214142943d9c9509cb2d3d40f934f967f898035c44827e6d541c9d2508", func := "sightbench/sightbenchlaw11.PlantReplays", spec := "plantReplays", inPlace := ["math/bits.Add64", "math/bits.Sub64", "slices.overlaps[int]"], unfollowed := true, recurses := true, named := ["math/bits.divideError", "math/bits.overflowError"], apart := false, narrowed := true }
def PlantReplaysUptoSaid : Prop := plantReplaysUptoRow.holds Tryz.pinned (OpenSpec.upto plantReplaysSpec)

/-- 'sightbenchlaw11.PlantStops', WHERE WHAT IT READS IS OF BULK AT MOST 1048576: true; the input reads as it did. -/
def plantStopsUptoRow : OpenClaim := { program := "ytdpnpdjnaimgaaagreat", sum := "3b59c1214142943d9c9509cb2d3d40f934f967f898035c44827e6d541c9d2508", func := "sightbench/sightbenchlaw11.PlantStops", spec := "plantStops", inPlace := ["math/bits.Add64", "math/bits.Sub64", "slices.overlaps[int]"], unfollowed := true, recurses := true, named := ["math/bits.divideError", "math/bits.overflowError"], apart := false, narrowed := true }
def PlantStopsUptoSaid : Prop := plantStopsUptoRow.holds Tryz.pinned (OpenSpec.upto plantStopsSpec)

/-- 'sightbenchlaw11.PlantKeeps', WHERE WHAT IT READS IS OF BULK AT MOST 1048576: true; the input reads as it did. -/
def plantKeepsUptoRow : OpenClaim := { program := "ytdpnpdjnaimgaaagreat", sum := "3b59c1214142943d9c9509cb2d3d40f934f967f898035c44827e6d541c9d2508", func := "sightbench/sightbenchlaw11.PlantKeeps", spec := "plantKeeps", inPlace := ["math/bits.Add64", "math/bits.Sub64", "slices.overlaps[int]"], unfollowed := true, recurses := true, named := ["math/bits.divideError", "math/bits.overflowError"], apart := false, narrowed := true }
def PlantKeepsUptoSaid : Prop := plantKeepsUptoRow.holds Tryz.pinned (OpenSpec.upto plantKeepsSpec)

/-- 'sightbenchlaw11.PlantCut', WHERE WHAT IT READS IS OF BULK AT MOST 1048576: true; the input reads as it did. -/
def plantCutUptoRow : OpenClaim := { program := "ytdpnpdjnaimgaaagreat", sum := "3b59c1214142943d9c9509cb2d3d40f934f967f898035c44827e6d541c9d2508", func := "sightbench/sightbenchlaw11.PlantCut", spec := "plantCut", inPlace := ["math/bits.Add64", "math/bits.Sub64", "slices.overlaps[int]"], unfollowed := true, recurses := true, named := ["math/bits.divideError", "math/bits.overflowError"], apart := false, narrowed := true }
def PlantCutUptoSaid : Prop := plantCutUptoRow.holds Tryz.pinned (OpenSpec.upto plantCutSpec)

end Rows
end Go.Proofs.YtdpnpdjnaimgaaaGreat
