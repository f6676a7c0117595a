/-
  No cell of these rows narrows 'for every input' (looked for: loops, veiled, ifaces, maps, wideKeys, modest, calm, conditions, laid).
  DERIVED. THE GIVEN ROWS OF THIS SEAT. 5 by the template 'for every input the law returns true; each argument reads behind the call as it read before'; 0 by the template 'total and deterministic' (their statements: YtanhmmiifbhcpaaTotals.lean).
  GIVEN WITH THE SEED: the statements are not yours to turn. If you find one false, say at which input.
  Laid BY PROGRAM, IN A SANDBOX (cutbox-rows.mjs): the forced cells as the released guide's own fill.sh prints them over the translation 7d1240e7cdfada40… (all of the seat's roots in one cut). By AI agents, Wed Nov 11 2026. No macro, syntax, notation, axiom, sorry.
-/
import Derived.Test.YtanhmmiifbhcpaaChecked
import GoSem.Claim
import GoSem.ClaimJoined
import GoSem.ClaimMapViews
import Derived.JoinedTies
import Derived.KernelRfl
namespace Go.Proofs.Ytanhmmiifbhcpaa
/- THE CELL 'sum', in the pinned program and in every row, IS THE sha256 OF THE DUMP (.gsa) THAT YtanhmmiifbhcpaaProg.lean LOADS. Nothing in Lean hashes anything: it is a label: what it is worth is what the hold of that sum in a sandbox is worth. -/
noncomputable def Try.pinned : Pinned := { name := "ytanhmmiifbhcpaa", sum := "7d1240e7cdfada405a6816c468fa8ddf145b466a4468352fd633c167a5f380d9", checked := Try.checked }
namespace Rows
def none {H : Type} : Left H := { results := [], args := [] }

/-- 'sightbenchlaw04.LensStripes': WHATEVER THE INPUT: true; the input reads as it did. -/
def lensStripesSpec : ChangeSpec := { name := "lensStripes", fn := fun _ => fun
  | [d1, d2, d3, d4] => { results := [.lit (.bool true)], args := [d1, d2, d3, d4] }
  | _ => none }
def lensStripesRow : OpenClaim := { program := "ytanhmmiifbhcpaa", sum := "7d1240e7cdfada405a6816c468fa8ddf145b466a4468352fd633c167a5f380d9", func := "sightbench/sightbenchlaw04.LensStripes", spec := "lensStripes", unfollowed := true, recurses := true, apart := false }
def LensStripesSaid : Prop := lensStripesRow.holds Try.pinned (OpenSpec.ofChange lensStripesSpec)

/-- ITS FALSE NEIGHBOUR: 'it returns false'. Refute it at one input. -/
def lensStripesWrong : ChangeSpec := { name := "lensStripes", fn := fun _ => fun
  | [d1, d2, d3, d4] => { results := [.lit (.bool false)], args := [d1, d2, d3, d4] }
  | _ => none }
def LensStripesWrongFalsely : Prop := lensStripesRow.holds Try.pinned (OpenSpec.ofChange lensStripesWrong)

/-- 'sightbenchlaw04.LensTables': WHATEVER THE INPUT: true; the input reads as it did. -/
def lensTablesSpec : ChangeSpec := { name := "lensTables", fn := fun _ => fun
  | [d1, d2, d3] => { results := [.lit (.bool true)], args := [d1, d2, d3] }
  | _ => none }
def lensTablesRow : OpenClaim := { program := "ytanhmmiifbhcpaa", sum := "7d1240e7cdfada405a6816c468fa8ddf145b466a4468352fd633c167a5f380d9", func := "sightbench/sightbenchlaw04.LensTables", spec := "lensTables", inPlace := ["math/bits.Add64", "math/bits.Sub64"], unfollowed := true, recurses := true, apart := false }
def LensTablesSaid : Prop := lensTablesRow.holds Try.pinned (OpenSpec.ofChange lensTablesSpec)

/-- ITS FALSE NEIGHBOUR: 'it returns false'. Refute it at one input. -/
def lensTablesWrong : ChangeSpec := { name := "lensTables", fn := fun _ => fun
  | [d1, d2, d3] => { results := [.lit (.bool false)], args := [d1, d2, d3] }
  | _ => none }
def LensTablesWrongFalsely : Prop := lensTablesRow.holds Try.pinned (OpenSpec.ofChange lensTablesWrong)

/-- 'sightbenchlaw04.LensCameras': WHATEVER THE INPUT: true; the input reads as it did. -/
def lensCamerasSpec : ChangeSpec := { name := "lensCameras", fn := fun _ => fun
  | [d1, d2, d3] => { results := [.lit (.bool true)], args := [d1, d2, d3] }
  | _ => none }
def lensCamerasRow : OpenClaim := { program := "ytanhmmiifbhcpaa", sum := "7d1240e7cdfada405a6816c468fa8ddf145b466a4468352fd633c167a5f380d9", func := "sightbench/sightbenchlaw04.LensCameras", spec := "lensCameras", inPlace := ["math/bits.Add64", "math/bits.Sub64"], unfollowed := true, recurses := true, apart := false }
def LensCamerasSaid : Prop := lensCamerasRow.holds Try.pinned (OpenSpec.ofChange lensCamerasSpec)

/-- ITS FALSE NEIGHBOUR: 'it returns false'. Refute it at one input. -/
def lensCamerasWrong : ChangeSpec := { name := "lensCameras", fn := fun _ => fun
  | [d1, d2, d3] => { results := [.lit (.bool false)], args := [d1, d2, d3] }
  | _ => none }
def LensCamerasWrongFalsely : Prop := lensCamerasRow.holds Try.pinned (OpenSpec.ofChange lensCamerasWrong)

/-- 'sightbenchlaw04.LensDepths': WHATEVER THE INPUT: true; the input reads as it did. -/
def lensDepthsSpec : ChangeSpec := { name := "lensDepths", fn := fun _ => fun
  | [d1, d2, d3, d4, d5] => { results := [.lit (.bool true)], args := [d1, d2, d3, d4, d5] }
  | _ => none }
def lensDepthsRow : OpenClaim := { program := "ytanhmmiifbhcpaa", sum := "7d1240e7cdfada405a6816c468fa8ddf145b466a4468352fd633c167a5f380d9", func := "sightbench/sightbenchlaw04.LensDepths", spec := "lensDepths", inPlace := ["math/bits.Add64", "math/bits.Sub64"], unfollowed := true, recurses := true, named := ["math/bits.divideError", "math/bits.overflowError"], apart := false }
def LensDepthsSaid : Prop := lensDepthsRow.holds Try.pinned (OpenSpec.ofChange lensDepthsSpec)

/-- ITS FALSE NEIGHBOUR: 'it returns false'. Refute it at one input. -/
def lensDepthsWrong : ChangeSpec := { name := "lensDepths", fn := fun _ => fun
  | [d1, d2, d3, d4, d5] => { results := [.lit (.bool false)], args := [d1, d2, d3, d4, d5] }
  | _ => none }
def LensDepthsWrongFalsely : Prop := lensDepthsRow.holds Try.pinned (OpenSpec.ofChange lensDepthsWrong)

/-- 'sightbenchlaw11.PlantSees': WHATEVER THE INPUT: true; the input reads as it did. -/
def plantSeesSpec : ChangeSpec := { name := "plantSees", fn := fun _ => fun
  | [d1, d2] => { results := [.lit (.bool true)], args := [d1, d2] }
  | _ => none }
def plantSeesRow : OpenClaim := { program := "ytanhmmiifbhcpaa", sum := "7d1240e7cdfada405a6816c468fa8ddf145b466a4468352fd633c167a5f380d9", func := "sightbench/sightbenchlaw11.PlantSees", spec := "plantSees", unfollowed := true, recurses := true, apart := false }
def PlantSeesSaid : Prop := plantSeesRow.holds Try.pinned (OpenSpec.ofChange plantSeesSpec)

/-- ITS FALSE NEIGHBOUR: 'it returns false'. Refute it at one input. -/
def plantSeesWrong : ChangeSpec := { name := "plantSees", fn := fun _ => fun
  | [d1, d2] => { results := [.lit (.bool false)], args := [d1, d2] }
  | _ => none }
def PlantSeesWrongFalsely : Prop := plantSeesRow.holds Try.pinned (OpenSpec.ofChange plantSeesWrong)

/- THE SECOND FORM. 'bulk': how many values and letters a reading holds, each counted each time it is reached (what is shared counts as often as it is met; a slice's spare places count too). A statement '..UptoSaid' is the law's where the arguments, and the package variables that the reading takes, are together of bulk at most 1048576: NARROWER than '..Said'. Prove '..Said' where nothing that the law and all that it calls make is longer than what came in: it says more and counts as full. Else prove '..UptoSaid'. A law counts once. -/
mutual
def uptoBulk {H : Type} : DataW H → Nat
  | .lit (.string bytes) => bytes.length + 1
  | .lit _ => 1
  | .nil => 1
  | .ptr d => uptoBulk d + 1
  | .slice elems spare => uptoBulkAll elems + uptoBulkAll spare + 1
  | .agg parts => uptoBulkAll parts + 1
  | .iface _ d => uptoBulk d + 1
  | .map entries => uptoBulkEntries entries + 1
  | .held _ => 1
def uptoBulkAll {H : Type} : List (DataW H) → Nat
  | [] => 0
  | d :: r => uptoBulk d + uptoBulkAll r
def uptoBulkEntries {H : Type} : List (Lit × DataW H) → Nat
  | [] => 0
  | x :: r => uptoBulkEntry x + uptoBulkEntries r
def uptoBulkEntry {H : Type} : Lit × DataW H → Nat
  | (.string bytes, d) => bytes.length + uptoBulk d + 1
  | (_, d) => uptoBulk d + 1
 end
def uptoSmall : (H : Type) → List (DataW H) → Bool := fun _ ds => decide (uptoBulkAll ds ≤ 1048576)
def OpenSpec.upto (s : _root_.Go.ChangeSpec) : _root_.Go.OpenSpec := { _root_.Go.OpenSpec.ofChange s with cond := some uptoSmall }

/-- 'sightbenchlaw04.LensStripes', WHERE WHAT IT READS IS OF BULK AT MOST 1048576: true; the input reads as it did. -/
def lensStripesUptoRow : OpenClaim := { program := "ytanhmmiifbhcpaa", sum := "7d1240e7cdfada405a6816c468fa8ddf145b466a4468352fd633c167a5f380d9", func := "sightbench/sightbenchlaw04.LensStripes", spec := "lensStripes", unfollowed := true, recurses := true, apart := false, narrowed := true }
def LensStripesUptoSaid : Prop := lensStripesUptoRow.holds Try.pinned (OpenSpec.upto lensStripesSpec)

/-- 'sightbenchlaw04.LensTables', WHERE WHAT IT READS IS OF BULK AT MOST 1048576: true; the input reads as it did. -/
def lensTablesUptoRow : OpenClaim := { program := "ytanhmmiifbhcpaa", sum := "7d1240e7cdfada405a6816c468fa8ddf145b466a4468352fd633c167a5f380d9", func := "sightbench/sightbenchlaw04.LensTables", spec := "lensTables", inPlace := ["math/bits.Add64", "math/bits.Sub64"], unfollowed := true, recurses := true, apart := false, narrowed := true }
def LensTablesUptoSaid : Prop := lensTablesUptoRow.holds Try.pinned (OpenSpec.upto lensTablesSpec)

/-- 'sightbenchlaw04.LensCameras', WHERE WHAT IT READS IS OF BULK AT MOST 1048576: true; the input reads as it did. -/
def lensCamerasUptoRow : OpenClaim := { program := "ytanhmmiifbhcpaa", sum := "7d1240e7cdfada405a6816c468fa8ddf145b466a4468352fd633c167a5f380d9", func := "sightbench/sightbenchlaw04.LensCameras", spec := "lensCameras", inPlace := ["math/bits.Add64", "math/bits.Sub64"], unfollowed := true, recurses := true, apart := false, narrowed := true }
def LensCamerasUptoSaid : Prop := lensCamerasUptoRow.holds Try.pinned (OpenSpec.upto lensCamerasSpec)

/-- 'sightbenchlaw04.LensDepths', WHERE WHAT IT READS IS OF BULK AT MOST 1048576: true; the input reads as it did. -/
def lensDepthsUptoRow : OpenClaim := { program := "ytanhmmiifbhcpaa", sum := "7d1240e7cdfada405a6816c468fa8ddf145b466a4468352fd633c167a5f380d9", func := "sightbench/sightbenchlaw04.LensDepths", spec := "lensDepths", inPlace := ["math/bits.Add64", "math/bits.Sub64"], unfollowed := true, recurses := true, named := ["math/bits.divideError", "math/bits.overflowError"], apart := false, narrowed := true }
def LensDepthsUptoSaid : Prop := lensDepthsUptoRow.holds Try.pinned (OpenSpec.upto lensDepthsSpec)

/-- 'sightbenchlaw11.PlantSees', WHERE WHAT IT READS IS OF BULK AT MOST 1048576: true; the input reads as it did. -/
def plantSeesUptoRow : OpenClaim := { program := "ytanhmmiifbhcpaa", sum := "7d1240e7cdfada405a6816c468fa8ddf145b466a4468352fd633c167a5f380d9", func := "sightbench/sightbenchlaw11.PlantSees", spec := "plantSees", unfollowed := true, recurses := true, apart := false, narrowed := true }
def PlantSeesUptoSaid : Prop := plantSeesUptoRow.holds Try.pinned (OpenSpec.upto plantSeesSpec)

end Rows
end Go.Proofs.Ytanhmmiifbhcpaa
