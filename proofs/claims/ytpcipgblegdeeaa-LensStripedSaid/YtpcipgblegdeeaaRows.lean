/-
  No cell of these rows narrows 'for every input' (looked for: loops, veiled, ifaces, maps, wideKeys, modest, calm, conditions, laid).
  DERIVED. THE GIVEN ROWS OF THIS SEAT. 12 by the template 'for every input the law returns true; each argument reads behind the call as it read before'; 0 by the template 'total and deterministic' (their statements: YtpcipgblegdeeaaTotals.lean).
  GIVEN WITH THE SEED: the statements are not yours to turn. If you find one false, say at which input.
  Laid BY PROGRAM, IN A SANDBOX (cutbox-rows.mjs): the forced cells as the released guide's own fill.sh prints them over the translation 9fde85540572e898… (all of the seat's roots in one cut). By AI agents, Wed Nov 11 2026. No macro, syntax, notation, axiom, sorry.
-/
import Derived.Test.YtpcipgblegdeeaaChecked
import GoSem.Claim
import GoSem.ClaimJoined
import GoSem.ClaimMapViews
import Derived.JoinedTies
import Derived.KernelRfl
namespace Go.Proofs.Ytpcipgblegdeeaa
/- THE CELL 'sum', in the pinned program and in every row, IS THE sha256 OF THE DUMP (.gsa) THAT YtpcipgblegdeeaaProg.lean LOADS. Nothing in Lean hashes anything: it is a label: what it is worth is what the hold of that sum in a sandbox is worth. -/
noncomputable def Try.pinned : Pinned := { name := "ytpcipgblegdeeaa", sum := "9fde85540572e898c739b4f8dac8417ab75cdaf6f98ff6baa6aa1438eedea81d", checked := Try.checked }
namespace Rows
def none {H : Type} : Left H := { results := [], args := [] }

/-- 'sightbenchlaw05.GaugeBright': WHATEVER THE INPUT: true; the input reads as it did. -/
def gaugeBrightSpec : ChangeSpec := { name := "gaugeBright", fn := fun _ => fun
  | [d1, d2, d3] => { results := [.lit (.bool true)], args := [d1, d2, d3] }
  | _ => none }
def gaugeBrightRow : OpenClaim := { program := "ytpcipgblegdeeaa", sum := "9fde85540572e898c739b4f8dac8417ab75cdaf6f98ff6baa6aa1438eedea81d", func := "sightbench/sightbenchlaw05.GaugeBright", spec := "gaugeBright", inPlace := ["math/bits.Add64", "math/bits.Sub64"], unfollowed := true, recurses := true, named := ["math/bits.divideError", "math/bits.overflowError"], apart := false }
def GaugeBrightSaid : Prop := gaugeBrightRow.holds Try.pinned (OpenSpec.ofChange gaugeBrightSpec)

/-- ITS FALSE NEIGHBOUR: 'it returns false'. Refute it at one input. -/
def gaugeBrightWrong : ChangeSpec := { name := "gaugeBright", fn := fun _ => fun
  | [d1, d2, d3] => { results := [.lit (.bool false)], args := [d1, d2, d3] }
  | _ => none }
def GaugeBrightWrongFalsely : Prop := gaugeBrightRow.holds Try.pinned (OpenSpec.ofChange gaugeBrightWrong)

/-- 'sightbenchlaw05.GaugeExamples': WHATEVER THE INPUT: true; the input reads as it did. -/
def gaugeExamplesSpec : ChangeSpec := { name := "gaugeExamples", fn := fun _ => fun
  | [] => { results := [.lit (.bool true)], args := [] }
  | _ => none }
def gaugeExamplesRow : OpenClaim := { program := "ytpcipgblegdeeaa", sum := "9fde85540572e898c739b4f8dac8417ab75cdaf6f98ff6baa6aa1438eedea81d", func := "sightbench/sightbenchlaw05.GaugeExamples", spec := "gaugeExamples", inPlace := ["math/bits.Add64", "math/bits.Sub64"], unfollowed := true, recurses := true, named := ["math/bits.divideError", "math/bits.overflowError"], apart := false }
def GaugeExamplesSaid : Prop := gaugeExamplesRow.holds Try.pinned (OpenSpec.ofChange gaugeExamplesSpec)

/-- ITS FALSE NEIGHBOUR: 'it returns false'. Refute it at one input. -/
def gaugeExamplesWrong : ChangeSpec := { name := "gaugeExamples", fn := fun _ => fun
  | [] => { results := [.lit (.bool false)], args := [] }
  | _ => none }
def GaugeExamplesWrongFalsely : Prop := gaugeExamplesRow.holds Try.pinned (OpenSpec.ofChange gaugeExamplesWrong)

/-- 'sightbenchlaw05.GaugeMeets': WHATEVER THE INPUT: true; the input reads as it did. -/
def gaugeMeetsSpec : ChangeSpec := { name := "gaugeMeets", fn := fun _ => fun
  | [d1, d2, d3] => { results := [.lit (.bool true)], args := [d1, d2, d3] }
  | _ => none }
def gaugeMeetsRow : OpenClaim := { program := "ytpcipgblegdeeaa", sum := "9fde85540572e898c739b4f8dac8417ab75cdaf6f98ff6baa6aa1438eedea81d", func := "sightbench/sightbenchlaw05.GaugeMeets", spec := "gaugeMeets", inPlace := ["math/bits.Add64", "math/bits.Sub64"], unfollowed := true, recurses := true, named := ["math/bits.divideError", "math/bits.overflowError"], apart := false }
def GaugeMeetsSaid : Prop := gaugeMeetsRow.holds Try.pinned (OpenSpec.ofChange gaugeMeetsSpec)

/-- ITS FALSE NEIGHBOUR: 'it returns false'. Refute it at one input. -/
def gaugeMeetsWrong : ChangeSpec := { name := "gaugeMeets", fn := fun _ => fun
  | [d1, d2, d3] => { results := [.lit (.bool false)], args := [d1, d2, d3] }
  | _ => none }
def GaugeMeetsWrongFalsely : Prop := gaugeMeetsRow.holds Try.pinned (OpenSpec.ofChange gaugeMeetsWrong)

/-- 'sightbenchlaw04.LensInverse': WHATEVER THE INPUT: true; the input reads as it did. -/
def lensInverseSpec : ChangeSpec := { name := "lensInverse", fn := fun _ => fun
  | [d1, d2, d3] => { results := [.lit (.bool true)], args := [d1, d2, d3] }
  | _ => none }
def lensInverseRow : OpenClaim := { program := "ytpcipgblegdeeaa", sum := "9fde85540572e898c739b4f8dac8417ab75cdaf6f98ff6baa6aa1438eedea81d", func := "sightbench/sightbenchlaw04.LensInverse", spec := "lensInverse", inPlace := ["math/bits.Add64", "math/bits.Sub64"], unfollowed := true, recurses := true, named := ["math/bits.divideError", "math/bits.overflowError"], apart := false }
def LensInverseSaid : Prop := lensInverseRow.holds Try.pinned (OpenSpec.ofChange lensInverseSpec)

/-- ITS FALSE NEIGHBOUR: 'it returns false'. Refute it at one input. -/
def lensInverseWrong : ChangeSpec := { name := "lensInverse", fn := fun _ => fun
  | [d1, d2, d3] => { results := [.lit (.bool false)], args := [d1, d2, d3] }
  | _ => none }
def LensInverseWrongFalsely : Prop := lensInverseRow.holds Try.pinned (OpenSpec.ofChange lensInverseWrong)

/-- 'sightbenchlaw04.LensSees': WHATEVER THE INPUT: true; the input reads as it did. -/
def lensSeesSpec : ChangeSpec := { name := "lensSees", fn := fun _ => fun
  | [d1, d2, d3] => { results := [.lit (.bool true)], args := [d1, d2, d3] }
  | _ => none }
def lensSeesRow : OpenClaim := { program := "ytpcipgblegdeeaa", sum := "9fde85540572e898c739b4f8dac8417ab75cdaf6f98ff6baa6aa1438eedea81d", func := "sightbench/sightbenchlaw04.LensSees", spec := "lensSees", inPlace := ["math/bits.Add64", "math/bits.Sub64"], unfollowed := true, recurses := true, named := ["math/bits.divideError", "math/bits.overflowError"], apart := false }
def LensSeesSaid : Prop := lensSeesRow.holds Try.pinned (OpenSpec.ofChange lensSeesSpec)

/-- ITS FALSE NEIGHBOUR: 'it returns false'. Refute it at one input. -/
def lensSeesWrong : ChangeSpec := { name := "lensSees", fn := fun _ => fun
  | [d1, d2, d3] => { results := [.lit (.bool false)], args := [d1, d2, d3] }
  | _ => none }
def LensSeesWrongFalsely : Prop := lensSeesRow.holds Try.pinned (OpenSpec.ofChange lensSeesWrong)

/-- 'sightbenchlaw04.LensGray': WHATEVER THE INPUT: true; the input reads as it did. -/
def lensGraySpec : ChangeSpec := { name := "lensGray", fn := fun _ => fun
  | [d1, d2] => { results := [.lit (.bool true)], args := [d1, d2] }
  | _ => none }
def lensGrayRow : OpenClaim := { program := "ytpcipgblegdeeaa", sum := "9fde85540572e898c739b4f8dac8417ab75cdaf6f98ff6baa6aa1438eedea81d", func := "sightbench/sightbenchlaw04.LensGray", spec := "lensGray", inPlace := ["math/bits.Add64", "math/bits.Sub64"], unfollowed := true, recurses := true, named := ["math/bits.divideError", "math/bits.overflowError"], apart := false }
def LensGraySaid : Prop := lensGrayRow.holds Try.pinned (OpenSpec.ofChange lensGraySpec)

/-- ITS FALSE NEIGHBOUR: 'it returns false'. Refute it at one input. -/
def lensGrayWrong : ChangeSpec := { name := "lensGray", fn := fun _ => fun
  | [d1, d2] => { results := [.lit (.bool false)], args := [d1, d2] }
  | _ => none }
def LensGrayWrongFalsely : Prop := lensGrayRow.holds Try.pinned (OpenSpec.ofChange lensGrayWrong)

/-- 'sightbenchlaw04.LensStriped': WHATEVER THE INPUT: true; the input reads as it did. -/
def lensStripedSpec : ChangeSpec := { name := "lensStriped", fn := fun _ => fun
  | [d1, d2, d3, d4, d5] => { results := [.lit (.bool true)], args := [d1, d2, d3, d4, d5] }
  | _ => none }
def lensStripedRow : OpenClaim := { program := "ytpcipgblegdeeaa", sum := "9fde85540572e898c739b4f8dac8417ab75cdaf6f98ff6baa6aa1438eedea81d", func := "sightbench/sightbenchlaw04.LensStriped", spec := "lensStriped", inPlace := ["math/bits.Add64", "math/bits.Sub64"], unfollowed := true, recurses := true, named := ["math/bits.divideError", "math/bits.overflowError"], apart := false }
def LensStripedSaid : Prop := lensStripedRow.holds Try.pinned (OpenSpec.ofChange lensStripedSpec)

/-- ITS FALSE NEIGHBOUR: 'it returns false'. Refute it at one input. -/
def lensStripedWrong : ChangeSpec := { name := "lensStriped", fn := fun _ => fun
  | [d1, d2, d3, d4, d5] => { results := [.lit (.bool false)], args := [d1, d2, d3, d4, d5] }
  | _ => none }
def LensStripedWrongFalsely : Prop := lensStripedRow.holds Try.pinned (OpenSpec.ofChange lensStripedWrong)

/-- 'sightbenchlaw04.LensDeep': WHATEVER THE INPUT: true; the input reads as it did. -/
def lensDeepSpec : ChangeSpec := { name := "lensDeep", fn := fun _ => fun
  | [d1, d2, d3, d4, d5, d6] => { results := [.lit (.bool true)], args := [d1, d2, d3, d4, d5, d6] }
  | _ => none }
def lensDeepRow : OpenClaim := { program := "ytpcipgblegdeeaa", sum := "9fde85540572e898c739b4f8dac8417ab75cdaf6f98ff6baa6aa1438eedea81d", func := "sightbench/sightbenchlaw04.LensDeep", spec := "lensDeep", inPlace := ["math/bits.Add64", "math/bits.Sub64"], unfollowed := true, recurses := true, named := ["math/bits.divideError", "math/bits.overflowError"], apart := false }
def LensDeepSaid : Prop := lensDeepRow.holds Try.pinned (OpenSpec.ofChange lensDeepSpec)

/-- ITS FALSE NEIGHBOUR: 'it returns false'. Refute it at one input. -/
def lensDeepWrong : ChangeSpec := { name := "lensDeep", fn := fun _ => fun
  | [d1, d2, d3, d4, d5, d6] => { results := [.lit (.bool false)], args := [d1, d2, d3, d4, d5, d6] }
  | _ => none }
def LensDeepWrongFalsely : Prop := lensDeepRow.holds Try.pinned (OpenSpec.ofChange lensDeepWrong)

/-- 'sightbenchlaw04.LensSpans': WHATEVER THE INPUT: true; the input reads as it did. -/
def lensSpansSpec : ChangeSpec := { name := "lensSpans", fn := fun _ => fun
  | [d1, d2, d3] => { results := [.lit (.bool true)], args := [d1, d2, d3] }
  | _ => none }
def lensSpansRow : OpenClaim := { program := "ytpcipgblegdeeaa", sum := "9fde85540572e898c739b4f8dac8417ab75cdaf6f98ff6baa6aa1438eedea81d", func := "sightbench/sightbenchlaw04.LensSpans", spec := "lensSpans", inPlace := ["math/bits.Add64", "math/bits.Sub64"], unfollowed := true, recurses := true, named := ["math/bits.divideError", "math/bits.overflowError"], apart := false }
def LensSpansSaid : Prop := lensSpansRow.holds Try.pinned (OpenSpec.ofChange lensSpansSpec)

/-- ITS FALSE NEIGHBOUR: 'it returns false'. Refute it at one input. -/
def lensSpansWrong : ChangeSpec := { name := "lensSpans", fn := fun _ => fun
  | [d1, d2, d3] => { results := [.lit (.bool false)], args := [d1, d2, d3] }
  | _ => none }
def LensSpansWrongFalsely : Prop := lensSpansRow.holds Try.pinned (OpenSpec.ofChange lensSpansWrong)

/-- 'sightbenchlaw04.LensExamples': WHATEVER THE INPUT: true; the input reads as it did. -/
def lensExamplesSpec : ChangeSpec := { name := "lensExamples", fn := fun _ => fun
  | [] => { results := [.lit (.bool true)], args := [] }
  | _ => none }
def lensExamplesRow : OpenClaim := { program := "ytpcipgblegdeeaa", sum := "9fde85540572e898c739b4f8dac8417ab75cdaf6f98ff6baa6aa1438eedea81d", func := "sightbench/sightbenchlaw04.LensExamples", spec := "lensExamples", inPlace := ["math/bits.Add64", "math/bits.Sub64"], unfollowed := true, recurses := true, named := ["math/bits.divideError", "math/bits.overflowError"], apart := false }
def LensExamplesSaid : Prop := lensExamplesRow.holds Try.pinned (OpenSpec.ofChange lensExamplesSpec)

/-- ITS FALSE NEIGHBOUR: 'it returns false'. Refute it at one input. -/
def lensExamplesWrong : ChangeSpec := { name := "lensExamples", fn := fun _ => fun
  | [] => { results := [.lit (.bool false)], args := [] }
  | _ => none }
def LensExamplesWrongFalsely : Prop := lensExamplesRow.holds Try.pinned (OpenSpec.ofChange lensExamplesWrong)

/-- 'sightbenchlaw04.LensBad': WHATEVER THE INPUT: true; the input reads as it did. -/
def lensBadSpec : ChangeSpec := { name := "lensBad", fn := fun _ => fun
  | [d] => { results := [.lit (.bool true)], args := [d] }
  | _ => none }
def lensBadRow : OpenClaim := { program := "ytpcipgblegdeeaa", sum := "9fde85540572e898c739b4f8dac8417ab75cdaf6f98ff6baa6aa1438eedea81d", func := "sightbench/sightbenchlaw04.LensBad", spec := "lensBad", inPlace := ["math/bits.Add64", "math/bits.Sub64"], unfollowed := true, recurses := true, named := ["math/bits.divideError", "math/bits.overflowError"], apart := false }
def LensBadSaid : Prop := lensBadRow.holds Try.pinned (OpenSpec.ofChange lensBadSpec)

/-- ITS FALSE NEIGHBOUR: 'it returns false'. Refute it at one input. -/
def lensBadWrong : ChangeSpec := { name := "lensBad", fn := fun _ => fun
  | [d] => { results := [.lit (.bool false)], args := [d] }
  | _ => none }
def LensBadWrongFalsely : Prop := lensBadRow.holds Try.pinned (OpenSpec.ofChange lensBadWrong)

/-- 'sightbenchlaw04.LensFewer': WHATEVER THE INPUT: true; the input reads as it did. -/
def lensFewerSpec : ChangeSpec := { name := "lensFewer", fn := fun _ => fun
  | [d1, d2, d3, d4] => { results := [.lit (.bool true)], args := [d1, d2, d3, d4] }
  | _ => none }
def lensFewerRow : OpenClaim := { program := "ytpcipgblegdeeaa", sum := "9fde85540572e898c739b4f8dac8417ab75cdaf6f98ff6baa6aa1438eedea81d", func := "sightbench/sightbenchlaw04.LensFewer", spec := "lensFewer", inPlace := ["math/bits.Add64", "math/bits.Sub64"], unfollowed := true, recurses := true, named := ["math/bits.divideError", "math/bits.overflowError"], apart := false }
def LensFewerSaid : Prop := lensFewerRow.holds Try.pinned (OpenSpec.ofChange lensFewerSpec)

/-- ITS FALSE NEIGHBOUR: 'it returns false'. Refute it at one input. -/
def lensFewerWrong : ChangeSpec := { name := "lensFewer", fn := fun _ => fun
  | [d1, d2, d3, d4] => { results := [.lit (.bool false)], args := [d1, d2, d3, d4] }
  | _ => none }
def LensFewerWrongFalsely : Prop := lensFewerRow.holds Try.pinned (OpenSpec.ofChange lensFewerWrong)

/- THE SECOND FORM. 'bulk': how many values and letters a reading holds, each counted each time it is reached (what is shared counts as often as it is met; a slice's spare places count too). A statement '..UptoSaid' is the law's where the arguments, and the package variables that the reading takes, are together of bulk at most 1048576: NARROWER than '..Said'. Prove '..Said' where nothing that the law and all that it calls make is longer than what came in: it says more and counts as full. Else prove '..UptoSaid'. A law counts once. -/
mutual
def uptoBulk {H : Type} : DataW H → Nat
  | .lit (.string bytes) => bytes.length + 1
  | .lit _ => 1
  | .nil => 1
  | .ptr d => uptoBulk d + 1
  | .slice elems spare => uptoBulkAll elems + uptoBulkAll spare + 1
  | .agg parts => uptoBulkAll parts + 1
  | .iface _ d => uptoBulk d + 1
  | .map entries => uptoBulkEntries entries + 1
  | .held _ => 1
def uptoBulkAll {H : Type} : List (DataW H) → Nat
  | [] => 0
  | d :: r => uptoBulk d + uptoBulkAll r
def uptoBulkEntries {H : Type} : List (Lit × DataW H) → Nat
  | [] => 0
  | x :: r => uptoBulkEntry x + uptoBulkEntries r
def uptoBulkEntry {H : Type} : Lit × DataW H → Nat
  | (.string bytes, d) => bytes.length + uptoBulk d + 1
  | (_, d) => uptoBulk d + 1
 end
def uptoSmall : (H : Type) → List (DataW H) → Bool := fun _ ds => decide (uptoBulkAll ds ≤ 1048576)
def OpenSpec.upto (s : _root_.Go.ChangeSpec) : _root_.Go.OpenSpec := { _root_.Go.OpenSpec.ofChange s with cond := some uptoSmall }

/-- 'sightbenchlaw05.GaugeBright', WHERE WHAT IT READS IS OF BULK AT MOST 1048576: true; the input reads as it did. -/
def gaugeBrightUptoRow : OpenClaim := { program := "ytpcipgblegdeeaa", sum := "9fde85540572e898c739b4f8dac8417ab75cdaf6f98ff6baa6aa1438eedea81d", func := "sightbench/sightbenchlaw05.GaugeBright", spec := "gaugeBright", inPlace := ["math/bits.Add64", "math/bits.Sub64"], unfollowed := true, recurses := true, named := ["math/bits.divideError", "math/bits.overflowError"], apart := false, narrowed := true }
def GaugeBrightUptoSaid : Prop := gaugeBrightUptoRow.holds Try.pinned (OpenSpec.upto gaugeBrightSpec)

/-- 'sightbenchlaw05.GaugeExamples', WHERE WHAT IT READS IS OF BULK AT MOST 1048576: true; the input reads as it did. -/
def gaugeExamplesUptoRow : OpenClaim := { program := "ytpcipgblegdeeaa", sum := "9fde85540572e898c739b4f8dac8417ab75cdaf6f98ff6baa6aa1438eedea81d", func := "sightbench/sightbenchlaw05.GaugeExamples", spec := "gaugeExamples", inPlace := ["math/bits.Add64", "math/bits.Sub64"], unfollowed := true, recurses := true, named := ["math/bits.divideError", "math/bits.overflowError"], apart := false, narrowed := true }
def GaugeExamplesUptoSaid : Prop := gaugeExamplesUptoRow.holds Try.pinned (OpenSpec.upto gaugeExamplesSpec)

/-- 'sightbenchlaw05.GaugeMeets', WHERE WHAT IT READS IS OF BULK AT MOST 1048576: true; the input reads as it did. -/
def gaugeMeetsUptoRow : OpenClaim := { program := "ytpcipgblegdeeaa", sum := "9fde85540572e898c739b4f8dac8417ab75cdaf6f98ff6baa6aa1438eedea81d", func := "sightbench/sightbenchlaw05.GaugeMeets", spec := "gaugeMeets", inPlace := ["math/bits.Add64", "math/bits.Sub64"], unfollowed := true, recurses := true, named := ["math/bits.divideError", "math/bits.overflowError"], apart := false, narrowed := true }
def GaugeMeetsUptoSaid : Prop := gaugeMeetsUptoRow.holds Try.pinned (OpenSpec.upto gaugeMeetsSpec)

/-- 'sightbenchlaw04.LensInverse', WHERE WHAT IT READS IS OF BULK AT MOST 1048576: true; the input reads as it did. -/
def lensInverseUptoRow : OpenClaim := { program := "ytpcipgblegdeeaa", sum := "9fde85540572e898c739b4f8dac8417ab75cdaf6f98ff6baa6aa1438eedea81d", func := "sightbench/sightbenchlaw04.LensInverse", spec := "lensInverse", inPlace := ["math/bits.Add64", "math/bits.Sub64"], unfollowed := true, recurses := true, named := ["math/bits.divideError", "math/bits.overflowError"], apart := false, narrowed := true }
def LensInverseUptoSaid : Prop := lensInverseUptoRow.holds Try.pinned (OpenSpec.upto lensInverseSpec)

/-- 'sightbenchlaw04.LensSees', WHERE WHAT IT READS IS OF BULK AT MOST 1048576: true; the input reads as it did. -/
def lensSeesUptoRow : OpenClaim := { program := "ytpcipgblegdeeaa", sum := "9fde85540572e898c739b4f8dac8417ab75cdaf6f98ff6baa6aa1438eedea81d", func := "sightbench/sightbenchlaw04.LensSees", spec := "lensSees", inPlace := ["math/bits.Add64", "math/bits.Sub64"], unfollowed := true, recurses := true, named := ["math/bits.divideError", "math/bits.overflowError"], apart := false, narrowed := true }
def LensSeesUptoSaid : Prop := lensSeesUptoRow.holds Try.pinned (OpenSpec.upto lensSeesSpec)

/-- 'sightbenchlaw04.LensGray', WHERE WHAT IT READS IS OF BULK AT MOST 1048576: true; the input reads as it did. -/
def lensGrayUptoRow : OpenClaim := { program := "ytpcipgblegdeeaa", sum := "9fde85540572e898c739b4f8dac8417ab75cdaf6f98ff6baa6aa1438eedea81d", func := "sightbench/sightbenchlaw04.LensGray", spec := "lensGray", inPlace := ["math/bits.Add64", "math/bits.Sub64"], unfollowed := true, recurses := true, named := ["math/bits.divideError", "math/bits.overflowError"], apart := false, narrowed := true }
def LensGrayUptoSaid : Prop := lensGrayUptoRow.holds Try.pinned (OpenSpec.upto lensGraySpec)

/-- 'sightbenchlaw04.LensStriped', WHERE WHAT IT READS IS OF BULK AT MOST 1048576: true; the input reads as it did. -/
def lensStripedUptoRow : OpenClaim := { program := "ytpcipgblegdeeaa", sum := "9fde85540572e898c739b4f8dac8417ab75cdaf6f98ff6baa6aa1438eedea81d", func := "sightbench/sightbenchlaw04.LensStriped", spec := "lensStriped", inPlace := ["math/bits.Add64", "math/bits.Sub64"], unfollowed := true, recurses := true, named := ["math/bits.divideError", "math/bits.overflowError"], apart := false, narrowed := true }
def LensStripedUptoSaid : Prop := lensStripedUptoRow.holds Try.pinned (OpenSpec.upto lensStripedSpec)

/-- 'sightbenchlaw04.LensDeep', WHERE WHAT IT READS IS OF BULK AT MOST 1048576: true; the input reads as it did. -/
def lensDeepUptoRow : OpenClaim := { program := "ytpcipgblegdeeaa", sum := "9fde85540572e898c739b4f8dac8417ab75cdaf6f98ff6baa6aa1438eedea81d", func := "sightbench/sightbenchlaw04.LensDeep", spec := "lensDeep", inPlace := ["math/bits.Add64", "math/bits.Sub64"], unfollowed := true, recurses := true, named := ["math/bits.divideError", "math/bits.overflowError"], apart := false, narrowed := true }
def LensDeepUptoSaid : Prop := lensDeepUptoRow.holds Try.pinned (OpenSpec.upto lensDeepSpec)

/-- 'sightbenchlaw04.LensSpans', WHERE WHAT IT READS IS OF BULK AT MOST 1048576: true; the input reads as it did. -/
def lensSpansUptoRow : OpenClaim := { program := "ytpcipgblegdeeaa", sum := "9fde85540572e898c739b4f8dac8417ab75cdaf6f98ff6baa6aa1438eedea81d", func := "sightbench/sightbenchlaw04.LensSpans", spec := "lensSpans", inPlace := ["math/bits.Add64", "math/bits.Sub64"], unfollowed := true, recurses := true, named := ["math/bits.divideError", "math/bits.overflowError"], apart := false, narrowed := true }
def LensSpansUptoSaid : Prop := lensSpansUptoRow.holds Try.pinned (OpenSpec.upto lensSpansSpec)

/-- 'sightbenchlaw04.LensExamples', WHERE WHAT IT READS IS OF BULK AT MOST 1048576: true; the input reads as it did. -/
def lensExamplesUptoRow : OpenClaim := { program := "ytpcipgblegdeeaa", sum := "9fde85540572e898c739b4f8dac8417ab75cdaf6f98ff6baa6aa1438eedea81d", func := "sightbench/sightbenchlaw04.LensExamples", spec := "lensExamples", inPlace := ["math/bits.Add64", "math/bits.Sub64"], unfollowed := true, recurses := true, named := ["math/bits.divideError", "math/bits.overflowError"], apart := false, narrowed := true }
def LensExamplesUptoSaid : Prop := lensExamplesUptoRow.holds Try.pinned (OpenSpec.upto lensExamplesSpec)

/-- 'sightbenchlaw04.LensBad', WHERE WHAT IT READS IS OF BULK AT MOST 1048576: true; the input reads as it did. -/
def lensBadUptoRow : OpenClaim := { program := "ytpcipgblegdeeaa", sum := "9fde85540572e898c739b4f8dac8417ab75cdaf6f98ff6baa6aa1438eedea81d", func := "sightbench/sightbenchlaw04.LensBad", spec := "lensBad", inPlace := ["math/bits.Add64", "math/bits.Sub64"], unfollowed := true, recurses := true, named := ["math/bits.divideError", "math/bits.overflowError"], apart := false, narrowed := true }
def LensBadUptoSaid : Prop := lensBadUptoRow.holds Try.pinned (OpenSpec.upto lensBadSpec)

/-- 'sightbenchlaw04.LensFewer', WHERE WHAT IT READS IS OF BULK AT MOST 1048576: true; the input reads as it did. -/
def lensFewerUptoRow : OpenClaim := { program := "ytpcipgblegdeeaa", sum := "9fde85540572e898c739b4f8dac8417ab75cdaf6f98ff6baa6aa1438eedea81d", func := "sightbench/sightbenchlaw04.LensFewer", spec := "lensFewer", inPlace := ["math/bits.Add64", "math/bits.Sub64"], unfollowed := true, recurses := true, named := ["math/bits.divideError", "math/bits.overflowError"], apart := false, narrowed := true }
def LensFewerUptoSaid : Prop := lensFewerUptoRow.holds Try.pinned (OpenSpec.upto lensFewerSpec)

end Rows
end Go.Proofs.Ytpcipgblegdeeaa
