/-
  No cell of these rows narrows 'for every input' (looked for: loops, veiled, ifaces, maps, wideKeys, modest, calm, conditions, laid).
  DERIVED. THE GIVEN ROWS OF THIS SEAT. 12 by the template 'for every input the law returns true; each argument reads behind the call as it read before'; 0 by the template 'total and deterministic' (their statements: YtnoahgjfeablgaaGreatTotals.lean).
  GIVEN WITH THE SEED: the statements are not yours to turn. If you find one false, say at which input.
  Laid BY PROGRAM, IN A SANDBOX (cutbox-rows.mjs): the forced cells as the released guide's own fill.sh prints them over the translation 2c2b169a90faaf04… (all of the seat's roots in one cut). By AI agents, Wed Nov 11 2026. No macro, syntax, notation, axiom, sorry.
-/
import Derived.Test.YtnoahgjfeablgaaGreatChecked
import GoSem.Claim
import GoSem.ClaimJoined
import GoSem.ClaimMapViews
import Derived.JoinedTies
import Derived.KernelRfl
namespace Go.Proofs.YtnoahgjfeablgaaGreat
/- THE CELL 'sum', in the pinned program and in every row, IS THE sha256 OF THE DUMP (.gsa) THAT YtnoahgjfeablgaaGreatProg.lean LOADS. Nothing in Lean hashes anything: it is a label: what it is worth is what the hold of that sum in a sandbox is worth. -/
noncomputable def Tryz.pinned : Pinned := { name := "ytnoahgjfeablgaagreat", sum := "2c2b169a90faaf0444b9fdcc24ef5c07d9ee67135bf4deef190de64362166be2", checked := Tryz.checked }
namespace Rows
def none {H : Type} : Left H := { results := [], args := [] }

/-- 'sightbenchlaw10.RecipeUsers': WHATEVER THE INPUT: true; the input reads as it did. -/
def recipeUsersSpec : ChangeSpec := { name := "recipeUsers", fn := fun _ => fun
  | [d1, d2, d3, d4] => { results := [.lit (.bool true)], args := [d1, d2, d3, d4] }
  | _ => none }
def recipeUsersRow : OpenClaim := { program := "ytnoahgjfeablgaagreat", sum := "2c2b169a90faaf0444b9fdcc24ef5c07d9ee67135bf4deef190de64362166be2", func := "sightbench/sightbenchlaw10.RecipeUsers", spec := "recipeUsers", inPlace := ["math/bits.Add64", "math/bits.Sub64"], unfollowed := true, recurses := true, named := ["math/bits.divideError", "math/bits.overflowError"], apart := false }
def RecipeUsersSaid : Prop := recipeUsersRow.holds Tryz.pinned (OpenSpec.ofChange recipeUsersSpec)

/-- ITS FALSE NEIGHBOUR: 'it returns false'. Refute it at one input. -/
def recipeUsersWrong : ChangeSpec := { name := "recipeUsers", fn := fun _ => fun
  | [d1, d2, d3, d4] => { results := [.lit (.bool false)], args := [d1, d2, d3, d4] }
  | _ => none }
def RecipeUsersWrongFalsely : Prop := recipeUsersRow.holds Tryz.pinned (OpenSpec.ofChange recipeUsersWrong)

/-- 'sightbenchlaw10.RecipeChanges': WHATEVER THE INPUT: true; the input reads as it did. -/
def recipeChangesSpec : ChangeSpec := { name := "recipeChanges", fn := fun _ => fun
  | [d1, d2, d3] => { results := [.lit (.bool true)], args := [d1, d2, d3] }
  | _ => none }
def recipeChangesRow : OpenClaim := { program := "ytnoahgjfeablgaagreat", sum := "2c2b169a90faaf0444b9fdcc24ef5c07d9ee67135bf4deef190de64362166be2", func := "sightbench/sightbenchlaw10.RecipeChanges", spec := "recipeChanges", inPlace := ["math/bits.Add64", "math/bits.Sub64", "slices.overlaps[int]"], unfollowed := true, recurses := true, named := ["math/bits.divideError", "math/bits.overflowError"], apart := false }
def RecipeChangesSaid : Prop := recipeChangesRow.holds Tryz.pinned (OpenSpec.ofChange recipeChangesSpec)

/-- ITS FALSE NEIGHBOUR: 'it returns false'. Refute it at one input. -/
def recipeChangesWrong : ChangeSpec := { name := "recipeChanges", fn := fun _ => fun
  | [d1, d2, d3] => { results := [.lit (.bool false)], args := [d1, d2, d3] }
  | _ => none }
def RecipeChangesWrongFalsely : Prop := recipeChangesRow.holds Tryz.pinned (OpenSpec.ofChange recipeChangesWrong)

/-- 'sightbenchlaw10.RecipeRecords': WHATEVER THE INPUT: true; the input reads as it did. -/
def recipeRecordsSpec : ChangeSpec := { name := "recipeRecords", fn := fun _ => fun
  | [d1, d2, d3] => { results := [.lit (.bool true)], args := [d1, d2, d3] }
  | _ => none }
def recipeRecordsRow : OpenClaim := { program := "ytnoahgjfeablgaagreat", sum := "2c2b169a90faaf0444b9fdcc24ef5c07d9ee67135bf4deef190de64362166be2", func := "sightbench/sightbenchlaw10.RecipeRecords", spec := "recipeRecords", inPlace := ["math/bits.Add64", "math/bits.Sub64"], unfollowed := true, recurses := true, named := ["math/bits.divideError", "math/bits.overflowError"], apart := false }
def RecipeRecordsSaid : Prop := recipeRecordsRow.holds Tryz.pinned (OpenSpec.ofChange recipeRecordsSpec)

/-- ITS FALSE NEIGHBOUR: 'it returns false'. Refute it at one input. -/
def recipeRecordsWrong : ChangeSpec := { name := "recipeRecords", fn := fun _ => fun
  | [d1, d2, d3] => { results := [.lit (.bool false)], args := [d1, d2, d3] }
  | _ => none }
def RecipeRecordsWrongFalsely : Prop := recipeRecordsRow.holds Tryz.pinned (OpenSpec.ofChange recipeRecordsWrong)

/-- 'sightbenchlaw10.RecipeDisputes': WHATEVER THE INPUT: true; the input reads as it did. -/
def recipeDisputesSpec : ChangeSpec := { name := "recipeDisputes", fn := fun _ => fun
  | [d1, d2, d3] => { results := [.lit (.bool true)], args := [d1, d2, d3] }
  | _ => none }
def recipeDisputesRow : OpenClaim := { program := "ytnoahgjfeablgaagreat", sum := "2c2b169a90faaf0444b9fdcc24ef5c07d9ee67135bf4deef190de64362166be2", func := "sightbench/sightbenchlaw10.RecipeDisputes", spec := "recipeDisputes", inPlace := ["math/bits.Add64", "math/bits.Sub64"], unfollowed := true, recurses := true, named := ["math/bits.divideError", "math/bits.overflowError"], apart := false }
def RecipeDisputesSaid : Prop := recipeDisputesRow.holds Tryz.pinned (OpenSpec.ofChange recipeDisputesSpec)

/-- ITS FALSE NEIGHBOUR: 'it returns false'. Refute it at one input. -/
def recipeDisputesWrong : ChangeSpec := { name := "recipeDisputes", fn := fun _ => fun
  | [d1, d2, d3] => { results := [.lit (.bool false)], args := [d1, d2, d3] }
  | _ => none }
def RecipeDisputesWrongFalsely : Prop := recipeDisputesRow.holds Tryz.pinned (OpenSpec.ofChange recipeDisputesWrong)

/-- 'sightbenchlaw10.RecipeReplays': WHATEVER THE INPUT: true; the input reads as it did. -/
def recipeReplaysSpec : ChangeSpec := { name := "recipeReplays", fn := fun _ => fun
  | [d1, d2] => { results := [.lit (.bool true)], args := [d1, d2] }
  | _ => none }
def recipeReplaysRow : OpenClaim := { program := "ytnoahgjfeablgaagreat", sum := "2c2b169a90faaf0444b9fdcc24ef5c07d9ee67135bf4deef190de64362166be2", func := "sightbench/sightbenchlaw10.RecipeReplays", spec := "recipeReplays", inPlace := ["math/bits.Add64", "math/bits.Sub64", "slices.overlaps[int]"], unfollowed := true, recurses := true, named := ["math/bits.divideError", "math/bits.overflowError"], apart := false }
def RecipeReplaysSaid : Prop := recipeReplaysRow.holds Tryz.pinned (OpenSpec.ofChange recipeReplaysSpec)

/-- ITS FALSE NEIGHBOUR: 'it returns false'. Refute it at one input. -/
def recipeReplaysWrong : ChangeSpec := { name := "recipeReplays", fn := fun _ => fun
  | [d1, d2] => { results := [.lit (.bool false)], args := [d1, d2] }
  | _ => none }
def RecipeReplaysWrongFalsely : Prop := recipeReplaysRow.holds Tryz.pinned (OpenSpec.ofChange recipeReplaysWrong)

/-- 'sightbenchlaw10.RecipeSettles': WHATEVER THE INPUT: true; the input reads as it did. -/
def recipeSettlesSpec : ChangeSpec := { name := "recipeSettles", fn := fun _ => fun
  | [d1, d2, d3, d4, d5] => { results := [.lit (.bool true)], args := [d1, d2, d3, d4, d5] }
  | _ => none }
def recipeSettlesRow : OpenClaim := { program := "ytnoahgjfeablgaagreat", sum := "2c2b169a90faaf0444b9fdcc24ef5c07d9ee67135bf4deef190de64362166be2", func := "sightbench/sightbenchlaw10.RecipeSettles", spec := "recipeSettles", inPlace := ["math/bits.Add64", "math/bits.Sub64", "slices.overlaps[int]"], unfollowed := true, recurses := true, named := ["math/bits.divideError", "math/bits.overflowError"], apart := false }
def RecipeSettlesSaid : Prop := recipeSettlesRow.holds Tryz.pinned (OpenSpec.ofChange recipeSettlesSpec)

/-- ITS FALSE NEIGHBOUR: 'it returns false'. Refute it at one input. -/
def recipeSettlesWrong : ChangeSpec := { name := "recipeSettles", fn := fun _ => fun
  | [d1, d2, d3, d4, d5] => { results := [.lit (.bool false)], args := [d1, d2, d3, d4, d5] }
  | _ => none }
def RecipeSettlesWrongFalsely : Prop := recipeSettlesRow.holds Tryz.pinned (OpenSpec.ofChange recipeSettlesWrong)

/-- 'sightbenchlaw10.RecipeExamples': WHATEVER THE INPUT: true; the input reads as it did. -/
def recipeExamplesSpec : ChangeSpec := { name := "recipeExamples", fn := fun _ => fun
  | [] => { results := [.lit (.bool true)], args := [] }
  | _ => none }
def recipeExamplesRow : OpenClaim := { program := "ytnoahgjfeablgaagreat", sum := "2c2b169a90faaf0444b9fdcc24ef5c07d9ee67135bf4deef190de64362166be2", func := "sightbench/sightbenchlaw10.RecipeExamples", spec := "recipeExamples", inPlace := ["math/bits.Add64", "math/bits.Sub64", "slices.overlaps[int]"], unfollowed := true, recurses := true, named := ["math/bits.divideError", "math/bits.overflowError"], apart := false }
def RecipeExamplesSaid : Prop := recipeExamplesRow.holds Tryz.pinned (OpenSpec.ofChange recipeExamplesSpec)

/-- ITS FALSE NEIGHBOUR: 'it returns false'. Refute it at one input. -/
def recipeExamplesWrong : ChangeSpec := { name := "recipeExamples", fn := fun _ => fun
  | [] => { results := [.lit (.bool false)], args := [] }
  | _ => none }
def RecipeExamplesWrongFalsely : Prop := recipeExamplesRow.holds Tryz.pinned (OpenSpec.ofChange recipeExamplesWrong)

/-- 'sightbenchlaw10.RecipeKeeps': WHATEVER THE INPUT: true; the input reads as it did. -/
def recipeKeepsSpec : ChangeSpec := { name := "recipeKeeps", fn := fun _ => fun
  | [d1, d2] => { results := [.lit (.bool true)], args := [d1, d2] }
  | _ => none }
def recipeKeepsRow : OpenClaim := { program := "ytnoahgjfeablgaagreat", sum := "2c2b169a90faaf0444b9fdcc24ef5c07d9ee67135bf4deef190de64362166be2", func := "sightbench/sightbenchlaw10.RecipeKeeps", spec := "recipeKeeps", inPlace := ["math/bits.Add64", "math/bits.Sub64", "slices.overlaps[int]"], unfollowed := true, recurses := true, named := ["math/bits.divideError", "math/bits.overflowError"], apart := false }
def RecipeKeepsSaid : Prop := recipeKeepsRow.holds Tryz.pinned (OpenSpec.ofChange recipeKeepsSpec)

/-- ITS FALSE NEIGHBOUR: 'it returns false'. Refute it at one input. -/
def recipeKeepsWrong : ChangeSpec := { name := "recipeKeeps", fn := fun _ => fun
  | [d1, d2] => { results := [.lit (.bool false)], args := [d1, d2] }
  | _ => none }
def RecipeKeepsWrongFalsely : Prop := recipeKeepsRow.holds Tryz.pinned (OpenSpec.ofChange recipeKeepsWrong)

/-- 'sightbenchlaw10.RecipeApproved': WHATEVER THE INPUT: true; the input reads as it did. -/
def recipeApprovedSpec : ChangeSpec := { name := "recipeApproved", fn := fun _ => fun
  | [d1, d2] => { results := [.lit (.bool true)], args := [d1, d2] }
  | _ => none }
def recipeApprovedRow : OpenClaim := { program := "ytnoahgjfeablgaagreat", sum := "2c2b169a90faaf0444b9fdcc24ef5c07d9ee67135bf4deef190de64362166be2", func := "sightbench/sightbenchlaw10.RecipeApproved", spec := "recipeApproved", inPlace := ["math/bits.Add64", "math/bits.Sub64", "slices.overlaps[int]"], unfollowed := true, recurses := true, named := ["math/bits.divideError", "math/bits.overflowError"], apart := false }
def RecipeApprovedSaid : Prop := recipeApprovedRow.holds Tryz.pinned (OpenSpec.ofChange recipeApprovedSpec)

/-- ITS FALSE NEIGHBOUR: 'it returns false'. Refute it at one input. -/
def recipeApprovedWrong : ChangeSpec := { name := "recipeApproved", fn := fun _ => fun
  | [d1, d2] => { results := [.lit (.bool false)], args := [d1, d2] }
  | _ => none }
def RecipeApprovedWrongFalsely : Prop := recipeApprovedRow.holds Tryz.pinned (OpenSpec.ofChange recipeApprovedWrong)

/-- 'sightbenchlaw10.RecipeHeld': WHATEVER THE INPUT: true; the input reads as it did. -/
def recipeHeldSpec : ChangeSpec := { name := "recipeHeld", fn := fun _ => fun
  | [d1, d2] => { results := [.lit (.bool true)], args := [d1, d2] }
  | _ => none }
def recipeHeldRow : OpenClaim := { program := "ytnoahgjfeablgaagreat", sum := "2c2b169a90faaf0444b9fdcc24ef5c07d9ee67135bf4deef190de64362166be2", func := "sightbench/sightbenchlaw10.RecipeHeld", spec := "recipeHeld", inPlace := ["math/bits.Add64", "math/bits.Sub64", "slices.overlaps[int]"], unfollowed := true, recurses := true, named := ["math/bits.divideError", "math/bits.overflowError"], apart := false }
def RecipeHeldSaid : Prop := recipeHeldRow.holds Tryz.pinned (OpenSpec.ofChange recipeHeldSpec)

/-- ITS FALSE NEIGHBOUR: 'it returns false'. Refute it at one input. -/
def recipeHeldWrong : ChangeSpec := { name := "recipeHeld", fn := fun _ => fun
  | [d1, d2] => { results := [.lit (.bool false)], args := [d1, d2] }
  | _ => none }
def RecipeHeldWrongFalsely : Prop := recipeHeldRow.holds Tryz.pinned (OpenSpec.ofChange recipeHeldWrong)

/-- 'sightbenchlaw10.RecipeFixed': WHATEVER THE INPUT: true; the input reads as it did. -/
def recipeFixedSpec : ChangeSpec := { name := "recipeFixed", fn := fun _ => fun
  | [d1, d2] => { results := [.lit (.bool true)], args := [d1, d2] }
  | _ => none }
def recipeFixedRow : OpenClaim := { program := "ytnoahgjfeablgaagreat", sum := "2c2b169a90faaf0444b9fdcc24ef5c07d9ee67135bf4deef190de64362166be2", func := "sightbench/sightbenchlaw10.RecipeFixed", spec := "recipeFixed", inPlace := ["math/bits.Add64", "math/bits.Sub64", "slices.overlaps[int]"], unfollowed := true, recurses := true, named := ["math/bits.divideError", "math/bits.overflowError"], apart := false }
def RecipeFixedSaid : Prop := recipeFixedRow.holds Tryz.pinned (OpenSpec.ofChange recipeFixedSpec)

/-- ITS FALSE NEIGHBOUR: 'it returns false'. Refute it at one input. -/
def recipeFixedWrong : ChangeSpec := { name := "recipeFixed", fn := fun _ => fun
  | [d1, d2] => { results := [.lit (.bool false)], args := [d1, d2] }
  | _ => none }
def RecipeFixedWrongFalsely : Prop := recipeFixedRow.holds Tryz.pinned (OpenSpec.ofChange recipeFixedWrong)

/-- 'sightbenchlaw10.RecipeRights': WHATEVER THE INPUT: true; the input reads as it did. -/
def recipeRightsSpec : ChangeSpec := { name := "recipeRights", fn := fun _ => fun
  | [d1, d2] => { results := [.lit (.bool true)], args := [d1, d2] }
  | _ => none }
def recipeRightsRow : OpenClaim := { program := "ytnoahgjfeablgaagreat", sum := "2c2b169a90faaf0444b9fdcc24ef5c07d9ee67135bf4deef190de64362166be2", func := "sightbench/sightbenchlaw10.RecipeRights", spec := "recipeRights", inPlace := ["math/bits.Add64", "math/bits.Sub64", "slices.overlaps[int]"], unfollowed := true, recurses := true, named := ["math/bits.divideError", "math/bits.overflowError"], apart := false }
def RecipeRightsSaid : Prop := recipeRightsRow.holds Tryz.pinned (OpenSpec.ofChange recipeRightsSpec)

/-- ITS FALSE NEIGHBOUR: 'it returns false'. Refute it at one input. -/
def recipeRightsWrong : ChangeSpec := { name := "recipeRights", fn := fun _ => fun
  | [d1, d2] => { results := [.lit (.bool false)], args := [d1, d2] }
  | _ => none }
def RecipeRightsWrongFalsely : Prop := recipeRightsRow.holds Tryz.pinned (OpenSpec.ofChange recipeRightsWrong)

/- THE SECOND FORM. 'bulk': how many values and letters a reading holds, each counted each time it is reached (what is shared counts as often as it is met; a slice's spare places count too). A statement '..UptoSaid' is the law's where the arguments, and the package variables that the reading takes, are together of bulk at most 1048576: NARROWER than '..Said'. Prove '..Said' where nothing that the law and all that it calls make is longer than what came in: it says more and counts as full. Else prove '..UptoSaid'. A law counts once. -/
mutual
def uptoBulk {H : Type} : DataW H → Nat
  | .lit (.string bytes) => bytes.length + 1
  | .lit _ => 1
  | .nil => 1
  | .ptr d => uptoBulk d + 1
  | .slice elems spare => uptoBulkAll elems + uptoBulkAll spare + 1
  | .agg parts => uptoBulkAll parts + 1
  | .iface _ d => uptoBulk d + 1
  | .map entries => uptoBulkEntries entries + 1
  | .held _ => 1
def uptoBulkAll {H : Type} : List (DataW H) → Nat
  | [] => 0
  | d :: r => uptoBulk d + uptoBulkAll r
def uptoBulkEntries {H : Type} : List (Lit × DataW H) → Nat
  | [] => 0
  | x :: r => uptoBulkEntry x + uptoBulkEntries r
def uptoBulkEntry {H : Type} : Lit × DataW H → Nat
  | (.string bytes, d) => bytes.length + uptoBulk d + 1
  | (_, d) => uptoBulk d + 1
 end
def uptoSmall : (H : Type) → List (DataW H) → Bool := fun _ ds => decide (uptoBulkAll ds ≤ 1048576)
def OpenSpec.upto (s : _root_.Go.ChangeSpec) : _root_.Go.OpenSpec := { _root_.Go.OpenSpec.ofChange s with cond := some uptoSmall }

/-- 'sightbenchlaw10.RecipeUsers', WHERE WHAT IT READS IS OF BULK AT MOST 1048576: true; the input reads as it did. -/
def recipeUsersUptoRow : OpenClaim := { program := "ytnoahgjfeablgaagreat", sum := "2c2b169a90faaf0444b9fdcc24ef5c07d9ee67135bf4deef190de64362166be2", func := "sightbench/sightbenchlaw10.RecipeUsers", spec := "recipeUsers", inPlace := ["math/bits.Add64", "math/bits.Sub64"], unfollowed := true, recurses := true, named := ["math/bits.divideError", "math/bits.overflowError"], apart := false, narrowed := true }
def RecipeUsersUptoSaid : Prop := recipeUsersUptoRow.holds Tryz.pinned (OpenSpec.upto recipeUsersSpec)

/-- 'sightbenchlaw10.RecipeChanges', WHERE WHAT IT READS IS OF BULK AT MOST 1048576: true; the input reads as it did. -/
def recipeChangesUptoRow : OpenClaim := { program := "ytnoahgjfeablgaagreat", sum := "2c2b169a90faaf0444b9fdcc24ef5c07d9ee67135bf4deef190de64362166be2", func := "sightbench/sightbenchlaw10.RecipeChanges", spec := "recipeChanges", inPlace := ["math/bits.Add64", "math/bits.Sub64", "slices.overlaps[int]"], unfollowed := true, recurses := true, named := ["math/bits.divideError", "math/bits.overflowError"], apart := false, narrowed := true }
def RecipeChangesUptoSaid : Prop := recipeChangesUptoRow.holds Tryz.pinned (OpenSpec.upto recipeChangesSpec)

/-- 'sightbenchlaw10.RecipeRecords', WHERE WHAT IT READS IS OF BULK AT MOST 1048576: true; the input reads as it did. -/
def recipeRecordsUptoRow : OpenClaim := { program := "ytnoahgjfeablgaagreat", sum := "2c2b169a90faaf0444b9fdcc24ef5c07d9ee67135bf4deef190de64362166be2", func := "sightbench/sightbenchlaw10.RecipeRecords", spec := "recipeRecords", inPlace := ["math/bits.Add64", "math/bits.Sub64"], unfollowed := true, recurses := true, named := ["math/bits.divideError", "math/bits.overflowError"], apart := false, narrowed := true }
def RecipeRecordsUptoSaid : Prop := recipeRecordsUptoRow.holds Tryz.pinned (OpenSpec.upto recipeRecordsSpec)

/-- 'sightbenchlaw10.RecipeDisputes', WHERE WHAT IT READS IS OF BULK AT MOST 1048576: true; the input reads as it did. -/
def recipeDisputesUptoRow : OpenClaim := { program := "ytnoahgjfeablgaagreat", sum := "2c2b169a90faaf0444b9fdcc24ef5c07d9ee67135bf4deef190de64362166be2", func := "sightbench/sightbenchlaw10.RecipeDisputes", spec := "recipeDisputes", inPlace := ["math/bits.Add64", "math/bits.Sub64"], unfollowed := true, recurses := true, named := ["math/bits.divideError", "math/bits.overflowError"], apart := false, narrowed := true }
def RecipeDisputesUptoSaid : Prop := recipeDisputesUptoRow.holds Tryz.pinned (OpenSpec.upto recipeDisputesSpec)

/-- 'sightbenchlaw10.RecipeReplays', WHERE WHAT IT READS IS OF BULK AT MOST 1048576: true; the input reads as it did. -/
def recipeReplaysUptoRow : OpenClaim := { program := "ytnoahgjfeablgaagreat", sum := "2c2b169a90faaf0444b9fdcc24ef5c07d9ee67135bf4deef190de64362166be2", func := "sightbench/sightbenchlaw10.RecipeReplays", spec := "recipeReplays", inPlace := ["math/bits.Add64", "math/bits.Sub64", "slices.overlaps[int]"], unfollowed := true, recurses := true, named := ["math/bits.divideError", "math/bits.overflowError"], apart := false, narrowed := true }
def RecipeReplaysUptoSaid : Prop := recipeReplaysUptoRow.holds Tryz.pinned (OpenSpec.upto recipeReplaysSpec)

/-- 'sightbenchlaw10.RecipeSettles', WHERE WHAT IT READS IS OF BULK AT MOST 1048576: true; the input reads as it did. -/
def recipeSettlesUptoRow : OpenClaim := { program := "ytnoahgjfeablgaagreat", sum := "2c2b169a90faaf0444b9fdcc24ef5c07d9ee67135bf4deef190de64362166be2", func := "sightbench/sightbenchlaw10.RecipeSettles", spec := "recipeSettles", inPlace := ["math/bits.Add64", "math/bits.Sub64", "slices.overlaps[int]"], unfollowed := true, recurses := true, named := ["math/bits.divideError", "math/bits.overflowError"], apart := false, narrowed := true }
def RecipeSettlesUptoSaid : Prop := recipeSettlesUptoRow.holds Tryz.pinned (OpenSpec.upto recipeSettlesSpec)

/-- 'sightbenchlaw10.RecipeExamples', WHERE WHAT IT READS IS OF BULK AT MOST 1048576: true; the input reads as it did. -/
def recipeExamplesUptoRow : OpenClaim := { program := "ytnoahgjfeablgaagreat", sum := "2c2b169a90faaf0444b9fdcc24ef5c07d9ee67135bf4deef190de64362166be2", func := "sightbench/sightbenchlaw10.RecipeExamples", spec := "recipeExamples", inPlace := ["math/bits.Add64", "math/bits.Sub64", "slices.overlaps[int]"], unfollowed := true, recurses := true, named := ["math/bits.divideError", "math/bits.overflowError"], apart := false, narrowed := true }
def RecipeExamplesUptoSaid : Prop := recipeExamplesUptoRow.holds Tryz.pinned (OpenSpec.upto recipeExamplesSpec)

/-- 'sightbenchlaw10.RecipeKeeps', WHERE WHAT IT READS IS OF BULK AT MOST 1048576: true; the input reads as it did. -/
def recipeKeepsUptoRow : OpenClaim := { program := "ytnoahgjfeablgaagreat", sum := "2c2b169a90faaf0444b9fdcc24ef5c07d9ee67135bf4deef190de64362166be2", func := "sightbench/sightbenchlaw10.RecipeKeeps", spec := "recipeKeeps", inPlace := ["math/bits.Add64", "math/bits.Sub64", "slices.overlaps[int]"], unfollowed := true, recurses := true, named := ["math/bits.divideError", "math/bits.overflowError"], apart := false, narrowed := true }
def RecipeKeepsUptoSaid : Prop := recipeKeepsUptoRow.holds Tryz.pinned (OpenSpec.upto recipeKeepsSpec)

/-- 'sightbenchlaw10.RecipeApproved', WHERE WHAT IT READS IS OF BULK AT MOST 1048576: true; the input reads as it did. -/
def recipeApprovedUptoRow : OpenClaim := { program := "ytnoahgjfeablgaagreat", sum := "2c2b169a90faaf0444b9fdcc24ef5c07d9ee67135bf4deef190de64362166be2", func := "sightbench/sightbenchlaw10.RecipeApproved", spec := "recipeApproved", inPlace := ["math/bits.Add64", "math/bits.Sub64", "slices.overlaps[int]"], unfollowed := true, recurses := true, named := ["math/bits.divideError", "math/bits.overflowError"], apart := false, narrowed := true }
def RecipeApprovedUptoSaid : Prop := recipeApprovedUptoRow.holds Tryz.pinned (OpenSpec.upto recipeApprovedSpec)

/-- 'sightbenchlaw10.RecipeHeld', WHERE WHAT IT READS IS OF BULK AT MOST 1048576: true; the input reads as it did. -/
def recipeHeldUptoRow : OpenClaim := { program := "ytnoahgjfeablgaagreat", sum := "2c2b169a90faaf0444b9fdcc24ef5c07d9ee67135bf4deef190de64362166be2", func := "sightbench/sightbenchlaw10.RecipeHeld", spec := "recipeHeld", inPlace := ["math/bits.Add64", "math/bits.Sub64", "slices.overlaps[int]"], unfollowed := true, recurses := true, named := ["math/bits.divideError", "math/bits.overflowError"], apart := false, narrowed := true }
def RecipeHeldUptoSaid : Prop := recipeHeldUptoRow.holds Tryz.pinned (OpenSpec.upto recipeHeldSpec)

/-- 'sightbenchlaw10.RecipeFixed', WHERE WHAT IT READS IS OF BULK AT MOST 1048576: true; the input reads as it did. -/
def recipeFixedUptoRow : OpenClaim := { program := "ytnoahgjfeablgaagreat", sum := "2c2b169a90faaf0444b9fdcc24ef5c07d9ee67135bf4deef190de64362166be2", func := "sightbench/sightbenchlaw10.RecipeFixed", spec := "recipeFixed", inPlace := ["math/bits.Add64", "math/bits.Sub64", "slices.overlaps[int]"], unfollowed := true, recurses := true, named := ["math/bits.divideError", "math/bits.overflowError"], apart := false, narrowed := true }
def RecipeFixedUptoSaid : Prop := recipeFixedUptoRow.holds Tryz.pinned (OpenSpec.upto recipeFixedSpec)

/-- 'sightbenchlaw10.RecipeRights', WHERE WHAT IT READS IS OF BULK AT MOST 1048576: true; the input reads as it did. -/
def recipeRightsUptoRow : OpenClaim := { program := "ytnoahgjfeablgaagreat", sum := "2c2b169a90faaf0444b9fdcc24ef5c07d9ee67135bf4deef190de64362166be2", func := "sightbench/sightbenchlaw10.RecipeRights", spec := "recipeRights", inPlace := ["math/bits.Add64", "math/bits.Sub64", "slices.overlaps[int]"], unfollowed := true, recurses := true, named := ["math/bits.divideError", "math/bits.overflowError"], apart := false, narrowed := true }
def RecipeRightsUptoSaid : Prop := recipeRightsUptoRow.holds Tryz.pinned (OpenSpec.upto recipeRightsSpec)

end Rows
end Go.Proofs.YtnoahgjfeablgaaGreat
