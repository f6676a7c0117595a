/-
  No cell of these rows narrows 'for every input' (looked for: loops, veiled, ifaces, maps, wideKeys, modest, calm, conditions, laid).
  DERIVED. THE GIVEN ROWS OF THIS SEAT. 11 by the template 'for every input the law returns true; each argument reads behind the call as it read before'; 0 by the template 'total and deterministic' (their statements: YtiimhccemdcnpaaGreatTotals.lean).
  GIVEN WITH THE SEED: the statements are not yours to turn. If you find one false, say at which input.
  Laid BY PROGRAM, IN A SANDBOX (cutbox-rows.mjs): the forced cells as the released guide's own fill.sh prints them over the translation b9b9809af4eb72b4… (all of the seat's roots in one cut). By AI agents, Wed Nov 11 2026. No macro, syntax, notation, axiom, sorry.
-/
import Derived.Test.YtiimhccemdcnpaaGreatChecked
import GoSem.Claim
import GoSem.ClaimJoined
import GoSem.ClaimMapViews
import Derived.JoinedTies
import Derived.KernelRfl
namespace Go.Proofs.YtiimhccemdcnpaaGreat
/- THE CELL 'sum', in the pinned program and in every row, IS THE sha256 OF THE DUMP (.gsa) THAT YtiimhccemdcnpaaGreatProg.lean LOADS. Nothing in Lean hashes anything: it is a label: what it is worth is what the hold of that sum in a sandbox is worth. -/
noncomputable def Tryz.pinned : Pinned := { name := "ytiimhccemdcnpaagreat", sum := "b9b9809af4eb72b400eaf560fae19ca0db4c8a3bd4d55b254ad35f820deefe48", checked := Tryz.checked }
namespace Rows
def none {H : Type} : Left H := { results := [], args := [] }

/-- 'sightbenchlaw10.RecipeBooks': WHATEVER THE INPUT: true; the input reads as it did. -/
def recipeBooksSpec : ChangeSpec := { name := "recipeBooks", fn := fun _ => fun
  | [d1, d2, d3] => { results := [.lit (.bool true)], args := [d1, d2, d3] }
  | _ => none }
def recipeBooksRow : OpenClaim := { program := "ytiimhccemdcnpaagreat", sum := "b9b9809af4eb72b400eaf560fae19ca0db4c8a3bd4d55b254ad35f820deefe48", func := "sightbench/sightbenchlaw10.RecipeBooks", spec := "recipeBooks", inPlace := ["math/bits.Add64", "math/bits.Sub64"], unfollowed := true, recurses := true, named := ["math/bits.divideError", "math/bits.overflowError"], apart := false }
def RecipeBooksSaid : Prop := recipeBooksRow.holds Tryz.pinned (OpenSpec.ofChange recipeBooksSpec)

/-- ITS FALSE NEIGHBOUR: 'it returns false'. Refute it at one input. -/
def recipeBooksWrong : ChangeSpec := { name := "recipeBooks", fn := fun _ => fun
  | [d1, d2, d3] => { results := [.lit (.bool false)], args := [d1, d2, d3] }
  | _ => none }
def RecipeBooksWrongFalsely : Prop := recipeBooksRow.holds Tryz.pinned (OpenSpec.ofChange recipeBooksWrong)

/-- 'sightbenchlaw10.RecipeUsers': WHATEVER THE INPUT: true; the input reads as it did. -/
def recipeUsersSpec : ChangeSpec := { name := "recipeUsers", fn := fun _ => fun
  | [d1, d2, d3, d4] => { results := [.lit (.bool true)], args := [d1, d2, d3, d4] }
  | _ => none }
def recipeUsersRow : OpenClaim := { program := "ytiimhccemdcnpaagreat", sum := "b9b9809af4eb72b400eaf560fae19ca0db4c8a3bd4d55b254ad35f820deefe48", func := "sightbench/sightbenchlaw10.RecipeUsers", spec := "recipeUsers", inPlace := ["math/bits.Add64", "math/bits.Sub64"], unfollowed := true, recurses := true, named := ["math/bits.divideError", "math/bits.overflowError"], apart := false }
def RecipeUsersSaid : Prop := recipeUsersRow.holds Tryz.pinned (OpenSpec.ofChange recipeUsersSpec)

/-- ITS FALSE NEIGHBOUR: 'it returns false'. Refute it at one input. -/
def recipeUsersWrong : ChangeSpec := { name := "recipeUsers", fn := fun _ => fun
  | [d1, d2, d3, d4] => { results := [.lit (.bool false)], args := [d1, d2, d3, d4] }
  | _ => none }
def RecipeUsersWrongFalsely : Prop := recipeUsersRow.holds Tryz.pinned (OpenSpec.ofChange recipeUsersWrong)

/-- 'sightbenchlaw11.PlantLines': WHATEVER THE INPUT: true; the input reads as it did. -/
def plantLinesSpec : ChangeSpec := { name := "plantLines", fn := fun _ => fun
  | [d1, d2, d3] => { results := [.lit (.bool true)], args := [d1, d2, d3] }
  | _ => none }
def plantLinesRow : OpenClaim := { program := "ytiimhccemdcnpaagreat", sum := "b9b9809af4eb72b400eaf560fae19ca0db4c8a3bd4d55b254ad35f820deefe48", func := "sightbench/sightbenchlaw11.PlantLines", spec := "plantLines", inPlace := ["math/bits.Add64", "math/bits.Sub64"], unfollowed := true, recurses := true, named := ["math/bits.divideError", "math/bits.overflowError"], apart := false }
def PlantLinesSaid : Prop := plantLinesRow.holds Tryz.pinned (OpenSpec.ofChange plantLinesSpec)

/-- ITS FALSE NEIGHBOUR: 'it returns false'. Refute it at one input. -/
def plantLinesWrong : ChangeSpec := { name := "plantLines", fn := fun _ => fun
  | [d1, d2, d3] => { results := [.lit (.bool false)], args := [d1, d2, d3] }
  | _ => none }
def PlantLinesWrongFalsely : Prop := plantLinesRow.holds Tryz.pinned (OpenSpec.ofChange plantLinesWrong)

/-- 'sightbenchlaw10.RecipeReplays': WHATEVER THE INPUT: true; the input reads as it did. -/
def recipeReplaysSpec : ChangeSpec := { name := "recipeReplays", fn := fun _ => fun
  | [d1, d2] => { results := [.lit (.bool true)], args := [d1, d2] }
  | _ => none }
def recipeReplaysRow : OpenClaim := { program := "ytiimhccemdcnpaagreat", sum := "b9b9809af4eb72b400eaf560fae19ca0db4c8a3bd4d55b254ad35f820deefe48", func := "sightbench/sightbenchlaw10.RecipeReplays", spec := "recipeReplays", inPlace := ["math/bits.Add64", "math/bits.Sub64", "slices.overlaps[int]"], unfollowed := true, recurses := true, named := ["math/bits.divideError", "math/bits.overflowError"], apart := false }
def RecipeReplaysSaid : Prop := recipeReplaysRow.holds Tryz.pinned (OpenSpec.ofChange recipeReplaysSpec)

/-- ITS FALSE NEIGHBOUR: 'it returns false'. Refute it at one input. -/
def recipeReplaysWrong : ChangeSpec := { name := "recipeReplays", fn := fun _ => fun
  | [d1, d2] => { results := [.lit (.bool false)], args := [d1, d2] }
  | _ => none }
def RecipeReplaysWrongFalsely : Prop := recipeReplaysRow.holds Tryz.pinned (OpenSpec.ofChange recipeReplaysWrong)

/-- 'sightbenchlaw10.RecipeSettles': WHATEVER THE INPUT: true; the input reads as it did. -/
def recipeSettlesSpec : ChangeSpec := { name := "recipeSettles", fn := fun _ => fun
  | [d1, d2, d3, d4, d5] => { results := [.lit (.bool true)], args := [d1, d2, d3, d4, d5] }
  | _ => none }
def recipeSettlesRow : OpenClaim := { program := "ytiimhccemdcnpaagreat", sum := "b9b9809af4eb72b400eaf560fae19ca0db4c8a3bd4d55b254ad35f820deefe48", func := "sightbench/sightbenchlaw10.RecipeSettles", spec := "recipeSettles", inPlace := ["math/bits.Add64", "math/bits.Sub64", "slices.overlaps[int]"], unfollowed := true, recurses := true, named := ["math/bits.divideError", "math/bits.overflowError"], apart := false }
def RecipeSettlesSaid : Prop := recipeSettlesRow.holds Tryz.pinned (OpenSpec.ofChange recipeSettlesSpec)

/-- ITS FALSE NEIGHBOUR: 'it returns false'. Refute it at one input. -/
def recipeSettlesWrong : ChangeSpec := { name := "recipeSettles", fn := fun _ => fun
  | [d1, d2, d3, d4, d5] => { results := [.lit (.bool false)], args := [d1, d2, d3, d4, d5] }
  | _ => none }
def RecipeSettlesWrongFalsely : Prop := recipeSettlesRow.holds Tryz.pinned (OpenSpec.ofChange recipeSettlesWrong)

/-- 'sightbenchlaw10.RecipeExamples': WHATEVER THE INPUT: true; the input reads as it did. -/
def recipeExamplesSpec : ChangeSpec := { name := "recipeExamples", fn := fun _ => fun
  | [] => { results := [.lit (.bool true)], args := [] }
  | _ => none }
def recipeExamplesRow : OpenClaim := { program := "ytiimhccemdcnpaagreat", sum := "b9b9809af4eb72b400eaf560fae19ca0db4c8a3bd4d55b254ad35f820deefe48", func := "sightbench/sightbenchlaw10.RecipeExamples", spec := "recipeExamples", inPlace := ["math/bits.Add64", "math/bits.Sub64", "slices.overlaps[int]"], unfollowed := true, recurses := true, named := ["math/bits.divideError", "math/bits.overflowError"], apart := false }
def RecipeExamplesSaid : Prop := recipeExamplesRow.holds Tryz.pinned (OpenSpec.ofChange recipeExamplesSpec)

/-- ITS FALSE NEIGHBOUR: 'it returns false'. Refute it at one input. -/
def recipeExamplesWrong : ChangeSpec := { name := "recipeExamples", fn := fun _ => fun
  | [] => { results := [.lit (.bool false)], args := [] }
  | _ => none }
def RecipeExamplesWrongFalsely : Prop := recipeExamplesRow.holds Tryz.pinned (OpenSpec.ofChange recipeExamplesWrong)

/-- 'sightbenchlaw10.RecipeKeeps': WHATEVER THE INPUT: true; the input reads as it did. -/
def recipeKeepsSpec : ChangeSpec := { name := "recipeKeeps", fn := fun _ => fun
  | [d1, d2] => { results := [.lit (.bool true)], args := [d1, d2] }
  | _ => none }
def recipeKeepsRow : OpenClaim := { program := "ytiimhccemdcnpaagreat", sum := "b9b9809af4eb72b400eaf560fae19ca0db4c8a3bd4d55b254ad35f820deefe48", func := "sightbench/sightbenchlaw10.RecipeKeeps", spec := "recipeKeeps", inPlace := ["math/bits.Add64", "math/bits.Sub64", "slices.overlaps[int]"], unfollowed := true, recurses := true, named := ["math/bits.divideError", "math/bits.overflowError"], apart := false }
def RecipeKeepsSaid : Prop := recipeKeepsRow.holds Tryz.pinned (OpenSpec.ofChange recipeKeepsSpec)

/-- ITS FALSE NEIGHBOUR: 'it returns false'. Refute it at one input. -/
def recipeKeepsWrong : ChangeSpec := { name := "recipeKeeps", fn := fun _ => fun
  | [d1, d2] => { results := [.lit (.bool false)], args := [d1, d2] }
  | _ => none }
def RecipeKeepsWrongFalsely : Prop := recipeKeepsRow.holds Tryz.pinned (OpenSpec.ofChange recipeKeepsWrong)

/-- 'sightbenchlaw10.RecipeApproved': WHATEVER THE INPUT: true; the input reads as it did. -/
def recipeApprovedSpec : ChangeSpec := { name := "recipeApproved", fn := fun _ => fun
  | [d1, d2] => { results := [.lit (.bool true)], args := [d1, d2] }
  | _ => none }
def recipeApprovedRow : OpenClaim := { program := "ytiimhccemdcnpaagreat", sum := "b9b9809af4eb72b400eaf560fae19ca0db4c8a3bd4d55b254ad35f820deefe48", func := "sightbench/sightbenchlaw10.RecipeApproved", spec := "recipeApproved", inPlace := ["math/bits.Add64", "math/bits.Sub64", "slices.overlaps[int]"], unfollowed := true, recurses := true, named := ["math/bits.divideError", "math/bits.overflowError"], apart := false }
def RecipeApprovedSaid : Prop := recipeApprovedRow.holds Tryz.pinned (OpenSpec.ofChange recipeApprovedSpec)

/-- ITS FALSE NEIGHBOUR: 'it returns false'. Refute it at one input. -/
def recipeApprovedWrong : ChangeSpec := { name := "recipeApproved", fn := fun _ => fun
  | [d1, d2] => { results := [.lit (.bool false)], args := [d1, d2] }
  | _ => none }
def RecipeApprovedWrongFalsely : Prop := recipeApprovedRow.holds Tryz.pinned (OpenSpec.ofChange recipeApprovedWrong)

/-- 'sightbenchlaw10.RecipeHeld': WHATEVER THE INPUT: true; the input reads as it did. -/
def recipeHeldSpec : ChangeSpec := { name := "recipeHeld", fn := fun _ => fun
  | [d1, d2] => { results := [.lit (.bool true)], args := [d1, d2] }
  | _ => none }
def recipeHeldRow : OpenClaim := { program := "ytiimhccemdcnpaagreat", sum := "b9b9809af4eb72b400eaf560fae19ca0db4c8a3bd4d55b254ad35f820deefe48", func := "sightbench/sightbenchlaw10.RecipeHeld", spec := "recipeHeld", inPlace := ["math/bits.Add64", "math/bits.Sub64", "slices.overlaps[int]"], unfollowed := true, recurses := true, named := ["math/bits.divideError", "math/bits.overflowError"], apart := false }
def RecipeHeldSaid : Prop := recipeHeldRow.holds Tryz.pinned (OpenSpec.ofChange recipeHeldSpec)

/-- ITS FALSE NEIGHBOUR: 'it returns false'. Refute it at one input. -/
def recipeHeldWrong : ChangeSpec := { name := "recipeHeld", fn := fun _ => fun
  | [d1, d2] => { results := [.lit (.bool false)], args := [d1, d2] }
  | _ => none }
def RecipeHeldWrongFalsely : Prop := recipeHeldRow.holds Tryz.pinned (OpenSpec.ofChange recipeHeldWrong)

/-- 'sightbenchlaw10.RecipeFixed': WHATEVER THE INPUT: true; the input reads as it did. -/
def recipeFixedSpec : ChangeSpec := { name := "recipeFixed", fn := fun _ => fun
  | [d1, d2] => { results := [.lit (.bool true)], args := [d1, d2] }
  | _ => none }
def recipeFixedRow : OpenClaim := { program := "ytiimhccemdcnpaagreat", sum := "b9b9809af4eb72b400eaf560fae19ca0db4c8a3bd4d55b254ad35f820deefe48", func := "sightbench/sightbenchlaw10.RecipeFixed", spec := "recipeFixed", inPlace := ["math/bits.Add64", "math/bits.Sub64", "slices.overlaps[int]"], unfollowed := true, recurses := true, named := ["math/bits.divideError", "math/bits.overflowError"], apart := false }
def RecipeFixedSaid : Prop := recipeFixedRow.holds Tryz.pinned (OpenSpec.ofChange recipeFixedSpec)

/-- ITS FALSE NEIGHBOUR: 'it returns false'. Refute it at one input. -/
def recipeFixedWrong : ChangeSpec := { name := "recipeFixed", fn := fun _ => fun
  | [d1, d2] => { results := [.lit (.bool false)], args := [d1, d2] }
  | _ => none }
def RecipeFixedWrongFalsely : Prop := recipeFixedRow.holds Tryz.pinned (OpenSpec.ofChange recipeFixedWrong)

/-- 'sightbenchlaw10.RecipeRights': WHATEVER THE INPUT: true; the input reads as it did. -/
def recipeRightsSpec : ChangeSpec := { name := "recipeRights", fn := fun _ => fun
  | [d1, d2] => { results := [.lit (.bool true)], args := [d1, d2] }
  | _ => none }
def recipeRightsRow : OpenClaim := { program := "ytiimhccemdcnpaagreat", sum := "b9b9809af4eb72b400eaf560fae19ca0db4c8a3bd4d55b254ad35f820deefe48", func := "sightbench/sightbenchlaw10.RecipeRights", spec := "recipeRights", inPlace := ["math/bits.Add64", "math/bits.Sub64", "slices.overlaps[int]"], unfollowed := true, recurses := true, named := ["math/bits.divideError", "math/bits.overflowError"], apart := false }
def RecipeRightsSaid : Prop := recipeRightsRow.holds Tryz.pinned (OpenSpec.ofChange recipeRightsSpec)

/-- ITS FALSE NEIGHBOUR: 'it returns false'. Refute it at one input. -/
def recipeRightsWrong : ChangeSpec := { name := "recipeRights", fn := fun _ => fun
  | [d1, d2] => { results := [.lit (.bool false)], args := [d1, d2] }
  | _ => none }
def RecipeRightsWrongFalsely : Prop := recipeRightsRow.holds Tryz.pinned (OpenSpec.ofChange recipeRightsWrong)

/- THE SECOND FORM. 'bulk': how many values and letters a reading holds, each counted each time it is reached (what is shared counts as often as it is met; a slice's spare places count too). A statement '..UptoSaid' is the law's where the arguments, and the package variables that the reading takes, are together of bulk at most 1048576: NARROWER than '..Said'. Prove '..Said' where nothing that the law and all that it calls make is longer than what came in: it says more and counts as full. Else prove '..UptoSaid'. A law counts once. -/
mutual
def uptoBulk {H : Type} : DataW H → Nat
  | .lit (.string bytes) => bytes.length + 1
  | .lit _ => 1
  | .nil => 1
  | .ptr d => uptoBulk d + 1
  | .slice elems spare => uptoBulkAll elems + uptoBulkAll spare + 1
  | .agg parts => uptoBulkAll parts + 1
  | .iface _ d => uptoBulk d + 1
  | .map entries => uptoBulkEntries entries + 1
  | .held _ => 1
def uptoBulkAll {H : Type} : List (DataW H) → Nat
  | [] => 0
  | d :: r => uptoBulk d + uptoBulkAll r
def uptoBulkEntries {H : Type} : List (Lit × DataW H) → Nat
  | [] => 0
  | x :: r => uptoBulkEntry x + uptoBulkEntries r
def uptoBulkEntry {H : Type} : Lit × DataW H → Nat
  | (.string bytes, d) => bytes.length + uptoBulk d + 1
  | (_, d) => uptoBulk d + 1
 end
def uptoSmall : (H : Type) → List (DataW H) → Bool := fun _ ds => decide (uptoBulkAll ds ≤ 1048576)
def OpenSpec.upto (s : _root_.Go.ChangeSpec) : _root_.Go.OpenSpec := { _root_.Go.OpenSpec.ofChange s with cond := some uptoSmall }

/-- 'sightbenchlaw10.RecipeBooks', WHERE WHAT IT READS IS OF BULK AT MOST 1048576: true; the input reads as it did. -/
def recipeBooksUptoRow : OpenClaim := { program := "ytiimhccemdcnpaagreat", sum := "b9b9809af4eb72b400eaf560fae19ca0db4c8a3bd4d55b254ad35f820deefe48", func := "sightbench/sightbenchlaw10.RecipeBooks", spec := "recipeBooks", inPlace := ["math/bits.Add64", "math/bits.Sub64"], unfollowed := true, recurses := true, named := ["math/bits.divideError", "math/bits.overflowError"], apart := false, narrowed := true }
def RecipeBooksUptoSaid : Prop := recipeBooksUptoRow.holds Tryz.pinned (OpenSpec.upto recipeBooksSpec)

/-- 'sightbenchlaw10.RecipeUsers', WHERE WHAT IT READS IS OF BULK AT MOST 1048576: true; the input reads as it did. -/
def recipeUsersUptoRow : OpenClaim := { program := "ytiimhccemdcnpaagreat", sum := "b9b9809af4eb72b400eaf560fae19ca0db4c8a3bd4d55b254ad35f820deefe48", func := "sightbench/sightbenchlaw10.RecipeUsers", spec := "recipeUsers", inPlace := ["math/bits.Add64", "math/bits.Sub64"], unfollowed := true, recurses := true, named := ["math/bits.divideError", "math/bits.overflowError"], apart := false, narrowed := true }
def RecipeUsersUptoSaid : Prop := recipeUsersUptoRow.holds Tryz.pinned (OpenSpec.upto recipeUsersSpec)

/-- 'sightbenchlaw11.PlantLines', WHERE WHAT IT READS IS OF BULK AT MOST 1048576: true; the input reads as it did. -/
def plantLinesUptoRow : OpenClaim := { program := "ytiimhccemdcnpaagreat", sum := "b9b9809af4eb72b400eaf560fae19ca0db4c8a3bd4d55b254ad35f820deefe48", func := "sightbench/sightbenchlaw11.PlantLines", spec := "plantLines", inPlace := ["math/bits.Add64", "math/bits.Sub64"], unfollowed := true, recurses := true, named := ["math/bits.divideError", "math/bits.overflowError"], apart := false, narrowed := true }
def PlantLinesUptoSaid : Prop := plantLinesUptoRow.holds Tryz.pinned (OpenSpec.upto plantLinesSpec)

/-- 'sightbenchlaw10.RecipeReplays', WHERE WHAT IT READS IS OF BULK AT MOST 1048576: true; the input reads as it did. -/
def recipeReplaysUptoRow : OpenClaim := { program := "ytiimhccemdcnpaagreat", sum := "b9b9809af4eb72b400eaf560fae19ca0db4c8a3bd4d55b254ad35f820deefe48", func := "sightbench/sightbenchlaw10.RecipeReplays", spec := "recipeReplays", inPlace := ["math/bits.Add64", "math/bits.Sub64", "slices.overlaps[int]"], unfollowed := true, recurses := true, named := ["math/bits.divideError", "math/bits.overflowError"], apart := false, narrowed := true }
def RecipeReplaysUptoSaid : Prop := recipeReplaysUptoRow.holds Tryz.pinned (OpenSpec.upto recipeReplaysSpec)

/-- 'sightbenchlaw10.RecipeSettles', WHERE WHAT IT READS IS OF BULK AT MOST 1048576: true; the input reads as it did. -/
def recipeSettlesUptoRow : OpenClaim := { program := "ytiimhccemdcnpaagreat", sum := "b9b9809af4eb72b400eaf560fae19ca0db4c8a3bd4d55b254ad35f820deefe48", func := "sightbench/sightbenchlaw10.RecipeSettles", spec := "recipeSettles", inPlace := ["math/bits.Add64", "math/bits.Sub64", "slices.overlaps[int]"], unfollowed := true, recurses := true, named := ["math/bits.divideError", "math/bits.overflowError"], apart := false, narrowed := true }
def RecipeSettlesUptoSaid : Prop := recipeSettlesUptoRow.holds Tryz.pinned (OpenSpec.upto recipeSettlesSpec)

/-- 'sightbenchlaw10.RecipeExamples', WHERE WHAT IT READS IS OF BULK AT MOST 1048576: true; the input reads as it did. -/
def recipeExamplesUptoRow : OpenClaim := { program := "ytiimhccemdcnpaagreat", sum := "b9b9809af4eb72b400eaf560fae19ca0db4c8a3bd4d55b254ad35f820deefe48", func := "sightbench/sightbenchlaw10.RecipeExamples", spec := "recipeExamples", inPlace := ["math/bits.Add64", "math/bits.Sub64", "slices.overlaps[int]"], unfollowed := true, recurses := true, named := ["math/bits.divideError", "math/bits.overflowError"], apart := false, narrowed := true }
def RecipeExamplesUptoSaid : Prop := recipeExamplesUptoRow.holds Tryz.pinned (OpenSpec.upto recipeExamplesSpec)

/-- 'sightbenchlaw10.RecipeKeeps', WHERE WHAT IT READS IS OF BULK AT MOST 1048576: true; the input reads as it did. -/
def recipeKeepsUptoRow : OpenClaim := { program := "ytiimhccemdcnpaagreat", sum := "b9b9809af4eb72b400eaf560fae19ca0db4c8a3bd4d55b254ad35f820deefe48", func := "sightbench/sightbenchlaw10.RecipeKeeps", spec := "recipeKeeps", inPlace := ["math/bits.Add64", "math/bits.Sub64", "slices.overlaps[int]"], unfollowed := true, recurses := true, named := ["math/bits.divideError", "math/bits.overflowError"], apart := false, narrowed := true }
def RecipeKeepsUptoSaid : Prop := recipeKeepsUptoRow.holds Tryz.pinned (OpenSpec.upto recipeKeepsSpec)

/-- 'sightbenchlaw10.RecipeApproved', WHERE WHAT IT READS IS OF BULK AT MOST 1048576: true; the input reads as it did. -/
def recipeApprovedUptoRow : OpenClaim := { program := "ytiimhccemdcnpaagreat", sum := "b9b9809af4eb72b400eaf560fae19ca0db4c8a3bd4d55b254ad35f820deefe48", func := "sightbench/sightbenchlaw10.RecipeApproved", spec := "recipeApproved", inPlace := ["math/bits.Add64", "math/bits.Sub64", "slices.overlaps[int]"], unfollowed := true, recurses := true, named := ["math/bits.divideError", "math/bits.overflowError"], apart := false, narrowed := true }
def RecipeApprovedUptoSaid : Prop := recipeApprovedUptoRow.holds Tryz.pinned (OpenSpec.upto recipeApprovedSpec)

/-- 'sightbenchlaw10.RecipeHeld', WHERE WHAT IT READS IS OF BULK AT MOST 1048576: true; the input reads as it did. -/
def recipeHeldUptoRow : OpenClaim := { program := "ytiimhccemdcnpaagreat", sum := "b9b9809af4eb72b400eaf560fae19ca0db4c8a3bd4d55b254ad35f820deefe48", func := "sightbench/sightbenchlaw10.RecipeHeld", spec := "recipeHeld", inPlace := ["math/bits.Add64", "math/bits.Sub64", "slices.overlaps[int]"], unfollowed := true, recurses := true, named := ["math/bits.divideError", "math/bits.overflowError"], apart := false, narrowed := true }
def RecipeHeldUptoSaid : Prop := recipeHeldUptoRow.holds Tryz.pinned (OpenSpec.upto recipeHeldSpec)

/-- 'sightbenchlaw10.RecipeFixed', WHERE WHAT IT READS IS OF BULK AT MOST 1048576: true; the input reads as it did. -/
def recipeFixedUptoRow : OpenClaim := { program := "ytiimhccemdcnpaagreat", sum := "b9b9809af4eb72b400eaf560fae19ca0db4c8a3bd4d55b254ad35f820deefe48", func := "sightbench/sightbenchlaw10.RecipeFixed", spec := "recipeFixed", inPlace := ["math/bits.Add64", "math/bits.Sub64", "slices.overlaps[int]"], unfollowed := true, recurses := true, named := ["math/bits.divideError", "math/bits.overflowError"], apart := false, narrowed := true }
def RecipeFixedUptoSaid : Prop := recipeFixedUptoRow.holds Tryz.pinned (OpenSpec.upto recipeFixedSpec)

/-- 'sightbenchlaw10.RecipeRights', WHERE WHAT IT READS IS OF BULK AT MOST 1048576: true; the input reads as it did. -/
def recipeRightsUptoRow : OpenClaim := { program := "ytiimhccemdcnpaagreat", sum := "b9b9809af4eb72b400eaf560fae19ca0db4c8a3bd4d55b254ad35f820deefe48", func := "sightbench/sightbenchlaw10.RecipeRights", spec := "recipeRights", inPlace := ["math/bits.Add64", "math/bits.Sub64", "slices.overlaps[int]"], unfollowed := true, recurses := true, named := ["math/bits.divideError", "math/bits.overflowError"], apart := false, narrowed := true }
def RecipeRightsUptoSaid : Prop := recipeRightsUptoRow.holds Tryz.pinned (OpenSpec.upto recipeRightsSpec)

end Rows
end Go.Proofs.YtiimhccemdcnpaaGreat
