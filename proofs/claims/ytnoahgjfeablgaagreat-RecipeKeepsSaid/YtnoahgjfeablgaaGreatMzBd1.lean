/- A helper text: contracts of functions of the program, and plain lemmas. -/
import Derived.Test.YtnoahgjfeablgaaGreatMzBd0
import Derived.Test.YtnoahgjfeablgaaGreatMzBp9
set_option maxRecDepth 100000
set_option maxHeartbeats 0
set_option linter.unusedVariables false
set_option linter.unusedSimpArgs false
namespace Go.Proofs.YtnoahgjfeablgaaGreat.BooksIn
open Go Go.Ev Go.Proofs.Tryz.My
open Go.ChangeShapes Go.WideShapes Go.ChangeAt Go.RowKit
theorem dAct0 : DecM Tryz.prog 85 (fun y : ((((Int × Int) × Int) × Int) × GauT) × List Int => ((((([u8 y.1.1.1.1.1] ++ [i64 y.1.1.1.1.2]) ++ [i64 y.1.1.1.2]) ++ [u8 y.1.1.2]) ++ eG y.1.2) ++ [ints y.2]))
    (fun y => (((((Lit.int .u8 y.1.1.1.1.1).wf = true ∧ I64 y.1.1.1.1.2) ∧ I64 y.1.1.1.2) ∧ (Lit.int .u8 y.1.1.2).wf = true) ∧ ((((I64 y.1.2.1.1.1.1 ∧ I64 y.1.2.1.1.1.2) ∧ ((I64 y.1.2.1.1.2.1.1 ∧ I64 y.1.2.1.1.2.1.2) ∧ (I64 y.1.2.1.1.2.2.1 ∧ I64 y.1.2.1.1.2.2.2))) ∧ (I64 y.1.2.1.2.1 ∧ I64 y.1.2.1.2.2)) ∧ (I64 y.1.2.2.1 ∧ I64 y.1.2.2.2))) ∧ True) :=
  decM_all Tryz.underlying85 rfl (by kernel_rfl)
    (decM_more (k := 5) Tryz.underlying85 rfl (by kernel_rfl) (decM_more (k := 4) Tryz.underlying85 rfl (by kernel_rfl) (decM_more (k := 3) Tryz.underlying85 rfl (by kernel_rfl) (decM_more (k := 2) Tryz.underlying85 rfl (by kernel_rfl) (decM_more (k := 1) Tryz.underlying85 rfl (by kernel_rfl)
      (decM_one Tryz.underlying85 rfl (by kernel_rfl) dU8) dInt (fun _ => by kernel_rfl)) dInt (fun _ => by kernel_rfl)) dU8 (fun _ => by kernel_rfl)) dGaugeM (fun _ => by kernel_rfl)) dInts (fun _ => by kernel_rfl))
theorem dAct : DecM Tryz.prog 85 eAct (fun _ => True) := by
  refine DecM.weak (DecM.map (en' := eAct) dAct0 (fun y => (⟨y.1.1.1.1.1, y.1.1.1.1.2, y.1.1.1.2, y.1.1.2, y.1.2, y.2⟩ : ActT)) (fun _ => rfl)) fun _ _ => trivial
end Go.Proofs.YtnoahgjfeablgaaGreat.BooksIn
