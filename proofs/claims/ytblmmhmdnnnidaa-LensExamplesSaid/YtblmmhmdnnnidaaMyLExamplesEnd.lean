/- The limits, the numbers of errors and the examples of chapter 4. -/
import Derived.Test.YtblmmhmdnnnidaaMyXl1
import Derived.Test.YtblmmhmdnnnidaaEvZ
import Derived.Test.YtblmmhmdnnnidaaEvZa
import Derived.Test.YtblmmhmdnnnidaaMyIniA
import Derived.Test.YtblmmhmdnnnidaaRows
import Derived.WalkKit
import Derived.ProofKit
import Derived.OpenShut
import Derived.ChangeOld
import Derived.Below
set_option maxRecDepth 100000
set_option maxHeartbeats 0
set_option linter.unusedVariables false
set_option linter.unusedSimpArgs false
namespace Go.Proofs.Ytblmmhmdnnnidaa.LensExamplesDone
open Go Go.Ev Go.Proofs.Try.My
open Go.ChangeShapes Go.WideShapes Go.ChangeAt Go.RowKit

theorem own : ownKnob Try.prog.godebug = none := by kernel_rfl
theorem laidOut : laidOutB Try.prog = true := by kernel_rfl

theorem walk (w : World)  :
    Calls Try.prog 4 #[] w fun e w' => e = .returned (.bool true) ∧ Below w.heap.size w w' := by
  refine PC.callsTrue (pc_LensExamples ) Try.func4 (by kernel_rfl) rfl rfl fun i hi => ?_
  exact absurd hi (Nat.not_lt_zero i)

theorem lifted (os : Os) (started : os.Started) (H : Type) (enc : TypeId × Value → H) :
    ReturnsInHanded {} Try.checked os 4 .any (Rows.lensExamplesSpec.pre6 enc Try.prog Try.f4 Rows.lensExamplesRow.domain false) (Rows.lensExamplesSpec.post enc Try.prog Try.f4 false true false false) := by
  refine returnsInHanded_of_change (C := Try.checked) own started (by kernel_rfl) Try.func4
    (ChangeSpec.witness6 (enc := enc) (C := Try.checked) false ⟨#[], #[], []⟩ 8 (by kernel_rfl) (by kernel_rfl) (by kernel_rfl) (by kernel_rfl)) ?_
  intro W base args ds gs before hval0 hW hcnd _
  have hval : ∀ (j : Nat) t v, Try.f4.params[j]? = some t → args[j]? = some v → Value.okWide Try.prog W .any base t v := hval0
  have hW' := hW
  obtain ⟨p, q, hA0, hV, rfl, hfz, hnd⟩ := hW
  have hA : DataW.TrodAll enc Try.prog W 0 (fun _ => true) true Try.f4.params.toList args.toList ds p := hA0
  rw [Try.params4] at hA hval
  obtain ⟨ha, rfl, rfl⟩ := trodAll_nil hA
  obtain rfl : args = #[] := by cases args; simp_all
  obtain ⟨rfl, rfl⟩ := trodVars_none hV
  clear hA0 hval0
  refine (walk W ).mono fun e W' ⟨he, bel⟩ => ?_
  subst he
  exact ⟨_, rfl, _, _, _, [], _, [], hW', trodAll_mk1 (shut_bool Try.underlying4 _), trodAll_mk0, rfl, bel.frame _, fun h => by cases h⟩

theorem closed : joinedFacts Try.pinned.checked.prog 4 Try.f4 Rows.lensExamplesSpec Rows.lensExamplesRow = true :=
  (restOf Try.pinned.checked.prog 4 Try.f4 Rows.lensExamplesSpec Rows.lensExamplesRow make_eq mayEnter_eq liftsFinal_eq).2 (by kernel_rfl)
theorem over : Rows.lensExamplesRow.holds Try.pinned (OpenSpec.ofChange Rows.lensExamplesSpec) :=
  OpenClaim.holds_of_wide 4 Try.f4 rfl rfl rfl rfl rfl rfl rfl ⟨rfl, rfl, rfl, rfl, rfl⟩ rfl rfl rfl rfl rfl (by kernel_rfl) Try.func4 closed
    (of_decide_eq_true (by kernel_rfl)) (by unfold Func.isWrapper; first | (rw [if_pos (by decide +kernel)]; kernel_rfl) | (rw [if_neg (by decide +kernel)]; exact ⟨rfl, rfl⟩))
    (fun os started H enc _ => lifted os started H enc)

theorem proved : Rows.LensExamplesSaid := over
#print axioms proved
end Go.Proofs.Ytblmmhmdnnnidaa.LensExamplesDone
