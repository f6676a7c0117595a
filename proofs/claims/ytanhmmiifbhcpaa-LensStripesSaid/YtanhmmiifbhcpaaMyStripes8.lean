/- For every number, every two lists of ints and every noise, sightbenchlaw04.LensStripes returns true, and its arguments read behind the call as they read before. No condition. -/
import Derived.Test.YtanhmmiifbhcpaaMyStripes7
import Derived.Test.YtanhmmiifbhcpaaMyInit2
set_option maxRecDepth 100000
set_option maxHeartbeats 0
namespace Go.Proofs.Ytanhmmiifbhcpaa.LensStripesDone
open Go Go.Ev Go.Proofs.Try.My
open Go.ChangeShapes Go.WideShapes Go.ChangeAt Go.RowKit

theorem closed : joinedFacts Try.pinned.checked.prog 3 Try.f3 Rows.lensStripesSpec Rows.lensStripesRow = true :=
  (restOf Try.pinned.checked.prog 3 Try.f3 Rows.lensStripesSpec Rows.lensStripesRow make_eq mayEnter_eq liftsFinal_eq).2 (by kernel_rfl)
theorem over : Rows.lensStripesRow.holds Try.pinned (OpenSpec.ofChange Rows.lensStripesSpec) :=
  OpenClaim.holds_of_wide 3 Try.f3 rfl rfl rfl rfl rfl rfl rfl ⟨rfl, rfl, rfl, rfl, rfl⟩ rfl rfl rfl rfl rfl (by kernel_rfl) Try.func3 closed
    (of_decide_eq_true (by kernel_rfl)) (by unfold Func.isWrapper; first | (rw [if_pos (by decide +kernel)]; kernel_rfl) | (rw [if_neg (by decide +kernel)]; exact ⟨rfl, rfl⟩))
    (fun os started H enc _ => lifted os started H enc)

theorem proved : Rows.LensStripesSaid := over
#print axioms proved
end Go.Proofs.Ytanhmmiifbhcpaa.LensStripesDone
