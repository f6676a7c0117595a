/- Helper lemmas. -/
import Derived.Test.YtpmmjoccamogdaaGreatMyExA
set_option linter.unusedVariables false
set_option linter.unusedSimpArgs false
set_option maxRecDepth 100000
set_option maxHeartbeats 0
namespace Go.Proofs.Tryz.My
open Go Go.Ev
theorem xY (x y c:Nat) (hc:c<=1):PC Tryz.prog 112 [u64 x,u64 y,u64 c] (.tup [u64 ((x + y + c) % 18446744073709551616),u64 ((x + y + c) / 18446744073709551616)]) :=
 xw Tryz.func112 (by kernel_rfl) (by kernel_rfl) (by kernel_rfl) (by kernel_rfl) x y c hc
theorem xZ (x y c:Nat) (hc:c<=1):PC Tryz.prog 113 [u64 x,u64 y,u64 c] (.tup [u64 ((x + 18446744073709551616 - y - c) % 18446744073709551616),u64 (if x < y + c then 1 else 0)]) :=
 xy Tryz.func113 (by kernel_rfl) (by kernel_rfl) (by kernel_rfl) (by kernel_rfl) x y c hc

end Go.Proofs.Tryz.My
