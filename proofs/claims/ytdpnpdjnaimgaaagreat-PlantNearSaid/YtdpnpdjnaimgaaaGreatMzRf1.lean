/- Helper lemmas. -/
import Derived.Test.YtdpnpdjnaimgaaaGreatMzExA
set_option linter.unusedVariables false
set_option linter.unusedSimpArgs false
set_option maxRecDepth 100000
set_option maxHeartbeats 0
namespace Go.Proofs.Tryz.My
open Go Go.Ev
theorem zI (x y c:Nat) (hc:c<=1):PC Tryz.prog 318 [u64 x,u64 y,u64 c] (.tup [u64 ((x + y + c) % 18446744073709551616),u64 ((x + y + c) / 18446744073709551616)]) :=
 JF Tryz.func318 (by kernel_rfl) (by kernel_rfl) (by kernel_rfl) (by kernel_rfl) x y c hc
theorem Ke (x y c:Nat) (hc:c<=1):PC Tryz.prog 319 [u64 x,u64 y,u64 c] (.tup [u64 ((x + 18446744073709551616 - y - c) % 18446744073709551616),u64 (if x < y + c then 1 else 0)]) :=
 JH Tryz.func319 (by kernel_rfl) (by kernel_rfl) (by kernel_rfl) (by kernel_rfl) x y c hc

end Go.Proofs.Tryz.My
