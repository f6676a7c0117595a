/- A helper text: contracts of functions of the program, and plain lemmas. -/
import Derived.Test.YtdpnpdjnaimgaaaGreatEvSix
import Derived.Test.YtdpnpdjnaimgaaaGreatMzExA
set_option maxRecDepth 100000
set_option maxHeartbeats 0
set_option linter.unusedVariables false
set_option linter.unusedSimpArgs false
namespace Go.Proofs.Tryz.My
open Go Go.Ev
def sgR (n:Int):Int:=if n < 0 then -1 else if 0 < n then 1 else 0
theorem a6T (x y c:Nat) (hc:c<=1):PC Tryz.prog 318 [u64 x,u64 y,u64 c] (.tup [u64 ((x + y + c) % 18446744073709551616),u64 ((x + y + c) / 18446744073709551616)]) :=
 b1z Tryz.func318 (by kernel_rfl) (by kernel_rfl) (by kernel_rfl) (by kernel_rfl) x y c hc
theorem b1U (x y c:Nat) (hc:c<=1):PC Tryz.prog 319 [u64 x,u64 y,u64 c] (.tup [u64 ((x + 18446744073709551616 - y - c) % 18446744073709551616),u64 (if x < y + c then 1 else 0)]) :=
 b1B Tryz.func319 (by kernel_rfl) (by kernel_rfl) (by kernel_rfl) (by kernel_rfl) x y c hc
abbrev cW (n:Nat):Row := .cells 321 [u64 (n / 18446744073709551616),u64 (n % 18446744073709551616)]

end Go.Proofs.Tryz.My
