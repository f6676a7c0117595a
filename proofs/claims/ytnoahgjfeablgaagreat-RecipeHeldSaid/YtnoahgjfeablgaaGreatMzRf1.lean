/- A helper text: contracts of functions of the program, and plain lemmas. -/
import Derived.Test.YtnoahgjfeablgaaGreatEvSix
import Derived.Test.YtnoahgjfeablgaaGreatMzExA
set_option maxRecDepth 100000
set_option maxHeartbeats 0
set_option linter.unusedVariables false
set_option linter.unusedSimpArgs false
namespace Go.Proofs.Tryz.My
open Go Go.Ev
def sgR (n : Int) : Int := if n < 0 then -1 else if 0 < n then 1 else 0
theorem pc_Add64 (x y c : Nat) (hc : c ≤ 1) : PC Tryz.prog 185 [u64 x, u64 y, u64 c] (.tup [u64 ((x + y + c) % 18446744073709551616), u64 ((x + y + c) / 18446744073709551616)]) :=
  pc_add64 Tryz.func185 (by kernel_rfl) (by kernel_rfl) (by kernel_rfl) (by kernel_rfl) x y c hc
theorem pc_Sub64 (x y c : Nat) (hc : c ≤ 1) : PC Tryz.prog 186 [u64 x, u64 y, u64 c] (.tup [u64 ((x + 18446744073709551616 - y - c) % 18446744073709551616), u64 (if x < y + c then 1 else 0)]) :=
  pc_sub64 Tryz.func186 (by kernel_rfl) (by kernel_rfl) (by kernel_rfl) (by kernel_rfl) x y c hc
abbrev cW (n : Nat) : Row := .cells 206 [u64 (n / 18446744073709551616), u64 (n % 18446744073709551616)]
end Go.Proofs.Tryz.My
