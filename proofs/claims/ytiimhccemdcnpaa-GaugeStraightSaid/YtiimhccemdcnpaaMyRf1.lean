/- A helper text: contracts of functions of the program, and plain lemmas. -/
import Derived.Test.YtiimhccemdcnpaaMyExA
import Derived.Test.YtiimhccemdcnpaaEvSix
set_option maxRecDepth 100000
set_option maxHeartbeats 0
set_option linter.unusedVariables false
set_option linter.unusedSimpArgs false
namespace Go.Proofs.Try.My
open Go Go.Ev

def sgR (n : Int) : Int := if n < 0 then -1 else if 0 < n then 1 else 0
theorem pc_Add64 (x y c : Nat) (hc : c ≤ 1) : PC Try.prog 88 [u64 x, u64 y, u64 c] (.tup [u64 ((x + y + c) % 18446744073709551616), u64 ((x + y + c) / 18446744073709551616)]) :=
  pc_add64 Try.func88 (by kernel_rfl) (by kernel_rfl) (by kernel_rfl) (by kernel_rfl) x y c hc
theorem pc_Sub64 (x y c : Nat) (hc : c ≤ 1) : PC Try.prog 89 [u64 x, u64 y, u64 c] (.tup [u64 ((x + 18446744073709551616 - y - c) % 18446744073709551616), u64 (if x < y + c then 1 else 0)]) :=
  pc_sub64 Try.func89 (by kernel_rfl) (by kernel_rfl) (by kernel_rfl) (by kernel_rfl) x y c hc
theorem and_one_u (a : Nat) (ha : a < 18446744073709551616) : bits .and .u64 (a : Int) 1 = ((a % 2 : Nat) : Int) := by
  have := bits_and_u a 1 ha (by decide)
  rw [Nat.and_one_is_mod] at this
  exact this
/-- What is left of a number behind its lowest bits. -/
theorem top_step (a : Nat) (k : Nat) : a / 2 ^ k = 2 * (a / 2 ^ (k + 1)) + a / 2 ^ k % 2 := by
  have : a / 2 ^ (k + 1) = a / 2 ^ k / 2 := by rw [Nat.pow_succ, Nat.div_div_eq_div_mul]
  omega
theorem part_step (a b k : Nat) (hb : 0 < b) : (b ≤ 2 * (a / 2 ^ (k + 1) % b) + a / 2 ^ k % 2 → a / 2 ^ k / b = 2 * (a / 2 ^ (k + 1) / b) + 1 ∧ a / 2 ^ k % b = 2 * (a / 2 ^ (k + 1) % b) + a / 2 ^ k % 2 - b) ∧
    (2 * (a / 2 ^ (k + 1) % b) + a / 2 ^ k % 2 < b → a / 2 ^ k / b = 2 * (a / 2 ^ (k + 1) / b) ∧ a / 2 ^ k % b = 2 * (a / 2 ^ (k + 1) % b) + a / 2 ^ k % 2) := by
  have h1 := top_step a k
  have h2 := Nat.div_add_mod (a / 2 ^ (k + 1)) b
  have h3 := Nat.mod_lt (a / 2 ^ (k + 1)) hb
  have h4 : a / 2 ^ k % 2 < 2 := Nat.mod_lt _ (by omega)
  generalize a / 2 ^ (k + 1) % b = r at *
  generalize hq : a / 2 ^ (k + 1) / b = q at *
  generalize a / 2 ^ (k + 1) = t at *
  generalize a / 2 ^ k % 2 = c at *
  generalize a / 2 ^ k = s at *
  have hs : s = b * (2 * q) + (2 * r + c) := by rw [h1, ← h2, Nat.mul_add, Nat.mul_left_comm]; omega
  constructor
  · intro h
    have hs2 : s = b * (2 * q + 1) + (2 * r + c - b) := by rw [hs, Nat.mul_add, Nat.mul_one]; omega
    constructor
    · rw [hs2, Nat.mul_add_div hb, Nat.div_eq_of_lt (by omega)]
    · rw [hs2, Nat.mul_add_mod, Nat.mod_eq_of_lt (by omega)]
  · intro h
    constructor
    · rw [hs, Nat.mul_add_div hb, Nat.div_eq_of_lt (by omega)]; omega
    · rw [hs, Nat.mul_add_mod, Nat.mod_eq_of_lt (by omega)]
end Go.Proofs.Try.My
