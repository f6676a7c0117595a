/- Words: unsigned numbers of 64 bits, as natural numbers. A helper text: it speaks of no program. -/
import Derived.Test.YtpcipgblegdeeaaEvU
import Derived.Lib.Mul64
set_option linter.unusedVariables false
set_option linter.unusedSimpArgs false
namespace Go.Ev

/-- A word. -/
abbrev u64 (n : Nat) : AV := .int .u64 (n : Int)
theorem wu (n : Nat) (h : n < 18446744073709551616) : IntKind.u64.wrap (n : Int) = n := wu64 _ (by omega) (by have : n < 18446744073709551616 := h; omega)
theorem wumod (n : Int) : IntKind.u64.wrap n = ((n % 18446744073709551616).toNat : Int) := by simp [IntKind.wrap, IntKind.bits, IntKind.signed]; omega
theorem wi (n : Int) (h1 : -9223372036854775808 ≤ n) (h2 : n ≤ 9223372036854775807) : IntKind.i64.wrap n = n := w64 n h1 h2

theorem bits_and_u (a b : Nat) (ha : a < 18446744073709551616) (hb : b < 18446744073709551616) : bits .and .u64 (a : Int) (b : Int) = ((a &&& b : Nat) : Int) := by
  have h : (BitVec.ofInt 64 (a : Int) &&& BitVec.ofInt 64 (b : Int)).toNat = a &&& b := by
    rw [BitVec.toNat_and, BitVec.toNat_ofInt, BitVec.toNat_ofInt]
    congr 1 <;> omega
  show IntKind.u64.wrap (((BitVec.ofInt 64 (a : Int) &&& BitVec.ofInt 64 (b : Int)).toNat : Nat) : Int) = _
  rw [h]
  exact wu _ (Nat.lt_of_le_of_lt Nat.and_le_left ha)
theorem bits_or_u (a b : Nat) (ha : a < 18446744073709551616) (hb : b < 18446744073709551616) : bits .or .u64 (a : Int) (b : Int) = ((a ||| b : Nat) : Int) := by
  have h : (BitVec.ofInt 64 (a : Int) ||| BitVec.ofInt 64 (b : Int)).toNat = a ||| b := by
    rw [BitVec.toNat_or, BitVec.toNat_ofInt, BitVec.toNat_ofInt]
    congr 1 <;> omega
  show IntKind.u64.wrap (((BitVec.ofInt 64 (a : Int) ||| BitVec.ofInt 64 (b : Int)).toNat : Nat) : Int) = _
  rw [h]
  exact wu _ (Nat.or_lt_two_pow (n := 64) ha hb)
theorem bits_xor_u (a b : Nat) (ha : a < 18446744073709551616) (hb : b < 18446744073709551616) : bits .xor .u64 (a : Int) (b : Int) = ((a ^^^ b : Nat) : Int) := by
  have h : (BitVec.ofInt 64 (a : Int) ^^^ BitVec.ofInt 64 (b : Int)).toNat = a ^^^ b := by
    rw [BitVec.toNat_xor, BitVec.toNat_ofInt, BitVec.toNat_ofInt]
    congr 1 <;> omega
  show IntKind.u64.wrap (((BitVec.ofInt 64 (a : Int) ^^^ BitVec.ofInt 64 (b : Int)).toNat : Nat) : Int) = _
  rw [h]
  exact wu _ (Nat.xor_lt_two_pow (n := 64) ha hb)
theorem bits_not_u (a : Nat) (ha : a < 18446744073709551616) : bits .xor .u64 (18446744073709551615 : Int) (a : Int) = ((18446744073709551615 - a : Nat) : Int) := by
  have h := bits_xor_u 18446744073709551615 a (by decide) ha
  have e : (18446744073709551615 ^^^ a : Nat) = 18446744073709551615 - a := by
    have h2 : BitVec.ofNat 64 (18446744073709551615 - a) = ~~~ (BitVec.ofNat 64 a) := by
      apply BitVec.eq_of_toNat_eq
      rw [BitVec.toNat_not]
      simp
      omega
    have h3 : (BitVec.allOnes 64 ^^^ BitVec.ofNat 64 a) = ~~~ (BitVec.ofNat 64 a) := BitVec.allOnes_xor ..
    have h4 := congrArg BitVec.toNat (h3.trans h2.symm)
    rw [BitVec.toNat_xor, BitVec.toNat_ofNat, BitVec.toNat_ofNat, BitVec.toNat_allOnes, Nat.mod_eq_of_lt ha, Nat.mod_eq_of_lt (by omega)] at h4
    exact h4
  rw [e] at h
  exact h
theorem shr_u (a k : Nat) (hk : k ≤ 64) : ((a : Nat) : Int).fdiv (2 ^ min (Int.toNat (k : Int)) IntKind.u64.bits) = ((a / 2 ^ k : Nat) : Int) := by
  have : min (Int.toNat (k : Int)) IntKind.u64.bits = k := by show min k 64 = k; omega
  rw [this, Int.fdiv_eq_ediv_of_nonneg _ (by exact Int.le_of_lt (Int.pow_pos (by decide)))]
  simp
theorem shl_u (a k : Nat) (hk : k ≤ 64) : IntKind.u64.wrap ((a : Int) * 2 ^ min (Int.toNat (k : Int)) IntKind.u64.bits) = ((a * 2 ^ k % 18446744073709551616 : Nat) : Int) := by
  have : min (Int.toNat (k : Int)) IntKind.u64.bits = k := by show min k 64 = k; omega
  rw [this, wumod]
  have e : (a : Int) * 2 ^ k = ((a * 2 ^ k : Nat) : Int) := by simp
  rw [e]
  omega
theorem mul_u (a b : Nat) : IntKind.u64.wrap ((a : Int) * (b : Int)) = ((a * b % 18446744073709551616 : Nat) : Int) := by
  rw [wumod]
  have e : (a : Int) * b = ((a * b : Nat) : Int) := by simp
  rw [e]
  omega
theorem add_u (a b : Nat) : IntKind.u64.wrap ((a : Int) + (b : Int)) = (((a + b) % 18446744073709551616 : Nat) : Int) := by rw [wumod]; omega
theorem sub_u (a b : Nat) (hb : b ≤ 18446744073709551616) : IntKind.u64.wrap ((a : Int) - (b : Int)) = (((a + (18446744073709551616 - b)) % 18446744073709551616 : Nat) : Int) := by rw [wumod]; omega
theorem div_u (a b : Nat) (ha : a < 18446744073709551616) : IntKind.u64.wrap ((a : Int).tdiv (b : Int)) = ((a / b : Nat) : Int) := by
  rw [Int.tdiv_eq_ediv_of_nonneg (by omega)]
  have e : (a : Int) / b = ((a / b : Nat) : Int) := by simp
  rw [e]
  exact wu _ (Nat.lt_of_le_of_lt (Nat.div_le_self a b) ha)
theorem mod_u (a b : Nat) : (a : Int).tmod (b : Int) = ((a % b : Nat) : Int) := by
  rw [Int.tmod_eq_emod_of_nonneg (by omega)]
  simp
theorem and_mask32 (a : Nat) : a &&& 4294967295 = a % 4294967296 := Nat.and_two_pow_sub_one_eq_mod a 32
theorem mask32_u (a : Nat) (ha : a < 18446744073709551616) : bits .and .u64 (a : Int) 4294967295 = ((a % 4294967296 : Nat) : Int) := by
  have := bits_and_u a 4294967295 ha (by decide)
  rw [and_mask32] at this
  exact this
theorem shr32_u (a : Nat) : ((a : Nat) : Int).fdiv (2 ^ min (Int.toNat 32) IntKind.u64.bits) = ((a / 4294967296 : Nat) : Int) := shr_u a 32 (by omega)
theorem shr63_u (a : Nat) : ((a : Nat) : Int).fdiv (2 ^ min (Int.toNat 63) IntKind.u64.bits) = ((a / 9223372036854775808 : Nat) : Int) := shr_u a 63 (by omega)

/-- A number of two words. -/
abbrev pr (n : Nat) : AV := .agg [u64 (n / 18446744073709551616), u64 (n % 18446744073709551616)]
/-- A fraction. -/
abbrev fr (x : Int × Int) : AV := .agg [i64 x.1, i64 x.2]
abbrev eF (x : Int × Int) : List AV := [i64 x.1, i64 x.2]

/-- The top bit of a sum's carry. -/
theorem carry_bit (x y s : Nat) (hx : x < 18446744073709551616) (hy : y < 18446744073709551616) (hs : s = (x + y) % 18446744073709551616) : ((x &&& y) ||| ((x ||| y) &&& (18446744073709551615 - s))) / 9223372036854775808 = (x + y) / 18446744073709551616 := by
  have tb : ∀ n : Nat, n < 18446744073709551616 → n / 9223372036854775808 = (n.testBit 63).toNat := by
    intro n hn
    rw [Nat.toNat_testBit]
    omega
  have lt : ((x &&& y) ||| ((x ||| y) &&& (18446744073709551615 - s))) < 18446744073709551616 := Nat.or_lt_two_pow (n := 64) (Nat.lt_of_le_of_lt Nat.and_le_left hx) (Nat.lt_of_le_of_lt Nat.and_le_left (Nat.or_lt_two_pow (n := 64) hx hy))
  rw [tb _ lt, Nat.testBit_or, Nat.testBit_and, Nat.testBit_and, Nat.testBit_or]
  have hx' := tb x hx
  have hy' := tb y hy
  have hs' := tb (18446744073709551615 - s) (by omega)
  cases h1 : x.testBit 63 <;> cases h2 : y.testBit 63 <;> cases h3 : (18446744073709551615 - s).testBit 63 <;> simp only [h1, h2, h3, Bool.toNat_false, Bool.toNat_true] at hx' hy' hs' <;> simp <;> omega
end Go.Ev
