/- A helper text: contracts of functions of the program, and plain lemmas. -/
import Derived.Test.YtjkoeomndepolaaEvX
set_option maxRecDepth 100000
set_option maxHeartbeats 0
set_option linter.unusedVariables false
set_option linter.unusedSimpArgs false
namespace Go.Proofs.Try.My
open Go Go.Ev
/-! Division of two words by one, as Knuth does it. -/
/-- One digit: 'u' below 'y' and a digit 'e'; 'q', 'r' a guess from above. -/
structure Dig (y u e q r : Nat) : Prop where
  eq : q * (y / 4294967296) + r = u
  up : (u * 4294967296 + e) / y ≤ q
  le : q ≤ 4294967297
theorem dig_first {y u e : Nat} (hy : 9223372036854775808 ≤ y) (hy2 : y < 18446744073709551616) (hu : u < y) (he : e < 4294967296) : Dig y u e (u / (y / 4294967296)) (u % (y / 4294967296)) := by
  have h0 : 0 < y / 4294967296 := by omega
  have h1 : u / (y / 4294967296) * (y / 4294967296) + u % (y / 4294967296) = u := Nat.div_add_mod' u (y / 4294967296)
  have hyd : y = y / 4294967296 * 4294967296 + y % 4294967296 := by omega
  refine ⟨h1, ?_, ?_⟩
  · have hm := Nat.mod_lt u h0
    generalize u / (y / 4294967296) = q at *
    generalize u % (y / 4294967296) = r at *
    generalize hp : y / 4294967296 = p at *
    have hd : u * 4294967296 + e < (q + 1) * y := by
      have e1 : (q + 1) * y = (q + 1) * p * 4294967296 + (q + 1) * (y % 4294967296) := by
        generalize y % 4294967296 = m at hyd
        rw [hyd, Nat.mul_add, Nat.mul_assoc]
      have e2 : (q + 1) * p = q * p + p := by rw [Nat.add_mul, Nat.one_mul]
      omega
    exact Nat.le_of_lt_succ ((Nat.div_lt_iff_lt_mul (by omega)).2 hd)
  · have hm := Nat.mod_lt u h0
    generalize u / (y / 4294967296) = q at *
    generalize u % (y / 4294967296) = r at *
    generalize hp : y / 4294967296 = p at *
    have hpl : 2147483648 ≤ p := by omega
    refine Nat.le_of_lt_succ (Nat.lt_of_not_le fun hq => ?_)
    have : 4294967298 * p ≤ q * p := Nat.mul_le_mul_right p hq
    omega
theorem dig_top {y u e : Nat} (hy : 0 < y) (hu : u < y) (he : e < 4294967296) : (u * 4294967296 + e) / y < 4294967296 := by
  refine (Nat.div_lt_iff_lt_mul hy).2 ?_
  have : (u + 1) * 4294967296 ≤ y * 4294967296 := Nat.mul_le_mul_right _ hu
  rw [Nat.mul_comm 4294967296 y]
  omega
theorem dig_iff {y u e q r : Nat} (h : Dig y u e q r) (hy : 0 < y) : q * (y % 4294967296) > 4294967296 * r + e ↔ (u * 4294967296 + e) / y < q := by
  have hyd : y = y / 4294967296 * 4294967296 + y % 4294967296 := by omega
  rw [Nat.div_lt_iff_lt_mul hy]
  have e1 : q * y = q * (y / 4294967296) * 4294967296 + q * (y % 4294967296) := by
    generalize y % 4294967296 = m at *
    generalize y / 4294967296 = p at *
    rw [hyd, Nat.mul_add, Nat.mul_assoc]
  have := h.eq
  omega
/-- The guess is right: it stops. -/
theorem dig_done {y u e q r : Nat} (h : Dig y u e q r) (hy : 0 < y) (hn : q * (y % 4294967296) ≤ 4294967296 * r + e) : q = (u * 4294967296 + e) / y := by
  have h1 : ¬ (u * 4294967296 + e) / y < q := fun h2 => by
    have := (dig_iff h hy).2 h2
    omega
  have := h.up
  omega
/-- The guess is too large: the next one. -/
theorem dig_next {y u e q r : Nat} (h : Dig y u e (q + 1) r) (hy : 0 < y) (hu : u < y) (he : e < 4294967296) (hc : 4294967296 ≤ q + 1 ∨ (q + 1) * (y % 4294967296) > 4294967296 * r + e) : Dig y u e q (r + y / 4294967296) := by
  have ht := dig_top hy hu he
  have hq : (u * 4294967296 + e) / y < q + 1 := by
    rcases hc with hc | hc
    · exact Nat.lt_of_lt_of_le ht hc
    · exact (dig_iff h hy).1 hc
  have h1 := h.eq
  have hle := h.le
  refine ⟨?_, Nat.le_of_lt_succ hq, by omega⟩
  have : (q + 1) * (y / 4294967296) = q * (y / 4294967296) + y / 4294967296 := by rw [Nat.add_mul, Nat.one_mul]
  omega
theorem dig_pos {y u e q r : Nat} (h : Dig y u e q r) (hy : 0 < y) (hc : 4294967296 ≤ q ∨ q * (y % 4294967296) > 4294967296 * r + e) : 0 < q := by
  rcases Nat.eq_zero_or_pos q with h0 | h0
  · subst h0; simp at hc
  · exact h0
/-- The rest is great: the guess is right. -/
theorem dig_break {y u e q r : Nat} (h : Dig y u e q r) (hy : 0 < y) (hq : q ≤ 4294967296) (hr : 4294967296 ≤ r) : q = (u * 4294967296 + e) / y := by
  refine dig_done h hy ?_
  have : q * (y % 4294967296) ≤ 4294967296 * 4294967295 := Nat.mul_le_mul hq (by omega)
  omega
/-- What is left behind a digit. -/
theorem dig_rest {y u e : Nat} (hy : 0 < y) (hy2 : y < 18446744073709551616) : (u * 4294967296 % 18446744073709551616 + e + (18446744073709551616 - (u * 4294967296 + e) / y * y % 18446744073709551616)) % 18446744073709551616 = (u * 4294967296 + e) % y := by
  have h1 := Nat.div_add_mod' (u * 4294967296 + e) y
  have h2 := Nat.mod_lt (u * 4294967296 + e) hy
  generalize (u * 4294967296 + e) / y * y = m at *
  omega
/-- Both digits together. -/
theorem two_digits_aux {y v w q r f : Nat} (hy : 0 < y) (h1 : q * y + r = v) (h2 : w = v * 4294967296 + f) : q * 4294967296 + (r * 4294967296 + f) / y = w / y ∧ (r * 4294967296 + f) % y = w % y := by
  have e1 : w = (r * 4294967296 + f) + y * (q * 4294967296) := by
    have : y * (q * 4294967296) = q * y * 4294967296 := by rw [Nat.mul_left_comm, ← Nat.mul_assoc]
    rw [this, h2]
    omega
  have k1 := Nat.add_mul_div_left (r * 4294967296 + f) (q * 4294967296) hy
  have k2 := Nat.add_mul_mod_self_left (r * 4294967296 + f) y (q * 4294967296)
  rw [← e1] at k1 k2
  exact ⟨(Nat.add_comm _ _).trans k1.symm, k2.symm⟩
theorem two_digits {y u e f w : Nat} (hy : 0 < y) (hw : w = (u * 4294967296 + e) * 4294967296 + f) : (u * 4294967296 + e) / y * 4294967296 + ((u * 4294967296 + e) % y * 4294967296 + f) / y = w / y ∧ ((u * 4294967296 + e) % y * 4294967296 + f) % y = w % y :=
  two_digits_aux hy (Nat.div_add_mod' _ _) hw
end Go.Proofs.Try.My
