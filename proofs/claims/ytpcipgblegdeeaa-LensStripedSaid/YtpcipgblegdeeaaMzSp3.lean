/- A helper text: contracts of functions of the program, and plain lemmas. -/
import Derived.Test.YtpcipgblegdeeaaMzSpA
set_option maxRecDepth 100000
set_option maxHeartbeats 0
set_option linter.unusedVariables false
set_option linter.unusedSimpArgs false
namespace Go.Proofs.Try.My
open Go Go.Ev

theorem values_iff (l : List Int) (lo hi : Int) : (∀ i, i < l.length → withB (l.getD i 0) lo hi = true) ↔ l.any (outB lo hi) = false := by
  constructor
  · intro h
    refine List.any_eq_false.2 fun x hx => ?_
    obtain ⟨i, hi, rfl⟩ := List.getElem_of_mem hx
    have := h i hi
    simp only [List.getD, List.getElem?_eq_getElem hi, Option.getD_some, withB, Bool.and_eq_true, decide_eq_true_eq] at this
    simp only [outB, Bool.or_eq_true, decide_eq_true_eq]
    omega
  · intro h i hi
    have := val_of_any h i hi
    simp only [withB, Bool.and_eq_true, decide_eq_true_eq]
    exact this
def refB (on off : List Int) (noise : Int) (k : Nat) : Bool := decide (∀ i, i < on.length → okAt on off noise k i)
def refF (on off : List Int) (noise : Int) (k : Nat) : List Int := List.map (fun k : Nat => (k : Int)) ((List.range k).filter (refB on off noise))
theorem refF_len (on off : List Int) (noise : Int) (k : Nat) : (refF on off noise k).length ≤ k := by
  have := List.length_filter_le (refB on off noise) (List.range k)
  simp only [refF, List.length_map]
  simpa using this
theorem refF_pos {on off : List Int} {noise : Int} {k : Nat} (h : refB on off noise k = true) : refF on off noise (k + 1) = refF on off noise k ++ [(k : Int)] := by
  simp [refF, List.range_succ, h]
theorem refF_neg {on off : List Int} {noise : Int} {k : Nat} (h : refB on off noise k = false) : refF on off noise (k + 1) = refF on off noise k := by
  simp [refF, List.range_succ, h]

theorem and_split (a b c : Nat) : (a &&& b) = c ↔ ((a / 2) &&& (b / 2)) = c / 2 ∧ (a % 2 &&& b % 2) = c % 2 := by
  have h1 : (a &&& b) / 2 = (a / 2) &&& (b / 2) := by
    have := Nat.shiftRight_and_distrib (a := a) (b := b) (i := 1)
    simpa [Nat.shiftRight_eq_div_pow] using this
  have h2 : (a &&& b) % 2 = (a % 2 &&& b % 2) := by
    have := Nat.and_mod_two_pow (a := a) (b := b) (n := 1)
    simpa using this
  rw [← h1, ← h2]
  omega
theorem or1_eq (a : Nat) : 2 * a ||| 1 = 2 * a + 1 := by
  have := Nat.two_pow_add_eq_or_of_lt (i := 1) (b := 1) (by omega) a
  simpa using this.symm
def gN (k : Nat) : Nat := k ^^^ (k >>> 1)
theorem codeF_nat (k : Nat) (h : k < 2 ^ 60) : codeF (k : Int) = ((gN k : Nat) : Int) := by
  have e : IntKind.i64.wrap ((k : Int).tdiv 2) = ((k >>> 1 : Nat) : Int) := by
    rw [Nat.shiftRight_eq_div_pow, Int.tdiv_eq_ediv_of_nonneg (by omega), w64 _ (by omega) (by omega)]
    omega
  have h1 : k >>> 1 < 2 ^ 62 := by rw [Nat.shiftRight_eq_div_pow]; omega
  unfold codeF
  rw [e, bits_xor_nat _ _ (by omega) h1]
  rfl
theorem gN_lt (k : Nat) (h : k < 2 ^ 60) : gN k < 2 ^ 60 := Nat.xor_lt_two_pow h (by rw [Nat.shiftRight_eq_div_pow]; omega)
theorem bitAt_nat (n i k : Nat) (h : k < 2 ^ 60) (hi : i < n) : bitAt (n : Int) (i : Int) (k : Int) = ((gN k / 2 ^ (n - 1 - i) % 2 : Nat) : Int) := by
  unfold bitAt
  rw [codeF_nat k h]
  have e : ((n : Int) - 1 - i).toNat = n - 1 - i := by omega
  have e2 : (2 : Int) ^ (n - 1 - i) = ((2 ^ (n - 1 - i) : Nat) : Int) := by simp
  have e3 : ((gN k : Nat) : Int).fdiv ((2 ^ (n - 1 - i) : Nat) : Int) = ((gN k / 2 ^ (n - 1 - i) : Nat) : Int) := by
    rw [Int.fdiv_eq_ediv_of_nonneg _ (Int.natCast_nonneg _)]; rfl
  rw [e, e2, e3, Int.tmod_eq_emod_of_nonneg (Int.natCast_nonneg _)]
  rfl
theorem kb_spec (on off : List Int) (noise : Int) (hn : 0 ≤ noise) (k : Nat) (hk : k < 2 ^ 60) : ∀ i, i ≤ on.length →
    (((gN k / 2 ^ (on.length - i)) &&& (kb on off noise i).1) = (kb on off noise i).2 ↔ ∀ j, j < i → okAt on off noise k j)
  | 0, _ => by simp [kb]
  | i + 1, hi => by
    have ih := kb_spec on off noise hn k hk i (by omega)
    have hb := bitAt_nat on.length i k hk (by omega)
    have e1 : on.length - (i + 1) = on.length - 1 - i := by omega
    have e2 : gN k / 2 ^ (on.length - i) = gN k / 2 ^ (on.length - 1 - i) / 2 := by
      rw [Nat.div_div_eq_div_mul, ← Nat.pow_succ]
      congr 2; omega
    have key : okAt on off noise k i ↔ ¬ (bitAt on.length i k = 0 ∧ 2 * noise < on.getD i 0 - off.getD i 0 ∨ bitAt on.length i k = 1 ∧ 2 * noise < off.getD i 0 - on.getD i 0) := .rfl
    have next : (∀ j, j < i + 1 → okAt on off noise k j) ↔ (∀ j, j < i → okAt on off noise k j) ∧ okAt on off noise k i := by
      constructor
      · intro h; exact ⟨fun j hj => h j (by omega), h i (by omega)⟩
      · intro h j hj
        by_cases e : j = i
        · subst e; exact h.2
        · exact h.1 j (by omega)
    rw [next, ← ih, e1, e2, and_split, key, hb]
    simp only [kb]
    generalize gN k / 2 ^ (on.length - 1 - i) = a
    generalize on.getD i 0 = x
    generalize off.getD i 0 = y
    generalize hp : kb on off noise i = p
    have ht : a % 2 = 0 ∨ a % 2 = 1 := by omega
    have hd1 : ∀ m : Nat, (2 * m + 1) / 2 = m ∧ (2 * m + 1) % 2 = 1 ∧ (2 * m) / 2 = m ∧ (2 * m) % 2 = 0 := fun m => by omega
    split
    · rename_i c
      rw [or1_eq, or1_eq]
      simp only [(hd1 p.1).1, (hd1 p.1).2.1, (hd1 p.2).1, (hd1 p.2).2.1]
      rcases ht with ht | ht <;> rw [ht] <;> simp <;> omega
    · rename_i c
      split
      · rename_i c2
        rw [or1_eq]
        simp only [(hd1 p.1).1, (hd1 p.1).2.1, (hd1 p.2).2.2.1, (hd1 p.2).2.2.2]
        rcases ht with ht | ht <;> rw [ht] <;> simp <;> omega
      · rename_i c2
        simp only [(hd1 p.1).2.2.1, (hd1 p.1).2.2.2, (hd1 p.2).2.2.1, (hd1 p.2).2.2.2]
        rcases ht with ht | ht <;> rw [ht] <;> simp <;> omega
theorem stripeB_refB (on off : List Int) (noise : Int) (hn : 0 ≤ noise) (k : Nat) (hk : k < 2 ^ 60) : stripeB on off noise k = refB on off noise k := by
  have := kb_spec on off noise hn k hk on.length (Nat.le_refl _)
  simp only [Nat.sub_self, Nat.pow_zero, Nat.div_one] at this
  rw [Bool.eq_iff_iff]
  simp only [stripeB, refB, beq_iff_eq, decide_eq_true_eq]
  exact this
theorem outF_refF (on off : List Int) (noise : Int) (hn : 0 ≤ noise) (m : Nat) (hm : m ≤ 2 ^ 60) : outF on off noise m = refF on off noise m := by
  unfold outF refF
  congr 1
  refine List.filter_congr fun k hk => stripeB_refB on off noise hn k ?_
  have := List.mem_range.1 hk
  omega
theorem out_within (k : Int) : outB 0 255 k = !withB k 0 255 := by
  simp only [outB, withB]
  by_cases h1 : k < 0 <;> by_cases h2 : 255 < k <;> simp [h1, h2] <;> omega
theorem gray_code (k : Int) (h : withB k 0 255 = true) : grayF k = codeF k := by
  simp only [withB, Bool.and_eq_true, decide_eq_true_eq] at h
  unfold grayF codeF
  congr 1
  rw [Int.fdiv_eq_ediv_of_nonneg _ (by omega), Int.tdiv_eq_ediv_of_nonneg (by omega), w64 _ (by omega) (by omega)]
end Go.Proofs.Try.My
