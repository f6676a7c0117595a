/- A helper text: contracts of functions of the program, and plain lemmas. -/
import Derived.Test.YtjkoeomndepolaaMyEx4
set_option maxRecDepth 100000
set_option maxHeartbeats 0
set_option linter.unusedVariables false
set_option linter.unusedSimpArgs false
namespace Go.Proofs.Try.My
open Go Go.Ev

/-- The value of a fraction. -/
def qv (a : Int × Int) : Rat := (a.1 : Rat) / (a.2 : Rat)
theorem ratmul_lt {x y z : Rat} (hz : 0 < z) : x * z < y * z ↔ x < y := by
  constructor
  · intro h
    by_cases h1 : x < y
    · exact h1
    · exact absurd h (Rat.not_lt.2 (Rat.mul_le_mul_of_nonneg_right (Rat.not_lt.1 h1) (Rat.le_of_lt hz)))
  · intro h
    exact Rat.mul_lt_mul_of_pos_right h hz
theorem div_lt_div {a b c d : Rat} (hb : 0 < b) (hd : 0 < d) : a / b < c / d ↔ a * d < c * b := by
  have e1 : a / b * (b * d) = a * d := by grind
  have e2 : c / d * (b * d) = c * b := by grind
  have h : 0 < b * d := Rat.mul_pos hb hd
  rw [← ratmul_lt h, e1, e2]
theorem div_eq_div {a b c d : Rat} (hb : b ≠ 0) (hd : d ≠ 0) : a / b = c / d ↔ a * d = c * b := by
  constructor <;> intro h <;> grind
theorem cast_pos {n : Int} (h : 0 < n) : (0 : Rat) < (n : Rat) := Rat.intCast_lt_intCast.2 h
theorem cast_ne {n : Int} (h : n ≠ 0) : (n : Rat) ≠ 0 := fun e => h (Rat.intCast_inj.1 e)
theorem cast_lt_mul {a b c d : Int} : (a : Rat) * b < (c : Rat) * d ↔ a * b < c * d := by
  rw [← Rat.intCast_mul, ← Rat.intCast_mul]; exact Rat.intCast_lt_intCast
theorem cast_eq_mul {a b c d : Int} : (a : Rat) * b = (c : Rat) * d ↔ a * b = c * d := by
  rw [← Rat.intCast_mul, ← Rat.intCast_mul]; exact Rat.intCast_inj
theorem den1 {a : Int × Int} (h : validB a = true) : 0 < a.2 := by have := (validB_iff a).1 h; omega
theorem qv_lt {a b : Int × Int} (ha : validB a = true) (hb : validB b = true) : qv a < qv b ↔ a.1 * b.2 < b.1 * a.2 := by
  unfold qv
  rw [div_lt_div (cast_pos (den1 ha)) (cast_pos (den1 hb)), cast_lt_mul]
theorem qv_eq {a b : Int × Int} (ha : validB a = true) (hb : validB b = true) : qv a = qv b ↔ a = b := by
  constructor
  · unfold qv
    rw [div_eq_div (cast_ne (Int.ne_of_gt (den1 ha))) (cast_ne (Int.ne_of_gt (den1 hb))), cast_eq_mul]
    exact valid_eq ha hb
  · intro h; rw [h]
/-- How two valid fractions are ordered. -/
theorem cmpF_cases {a b : Int × Int} (ha : validB a = true) (hb : validB b = true) : (qv a < qv b ∧ cmpF a b = -1) ∨ (qv a = qv b ∧ a = b ∧ cmpF a b = 0) ∨ (qv b < qv a ∧ cmpF a b = 1) := by
  rw [qv_lt ha hb, qv_lt hb ha, qv_eq ha hb]
  unfold cmpF
  by_cases h1 : a.1 * b.2 < b.1 * a.2
  · simp [h1]
  · by_cases h2 : a.1 * b.2 = b.1 * a.2
    · refine .inr (.inl ⟨valid_eq ha hb h2, valid_eq ha hb h2, by simp [h1, h2]⟩)
    · refine .inr (.inr ⟨by omega, by simp [h1, h2]⟩)
theorem cmpF_le {a b : Int × Int} (ha : validB a = true) (hb : validB b = true) : cmpF a b ≤ 0 ↔ qv a ≤ qv b := by
  rcases cmpF_cases ha hb with ⟨h, e⟩ | ⟨h, _, e⟩ | ⟨h, e⟩ <;> rw [e] <;> grind
theorem cmpF_lt {a b : Int × Int} (ha : validB a = true) (hb : validB b = true) : cmpF a b < 0 ↔ qv a < qv b := by
  rcases cmpF_cases ha hb with ⟨h, e⟩ | ⟨h, _, e⟩ | ⟨h, e⟩ <;> rw [e] <;> grind
theorem cmpF_gt {a b : Int × Int} (ha : validB a = true) (hb : validB b = true) : 0 < cmpF a b ↔ qv b < qv a := by
  rcases cmpF_cases ha hb with ⟨h, e⟩ | ⟨h, _, e⟩ | ⟨h, e⟩ <;> rw [e] <;> grind
theorem cmpF_zero {a b : Int × Int} (ha : validB a = true) (hb : validB b = true) : cmpF a b = 0 ↔ a = b := by
  rcases cmpF_cases ha hb with ⟨h, e⟩ | ⟨_, h, e⟩ | ⟨h, e⟩ <;> rw [e, ← qv_eq ha hb] <;> grind
theorem qv_sign {a : Int × Int} (ha : validB a = true) : (0 < qv a ↔ 0 < a.1) ∧ (qv a < 0 ↔ a.1 < 0) ∧ (qv a = 0 ↔ a.1 = 0) := by
  have hv : validB (0, 1) = true := by decide
  have h0 : qv (0, 1) = 0 := by decide +kernel
  have h1 := qv_lt hv ha
  have h2 := qv_lt ha hv
  rw [h0] at h1 h2
  simp only [Int.zero_mul, Int.mul_one] at h1 h2
  refine ⟨h1, h2, ?_⟩
  constructor
  · intro h
    have n1 : ¬ 0 < a.1 := fun k => by have := h1.2 k; grind
    have n2 : ¬ a.1 < 0 := fun k => by have := h2.2 k; grind
    omega
  · intro h
    have n1 : ¬ 0 < qv a := fun k => by have := h1.1 k; omega
    have n2 : ¬ qv a < 0 := fun k => by have := h2.1 k; omega
    grind
/-- What a function returns for a number. -/
def Fits (x : Rat) (r : (Int × Int) × Int) : Prop := (validB r.1 = true ∧ r.2 = 0 ∧ qv r.1 = x) ∨ (r = ((0, 0), 4) ∧ ∀ s, validB s = true → qv s ≠ x)
theorem Fits.unique {x : Rat} {r s : (Int × Int) × Int} (hr : Fits x r) (hs : Fits x s) : r = s := by
  rcases hr with ⟨h1, h2, h3⟩ | ⟨h1, h2⟩ <;> rcases hs with ⟨k1, k2, k3⟩ | ⟨k1, k2⟩
  · have : r.1 = s.1 := (qv_eq h1 k1).1 (h3.trans k3.symm)
    exact Prod.ext this (h2.trans k2.symm)
  · exact absurd h3 (k2 _ h1)
  · exact absurd k3 (h2 _ k1)
  · rw [h1, k1]
theorem Fits.ok {x : Rat} {r : (Int × Int) × Int} (h : Fits x r) (h0 : r.2 = 0) : validB r.1 = true ∧ qv r.1 = x := by
  rcases h with h | ⟨h, _⟩
  · exact ⟨h.1, h.2.2⟩
  · rw [h] at h0; cases h0
theorem Fits.bad {x : Rat} {r : (Int × Int) × Int} (h : Fits x r) (h0 : r.2 ≠ 0) : r = ((0, 0), 4) := by
  rcases h with h | h
  · exact absurd h.2.1 h0
  · exact h.1
theorem madeF_val {neg : Bool} {N D : Nat} (h : (madeF neg N D).2 = 0) : N ≤ 4611686018427387903 ∧ D ≤ 4611686018427387903 ∧ (madeF neg N D).1 = (if neg then -(N : Int) else N, (D : Int)) := by
  unfold madeF at h ⊢
  by_cases hc : N ≤ 4611686018427387903 ∧ D ≤ 4611686018427387903
  · simp [hc]
  · simp [hc] at h
theorem int_mul_gcd {n d : Int} {g : Nat} (hg : g = Nat.gcd n.natAbs d.natAbs) : (g : Int) * ((n.natAbs / g : Nat) : Int) = n.natAbs ∧ (g : Int) * ((d.natAbs / g : Nat) : Int) = d.natAbs := by
  constructor
  · have := Nat.mul_div_cancel' (Nat.gcd_dvd_left n.natAbs d.natAbs)
    rw [← hg] at this
    rw [← Int.natCast_mul, this]
  · have := Nat.mul_div_cancel' (Nat.gcd_dvd_right n.natAbs d.natAbs)
    rw [← hg] at this
    rw [← Int.natCast_mul, this]
theorem makeF_neg (n d : Int) : makeF (-n) (-d) = makeF n d := by
  unfold makeF
  by_cases h0 : d = 0
  · simp [h0]
  · have h1 : ¬ -d = 0 := by omega
    rw [if_neg h0, if_neg h1, Int.natAbs_neg, Int.natAbs_neg]
    refine madeF_neg fun hN => ?_
    have : n ≠ 0 := fun e => by subst e; simp at hN
    by_cases h2 : n < 0 <;> by_cases h3 : d < 0 <;> simp [h2, h3] <;> omega
/-- Two whole numbers, one over the other. -/
theorem makeF_fits_pos {n d : Int} (hd : 0 < d) : Fits ((n : Rat) / (d : Rat)) (makeF n d) := by
  have hg0 : 0 < Nat.gcd n.natAbs d.natAbs := Nat.gcd_pos_of_pos_right _ (by omega)
  have hm := makeF_pos (n := n) hd
  by_cases h : (makeF n d).2 = 0
  · left
    rw [hm] at h ⊢
    obtain ⟨h1, h2, h3⟩ := madeF_val h
    rw [h3]
    have hco : Nat.Coprime (n.natAbs / Nat.gcd n.natAbs d.natAbs) (d.natAbs / Nat.gcd n.natAbs d.natAbs) := Nat.coprime_div_gcd_div_gcd hg0
    obtain ⟨g1, g2⟩ := int_mul_gcd (n := n) (d := d) rfl
    generalize Nat.gcd n.natAbs d.natAbs = g at *
    generalize n.natAbs / g = N at *
    generalize d.natAbs / g = D at *
    have hD0 : D ≠ 0 := fun e => by subst e; simp at g2; omega
    refine ⟨?_, h, ?_⟩
    · rw [validB_iff]
      simp only []
      refine ⟨by omega, by omega, by split <;> omega, by split <;> omega, ?_⟩
      split <;> simpa using hco
    · show ((if decide (n < 0) then -(N : Int) else (N : Int) : Int) : Rat) / ((D : Int) : Rat) = _
      rw [div_eq_div (cast_ne (by omega)) (cast_ne (by omega)), cast_eq_mul]
      have g2' : (g : Int) * D = d := by omega
      have g1' : (g : Int) * (if decide (n < 0) then -(N : Int) else (N : Int) : Int) = n := by
        by_cases hn : n < 0
        · simp only [hn, decide_true, if_true]; rw [Int.mul_neg]; omega
        · simp only [hn, decide_false, Bool.false_eq_true, if_false]; omega
      obtain ⟨M, hM⟩ : ∃ M : Int, M = (if decide (n < 0) then -(N : Int) else (N : Int)) := ⟨_, rfl⟩
      rw [← hM] at g1' ⊢
      clear hM h3
      grind
  · right
    have hv : makeF n d = ((0, 0), 4) := by
      rw [hm] at h ⊢
      unfold madeF at h ⊢
      by_cases hc : n.natAbs / Nat.gcd n.natAbs d.natAbs ≤ 4611686018427387903 ∧ d.natAbs / Nat.gcd n.natAbs d.natAbs ≤ 4611686018427387903
      · simp [hc] at h
      · simp only [hc, if_false]
    refine ⟨hv, fun s hs he => h ?_⟩
    have hs' := (validB_iff s).1 hs
    obtain ⟨p, q⟩ := s
    simp only [] at hs'
    have he2 : p * d = n * q := by
      have : qv (p, q) = (p : Rat) / (q : Rat) := rfl
      rw [this, div_eq_div (cast_ne (by omega)) (cast_ne (by omega)), cast_eq_mul] at he
      exact he
    -- d = k q, n = k p
    have hco : Nat.Coprime p.natAbs q.natAbs := hs'.2.2.2.2
    have hdv : q.natAbs ∣ d.natAbs := by
      have : q.natAbs ∣ p.natAbs * d.natAbs := ⟨n.natAbs, by rw [← Int.natAbs_mul, he2, Int.natAbs_mul, Nat.mul_comm]⟩
      exact hco.symm.dvd_of_dvd_mul_left this
    obtain ⟨k, hk⟩ := hdv
    have hk0 : 0 < k := by
      rcases Nat.eq_zero_or_pos k with e | e
      · subst e; simp at hk; omega
      · exact e
    have hd2 : d = (k : Int) * q := by
      have : ((d.natAbs : Nat) : Int) = ((q.natAbs * k : Nat) : Int) := by rw [hk]
      rw [Int.natCast_mul] at this
      rw [Int.mul_comm]
      have e1 : ((d.natAbs : Nat) : Int) = d := by omega
      have e2 : ((q.natAbs : Nat) : Int) = q := by omega
      rw [e1, e2] at this
      exact this
    have hn2 : n = (k : Int) * p := by
      have : n * q = (k : Int) * p * q := by rw [← he2, hd2]; grind
      exact Int.eq_of_mul_eq_mul_right (show q ≠ 0 by omega) this
    rw [hn2, hd2, makeF_scale hk0 _ _ (by omega), makeF_pos (by omega)]
    have hg1 : Nat.gcd p.natAbs q.natAbs = 1 := hco
    rw [hg1, Nat.div_one, Nat.div_one]
    unfold madeF
    have : p.natAbs ≤ 4611686018427387903 ∧ q.natAbs ≤ 4611686018427387903 := by omega
    simp [this]
theorem makeF_fits {n d : Int} (hd : d ≠ 0) : Fits ((n : Rat) / (d : Rat)) (makeF n d) := by
  by_cases h : 0 < d
  · exact makeF_fits_pos h
  · have := makeF_fits_pos (n := -n) (d := -d) (by omega)
    rw [makeF_neg] at this
    have e : ((-n : Int) : Rat) / ((-d : Int) : Rat) = (n : Rat) / (d : Rat) := by
      rw [div_eq_div (cast_ne (by omega)) (cast_ne hd), cast_eq_mul]
      grind
    rw [e] at this
    exact this
theorem addF_fits {a b : Int × Int} (ha : validB a = true) (hb : validB b = true) : Fits (qv a + qv b) (addF a b) := by
  have h1 := den1 ha
  have h2 := den1 hb
  have h := makeF_fits (n := a.1 * b.2 + b.1 * a.2) (d := a.2 * b.2) (Int.ne_of_gt (Int.mul_pos h1 h2))
  have c1 := cast_pos h1
  have c2 := cast_pos h2
  have e : ((a.1 * b.2 + b.1 * a.2 : Int) : Rat) / ((a.2 * b.2 : Int) : Rat) = qv a + qv b := by
    unfold qv
    rw [Rat.intCast_mul, Rat.intCast_add, Rat.intCast_mul, Rat.intCast_mul]
    grind
  rw [e] at h
  exact h
theorem mulF_fits {a b : Int × Int} (ha : validB a = true) (hb : validB b = true) : Fits (qv a * qv b) (mulF a b) := by
  have h1 := den1 ha
  have h2 := den1 hb
  have h := makeF_fits (n := a.1 * b.1) (d := a.2 * b.2) (Int.ne_of_gt (Int.mul_pos h1 h2))
  have c1 := cast_pos h1
  have c2 := cast_pos h2
  have e : ((a.1 * b.1 : Int) : Rat) / ((a.2 * b.2 : Int) : Rat) = qv a * qv b := by
    unfold qv
    rw [Rat.intCast_mul, Rat.intCast_mul]
    grind
  rw [e] at h
  exact h
def negF (a : Int × Int) : Int × Int := (-a.1, a.2)
theorem negF_ok {a : Int × Int} (ha : validB a = true) : validB (negF a) = true ∧ qv (negF a) = -qv a := by
  have h := (validB_iff a).1 ha
  refine ⟨?_, ?_⟩
  · rw [validB_iff]
    show _ ∧ _ ∧ _ ∧ _ ∧ Nat.gcd (-a.1).natAbs a.2.natAbs = 1
    rw [Int.natAbs_neg]
    simp only [negF]
    omega
  · unfold qv negF
    simp only [Rat.intCast_neg]
    grind
theorem overF_ok {a : Int × Int} (ha : validB a = true) (h0 : a.1 ≠ 0) : validB (overF a) = true ∧ qv (overF a) = (qv a)⁻¹ := by
  have h := (validB_iff a).1 ha
  obtain ⟨n, d⟩ := a
  simp only [] at h h0
  have hg := h.2.2.2.2
  rw [Nat.gcd_comm] at hg
  have c2 := cast_pos (show 0 < d by omega)
  have c1 := cast_ne h0
  by_cases hn : n < 0
  · refine ⟨?_, ?_⟩
    · rw [validB_iff]
      simp only [overF, hn, if_true, Int.natAbs_neg]
      exact ⟨by omega, by omega, by omega, by omega, hg⟩
    · simp only [overF, hn, if_true, qv, Rat.intCast_neg]
      grind
  · refine ⟨?_, ?_⟩
    · rw [validB_iff]
      simp only [overF, hn, if_false]
      exact ⟨by omega, by omega, by omega, by omega, hg⟩
    · simp only [overF, hn, if_false, qv]
      grind
def subF (a b : Int × Int) : (Int × Int) × Int := addF a (negF b)
def quoF (a b : Int × Int) : (Int × Int) × Int := if b.1 = 0 then ((0, 0), 10) else mulF a (overF b)
theorem subF_fits {a b : Int × Int} (ha : validB a = true) (hb : validB b = true) : Fits (qv a - qv b) (subF a b) := by
  have h := addF_fits ha (negF_ok hb).1
  rw [(negF_ok hb).2] at h
  have e : qv a + -qv b = qv a - qv b := by grind
  rw [e] at h
  exact h
theorem quoF_fits {a b : Int × Int} (ha : validB a = true) (hb : validB b = true) (h0 : b.1 ≠ 0) : Fits (qv a / qv b) (quoF a b) := by
  have h := mulF_fits ha (overF_ok hb h0).1
  rw [(overF_ok hb h0).2] at h
  have e : qv a * (qv b)⁻¹ = qv a / qv b := by grind
  rw [e] at h
  unfold quoF
  rw [if_neg h0]
  exact h
end Go.Proofs.Try.My
