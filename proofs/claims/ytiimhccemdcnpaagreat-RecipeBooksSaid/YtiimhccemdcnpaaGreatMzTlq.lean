/- A helper text: contracts of functions of the program, and plain lemmas. -/
import Derived.Test.YtiimhccemdcnpaaGreatMzExB
import Derived.Test.YtiimhccemdcnpaaGreatMzEa
set_option maxRecDepth 100000
set_option maxHeartbeats 0
set_option linter.unusedVariables false
set_option linter.unusedSimpArgs false
namespace Go.Proofs.Tryz.My
open Go Go.Ev

/-! ### Spans that lie in others, and what two have in common -/
theorem rat_le_of_mul {x y k : Rat} (hk : 0 < k) (h : x * k ≤ y * k) : x ≤ y := by
  by_cases hxy : x ≤ y
  · exact hxy
  · exfalso
    have h2 : y < x := by grind
    have := (ratmul_lt (z := k) hk).2 h2
    grind
theorem rat_eq_of_mul {x y k : Rat} (hk : k ≠ 0) (h : x * k = y * k) : x = y := by
  have e1 : x * k / k = x := by grind
  have e2 : y * k / k = y := by grind
  rw [← e1, ← e2, h]
def insB (s t : SpT) : Bool := decide ((meetF s t).2 = 0) && decide ((meetF s t).1 = s)
def InR (s : SpT) (u : Rat) : Prop := qv s.1 ≤ u ∧ u ≤ qv s.2
theorem span_unique {s t : SpT} (hs : spanB s = true) (ht : spanB t = true) (h : ∀ u, InR s u ↔ InR t u) : s = t := by
  obtain ⟨s1, s2, s3⟩ := spanB_qv.1 hs
  obtain ⟨t1, t2, t3⟩ := spanB_qv.1 ht
  have a := (h (qv s.1)).1 ⟨Rat.le_refl, s3⟩
  have b := (h (qv s.2)).1 ⟨s3, Rat.le_refl⟩
  have c := (h (qv t.1)).2 ⟨Rat.le_refl, t3⟩
  have d := (h (qv t.2)).2 ⟨t3, Rat.le_refl⟩
  unfold InR at a b c d
  exact Prod.ext ((qv_eq s1 t1).1 (by grind)) ((qv_eq s2 t2).1 (by grind))
theorem meet_law {s t : SpT} (hs : spanB s = true) (ht : spanB t = true) :
    ((∃ u, InR s u ∧ InR t u) → (meetF s t).2 = 0 ∧ spanB (meetF s t).1 = true ∧ ∀ u, InR (meetF s t).1 u ↔ InR s u ∧ InR t u) ∧ ((¬ ∃ u, InR s u ∧ InR t u) → (meetF s t).2 = 6) := by
  obtain ⟨s1, s2, s3⟩ := spanB_qv.1 hs
  obtain ⟨t1, t2, t3⟩ := spanB_qv.1 ht
  have g1 := greF_valid s1 t1
  have l1 := lesF_valid s2 t2
  obtain ⟨g2, g3, g4⟩ := greF_qv s1 t1
  obtain ⟨l2, l3, l4⟩ := lesF_qv s2 t2
  have key : ∀ u, (qv (greF s.1 t.1) ≤ u ∧ u ≤ qv (lesF s.2 t.2)) ↔ InR s u ∧ InR t u := fun u => by
    unfold InR
    constructor
    · rintro ⟨h1, h2⟩
      exact ⟨⟨by grind, by grind⟩, ⟨by grind, by grind⟩⟩
    · rintro ⟨⟨h1, h2⟩, ⟨h3, h4⟩⟩
      refine ⟨?_, ?_⟩
      · rcases g4 with e | e <;> rw [e] <;> assumption
      · rcases l4 with e | e <;> rw [e] <;> assumption
  unfold meetF
  rw [hs, ht]
  simp only [Bool.and_self, if_true]
  constructor
  · rintro ⟨u, hu⟩
    have k := (key u).2 hu
    have hb : spanB (greF s.1 t.1, lesF s.2 t.2) = true := spanB_qv.2 ⟨g1, l1, Rat.le_trans k.1 k.2⟩
    rw [if_pos hb]
    exact ⟨rfl, hb, key⟩
  · intro no
    rw [if_neg]
    intro hb
    obtain ⟨_, _, h⟩ := spanB_qv.1 hb
    exact no ⟨_, (key _).1 ⟨Rat.le_refl, h⟩⟩
theorem insB_true {s t : SpT} (hs : spanB s = true) (ht : spanB t = true) (h1 : qv t.1 ≤ qv s.1) (h2 : qv s.2 ≤ qv t.2) : insB s t = true := by
  obtain ⟨s1, s2, s3⟩ := spanB_qv.1 hs
  obtain ⟨k1, k2, k3⟩ := (meet_law hs ht).1 ⟨qv s.1, ⟨Rat.le_refl, s3⟩, ⟨h1, Rat.le_trans s3 h2⟩⟩
  have e : (meetF s t).1 = s := span_unique k2 hs fun u => by
    rw [k3]
    unfold InR
    constructor
    · exact fun h => h.1
    · exact fun h => ⟨h, Rat.le_trans h1 h.1, Rat.le_trans h.2 h2⟩
  unfold insB
  rw [k1, e]
  simp
theorem insB_qv {s t : SpT} (h : insB s t = true) : spanB s = true ∧ spanB t = true ∧ qv t.1 ≤ qv s.1 ∧ qv s.2 ≤ qv t.2 := by
  simp only [insB, Bool.and_eq_true, decide_eq_true_eq] at h
  obtain ⟨h1, h2⟩ := h
  have hs : spanB s = true ∧ spanB t = true := by
    unfold meetF at h1
    cases a : spanB s <;> cases b : spanB t <;> simp [a, b] at h1 <;> exact ⟨rfl, rfl⟩
  obtain ⟨_, _, s3⟩ := spanB_qv.1 hs.1
  have m := meet_law hs.1 hs.2
  by_cases k : ∃ u, InR s u ∧ InR t u
  · obtain ⟨_, _, k3⟩ := m.1 k
    rw [h2] at k3
    exact ⟨hs.1, hs.2, ((k3 (qv s.1)).1 ⟨Rat.le_refl, s3⟩).2.1, ((k3 (qv s.2)).1 ⟨s3, Rat.le_refl⟩).2.2⟩
  · have := m.2 k
    rw [h1] at this; cases this
end Go.Proofs.Tryz.My
