/- A helper text: contracts of functions of the program, and plain lemmas. -/
import Derived.Test.YtiimhccemdcnpaaMyRf3
import Derived.Test.YtiimhccemdcnpaaMyExB
set_option maxRecDepth 100000
set_option maxHeartbeats 0
set_option linter.unusedVariables false
set_option linter.unusedSimpArgs false
namespace Go.Proofs.Try.My
open Go Go.Ev

theorem natMul2 (n m : Int) : ((n.natAbs * m.natAbs : Nat) : Int) = if (n < 0 ∧ 0 < m) ∨ (0 < n ∧ m < 0) then -(n * m) else n * m := by
  rw [Int.natCast_mul]
  by_cases h1 : n < 0
  · rw [show ((n.natAbs : Nat) : Int) = -n by omega]
    by_cases h2 : m < 0
    · rw [show ((m.natAbs : Nat) : Int) = -m by omega, if_neg (by omega)]; grind
    · rw [show ((m.natAbs : Nat) : Int) = m by omega]
      by_cases h3 : m = 0
      · subst h3; simp
      · rw [if_pos (by omega)]; grind
  · rw [show ((n.natAbs : Nat) : Int) = n by omega]
    by_cases h2 : m < 0
    · rw [show ((m.natAbs : Nat) : Int) = -m by omega]
      by_cases h3 : n = 0
      · subst h3; simp
      · rw [if_pos (by omega)]; grind
    · rw [show ((m.natAbs : Nat) : Int) = m by omega, if_neg (by omega)]
theorem sgn_prod (n m : Int) : sgR n * sgR m < 0 ↔ (n < 0 ∧ 0 < m) ∨ (0 < n ∧ m < 0) := by
  rcases sgn_cases n with ⟨_, h⟩ | ⟨_, h⟩ | ⟨_, h⟩ <;> rcases sgn_cases m with ⟨_, h'⟩ | ⟨_, h'⟩ | ⟨_, h'⟩ <;> rw [h, h'] <;> omega
theorem sgn_prod_i (n m : Int) : IntKind.i64.wrap (sgR n * sgR m) = sgR n * sgR m := by
  rcases sgn_cases n with ⟨_, h⟩ | ⟨_, h⟩ | ⟨_, h⟩ <;> rcases sgn_cases m with ⟨_, h'⟩ | ⟨_, h'⟩ | ⟨_, h'⟩ <;> rw [h, h'] <;> decide
theorem addS_eq {a b : SpT} (ha : spanB a = true) (hb : spanB b = true) : addS a b = if (addF a.1 b.1).2 = 0 ∧ (addF a.2 b.2).2 = 0 then (((addF a.1 b.1).1, (addF a.2 b.2).1), 0) else (zS, 4) := by
  obtain ⟨a1, a2, a3⟩ := spanB_iff.1 ha
  obtain ⟨b1, b2, b3⟩ := spanB_iff.1 hb
  have h := ends_two (op := addF) (p := (a.1, b.1)) (q := (a.2, b.2)) (addF_fits a1 b1) (addF_fits a2 b2) (by
    have := (cmpF_le a1 a2).1 a3
    have := (cmpF_le b1 b2).1 b3
    grind)
  unfold addS
  rw [ha, hb]
  exact h
theorem subS_eq (a b : SpT) (ha : spanB a = true) (hb : spanB b = true) : subS a b = addS a (negF b.2, negF b.1) ∧ spanB (negF b.2, negF b.1) = true := by
  obtain ⟨b1, b2, b3⟩ := spanB_iff.1 hb
  have n1 := negF_ok b1
  have n2 := negF_ok b2
  have hs : spanB (negF b.2, negF b.1) = true := by
    rw [spanB_iff]
    refine ⟨n2.1, n1.1, (cmpF_le n2.1 n1.1).2 ?_⟩
    have := (cmpF_le b1 b2).1 b3
    rw [n1.2, n2.2]
    grind
  refine ⟨?_, hs⟩
  unfold subS addS
  rw [ha, hb, hs]
  rfl
theorem negF_i {a : Int × Int} (h : validB a = true) : I64 (negF a).1 ∧ I64 (negF a).2 := by
  have := (validB_iff a).1 h
  unfold I64 negF
  simp only []
  omega
/-- The least and the greatest of four numbers, if all of them fit. -/
def fourF (a b c d : (Int × Int) × Int) : SpT × Int := if a.2 = 0 ∧ b.2 = 0 ∧ c.2 = 0 ∧ d.2 = 0 then ((lesF (lesF (lesF a.1 b.1) c.1) d.1, greF (greF (greF a.1 b.1) c.1) d.1), 0) else (zS, 4)
theorem ends_four {op : Int × Int → Int × Int → (Int × Int) × Int} {p q r s : SpT} (hp : ∃ x, Fits x (op p.1 p.2)) (hq : ∃ x, Fits x (op q.1 q.2)) (hr : ∃ x, Fits x (op r.1 r.2)) (hs : ∃ x, Fits x (op s.1 s.2)) :
    endsF op [p, q, r, s] = fourF (op p.1 p.2) (op q.1 q.2) (op r.1 r.2) (op s.1 s.2) := by
  obtain ⟨_, hp⟩ := hp
  obtain ⟨_, hq⟩ := hq
  obtain ⟨_, hr⟩ := hr
  obtain ⟨_, hs⟩ := hs
  simp only [endsF, endsG, fourF]
  by_cases h1 : (op p.1 p.2).2 = 0
  · by_cases h2 : (op q.1 q.2).2 = 0
    · by_cases h3 : (op r.1 r.2).2 = 0
      · by_cases h4 : (op s.1 s.2).2 = 0
        · simp [h1, h2, h3, h4]
        · have := hs.bad h4
          simp [h1, h2, h3, h4, this]
      · have := hr.bad h3
        simp [h1, h2, h3, this]
    · have := hq.bad h2
      simp [h1, h2, this]
  · have := hp.bad h1
    simp [h1, this]
theorem les_self (a : Int × Int) : lesF a a = a := by unfold lesF; split <;> rfl
theorem gre_self (a : Int × Int) : greF a a = a := by unfold greF; split <;> rfl
end Go.Proofs.Try.My
