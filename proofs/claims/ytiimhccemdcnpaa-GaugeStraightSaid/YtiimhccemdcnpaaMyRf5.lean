/- A helper text: contracts of functions of the program, and plain lemmas. -/
import Derived.Test.YtiimhccemdcnpaaMyRf4
set_option maxRecDepth 100000
set_option maxHeartbeats 0
set_option linter.unusedVariables false
set_option linter.unusedSimpArgs false
namespace Go.Proofs.Try.My
open Go Go.Ev

theorem hasB_ne {b : SpT} (hb : spanB b = true) (h : hasB b (0, 1) = false) : b.1.1 ≠ 0 ∧ b.2.1 ≠ 0 := by
  obtain ⟨b1, b2, b3⟩ := spanB_iff.1 hb
  have v0 : validB (0, 1) = true := by decide
  have hle := (cmpF_le b1 b2).1 b3
  have s1 := (qv_sign b1).2.2
  have s2 := (qv_sign b2).2.2
  have key : ¬ (qv b.1 ≤ 0 ∧ 0 ≤ qv b.2) := by
    rintro ⟨k1, k2⟩
    have e1 := (cmpF_le b1 v0).2 (by rw [qv_zero]; exact k1)
    have e2 := (cmpF_le v0 b2).2 (by rw [qv_zero]; exact k2)
    simp [hasB, e1, e2] at h
  refine ⟨fun h0 => key ?_, fun h0 => key ?_⟩
  · have := s1.2 h0
    rw [this] at hle ⊢
    exact ⟨by grind, hle⟩
  · have := s2.2 h0
    rw [this] at hle ⊢
    exact ⟨hle, by grind⟩
theorem divS_eq {a b : SpT} (ha : spanB a = true) (hb : spanB b = true) (hz : hasB b (0, 1) = false) : divS a b = fourF (quoF a.1 b.1) (quoF a.1 b.2) (quoF a.2 b.1) (quoF a.2 b.2) := by
  obtain ⟨a1, a2, a3⟩ := spanB_iff.1 ha
  obtain ⟨b1, b2, b3⟩ := spanB_iff.1 hb
  obtain ⟨n1, n2⟩ := hasB_ne hb hz
  have h := ends_four (op := quoF) (p := (a.1, b.1)) (q := (a.1, b.2)) (r := (a.2, b.1)) (s := (a.2, b.2)) ⟨_, quoF_fits a1 b1 n1⟩ ⟨_, quoF_fits a1 b2 n2⟩ ⟨_, quoF_fits a2 b1 n1⟩ ⟨_, quoF_fits a2 b2 n2⟩
  unfold divS
  rw [ha, hb, hz]
  exact h
theorem mulS_eq {a b : SpT} (ha : spanB a = true) (hb : spanB b = true) : mulS a b = fourF (mulF a.1 b.1) (mulF a.1 b.2) (mulF a.2 b.1) (mulF a.2 b.2) := by
  obtain ⟨a1, a2, a3⟩ := spanB_iff.1 ha
  obtain ⟨b1, b2, b3⟩ := spanB_iff.1 hb
  have h := ends_four (op := mulF) (p := (a.1, b.1)) (q := (a.1, b.2)) (r := (a.2, b.1)) (s := (a.2, b.2)) ⟨_, mulF_fits a1 b1⟩ ⟨_, mulF_fits a1 b2⟩ ⟨_, mulF_fits a2 b1⟩ ⟨_, mulF_fits a2 b2⟩
  unfold mulS
  rw [ha, hb]
  exact h
/-- The cells of a span are Go's int. -/
abbrev I4 (s : SpT) : Prop := I64 s.1.1 ∧ I64 s.1.2 ∧ I64 s.2.1 ∧ I64 s.2.2
end Go.Proofs.Try.My
