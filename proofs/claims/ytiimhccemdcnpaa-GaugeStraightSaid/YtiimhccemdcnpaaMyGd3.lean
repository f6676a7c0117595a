/- A helper text: contracts of functions of the program, and plain lemmas. -/
import Derived.Test.YtiimhccemdcnpaaMyGd1
import Derived.Test.YtiimhccemdcnpaaMyRf5
import Derived.Test.YtiimhccemdcnpaaMyGeA
import Derived.Test.YtiimhccemdcnpaaMyGn0
set_option maxRecDepth 100000
set_option maxHeartbeats 0
set_option linter.unusedVariables false
set_option linter.unusedSimpArgs false
namespace Go.Proofs.Try.My
open Go Go.Ev

theorem verV_eq {s t : SpT} (hs : spanB s = true) (ht : spanB t = true) : verV s t = if cmpF t.1 s.1 ≤ 0 ∧ cmpF s.2 t.2 ≤ 0 then 1 else if cmpF s.2 t.1 < 0 ∨ cmpF t.2 s.1 < 0 then 2 else 3 := by
  obtain ⟨s1, s2, s3⟩ := spanB_qv.1 hs
  obtain ⟨t1, t2, t3⟩ := spanB_qv.1 ht
  obtain ⟨g1, g2, g3⟩ := greF_qv s1 t1
  obtain ⟨l1, l2, l3⟩ := lesF_qv s2 t2
  simp only [cmpF_le t1 s1, cmpF_le s2 t2, cmpF_lt s2 t1, cmpF_lt t2 s1]
  have hsp : spanB (greF s.1 t.1, lesF s.2 t.2) = true ↔ qv (greF s.1 t.1) ≤ qv (lesF s.2 t.2) := by
    rw [spanB_qv]
    exact ⟨fun h => h.2.2, fun h => ⟨greF_valid s1 t1, lesF_valid s2 t2, h⟩⟩
  unfold verV meetF
  rw [hs, ht]
  by_cases hA : qv t.1 ≤ qv s.1 ∧ qv s.2 ≤ qv t.2
  · rw [if_pos hA, greF_left s1 t1 hA.1, lesF_left s2 t2 hA.2, show ((s.1, s.2) : SpT) = s from rfl, hs]
    simp
  · rw [if_neg hA]
    by_cases hB : qv s.2 < qv t.1 ∨ qv t.2 < qv s.1
    · rw [if_pos hB]
      have hn : ¬ spanB (greF s.1 t.1, lesF s.2 t.2) = true := fun h => by
        have := hsp.1 h
        rcases hB with hB | hB <;> grind
      simp [hn]
    · rw [if_neg hB]
      have hy : spanB (greF s.1 t.1, lesF s.2 t.2) = true := hsp.2 (by
        rcases g3 with e | e <;> rcases l3 with e' | e' <;> rw [e, e'] <;> grind)
      have hne : (greF s.1 t.1, lesF s.2 t.2) ≠ s := fun e => hA (by
        have e1 : greF s.1 t.1 = s.1 := congrArg Prod.fst e
        have e2 : lesF s.2 t.2 = s.2 := congrArg Prod.snd e
        rw [e1] at g2
        rw [e2] at l2
        exact ⟨g2, l2⟩)
      simp [hy, hne]
/-- The cells of a gauge are Go's int. -/
abbrev IG (g : GauT) : Prop := I64 (gThr g) ∧ I64 (gNoi g) ∧ I4 (gSc g) ∧ I4 (gTol g)
end Go.Proofs.Try.My
