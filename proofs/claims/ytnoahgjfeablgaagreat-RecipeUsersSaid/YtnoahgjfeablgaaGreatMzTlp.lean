/- A helper text: contracts of functions of the program, and plain lemmas. -/
import Derived.Test.YtnoahgjfeablgaaGreatMzGd4
import Derived.Test.YtnoahgjfeablgaaGreatMzGn0
set_option maxRecDepth 100000
set_option maxHeartbeats 0
set_option linter.unusedVariables false
set_option linter.unusedSimpArgs false
namespace Go.Proofs.Tryz.My
open Go Go.Ev
theorem mea_known {g : GauT} {p : List Int} (h : (meaF g p).2.2 = 0) :
    gauB g = true ∧ profB p = true ∧
    ((widE p (gThr g) (gNoi g) = (zS, 6) ∧ meaF g p = (s00, if gThr g ≤ mxK p (p.length - 1) + gNoi g then 3 else 2, 0)) ∨
     ((widE p (gThr g) (gNoi g)).2 = 0 ∧ spanB (widE p (gThr g) (gNoi g)).1 = true ∧ spanB (mulS (widE p (gThr g) (gNoi g)).1 (gSc g)).1 = true ∧ (mulS (widE p (gThr g) (gNoi g)).1 (gSc g)).2 = 0 ∧
        meaF g p = ((mulS (widE p (gThr g) (gNoi g)).1 (gSc g)).1, verV (mulS (widE p (gThr g) (gNoi g)).1 (gSc g)).1 (gTol g), 0))) := by
  unfold meaF at h ⊢
  cases hg : gauB g
  · rw [hg] at h; simp at h
  obtain ⟨t, n, _, _, _, _⟩ := gauB_known hg
  rw [hg] at h
  simp only [if_true] at h ⊢
  rcases wid_err (p := p) t.1 t.2 n.1 n.2 with ⟨h1, h2⟩ | ⟨h1, h2 | h2⟩
  · exfalso
    rw [h2] at h
    simp [meaG] at h
  · refine ⟨trivial, h1, .inl ⟨h2, ?_⟩⟩
    rw [h2]
    simp [meaG]
  · refine ⟨trivial, h1, .inr ?_⟩
    have h6 : (widE p (gThr g) (gNoi g)).2 ≠ 6 := by omega
    unfold meaG at h ⊢
    rw [if_neg h6, if_pos h2] at h ⊢
    by_cases hm : (mulS (widE p (gThr g) (gNoi g)).1 (gSc g)).2 = 0
    · rw [if_pos hm]
      obtain ⟨m1, m2, m3⟩ := mulS_ok hm
      exact ⟨h2, m1, m3, hm, rfl⟩
    · rw [if_neg hm] at h
      exact absurd h hm
abbrev gWith (g : GauT) (t : SpT) : GauT := ((g.1.1, t.1), t.2)
abbrev gLoud (g : GauT) (n : Int) : GauT := ((((g.1.1.1.1, n), g.1.1.2), g.1.2), g.2)
end Go.Proofs.Tryz.My
