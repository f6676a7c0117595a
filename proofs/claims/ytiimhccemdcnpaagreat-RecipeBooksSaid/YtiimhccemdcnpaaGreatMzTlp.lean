/- A helper text: contracts of functions of the program, and plain lemmas. -/
import Derived.Test.YtiimhccemdcnpaaGreatMzGd4
import Derived.Test.YtiimhccemdcnpaaGreatMzGn0
set_option maxRecDepth 100000
set_option maxHeartbeats 0
set_option linter.unusedVariables false
set_option linter.unusedSimpArgs false
namespace Go.Proofs.Tryz.My
open Go Go.Ev

theorem verV_q {s t : SpT} (hs : spanB s = true) (ht : spanB t = true) :
    (verV s t = 1 ↔ qv t.1 ≤ qv s.1 ∧ qv s.2 ≤ qv t.2) ∧ (verV s t = 2 ↔ qv s.2 < qv t.1 ∨ qv t.2 < qv s.1) := by
  obtain ⟨s1, s2, s3⟩ := spanB_qv.1 hs
  obtain ⟨t1, t2, t3⟩ := spanB_qv.1 ht
  rw [verV_eq hs ht]
  simp only [cmpF_le t1 s1, cmpF_le s2 t2, cmpF_lt s2 t1, cmpF_lt t2 s1]
  split
  · rename_i h
    refine ⟨by simp [h], ⟨fun h => by simp at h, fun h2 => ?_⟩⟩
    rcases h2 with h2 | h2 <;> grind
  · rename_i h
    split
    · rename_i h2
      exact ⟨⟨fun h => by simp at h, fun h3 => absurd h3 h⟩, by simp [h2]⟩
    · rename_i h2
      exact ⟨⟨fun h => by simp at h, fun h3 => absurd h3 h⟩, ⟨fun h => by simp at h, fun h3 => absurd h3 h2⟩⟩
/-- What a good gauge says of a good profile. -/
theorem mea_known {g : GauT} {p : List Int} (h : (meaF g p).2.2 = 0) :
    gauB g = true ∧ profB p = true ∧
    ((widE p (gThr g) (gNoi g) = (zS, 6) ∧ meaF g p = (s00, if gThr g ≤ mxK p (p.length - 1) + gNoi g then 3 else 2, 0)) ∨
     ((widE p (gThr g) (gNoi g)).2 = 0 ∧ spanB (widE p (gThr g) (gNoi g)).1 = true ∧ spanB (mulS (widE p (gThr g) (gNoi g)).1 (gSc g)).1 = true ∧ (mulS (widE p (gThr g) (gNoi g)).1 (gSc g)).2 = 0 ∧
        meaF g p = ((mulS (widE p (gThr g) (gNoi g)).1 (gSc g)).1, verV (mulS (widE p (gThr g) (gNoi g)).1 (gSc g)).1 (gTol g), 0))) := by
  unfold meaF at h ⊢
  cases hg : gauB g
  · rw [hg] at h; simp at h
  obtain ⟨t, n, _, _, _, _⟩ := gauB_known hg
  rw [hg] at h
  simp only [if_true] at h ⊢
  rcases wid_err (p := p) t.1 t.2 n.1 n.2 with ⟨h1, h2⟩ | ⟨h1, h2 | h2⟩
  · exfalso
    rw [h2] at h
    simp [meaG] at h
  · refine ⟨trivial, h1, .inl ⟨h2, ?_⟩⟩
    rw [h2]
    simp [meaG]
  · refine ⟨trivial, h1, .inr ?_⟩
    have h6 : (widE p (gThr g) (gNoi g)).2 ≠ 6 := by omega
    unfold meaG at h ⊢
    rw [if_neg h6, if_pos h2] at h ⊢
    by_cases hm : (mulS (widE p (gThr g) (gNoi g)).1 (gSc g)).2 = 0
    · rw [if_pos hm]
      obtain ⟨m1, m2, m3⟩ := mulS_ok hm
      exact ⟨h2, m1, m3, hm, rfl⟩
    · rw [if_neg hm] at h
      exact absurd h hm
theorem fits_ok {x : Rat} {r : (Int × Int) × Int} (h : Fits x r) (h0 : r.2 = 0) : validB r.1 = true ∧ qv r.1 = x := by
  rcases h with ⟨a, b, c⟩ | ⟨a, b⟩
  · exact ⟨a, c⟩
  · rw [a] at h0; simp at h0
theorem mid_le {A B X Y L : Rat} (h1 : A ≤ X) (h2 : X ≤ B) (a : L ≤ A * Y) (b : L ≤ B * Y) : L ≤ X * Y := by
  by_cases hY : 0 ≤ Y
  · exact Rat.le_trans a (Rat.mul_le_mul_of_nonneg_right h1 hY)
  · have h := Rat.mul_le_mul_of_nonneg_right h2 (show 0 ≤ -Y by grind)
    grind
theorem mid_ge {A B X Y L : Rat} (h1 : A ≤ X) (h2 : X ≤ B) (a : A * Y ≤ L) (b : B * Y ≤ L) : X * Y ≤ L := by
  by_cases hY : 0 ≤ Y
  · exact Rat.le_trans (Rat.mul_le_mul_of_nonneg_right h2 hY) b
  · have h := Rat.mul_le_mul_of_nonneg_right h1 (show 0 ≤ -Y by grind)
    grind
/-- A product of spans holds the products. -/
theorem mulS_in {a b : SpT} (h : (mulS a b).2 = 0) {X Y : Rat} (x1 : qv a.1 ≤ X) (x2 : X ≤ qv a.2) (y1 : qv b.1 ≤ Y) (y2 : Y ≤ qv b.2) : qv (mulS a b).1.1 ≤ X * Y ∧ X * Y ≤ qv (mulS a b).1.2 := by
  obtain ⟨ha, hb, _⟩ := mulS_ok h
  have e : mulS a b = endsF mulF (allP a b) := by unfold mulS; rw [ha, hb]; rfl
  rw [e] at h ⊢
  obtain ⟨_, h1, _, _⟩ := endsF_ok mulF_ok2 _ (allP_valid ha hb) (by simp [allP]) h
  obtain ⟨a1, a2, _⟩ := spanB_iff.1 ha
  obtain ⟨b1, b2, _⟩ := spanB_iff.1 hb
  have k1 := h1 (a.1, b.1) (by simp [allP])
  have k2 := h1 (a.1, b.2) (by simp [allP])
  have k3 := h1 (a.2, b.1) (by simp [allP])
  have k4 := h1 (a.2, b.2) (by simp [allP])
  simp only [] at k1 k2 k3 k4
  rw [(fits_ok (mulF_fits a1 b1) k1.1).2] at k1
  rw [(fits_ok (mulF_fits a1 b2) k2.1).2] at k2
  rw [(fits_ok (mulF_fits a2 b1) k3.1).2] at k3
  rw [(fits_ok (mulF_fits a2 b2) k4.1).2] at k4
  generalize qv a.1 = A at *
  generalize qv a.2 = B at *
  generalize qv b.1 = C at *
  generalize qv b.2 = D at *
  generalize qv (endsF mulF (allP a b)).1.1 = L at *
  generalize qv (endsF mulF (allP a b)).1.2 = H at *
  have l1 : L ≤ Y * A := mid_le y1 y2 (by grind) (by grind)
  have l2 : L ≤ Y * B := mid_le y1 y2 (by grind) (by grind)
  have g1 : Y * A ≤ H := mid_ge y1 y2 (by grind) (by grind)
  have g2 : Y * B ≤ H := mid_ge y1 y2 (by grind) (by grind)
  exact ⟨mid_le x1 x2 (by grind) (by grind), mid_ge x1 x2 (by grind) (by grind)⟩
/-- A product of narrower spans is narrower. -/
theorem mulS_less {w v s : SpT} (h1 : (mulS w s).2 = 0) (h2 : (mulS v s).2 = 0) (a : qv v.1 ≤ qv w.1) (b : qv w.2 ≤ qv v.2) : qv (mulS v s).1.1 ≤ qv (mulS w s).1.1 ∧ qv (mulS w s).1.2 ≤ qv (mulS v s).1.2 := by
  obtain ⟨hw, hs, _⟩ := mulS_ok h1
  obtain ⟨w1, w2, w3⟩ := spanB_qv.1 hw
  obtain ⟨s1, s2, s3⟩ := spanB_qv.1 hs
  have e : mulS w s = endsF mulF (allP w s) := by unfold mulS; rw [hw, hs]; rfl
  have key : ∀ p ∈ allP w s, qv (mulS v s).1.1 ≤ qv p.1 * qv p.2 ∧ qv p.1 * qv p.2 ≤ qv (mulS v s).1.2 := fun p hp => by
    simp only [allP, List.mem_cons, List.not_mem_nil, or_false] at hp
    rcases hp with rfl | rfl | rfl | rfl <;> exact mulS_in h2 (by grind) (by grind) (by grind) (by grind)
  rw [e] at h1 ⊢
  obtain ⟨_, k1, ⟨p, hp, ep⟩, ⟨q, hq, eq⟩⟩ := endsF_ok mulF_ok2 _ (allP_valid hw hs) (by simp [allP]) h1
  have vp := allP_valid hw hs p hp
  have vq := allP_valid hw hs q hq
  have fp := (fits_ok (mulF_fits vp.1 vp.2) (k1 p hp).1).2
  have fq := (fits_ok (mulF_fits vq.1 vq.2) (k1 q hq).1).2
  rw [ep, eq, fp, fq]
  exact ⟨(key p hp).1, (key q hq).2⟩
/-- A gauge with another tolerance, and with other noise. -/
abbrev gWith (g : GauT) (t : SpT) : GauT := ((g.1.1, t.1), t.2)
abbrev gLoud (g : GauT) (n : Int) : GauT := ((((g.1.1.1.1, n), g.1.1.2), g.1.2), g.2)
theorem tol_law {g : GauT} {p : List Int} {t : SpT} (h1 : (meaF g p).2.2 = 0) (h2 : (meaF (gWith g t) p).2.2 = 0) (hi : insB (gTol g) t = true) :
    ((meaF g p).2.1 = 1 → (meaF (gWith g t) p).2.1 = 1) ∧ ((meaF (gWith g t) p).2.1 = 2 → (meaF g p).2.1 = 2) := by
  obtain ⟨i1, i2, i3, i4⟩ := insB_qv hi
  obtain ⟨_, _, ⟨w, e⟩ | ⟨w, sw, sm, m0, e⟩⟩ := mea_known h1 <;> obtain ⟨_, _, ⟨w', e'⟩ | ⟨w', sw', sm', m0', e'⟩⟩ := mea_known h2
  · rw [e, e']
    constructor
    · intro h
      simp only [] at h
      split at h <;> simp at h
    · intro h; exact h
  · exfalso; rw [w] at w'; simp at w'
  · exfalso; rw [w'] at w; simp at w
  · rw [e, e']
    simp only [] at sm' ⊢
    obtain ⟨a1, a2⟩ := verV_q sm i1
    obtain ⟨b1, b2⟩ := verV_q sm i2
    rw [a1, a2, b1, b2]
    exact ⟨fun h => by grind, fun h => by grind⟩
theorem loud_law {g : GauT} {p : List Int} {n : Int} (h1 : (meaF g p).2.2 = 0) (h2 : (meaF (gLoud g n) p).2.2 = 0) (hn : gNoi g ≤ n) :
    ¬ ((meaF g p).2.1 = 1 ∧ (meaF (gLoud g n) p).2.1 = 2) ∧ ¬ ((meaF g p).2.1 = 2 ∧ (meaF (gLoud g n) p).2.1 = 1) := by
  obtain ⟨hg, hp, k1⟩ := mea_known h1
  obtain ⟨_, _, k2⟩ := mea_known h2
  have hk := gauB_known hg
  have wm := wide_max (p := p) (thr := gThr g) (noise := gNoi g) hp hk.1.1 hk.1.2
  rcases k1 with ⟨w, e⟩ | ⟨w, sw, sm, m0, e⟩ <;> rcases k2 with ⟨w', e'⟩ | ⟨w', sw', sm', m0', e'⟩
  · rw [e, e']
    constructor
    · rintro ⟨h, _⟩
      simp only [] at h
      split at h <;> simp at h
    · rintro ⟨_, h⟩
      simp only [] at h
      split at h <;> simp at h
  · exfalso
    have := (wid_noise hk.2.1.1 hn w').1
    rw [w] at this
    simp at this
  · rw [e, e']
    constructor
    · rintro ⟨_, h⟩
      simp only [] at h
      split at h
      · simp at h
      · rename_i h3
        have h3 : ¬ (gThr g ≤ mxK p (p.length - 1) + n) := h3
        obtain ⟨_, hq, r1, _⟩ := wid_known w
        obtain ⟨_, _, _, _, k, j, hk1, hj, _⟩ := edg_known (.inl rfl) r1
        obtain ⟨j1, j2, _⟩ := brk_some.1 hj
        have hm := mxK_ge p (p.length - 1) j (by simp [stepsN, movL_length] at j1; omega)
        simp [stepsN, movL_length] at j1
        unfold atK at j2
        rw [show ((0 : Int) + 1 * (j : Int)).toNat = j by omega, movL_getD, if_pos j1] at j2
        unfold clipL at j2
        have := hk.1
        split at j2
        · omega
        · split at j2 <;> omega
    · rintro ⟨_, h⟩
      simp only [] at h
      split at h <;> simp at h
  · rw [e, e']
    obtain ⟨_, _, _, n3, n4⟩ := wid_noise hk.2.1.1 hn w'
    obtain ⟨l1, l2⟩ := mulS_less m0 m0' n3 n4
    obtain ⟨a1, a2⟩ := verV_q sm hk.2.2.2.1
    obtain ⟨b1, b2⟩ := verV_q sm' hk.2.2.2.1
    have o1 := (spanB_qv.1 sm).2.2
    have o2 := (spanB_qv.1 hk.2.2.2.1).2.2
    simp only [] at a1 a2 b1 b2 ⊢
    rw [a1, a2, b1, b2]
    simp only [] at o2
    exact ⟨fun h => by grind, fun h => by grind⟩
end Go.Proofs.Tryz.My
