/- GaugeTolerance: a wider tolerance turns no Pass into another verdict, a narrower one no Fail; more noise turns neither into the other. -/
import Derived.Test.YtjkoeomndepolaaMyGd4
import Derived.Test.YtjkoeomndepolaaMyGn0
import Derived.Test.YtjkoeomndepolaaMyAlA
import Derived.Test.YtjkoeomndepolaaEvZ
import Derived.Test.YtjkoeomndepolaaEvZa
import Derived.Test.YtjkoeomndepolaaMyIniA
import Derived.Test.YtjkoeomndepolaaRows
import Derived.WalkKit
import Derived.ProofKit
import Derived.OpenShut
import Derived.ChangeOld
import Derived.Below
set_option maxRecDepth 100000
set_option maxHeartbeats 0
set_option linter.unusedVariables false
set_option linter.unusedSimpArgs false
namespace Go.Proofs.Try.My
open Go Go.Ev

theorem verV_q {s t : SpT} (hs : spanB s = true) (ht : spanB t = true) :
    (verV s t = 1 ↔ qv t.1 ≤ qv s.1 ∧ qv s.2 ≤ qv t.2) ∧ (verV s t = 2 ↔ qv s.2 < qv t.1 ∨ qv t.2 < qv s.1) := by
  obtain ⟨s1, s2, s3⟩ := spanB_qv.1 hs
  obtain ⟨t1, t2, t3⟩ := spanB_qv.1 ht
  rw [verV_eq hs ht]
  simp only [cmpF_le t1 s1, cmpF_le s2 t2, cmpF_lt s2 t1, cmpF_lt t2 s1]
  split
  · rename_i h
    refine ⟨by simp [h], ⟨fun h => by simp at h, fun h2 => ?_⟩⟩
    rcases h2 with h2 | h2 <;> grind
  · rename_i h
    split
    · rename_i h2
      exact ⟨⟨fun h => by simp at h, fun h3 => absurd h3 h⟩, by simp [h2]⟩
    · rename_i h2
      exact ⟨⟨fun h => by simp at h, fun h3 => absurd h3 h⟩, ⟨fun h => by simp at h, fun h3 => absurd h3 h2⟩⟩
/-- What a good gauge says of a good profile. -/
theorem mea_known {g : GauT} {p : List Int} (h : (meaF g p).2.2 = 0) :
    gauB g = true ∧ profB p = true ∧
    ((widE p (gThr g) (gNoi g) = (zS, 6) ∧ meaF g p = (s00, if gThr g ≤ mxK p (p.length - 1) + gNoi g then 3 else 2, 0)) ∨
     ((widE p (gThr g) (gNoi g)).2 = 0 ∧ spanB (widE p (gThr g) (gNoi g)).1 = true ∧ spanB (mulS (widE p (gThr g) (gNoi g)).1 (gSc g)).1 = true ∧ (mulS (widE p (gThr g) (gNoi g)).1 (gSc g)).2 = 0 ∧
        meaF g p = ((mulS (widE p (gThr g) (gNoi g)).1 (gSc g)).1, verV (mulS (widE p (gThr g) (gNoi g)).1 (gSc g)).1 (gTol g), 0))) := by
  unfold meaF at h ⊢
  cases hg : gauB g
  · rw [hg] at h; simp at h
  obtain ⟨t, n, _, _, _, _⟩ := gauB_known hg
  rw [hg] at h
  simp only [if_true] at h ⊢
  rcases wid_err (p := p) t.1 t.2 n.1 n.2 with ⟨h1, h2⟩ | ⟨h1, h2 | h2⟩
  · exfalso
    rw [h2] at h
    simp [meaG] at h
  · refine ⟨trivial, h1, .inl ⟨h2, ?_⟩⟩
    rw [h2]
    simp [meaG]
  · refine ⟨trivial, h1, .inr ?_⟩
    have h6 : (widE p (gThr g) (gNoi g)).2 ≠ 6 := by omega
    unfold meaG at h ⊢
    rw [if_neg h6, if_pos h2] at h ⊢
    by_cases hm : (mulS (widE p (gThr g) (gNoi g)).1 (gSc g)).2 = 0
    · rw [if_pos hm]
      obtain ⟨m1, m2, m3⟩ := mulS_ok hm
      exact ⟨h2, m1, m3, hm, rfl⟩
    · rw [if_neg hm] at h
      exact absurd h hm
theorem fits_ok {x : Rat} {r : (Int × Int) × Int} (h : Fits x r) (h0 : r.2 = 0) : validB r.1 = true ∧ qv r.1 = x := by
  rcases h with ⟨a, b, c⟩ | ⟨a, b⟩
  · exact ⟨a, c⟩
  · rw [a] at h0; simp at h0
theorem mid_le {A B X Y L : Rat} (h1 : A ≤ X) (h2 : X ≤ B) (a : L ≤ A * Y) (b : L ≤ B * Y) : L ≤ X * Y := by
  by_cases hY : 0 ≤ Y
  · exact Rat.le_trans a (Rat.mul_le_mul_of_nonneg_right h1 hY)
  · have h := Rat.mul_le_mul_of_nonneg_right h2 (show 0 ≤ -Y by grind)
    grind
theorem mid_ge {A B X Y L : Rat} (h1 : A ≤ X) (h2 : X ≤ B) (a : A * Y ≤ L) (b : B * Y ≤ L) : X * Y ≤ L := by
  by_cases hY : 0 ≤ Y
  · exact Rat.le_trans (Rat.mul_le_mul_of_nonneg_right h2 hY) b
  · have h := Rat.mul_le_mul_of_nonneg_right h1 (show 0 ≤ -Y by grind)
    grind
/-- A product of spans holds the products. -/
theorem mulS_in {a b : SpT} (h : (mulS a b).2 = 0) {X Y : Rat} (x1 : qv a.1 ≤ X) (x2 : X ≤ qv a.2) (y1 : qv b.1 ≤ Y) (y2 : Y ≤ qv b.2) : qv (mulS a b).1.1 ≤ X * Y ∧ X * Y ≤ qv (mulS a b).1.2 := by
  obtain ⟨ha, hb, _⟩ := mulS_ok h
  have e : mulS a b = endsF mulF (allP a b) := by unfold mulS; rw [ha, hb]; rfl
  rw [e] at h ⊢
  obtain ⟨_, h1, _, _⟩ := endsF_ok mulF_ok2 _ (allP_valid ha hb) (by simp [allP]) h
  obtain ⟨a1, a2, _⟩ := spanB_iff.1 ha
  obtain ⟨b1, b2, _⟩ := spanB_iff.1 hb
  have k1 := h1 (a.1, b.1) (by simp [allP])
  have k2 := h1 (a.1, b.2) (by simp [allP])
  have k3 := h1 (a.2, b.1) (by simp [allP])
  have k4 := h1 (a.2, b.2) (by simp [allP])
  simp only [] at k1 k2 k3 k4
  rw [(fits_ok (mulF_fits a1 b1) k1.1).2] at k1
  rw [(fits_ok (mulF_fits a1 b2) k2.1).2] at k2
  rw [(fits_ok (mulF_fits a2 b1) k3.1).2] at k3
  rw [(fits_ok (mulF_fits a2 b2) k4.1).2] at k4
  generalize qv a.1 = A at *
  generalize qv a.2 = B at *
  generalize qv b.1 = C at *
  generalize qv b.2 = D at *
  generalize qv (endsF mulF (allP a b)).1.1 = L at *
  generalize qv (endsF mulF (allP a b)).1.2 = H at *
  have l1 : L ≤ Y * A := mid_le y1 y2 (by grind) (by grind)
  have l2 : L ≤ Y * B := mid_le y1 y2 (by grind) (by grind)
  have g1 : Y * A ≤ H := mid_ge y1 y2 (by grind) (by grind)
  have g2 : Y * B ≤ H := mid_ge y1 y2 (by grind) (by grind)
  exact ⟨mid_le x1 x2 (by grind) (by grind), mid_ge x1 x2 (by grind) (by grind)⟩
/-- A product of narrower spans is narrower. -/
theorem mulS_less {w v s : SpT} (h1 : (mulS w s).2 = 0) (h2 : (mulS v s).2 = 0) (a : qv v.1 ≤ qv w.1) (b : qv w.2 ≤ qv v.2) : qv (mulS v s).1.1 ≤ qv (mulS w s).1.1 ∧ qv (mulS w s).1.2 ≤ qv (mulS v s).1.2 := by
  obtain ⟨hw, hs, _⟩ := mulS_ok h1
  obtain ⟨w1, w2, w3⟩ := spanB_qv.1 hw
  obtain ⟨s1, s2, s3⟩ := spanB_qv.1 hs
  have e : mulS w s = endsF mulF (allP w s) := by unfold mulS; rw [hw, hs]; rfl
  have key : ∀ p ∈ allP w s, qv (mulS v s).1.1 ≤ qv p.1 * qv p.2 ∧ qv p.1 * qv p.2 ≤ qv (mulS v s).1.2 := fun p hp => by
    simp only [allP, List.mem_cons, List.not_mem_nil, or_false] at hp
    rcases hp with rfl | rfl | rfl | rfl <;> exact mulS_in h2 (by grind) (by grind) (by grind) (by grind)
  rw [e] at h1 ⊢
  obtain ⟨_, k1, ⟨p, hp, ep⟩, ⟨q, hq, eq⟩⟩ := endsF_ok mulF_ok2 _ (allP_valid hw hs) (by simp [allP]) h1
  have vp := allP_valid hw hs p hp
  have vq := allP_valid hw hs q hq
  have fp := (fits_ok (mulF_fits vp.1 vp.2) (k1 p hp).1).2
  have fq := (fits_ok (mulF_fits vq.1 vq.2) (k1 q hq).1).2
  rw [ep, eq, fp, fq]
  exact ⟨(key p hp).1, (key q hq).2⟩
theorem insB_qv {s t : SpT} (h : insB s t = true) : spanB s = true ∧ spanB t = true ∧ qv t.1 ≤ qv s.1 ∧ qv s.2 ≤ qv t.2 := by
  simp only [insB, Bool.and_eq_true, decide_eq_true_eq] at h
  obtain ⟨h1, h2⟩ := h
  unfold meetF at h1 h2
  cases hs : spanB s <;> cases ht : spanB t <;> rw [hs, ht] at h1 h2 <;> simp at h1
  obtain ⟨s1, s2, s3⟩ := spanB_qv.1 hs
  obtain ⟨t1, t2, t3⟩ := spanB_qv.1 ht
  obtain ⟨g1, g2, g3⟩ := greF_qv s1 t1
  obtain ⟨l1, l2, l3⟩ := lesF_qv s2 t2
  have h3 : spanB (greF s.1 t.1, lesF s.2 t.2) = true := by
    cases h : spanB (greF s.1 t.1, lesF s.2 t.2)
    · rw [h] at h1; simp at h1
    · rfl
  rw [h3] at h2
  have h2 : (greF s.1 t.1, lesF s.2 t.2) = s := h2
  have e1 : greF s.1 t.1 = s.1 := congrArg Prod.fst h2
  have e2 : lesF s.2 t.2 = s.2 := congrArg Prod.snd h2
  rw [e1] at g2
  rw [e2] at l2
  exact ⟨rfl, rfl, g2, l2⟩
/-- A gauge with another tolerance, and with other noise. -/
abbrev gWith (g : GauT) (t : SpT) : GauT := ((g.1.1, t.1), t.2)
abbrev gLoud (g : GauT) (n : Int) : GauT := ((((g.1.1.1.1, n), g.1.1.2), g.1.2), g.2)
theorem tol_law {g : GauT} {p : List Int} {t : SpT} (h1 : (meaF g p).2.2 = 0) (h2 : (meaF (gWith g t) p).2.2 = 0) (hi : insB (gTol g) t = true) :
    ((meaF g p).2.1 = 1 → (meaF (gWith g t) p).2.1 = 1) ∧ ((meaF (gWith g t) p).2.1 = 2 → (meaF g p).2.1 = 2) := by
  obtain ⟨i1, i2, i3, i4⟩ := insB_qv hi
  obtain ⟨_, _, ⟨w, e⟩ | ⟨w, sw, sm, m0, e⟩⟩ := mea_known h1 <;> obtain ⟨_, _, ⟨w', e'⟩ | ⟨w', sw', sm', m0', e'⟩⟩ := mea_known h2
  · rw [e, e']
    constructor
    · intro h
      simp only [] at h
      split at h <;> simp at h
    · intro h; exact h
  · exfalso; rw [w] at w'; simp at w'
  · exfalso; rw [w'] at w; simp at w
  · rw [e, e']
    simp only [] at sm' ⊢
    obtain ⟨a1, a2⟩ := verV_q sm i1
    obtain ⟨b1, b2⟩ := verV_q sm i2
    rw [a1, a2, b1, b2]
    exact ⟨fun h => by grind, fun h => by grind⟩
theorem loud_law {g : GauT} {p : List Int} {n : Int} (h1 : (meaF g p).2.2 = 0) (h2 : (meaF (gLoud g n) p).2.2 = 0) (hn : gNoi g ≤ n) :
    ¬ ((meaF g p).2.1 = 1 ∧ (meaF (gLoud g n) p).2.1 = 2) ∧ ¬ ((meaF g p).2.1 = 2 ∧ (meaF (gLoud g n) p).2.1 = 1) := by
  obtain ⟨hg, hp, k1⟩ := mea_known h1
  obtain ⟨_, _, k2⟩ := mea_known h2
  have hk := gauB_known hg
  have wm := wide_max (p := p) (thr := gThr g) (noise := gNoi g) hp hk.1.1 hk.1.2
  rcases k1 with ⟨w, e⟩ | ⟨w, sw, sm, m0, e⟩ <;> rcases k2 with ⟨w', e'⟩ | ⟨w', sw', sm', m0', e'⟩
  · rw [e, e']
    constructor
    · rintro ⟨h, _⟩
      simp only [] at h
      split at h <;> simp at h
    · rintro ⟨_, h⟩
      simp only [] at h
      split at h <;> simp at h
  · exfalso
    have := (wid_noise hk.2.1.1 hn w').1
    rw [w] at this
    simp at this
  · rw [e, e']
    constructor
    · rintro ⟨_, h⟩
      simp only [] at h
      split at h
      · simp at h
      · rename_i h3
        have h3 : ¬ (gThr g ≤ mxK p (p.length - 1) + n) := h3
        obtain ⟨_, hq, r1, _⟩ := wid_known w
        obtain ⟨_, _, _, _, k, j, hk1, hj, _⟩ := edg_known (.inl rfl) r1
        obtain ⟨j1, j2, _⟩ := brk_some.1 hj
        have hm := mxK_ge p (p.length - 1) j (by simp [stepsN, movL_length] at j1; omega)
        simp [stepsN, movL_length] at j1
        unfold atK at j2
        rw [show ((0 : Int) + 1 * (j : Int)).toNat = j by omega, movL_getD, if_pos j1] at j2
        unfold clipL at j2
        have := hk.1
        split at j2
        · omega
        · split at j2 <;> omega
    · rintro ⟨_, h⟩
      simp only [] at h
      split at h <;> simp at h
  · rw [e, e']
    obtain ⟨_, _, _, n3, n4⟩ := wid_noise hk.2.1.1 hn w'
    obtain ⟨l1, l2⟩ := mulS_less m0 m0' n3 n4
    obtain ⟨a1, a2⟩ := verV_q sm hk.2.2.2.1
    obtain ⟨b1, b2⟩ := verV_q sm' hk.2.2.2.1
    have o1 := (spanB_qv.1 sm).2.2
    have o2 := (spanB_qv.1 hk.2.2.2.1).2.2
    simp only [] at a1 a2 b1 b2 ⊢
    rw [a1, a2, b1, b2]
    simp only [] at o2
    exact ⟨fun h => by grind, fun h => by grind⟩
end Go.Proofs.Try.My
set_option maxRecDepth 100000
set_option maxHeartbeats 0
set_option linter.unusedVariables false
set_option linter.unusedSimpArgs false
namespace Go.Proofs.Try.My
open Go Go.Ev

theorem tlOut (thr noi a1 a2 b1 b2 l1 l2 h1 h2 noise : Int) (p : List Int) (lo hi : Int × Int) (hl : ¬ p.length ≤ 64) :
    PC Try.prog 8 [.agg [i64 thr, i64 noi, i64 a1, i64 a2, i64 b1, i64 b2, i64 l1, i64 l2, i64 h1, i64 h2], ints p, fr lo, fr hi, i64 noise] (.bool true) := by
  have al := pc_alive
  refine pc_of_body hm Try.func8 (by kernel_rfl) ?_
  conv => whnf
  (repeat' (first | (refine ⟨_, by first | with_reducible exact al, ?_⟩; (conv => whnf)) | (refine Or.inl ?_; (conv => whnf); refine ⟨_, by first | with_reducible exact al, ?_⟩; (conv => whnf)) | (refine Or.inl ?_; (conv => whnf); refine ⟨false, ?_⟩; (conv => whnf); refine ⟨_, by first | with_reducible exact al, ?_⟩; (conv => whnf)) | (refine ⟨by kernel_rfl, ?_⟩; (conv => whnf)) | fail))
  refine ⟨fun _ => ?_, fun h => absurd (of_decide_eq_false h) (by omega)⟩
  (conv => whnf)
theorem tlErr (thr noi a1 a2 b1 b2 l1 l2 h1 h2 x1 x2 y1 y2 noise a e b f : Int) (A B : SpT) (p : List Int) (hl : p.length ≤ 64) (he : e ≠ 0)
    (k1 : PC Try.prog 36 [.agg [i64 thr, i64 noi, i64 a1, i64 a2, i64 b1, i64 b2, i64 l1, i64 l2, i64 h1, i64 h2], ints p] (.tup [sp A, u8 a, i64 e]))
    (k2 : PC Try.prog 36 [.agg [i64 thr, i64 noi, i64 a1, i64 a2, i64 b1, i64 b2, i64 x1, i64 x2, i64 y1, i64 y2], ints p] (.tup [sp B, u8 b, i64 f])) :
    PC Try.prog 8 [.agg [i64 thr, i64 noi, i64 a1, i64 a2, i64 b1, i64 b2, i64 l1, i64 l2, i64 h1, i64 h2], ints p, fr (x1, x2), fr (y1, y2), i64 noise] (.bool true) := by
  have al := pc_alive
  refine pc_of_body hm Try.func8 (by kernel_rfl) ?_
  conv => whnf
  (repeat' (first | (refine ⟨_, by first | with_reducible exact al | with_reducible exact k1 | with_reducible exact k2, ?_⟩; (conv => whnf)) | (refine Or.inl ?_; (conv => whnf); refine ⟨_, by first | with_reducible exact al | with_reducible exact k1 | with_reducible exact k2, ?_⟩; (conv => whnf)) | (refine Or.inl ?_; (conv => whnf); refine ⟨false, ?_⟩; (conv => whnf); refine ⟨_, by first | with_reducible exact al | with_reducible exact k1 | with_reducible exact k2, ?_⟩; (conv => whnf)) | (refine ⟨by kernel_rfl, ?_⟩; (conv => whnf)) | (refine ⟨fun _ => ?_, fun h => absurd h (by first | decide | (simp; done) | fail)⟩; (conv => whnf)) | (refine ⟨fun h => absurd h (by first | decide | (simp; done) | fail), fun _ => ?_⟩; (conv => whnf)) | ((with_reducible refine And.intro (a := _ = true → _) (b := _ = false → _) (fun hh => ?_) (fun hh => ?_)) <;> (try simp only [decide_eq_true_eq, decide_eq_false_iff_not, Bool.or_eq_true, Bool.and_eq_true, Bool.or_eq_false_iff, Bool.and_eq_false_iff, Bool.not_eq_true', Bool.not_eq_false', ge_iff_le, gt_iff_lt] at hh) <;> (first | (exfalso; omega) | (conv => whnf))) | fail))
  all_goals (first | rfl | simp [*])
theorem tlOk (thr noi a1 a2 b1 b2 l1 l2 h1 h2 x1 x2 y1 y2 noise a b f c h : Int) (A B C : SpT) (I : Bool) (p : List Int) (hl : p.length ≤ 64)
    (k1 : PC Try.prog 36 [.agg [i64 thr, i64 noi, i64 a1, i64 a2, i64 b1, i64 b2, i64 l1, i64 l2, i64 h1, i64 h2], ints p] (.tup [sp A, u8 a, i64 0]))
    (k2 : PC Try.prog 36 [.agg [i64 thr, i64 noi, i64 a1, i64 a2, i64 b1, i64 b2, i64 x1, i64 x2, i64 y1, i64 y2], ints p] (.tup [sp B, u8 b, i64 f]))
    (k3 : PC Try.prog 36 [.agg [i64 thr, i64 noise, i64 a1, i64 a2, i64 b1, i64 b2, i64 l1, i64 l2, i64 h1, i64 h2], ints p] (.tup [sp C, u8 c, i64 h]))
    (k4 : PC Try.prog 41 [sp ((l1, l2), (h1, h2)), sp ((x1, x2), (y1, y2))] (.bool I))
    (hC : h = 0 → noi ≤ noise → ¬ (a = 1 ∧ c = 2) ∧ ¬ (a = 2 ∧ c = 1)) (hT : f = 0 → I = true → (a = 1 → b = 1) ∧ (b = 2 → a = 2)) :
    PC Try.prog 8 [.agg [i64 thr, i64 noi, i64 a1, i64 a2, i64 b1, i64 b2, i64 l1, i64 l2, i64 h1, i64 h2], ints p, fr (x1, x2), fr (y1, y2), i64 noise] (.bool true) := by
  have al := pc_alive
  cases I
  · clear hT
    refine pc_of_body hm Try.func8 (by kernel_rfl) ?_
    conv => whnf
    (repeat' (first | (refine ⟨_, by first | with_reducible exact al | with_reducible exact k1 | with_reducible exact k2 | with_reducible exact k3 | with_reducible exact k4, ?_⟩; (conv => whnf)) | (refine Or.inl ?_; (conv => whnf); refine ⟨_, by first | with_reducible exact al | with_reducible exact k1 | with_reducible exact k2 | with_reducible exact k3 | with_reducible exact k4, ?_⟩; (conv => whnf)) | (refine Or.inl ?_; (conv => whnf); refine ⟨false, ?_⟩; (conv => whnf); refine ⟨_, by first | with_reducible exact al | with_reducible exact k1 | with_reducible exact k2 | with_reducible exact k3 | with_reducible exact k4, ?_⟩; (conv => whnf)) | (refine ⟨by kernel_rfl, ?_⟩; (conv => whnf)) | (refine ⟨fun _ => ?_, fun h => absurd h (by first | decide | (simp; done) | fail)⟩; (conv => whnf)) | (refine ⟨fun h => absurd h (by first | decide | (simp; done) | fail), fun _ => ?_⟩; (conv => whnf)) | ((with_reducible refine And.intro (a := _ = true → _) (b := _ = false → _) (fun hh => ?_) (fun hh => ?_)) <;> (try simp only [decide_eq_true_eq, decide_eq_false_iff_not, Bool.or_eq_true, Bool.and_eq_true, Bool.or_eq_false_iff, Bool.and_eq_false_iff, Bool.not_eq_true', Bool.not_eq_false', ge_iff_le, gt_iff_lt] at hh) <;> (first | (exfalso; omega) | (conv => whnf))) | fail))
    all_goals (first | rfl | simp [*])
  · have hT := fun h => hT h rfl
    refine pc_of_body hm Try.func8 (by kernel_rfl) ?_
    conv => whnf
    (repeat' (first | (refine ⟨_, by first | with_reducible exact al | with_reducible exact k1 | with_reducible exact k2 | with_reducible exact k3 | with_reducible exact k4, ?_⟩; (conv => whnf)) | (refine Or.inl ?_; (conv => whnf); refine ⟨_, by first | with_reducible exact al | with_reducible exact k1 | with_reducible exact k2 | with_reducible exact k3 | with_reducible exact k4, ?_⟩; (conv => whnf)) | (refine Or.inl ?_; (conv => whnf); refine ⟨false, ?_⟩; (conv => whnf); refine ⟨_, by first | with_reducible exact al | with_reducible exact k1 | with_reducible exact k2 | with_reducible exact k3 | with_reducible exact k4, ?_⟩; (conv => whnf)) | (refine ⟨by kernel_rfl, ?_⟩; (conv => whnf)) | (refine ⟨fun _ => ?_, fun h => absurd h (by first | decide | (simp; done) | fail)⟩; (conv => whnf)) | (refine ⟨fun h => absurd h (by first | decide | (simp; done) | fail), fun _ => ?_⟩; (conv => whnf)) | ((with_reducible refine And.intro (a := _ = true → _) (b := _ = false → _) (fun hh => ?_) (fun hh => ?_)) <;> (try simp only [decide_eq_true_eq, decide_eq_false_iff_not, Bool.or_eq_true, Bool.and_eq_true, Bool.or_eq_false_iff, Bool.and_eq_false_iff, Bool.not_eq_true', Bool.not_eq_false', ge_iff_le, gt_iff_lt] at hh) <;> (first | (exfalso; omega) | (conv => whnf))) | fail))
    all_goals (first | rfl | (simp; omega) | simp [*])

theorem pc_GaugeTolerance (g : GauT) (p : List Int) (lo hi : Int × Int) (noise : Int) : PC Try.prog 8 [gau g, ints p, fr lo, fr hi, i64 noise] (.bool true) := by
  obtain ⟨⟨⟨⟨thr, noi⟩, ⟨⟨a1, a2⟩, ⟨b1, b2⟩⟩⟩, ⟨l1, l2⟩⟩, ⟨h1, h2⟩⟩ := g
  obtain ⟨x1, x2⟩ := lo
  obtain ⟨y1, y2⟩ := hi
  by_cases hl : p.length ≤ 64
  rotate_left
  · exact tlOut thr noi a1 a2 b1 b2 l1 l2 h1 h2 noise p _ _ hl
  have hl2 : p.length < 2 ^ 40 := by omega
  have k1 := pc_Measure ((((thr, noi), ((a1, a2), (b1, b2))), (l1, l2)), (h1, h2)) p hl2
  have k2 := pc_Measure ((((thr, noi), ((a1, a2), (b1, b2))), (x1, x2)), (y1, y2)) p hl2
  have k3 := pc_Measure ((((thr, noise), ((a1, a2), (b1, b2))), (l1, l2)), (h1, h2)) p hl2
  have k4 := pc_inside ((l1, l2), (h1, h2)) ((x1, x2), (y1, y2))
  by_cases he : (meaF ((((thr, noi), ((a1, a2), (b1, b2))), (l1, l2)), (h1, h2)) p).2.2 = 0
  · have q1 := fun h => tol_law (t := ((x1, x2), (y1, y2))) he h
    have q2 := fun h => loud_law (n := noise) he h
    rw [he] at k1
    exact tlOk thr noi a1 a2 b1 b2 l1 l2 h1 h2 x1 x2 y1 y2 noise _ _ _ _ _ _ _ _ _ p hl k1 k2 k3 k4 q2 q1
  · exact tlErr thr noi a1 a2 b1 b2 l1 l2 h1 h2 x1 x2 y1 y2 noise _ _ _ _ _ _ p hl he k1 k2
end Go.Proofs.Try.My
set_option maxRecDepth 100000
set_option maxHeartbeats 0
set_option linter.unusedVariables false
set_option linter.unusedSimpArgs false
namespace Go.Proofs.Ytjkoeomndepolaa.GaugeToleranceDone
open Go Go.Ev Go.Proofs.Try.My
open Go.ChangeShapes Go.WideShapes Go.ChangeAt Go.RowKit

theorem own : ownKnob Try.prog.godebug = none := by kernel_rfl
theorem laidOut : laidOutB Try.prog = true := by kernel_rfl

theorem dFrac : Dec Try.prog 24 eF (fun y : Int × Int => I64 y.1 ∧ I64 y.2) :=
  dec_two Try.underlying24 rfl rfl rfl (by kernel_rfl) (by kernel_rfl) (dec_int Try.underlying3 (by kernel_rfl)) (dec_int Try.underlying3 (by kernel_rfl)) (fun _ => by kernel_rfl)
theorem dSpan : Dec Try.prog 39 eS (fun y : SpT => (I64 y.1.1 ∧ I64 y.1.2) ∧ (I64 y.2.1 ∧ I64 y.2.2)) :=
  dec_two Try.underlying39 rfl rfl rfl (by kernel_rfl) (by kernel_rfl) dFrac dFrac (fun _ => by kernel_rfl)
theorem dGauge : Dec Try.prog 54 eG (fun y : GauT => ((((I64 y.1.1.1.1 ∧ I64 y.1.1.1.2) ∧ ((I64 y.1.1.2.1.1 ∧ I64 y.1.1.2.1.2) ∧ (I64 y.1.1.2.2.1 ∧ I64 y.1.1.2.2.2))) ∧ (I64 y.1.2.1 ∧ I64 y.1.2.2)) ∧ (I64 y.2.1 ∧ I64 y.2.2))) :=
  dec_all Try.underlying54 rfl (by kernel_rfl)
    (dec_more (k := 4) Try.underlying54 rfl (by kernel_rfl) (dec_more (k := 3) Try.underlying54 rfl (by kernel_rfl) (dec_more (k := 2) Try.underlying54 rfl (by kernel_rfl) (dec_more (k := 1) Try.underlying54 rfl (by kernel_rfl)
      (dec_one Try.underlying54 rfl (by kernel_rfl) (dec_int Try.underlying3 (by kernel_rfl))) (dec_int Try.underlying3 (by kernel_rfl)) (fun _ => by kernel_rfl)) dSpan (fun _ => by kernel_rfl)) dFrac (fun _ => by kernel_rfl)) dFrac (fun _ => by kernel_rfl))
theorem walk (w : World) (g : GauT) (f0 : ((((I64 g.1.1.1.1 ∧ I64 g.1.1.1.2) ∧ ((I64 g.1.1.2.1.1 ∧ I64 g.1.1.2.1.2) ∧ (I64 g.1.1.2.2.1 ∧ I64 g.1.1.2.2.2))) ∧ (I64 g.1.2.1 ∧ I64 g.1.2.2)) ∧ (I64 g.2.1 ∧ I64 g.2.2))) (v0 : Value) (h0 : RepI (fun b => b < w.heap.size) w (.agg (eG g)) v0) (p : List Int) (v1 : Value) (h1 : RepI (fun b => b < w.heap.size) w (ints p) v1) (lo : Int × Int) (f2 : I64 lo.1 ∧ I64 lo.2) (v2 : Value) (h2 : RepI (fun b => b < w.heap.size) w (.agg (eF lo)) v2) (hi : Int × Int) (f3 : I64 hi.1 ∧ I64 hi.2) (v3 : Value) (h3 : RepI (fun b => b < w.heap.size) w (.agg (eF hi)) v3) (noise : Int) :
    Calls Try.prog 8 #[v0, v1, v2, v3, .int .i64 noise] w fun e w' => e = .returned (.bool true) ∧ Below w.heap.size w w' := by
  refine PC.callsTrue (pc_GaugeTolerance g  p lo  hi  noise) Try.func8 (by kernel_rfl) rfl rfl fun i hi => ?_
  match i, hi with
  | 0, _ => exact h0
  | 1, _ => exact h1
  | 2, _ => exact h2
  | 3, _ => exact h3
  | 4, _ => exact .int _ _

theorem lifted (os : Os) (started : os.Started) (H : Type) (enc : TypeId × Value → H) :
    ReturnsInHanded {} Try.checked os 8 .any (Rows.gaugeToleranceSpec.pre6 enc Try.prog Try.f8 Rows.gaugeToleranceRow.domain false) (Rows.gaugeToleranceSpec.post enc Try.prog Try.f8 false true false false) := by
  refine returnsInHanded_of_change (C := Try.checked) own started (by kernel_rfl) Try.func8
    (ChangeSpec.witness6 (enc := enc) (C := Try.checked) false ⟨#[], #[.agg #[.int .i64 0, .int .i64 0, .int .i64 0, .int .i64 0, .int .i64 0, .int .i64 0, .int .i64 0, .int .i64 0, .int .i64 0, .int .i64 0], .slice none 0 0, .agg #[.int .i64 0, .int .i64 0], .agg #[.int .i64 0, .int .i64 0], .int .i64 0], []⟩ 8 (by kernel_rfl) (by kernel_rfl) (by kernel_rfl) (by kernel_rfl)) ?_
  intro W base args ds gs before hval0 hW hcnd _
  have hval : ∀ (j : Nat) t v, Try.f8.params[j]? = some t → args[j]? = some v → Value.okWide Try.prog W .any base t v := hval0
  have hW' := hW
  obtain ⟨p, q, hA0, hV, rfl, hfz, hnd⟩ := hW
  have hA : DataW.TrodAll enc Try.prog W 0 (fun _ => true) true Try.f8.params.toList args.toList ds p := hA0
  rw [Try.params8] at hA hval
  obtain ⟨v0, vs0, d0, ds0, p0, q0, hargs, rfl, rfl, h0, r0⟩ := trodAll_cons hA
  obtain ⟨v1, vs1, d1, ds1, p1, q1, rfl, rfl, rfl, h1, r1⟩ := trodAll_cons r0
  obtain ⟨v2, vs2, d2, ds2, p2, q2, rfl, rfl, rfl, h2, r2⟩ := trodAll_cons r1
  obtain ⟨v3, vs3, d3, ds3, p3, q3, rfl, rfl, rfl, h3, r3⟩ := trodAll_cons r2
  obtain ⟨v4, vs4, d4, ds4, p4, q4, rfl, rfl, rfl, h4, r4⟩ := trodAll_cons r3
  obtain ⟨rfl, rfl, rfl⟩ := trodAll_nil r4
  obtain rfl : args = #[v0, v1, v2, v3, v4] := by cases args; simp_all
  obtain ⟨rfl, rfl⟩ := trodVars_none hV
  have k0 := h0
  have lt0 : ∀ x ∈ p0, x.block < W.heap.size := by obtain ⟨m, hm⟩ := k0; exact DataW.trod_lt m _ _ _ hm
  obtain ⟨a0, fa0, ra0⟩ := repI_struct Try.underlying54 dGauge (fun _ => by kernel_rfl) (hval 0 54 v0 rfl rfl) h0
  obtain ⟨a1, len1, cap1, rfl⟩ := okWide_slice Try.underlying22 (hval 1 22 v1 rfl rfl)
  have k1 := h1
  have lt1 : ∀ x ∈ p1, x.block < W.heap.size := by obtain ⟨m, hm⟩ := k1; exact DataW.trod_lt m _ _ _ hm
  obtain ⟨l1, i1, _, n1⟩ : ∃ l : List Int, RepI (fun b => b < W.heap.size) W (ints l) (.slice a1 len1 cap1) ∧ (∀ n ∈ l, I64 n) ∧ l.length ≤ maxLen := by
    obtain ⟨fuel, hf⟩ := h1
    exact repI_ints Try.underlying22 Try.underlying3 (by kernel_rfl) (hval 1 22 _ rfl rfl) hf
  have k2 := h2
  have lt2 : ∀ x ∈ p2, x.block < W.heap.size := by obtain ⟨m, hm⟩ := k2; exact DataW.trod_lt m _ _ _ hm
  obtain ⟨a2, fa2, ra2⟩ := repI_struct Try.underlying24 dFrac (fun _ => by kernel_rfl) (hval 2 24 v2 rfl rfl) h2
  have k3 := h3
  have lt3 : ∀ x ∈ p3, x.block < W.heap.size := by obtain ⟨m, hm⟩ := k3; exact DataW.trod_lt m _ _ _ hm
  obtain ⟨a3, fa3, ra3⟩ := repI_struct Try.underlying24 dFrac (fun _ => by kernel_rfl) (hval 3 24 v3 rfl rfl) h3
  obtain ⟨a4, rfl, rfl, rfl, w4⟩ := open_int Try.underlying3 (hval 4 3 v4 rfl rfl) h4
  clear hA0 hval0
  refine (walk W a0 fa0 _ (ra0 _ _) l1 _ i1 a2 fa2 _ (ra2 _ _) a3 fa3 _ (ra3 _ _) a4).mono fun e W' ⟨he, bel⟩ => ?_
  subst he
  exact ⟨_, rfl, _, _, _, [], _, [], hW', trodAll_mk1 (shut_bool Try.underlying4 _), (trodAll_cons_mk (Below.trod laidOut (by kernel_rfl) (of_decide_eq_true (by kernel_rfl)) k0 bel lt0) (trodAll_cons_mk (Below.trod laidOut (by kernel_rfl) (of_decide_eq_true (by kernel_rfl)) k1 bel lt1) (trodAll_cons_mk (Below.trod laidOut (by kernel_rfl) (of_decide_eq_true (by kernel_rfl)) k2 bel lt2) (trodAll_cons_mk (Below.trod laidOut (by kernel_rfl) (of_decide_eq_true (by kernel_rfl)) k3 bel lt3) (trodAll_cons_mk (shut_int Try.underlying3 w4) trodAll_mk0))))), rfl, bel.frame _, fun h => by cases h⟩

theorem closed : joinedFacts Try.pinned.checked.prog 8 Try.f8 Rows.gaugeToleranceSpec Rows.gaugeToleranceRow = true :=
  (restOf Try.pinned.checked.prog 8 Try.f8 Rows.gaugeToleranceSpec Rows.gaugeToleranceRow make_eq mayEnter_eq liftsFinal_eq).2 (by kernel_rfl)
theorem over : Rows.gaugeToleranceRow.holds Try.pinned (OpenSpec.ofChange Rows.gaugeToleranceSpec) :=
  OpenClaim.holds_of_wide 8 Try.f8 rfl rfl rfl rfl rfl rfl rfl ⟨rfl, rfl, rfl, rfl, rfl⟩ rfl rfl rfl rfl rfl (by kernel_rfl) Try.func8 closed
    (of_decide_eq_true (by kernel_rfl)) (by unfold Func.isWrapper; first | (rw [if_pos (by decide +kernel)]; kernel_rfl) | (rw [if_neg (by decide +kernel)]; exact ⟨rfl, rfl⟩))
    (fun os started H enc _ => lifted os started H enc)

theorem proved : Rows.GaugeToleranceSaid := over
#print axioms proved
end Go.Proofs.Ytjkoeomndepolaa.GaugeToleranceDone
