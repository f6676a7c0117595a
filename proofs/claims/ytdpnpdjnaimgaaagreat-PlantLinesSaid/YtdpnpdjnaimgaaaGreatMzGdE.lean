/- A helper text: contracts of functions of the program, and plain lemmas. -/
import Derived.Test.YtdpnpdjnaimgaaaGreatEvSix
import Derived.Test.YtdpnpdjnaimgaaaGreatMzGdB
import Derived.Test.YtdpnpdjnaimgaaaGreatMzGdD
import Derived.Test.YtdpnpdjnaimgaaaGreatMzEaA
import Derived.Test.YtdpnpdjnaimgaaaGreatChecked
set_option maxRecDepth 100000
set_option maxHeartbeats 0
set_option linter.unusedVariables false
set_option linter.unusedSimpArgs false
namespace Go.Proofs.Tryz.My
open Go Go.Ev
def mxK (p : List Int) : Nat → Int
  | 0 => p.getD 0 0
  | k + 1 => if p.getD (k + 1) 0 > mxK p k then p.getD (k + 1) 0 else mxK p k
theorem mxK_ge (p : List Int) : ∀ k j, j ≤ k → p.getD j 0 ≤ mxK p k
  | 0, j, h => by obtain rfl : j = 0 := by omega
                  exact Int.le_refl _
  | k + 1, j, h => by
    by_cases e : j = k + 1
    · subst e; simp only [mxK]; split <;> omega
    · have := mxK_ge p k j (by omega)
      simp only [mxK]; split <;> omega
theorem mxK_mem (p : List Int) : ∀ k, ∃ j, j ≤ k ∧ mxK p k = p.getD j 0
  | 0 => ⟨0, by omega, rfl⟩
  | k + 1 => by
    obtain ⟨j, h1, h2⟩ := mxK_mem p k
    simp only [mxK]
    split
    · exact ⟨k + 1, by omega, rfl⟩
    · exact ⟨j, by omega, h2⟩
theorem pc_Max (p : List Int) (h0 : 0 < p.length) (hl : p.length < 2 ^ 40) : PC Tryz.prog 91 [ints p] (i64 (mxK p (p.length - 1))) := by
  refine pc_of_bodyF hm Tryz.func91 (by kernel_rfl) ?_
  conv => whnf
  refine ⟨fun h => absurd h (by simp; omega), fun _ => ?_⟩
  (conv => whnf)
  refine ⟨⟨by omega, by omega⟩, ?_⟩
  (conv => whnf)
  refine Or.inr ⟨Nat, [3, 4], [], [], fun k => [i64 (mxK p k), i64 ((k + 1 : Nat) : Int)], fun _ => [], fun _ => [], fun k => p.length - k, fun k => k + 1 ≤ p.length, ?_⟩
  (conv => whnf)
  refine ⟨⟨0, ?_⟩, ?_⟩
  · (conv => whnf)
    exact ⟨⟨by omega, rfl, rfl, rfl⟩, by kernel_rfl, by kernel_rfl⟩
  · intro k hk
    (conv => whnf)
    refine ⟨fun h => ?_, fun h => ?_⟩
    · have h := of_decide_eq_true h
      (conv => whnf)
      refine ⟨⟨by omega, by omega⟩, ?_⟩
      (conv => whnf)
      refine ⟨k + 1, ?_⟩
      (conv => whnf)
      refine ⟨⟨⟨Nat.sub_lt_sub_left (by omega) (Nat.lt_succ_self k), by omega⟩, ?_, rfl, rfl⟩, by kernel_rfl, by kernel_rfl⟩
      rw [w64 _ (by omega) (by omega)]
      rfl
    · have h := of_decide_eq_false h
      obtain rfl : k = p.length - 1 := by omega
      (conv => whnf)
theorem wide_max {p : List Int} {thr noise : Int} (hp : profB p = true) (t1 : 1 ≤ thr) (t2 : thr ≤ 255) : (wideF (movL p noise) thr).2 = decide (thr ≤ mxK p (p.length - 1) + noise) := by
  have hlen := prof_len hp
  have hv : ∀ j, j < p.length → (atK (movL p noise) 0 1 j < thr ↔ p.getD j 0 + noise < thr) := by
    intro j hj
    unfold atK
    rw [show ((0 : Int) + 1 * (j : Int)).toNat = j by omega, movL_getD, if_pos hj]
    unfold clipL
    split
    · omega
    · split <;> omega
  have e : (wideF (movL p noise) thr).2 = (brF (movL p noise) thr 0 1).2 := by
    unfold wideF
    cases h : (brF (movL p noise) thr 0 1).2 <;> simp
  rw [e]
  obtain ⟨j, hj1, hj2⟩ := mxK_mem p (p.length - 1)
  cases hb : brk (movL p noise) thr 0 1 with
  | none =>
    rw [brF_none hb]
    have := brk_none.1 hb
    have h1 := (hv j (by omega)).1 (this j (by simp [stepsN, movL_length]; omega))
    rw [← hj2] at h1
    simp
    omega
  | some k =>
    rw [brF_some hb]
    obtain ⟨h1, h2, _⟩ := brk_some.1 hb
    simp [stepsN, movL_length] at h1
    have h3 := mt (hv k (by omega)).2 (by omega)
    have := mxK_ge p (p.length - 1) k (by omega)
    simp
    omega
abbrev s00 : SpT := ((0, 1), (0, 1))
def meaG (g : GauT) (w m : SpT × Int) (v : Int) : SpT × Int × Int :=
  if w.2 = 6 then (s00, v, 0) else if w.2 = 0 then (if m.2 = 0 then (m.1, verV m.1 (gTol g), 0) else (zS, 0, m.2)) else (zS, 0, w.2)
def meaF (g : GauT) (p : List Int) : SpT × Int × Int :=
  if gauB g then meaG g (widE p (gThr g) (gNoi g)) (mulS (widE p (gThr g) (gNoi g)).1 (gSc g)) (if gThr g ≤ mxK p (p.length - 1) + gNoi g then 3 else 2) else (zS, 0, 8)
theorem gauB_known {g : GauT} (h : gauB g = true) : (1 ≤ gThr g ∧ gThr g ≤ 255) ∧ (0 ≤ gNoi g ∧ gNoi g ≤ 64) ∧ spanB (gSc g) = true ∧ spanB (gTol g) = true ∧ 0 < (gSc g).1.1 ∧ (smB (gSc g).1 = true ∧ smB (gSc g).2 = true ∧ smB g.1.2 = true ∧ smB g.2 = true) := by
  simp only [gauB, withB, Bool.and_eq_true, decide_eq_true_eq] at h
  simp only [and_assoc] at h ⊢
  exact h
theorem wid_err {p : List Int} {thr noise : Int} (t1 : 1 ≤ thr) (t2 : thr ≤ 255) (n1 : 0 ≤ noise) (n2 : noise ≤ 64) :
    (profB p = false ∧ widE p thr noise = (zS, 50)) ∨ (profB p = true ∧ ((widE p thr noise) = (zS, 6) ∨ (widE p thr noise).2 = 0)) := by
  unfold widE
  cases hp : profB p
  · left; simp
  · right
    have hlen := prof_len hp
    have hq : askE p thr 0 noise = true := by
      simp only [askE, Bool.and_eq_true, decide_eq_true_eq]; omega
    rw [hq]
    simp only [if_true, true_and]
    rcases wid_law (p := p) (by omega) hlen.2 t1 t2 n1 with ⟨h1, h2⟩ | ⟨h1, h2, _, _, h3, h4, _⟩
    · exact .inl h2
    · exact .inr h4
theorem pc_meaBad (thr noise a1 a2 b1 b2 l1 l2 h1 h2 : Int) (p : List Int)
    (c1 : PC Tryz.prog 89 [.agg [i64 thr, i64 noise, i64 a1, i64 a2, i64 b1, i64 b2, i64 l1, i64 l2, i64 h1, i64 h2]] (i64 8)) :
    PC Tryz.prog 48 [.agg [i64 thr, i64 noise, i64 a1, i64 a2, i64 b1, i64 b2, i64 l1, i64 l2, i64 h1, i64 h2], ints p] (.tup [sp zS, u8 0, i64 8]) := by
  refine pc_of_bodyF hm Tryz.func48 (by kernel_rfl) ?_
  conv => whnf
  (repeat' (first | (refine ⟨_, by first | with_reducible exact c1, ?_⟩; (conv => whnf)) | (refine Or.inl ?_; (conv => whnf); refine ⟨_, by first | with_reducible exact c1, ?_⟩; (conv => whnf)) | (refine Or.inl ?_; (conv => whnf); refine ⟨false, ?_⟩; (conv => whnf); refine ⟨_, by first | with_reducible exact c1, ?_⟩; (conv => whnf)) | (refine ⟨by kernel_rfl, ?_⟩; (conv => whnf)) | (refine ⟨fun _ => ?_, fun h => absurd h (by first | decide | (simp; done) | fail)⟩; (conv => whnf)) | (refine ⟨fun h => absurd h (by first | decide | (simp; done) | fail), fun _ => ?_⟩; (conv => whnf)) | fail))
theorem pc_mea (thr noise a1 a2 b1 b2 l1 l2 h1 h2 M v ve : Int) (p : List Int) (gb : Bool) (w m : SpT × Int)
    (c1 : PC Tryz.prog 89 [.agg [i64 thr, i64 noise, i64 a1, i64 a2, i64 b1, i64 b2, i64 l1, i64 l2, i64 h1, i64 h2]] (i64 (if gb then 0 else 8)))
    (c2 : PC Tryz.prog 90 [ints p, i64 thr, i64 noise] (.tup [sp w.1, i64 w.2])) (cm : w.2 = 6 → PC Tryz.prog 91 [ints p] (i64 M))
    (c3 : PC Tryz.prog 93 [sp w.1, sp ((a1, a2), (b1, b2))] (.tup [sp m.1, i64 m.2])) (c4 : PC Tryz.prog 94 [sp m.1, fr (l1, l2), fr (h1, h2)] (.tup [u8 v, i64 ve]))
    (wz : PC Tryz.prog 92 [i64 0] (fr (0, 1))) (wm : w.2 = 6 → IntKind.i64.wrap (M + noise) = M + noise) :
    PC Tryz.prog 48 [.agg [i64 thr, i64 noise, i64 a1, i64 a2, i64 b1, i64 b2, i64 l1, i64 l2, i64 h1, i64 h2], ints p]
      (.tup [sp (if gb then (if w.2 = 6 then (s00, (if thr ≤ M + noise then (3 : Int) else 2), (0 : Int)) else if w.2 = 0 then (if m.2 = 0 then (m.1, v, ve) else (zS, 0, m.2)) else (zS, 0, w.2)) else (zS, 0, 8)).1,
        u8 (if gb then (if w.2 = 6 then (s00, (if thr ≤ M + noise then (3 : Int) else 2), (0 : Int)) else if w.2 = 0 then (if m.2 = 0 then (m.1, v, ve) else (zS, 0, m.2)) else (zS, 0, w.2)) else (zS, 0, 8)).2.1,
        i64 (if gb then (if w.2 = 6 then (s00, (if thr ≤ M + noise then (3 : Int) else 2), (0 : Int)) else if w.2 = 0 then (if m.2 = 0 then (m.1, v, ve) else (zS, 0, m.2)) else (zS, 0, w.2)) else (zS, 0, 8)).2.2]) := by
  refine pc_of_bodyF hm Tryz.func48 (by kernel_rfl) ?_
  conv => whnf
  (repeat' (first | (refine ⟨_, by first | with_reducible exact c1, ?_⟩; (conv => whnf)) | (refine Or.inl ?_; (conv => whnf); refine ⟨_, by first | with_reducible exact c1, ?_⟩; (conv => whnf)) | (refine Or.inl ?_; (conv => whnf); refine ⟨false, ?_⟩; (conv => whnf); refine ⟨_, by first | with_reducible exact c1, ?_⟩; (conv => whnf)) | (refine ⟨by kernel_rfl, ?_⟩; (conv => whnf)) | fail))
  refine ⟨fun hh => ?_, fun hh => ?_⟩
  · (conv => whnf)
    clear c1 c2 c3 c4 cm wz wm
    cases gb <;> simp_all
  (conv => whnf)
  (repeat' (first | (refine ⟨_, by first | with_reducible exact c2, ?_⟩; (conv => whnf)) | (refine Or.inl ?_; (conv => whnf); refine ⟨_, by first | with_reducible exact c2, ?_⟩; (conv => whnf)) | (refine Or.inl ?_; (conv => whnf); refine ⟨false, ?_⟩; (conv => whnf); refine ⟨_, by first | with_reducible exact c2, ?_⟩; (conv => whnf)) | (refine ⟨by kernel_rfl, ?_⟩; (conv => whnf)) | fail))
  refine ⟨fun h6 => ?_, fun h6 => ?_⟩
  · have h6 := of_decide_eq_true h6
    have cm := cm h6
    have wm := wm h6
    (conv => whnf)
    (repeat' (first | (refine ⟨_, by first | with_reducible exact cm, ?_⟩; (conv => whnf)) | (refine Or.inl ?_; (conv => whnf); refine ⟨_, by first | with_reducible exact cm, ?_⟩; (conv => whnf)) | (refine Or.inl ?_; (conv => whnf); refine ⟨false, ?_⟩; (conv => whnf); refine ⟨_, by first | with_reducible exact cm, ?_⟩; (conv => whnf)) | (refine ⟨by kernel_rfl, ?_⟩; (conv => whnf)) | fail))
    rw [wm]
    refine ⟨fun hM => ?_, fun hM => ?_⟩
    · (conv => whnf)
      (repeat' (first | (refine ⟨_, by first | with_reducible exact wz, ?_⟩; (conv => whnf)) | (refine Or.inl ?_; (conv => whnf); refine ⟨_, by first | with_reducible exact wz, ?_⟩; (conv => whnf)) | (refine Or.inl ?_; (conv => whnf); refine ⟨false, ?_⟩; (conv => whnf); refine ⟨_, by first | with_reducible exact wz, ?_⟩; (conv => whnf)) | (refine ⟨by kernel_rfl, ?_⟩; (conv => whnf)) | fail))
      clear c1 c2 c3 c4 cm wz wm
      cases gb <;> simp_all
    · (conv => whnf)
      (repeat' (first | (refine ⟨_, by first | with_reducible exact wz, ?_⟩; (conv => whnf)) | (refine Or.inl ?_; (conv => whnf); refine ⟨_, by first | with_reducible exact wz, ?_⟩; (conv => whnf)) | (refine Or.inl ?_; (conv => whnf); refine ⟨false, ?_⟩; (conv => whnf); refine ⟨_, by first | with_reducible exact wz, ?_⟩; (conv => whnf)) | (refine ⟨by kernel_rfl, ?_⟩; (conv => whnf)) | fail))
      clear c1 c2 c3 c4 cm wz wm
      cases gb <;> simp_all
  (conv => whnf)
  refine ⟨fun h7 => ?_, fun h7 => ?_⟩
  · (conv => whnf)
    clear c1 c2 c3 c4 cm wz wm
    cases gb <;> simp_all
  (conv => whnf)
  (repeat' (first | (refine ⟨_, by first | with_reducible exact c3, ?_⟩; (conv => whnf)) | (refine Or.inl ?_; (conv => whnf); refine ⟨_, by first | with_reducible exact c3, ?_⟩; (conv => whnf)) | (refine Or.inl ?_; (conv => whnf); refine ⟨false, ?_⟩; (conv => whnf); refine ⟨_, by first | with_reducible exact c3, ?_⟩; (conv => whnf)) | (refine ⟨by kernel_rfl, ?_⟩; (conv => whnf)) | fail))
  refine ⟨fun h8 => ?_, fun h8 => ?_⟩
  · (conv => whnf)
    clear c1 c2 c3 c4 cm wz wm
    cases gb <;> simp_all
  (conv => whnf)
  (repeat' (first | (refine ⟨_, by first | with_reducible exact c4, ?_⟩; (conv => whnf)) | (refine Or.inl ?_; (conv => whnf); refine ⟨_, by first | with_reducible exact c4, ?_⟩; (conv => whnf)) | (refine Or.inl ?_; (conv => whnf); refine ⟨false, ?_⟩; (conv => whnf); refine ⟨_, by first | with_reducible exact c4, ?_⟩; (conv => whnf)) | (refine ⟨by kernel_rfl, ?_⟩; (conv => whnf)) | fail))
  clear c1 c2 c3 c4 cm wz wm
  cases gb <;> simp_all
theorem pc_Measure (g : GauT) (p : List Int) (hl : p.length < 2 ^ 40) : PC Tryz.prog 48 [gau g, ints p] (.tup [sp (meaF g p).1, u8 (meaF g p).2.1, i64 (meaF g p).2.2]) := by
  have six : (widE p (gThr g) (gNoi g)).2 = 6 → profB p = true := fun h => by
    unfold widE at h
    cases hp : profB p
    · rw [hp] at h; simp at h
    · rfl
  have hM : (widE p (gThr g) (gNoi g)).2 = 6 → gauB g = true → IntKind.i64.wrap (mxK p (p.length - 1) + gNoi g) = mxK p (p.length - 1) + gNoi g := fun h hg => by
    have hlen := prof_len (six h)
    obtain ⟨j, hj1, hj2⟩ := mxK_mem p (p.length - 1)
    have hv := prof_byte (six h) j (by omega)
    rw [← hj2] at hv
    have := (gauB_known hg).2.1
    exact w64 _ (by omega) (by omega)
  cases hg : gauB g
  · have e : meaF g p = (zS, 0, 8) := by unfold meaF; rw [hg]; rfl
    rw [e]
    have c1 := pc_CheckGauge g
    rw [hg] at c1
    exact pc_meaBad (gThr g) (gNoi g) (gSc g).1.1 (gSc g).1.2 (gSc g).2.1 (gSc g).2.2 g.1.2.1 g.1.2.2 g.2.1 g.2.2 p c1
  · have h := pc_mea (gThr g) (gNoi g) (gSc g).1.1 (gSc g).1.2 (gSc g).2.1 (gSc g).2.2 g.1.2.1 g.1.2.2 g.2.1 g.2.2 (mxK p (p.length - 1)) (decF (mulS (widE p (gThr g) (gNoi g)).1 (gSc g)).1 (gTol g)).1 (decF (mulS (widE p (gThr g) (gNoi g)).1 (gSc g)).1 (gTol g)).2 p (gauB g) (widE p (gThr g) (gNoi g)) (mulS (widE p (gThr g) (gNoi g)).1 (gSc g))
      (pc_CheckGauge g) (pc_gWidth p (gThr g) (gNoi g) hl) (fun h6 => pc_Max p (by have := prof_len (six h6); omega) hl) (pc_MulSpans _ _) (pc_Decide _ _ _) (pc_gwhole 0) (fun h6 => hM h6 hg)
    have e : meaF g p = (if gauB g = true then (if (widE p (gThr g) (gNoi g)).2 = 6 then (s00, (if gThr g ≤ mxK p (p.length - 1) + gNoi g then (3 : Int) else 2), (0 : Int)) else if (widE p (gThr g) (gNoi g)).2 = 0 then (if (mulS (widE p (gThr g) (gNoi g)).1 (gSc g)).2 = 0 then ((mulS (widE p (gThr g) (gNoi g)).1 (gSc g)).1, (decF (mulS (widE p (gThr g) (gNoi g)).1 (gSc g)).1 (gTol g)).1, (decF (mulS (widE p (gThr g) (gNoi g)).1 (gSc g)).1 (gTol g)).2) else (zS, 0, (mulS (widE p (gThr g) (gNoi g)).1 (gSc g)).2)) else (zS, 0, (widE p (gThr g) (gNoi g)).2)) else (zS, 0, 8)) := by
      unfold meaF meaG
      rw [hg]
      simp only [if_true]
      split
      · rfl
      · split
        · split
          · rename_i h3
            have hd : decF (mulS (widE p (gThr g) (gNoi g)).1 (gSc g)).1 (gTol g) = (verV (mulS (widE p (gThr g) (gNoi g)).1 (gSc g)).1 (gTol g), 0) := by
              unfold decF
              rw [(mulS_ok h3).2.2, (gauB_known hg).2.2.2.1]
              rfl
            rw [hd]
          · rfl
        · rfl
    rw [← e] at h
    exact h
end Go.Proofs.Tryz.My
set_option maxRecDepth 100000
set_option maxHeartbeats 0
set_option linter.unusedVariables false
set_option linter.unusedSimpArgs false
namespace Go.Proofs.Tryz.My
open Go Go.Ev
end Go.Proofs.Tryz.My
set_option maxRecDepth 100000
set_option maxHeartbeats 0
set_option linter.unusedVariables false
set_option linter.unusedSimpArgs false
namespace Go.Proofs.Tryz.My
open Go Go.Ev
abbrev gcs (thr noise a1 a2 b1 b2 l1 l2 h1 h2 : Int) : AV := .agg [i64 thr, i64 noise, i64 a1, i64 a2, i64 b1, i64 b2, i64 l1, i64 l2, i64 h1, i64 h2]
theorem rmeaA (thr noise a1 a2 b1 b2 l1 l2 h1 h2 : Int) (p : List Int) (c1 : PC Tryz.prog 162 [gcs thr noise a1 a2 b1 b2 l1 l2 h1 h2] (.bool false)) :
    PC Tryz.prog 166 [gcs thr noise a1 a2 b1 b2 l1 l2 h1 h2, ints p] (.tup [sp zS, u8 0, i64 8]) := by
  refine pc_of_bodyF hm Tryz.func166 (by kernel_rfl) ?_
  conv => whnf
  (repeat' (first | (refine ⟨_, by first | with_reducible exact c1, ?_⟩; (conv => whnf)) | (refine Or.inl ?_; (conv => whnf); refine ⟨_, by first | with_reducible exact c1, ?_⟩; (conv => whnf)) | (refine Or.inl ?_; (conv => whnf); refine ⟨false, ?_⟩; (conv => whnf); refine ⟨_, by first | with_reducible exact c1, ?_⟩; (conv => whnf)) | (refine ⟨by kernel_rfl, ?_⟩; (conv => whnf)) | (refine ⟨fun _ => ?_, fun h => absurd h (by first | decide | (simp; done) | fail)⟩; (conv => whnf)) | (refine ⟨fun h => absurd h (by first | decide | (simp; done) | fail), fun _ => ?_⟩; (conv => whnf)) | fail))
theorem rmeaB (thr noise a1 a2 b1 b2 l1 l2 h1 h2 : Int) (p : List Int) (c1 : PC Tryz.prog 162 [gcs thr noise a1 a2 b1 b2 l1 l2 h1 h2] (.bool true))
    (c2 : PC Tryz.prog 120 [ints p] (.bool false)) :
    PC Tryz.prog 166 [gcs thr noise a1 a2 b1 b2 l1 l2 h1 h2, ints p] (.tup [sp zS, u8 0, i64 50]) := by
  refine pc_of_bodyF hm Tryz.func166 (by kernel_rfl) ?_
  conv => whnf
  (repeat' (first | (refine ⟨_, by first | with_reducible exact c1 | with_reducible exact c2, ?_⟩; (conv => whnf)) | (refine Or.inl ?_; (conv => whnf); refine ⟨_, by first | with_reducible exact c1 | with_reducible exact c2, ?_⟩; (conv => whnf)) | (refine Or.inl ?_; (conv => whnf); refine ⟨false, ?_⟩; (conv => whnf); refine ⟨_, by first | with_reducible exact c1 | with_reducible exact c2, ?_⟩; (conv => whnf)) | (refine ⟨by kernel_rfl, ?_⟩; (conv => whnf)) | (refine ⟨fun _ => ?_, fun h => absurd h (by first | decide | (simp; done) | fail)⟩; (conv => whnf)) | (refine ⟨fun h => absurd h (by first | decide | (simp; done) | fail), fun _ => ?_⟩; (conv => whnf)) | fail))
theorem rmeaC (thr noise a1 a2 b1 b2 l1 l2 h1 h2 : Int) (p q : List Int) (x1 x2 : Int) (b : Bool) (c1 : PC Tryz.prog 162 [gcs thr noise a1 a2 b1 b2 l1 l2 h1 h2] (.bool true))
    (c2 : PC Tryz.prog 120 [ints p] (.bool true)) (c3 : PC Tryz.prog 211 [ints p, i64 thr, i64 noise] (.tup [.agg [i64 0, i64 0, i64 0, i64 0], i64 6])) (c4 : PC Tryz.prog 213 [ints p, i64 noise] (ints q))
    (c5 : PC Tryz.prog 212 [ints q, i64 thr] (.tup [.agg [i64 x1, i64 x2], .bool b])) :
    PC Tryz.prog 166 [gcs thr noise a1 a2 b1 b2 l1 l2 h1 h2, ints p] (.tup [.agg [i64 0, i64 1, i64 0, i64 1], u8 (if b then 3 else 2), i64 0]) := by
  refine pc_of_bodyF hm Tryz.func166 (by kernel_rfl) ?_
  conv => whnf
  (repeat' (first | (refine ⟨_, by first | with_reducible exact c1 | with_reducible exact c2 | with_reducible exact c3 | with_reducible exact c4 | with_reducible exact c5, ?_⟩; (conv => whnf)) | (refine Or.inl ?_; (conv => whnf); refine ⟨_, by first | with_reducible exact c1 | with_reducible exact c2 | with_reducible exact c3 | with_reducible exact c4 | with_reducible exact c5, ?_⟩; (conv => whnf)) | (refine Or.inl ?_; (conv => whnf); refine ⟨false, ?_⟩; (conv => whnf); refine ⟨_, by first | with_reducible exact c1 | with_reducible exact c2 | with_reducible exact c3 | with_reducible exact c4 | with_reducible exact c5, ?_⟩; (conv => whnf)) | (refine ⟨by kernel_rfl, ?_⟩; (conv => whnf)) | (refine ⟨fun _ => ?_, fun h => absurd h (by first | decide | (simp; done) | fail)⟩; (conv => whnf)) | (refine ⟨fun h => absurd h (by first | decide | (simp; done) | fail), fun _ => ?_⟩; (conv => whnf)) | fail))
  refine ⟨fun h => ?_, fun h => ?_⟩
  · subst h
    (conv => whnf)
    first | rfl | set_option pp.maxSteps 300 in trace_state
  · subst h
    (conv => whnf)
    first | rfl | set_option pp.maxSteps 300 in trace_state
theorem rmeaE (thr noise a1 a2 b1 b2 l1 l2 h1 h2 : Int) (p : List Int) (w m : SpT) (me : Int) (hm0 : me ≠ 0) (c1 : PC Tryz.prog 162 [gcs thr noise a1 a2 b1 b2 l1 l2 h1 h2] (.bool true))
    (c2 : PC Tryz.prog 120 [ints p] (.bool true)) (c3 : PC Tryz.prog 211 [ints p, i64 thr, i64 noise] (.tup [sp w, i64 0])) (c4 : PC Tryz.prog 214 [sp w, sp ((a1, a2), (b1, b2))] (.tup [sp m, i64 me])) :
    PC Tryz.prog 166 [gcs thr noise a1 a2 b1 b2 l1 l2 h1 h2, ints p] (.tup [sp zS, u8 0, i64 me]) := by
  refine pc_of_bodyF hm Tryz.func166 (by kernel_rfl) ?_
  conv => whnf
  (repeat' (first | (refine ⟨_, by first | with_reducible exact c1 | with_reducible exact c2 | with_reducible exact c3 | with_reducible exact c4, ?_⟩; (conv => whnf)) | (refine Or.inl ?_; (conv => whnf); refine ⟨_, by first | with_reducible exact c1 | with_reducible exact c2 | with_reducible exact c3 | with_reducible exact c4, ?_⟩; (conv => whnf)) | (refine Or.inl ?_; (conv => whnf); refine ⟨false, ?_⟩; (conv => whnf); refine ⟨_, by first | with_reducible exact c1 | with_reducible exact c2 | with_reducible exact c3 | with_reducible exact c4, ?_⟩; (conv => whnf)) | (refine ⟨by kernel_rfl, ?_⟩; (conv => whnf)) | (refine ⟨fun _ => ?_, fun h => absurd h (by first | decide | (simp; done) | fail)⟩; (conv => whnf)) | (refine ⟨fun h => absurd h (by first | decide | (simp; done) | fail), fun _ => ?_⟩; (conv => whnf)) | fail))
  refine ⟨fun _ => ?_, fun h => absurd (show me = 0 by simpa using h) hm0⟩
  (conv => whnf)
theorem rmeaF (thr noise a1 a2 b1 b2 l1 l2 h1 h2 : Int) (p : List Int) (w m : SpT) (v : Int) (c1 : PC Tryz.prog 162 [gcs thr noise a1 a2 b1 b2 l1 l2 h1 h2] (.bool true))
    (c2 : PC Tryz.prog 120 [ints p] (.bool true)) (c3 : PC Tryz.prog 211 [ints p, i64 thr, i64 noise] (.tup [sp w, i64 0])) (c4 : PC Tryz.prog 214 [sp w, sp ((a1, a2), (b1, b2))] (.tup [sp m, i64 0]))
    (c5 : PC Tryz.prog 215 [sp m, fr (l1, l2), fr (h1, h2)] (u8 v)) :
    PC Tryz.prog 166 [gcs thr noise a1 a2 b1 b2 l1 l2 h1 h2, ints p] (.tup [sp m, u8 v, i64 0]) := by
  refine pc_of_bodyF hm Tryz.func166 (by kernel_rfl) ?_
  conv => whnf
  (repeat' (first | (refine ⟨_, by first | with_reducible exact c1 | with_reducible exact c2 | with_reducible exact c3 | with_reducible exact c4 | with_reducible exact c5, ?_⟩; (conv => whnf)) | (refine Or.inl ?_; (conv => whnf); refine ⟨_, by first | with_reducible exact c1 | with_reducible exact c2 | with_reducible exact c3 | with_reducible exact c4 | with_reducible exact c5, ?_⟩; (conv => whnf)) | (refine Or.inl ?_; (conv => whnf); refine ⟨false, ?_⟩; (conv => whnf); refine ⟨_, by first | with_reducible exact c1 | with_reducible exact c2 | with_reducible exact c3 | with_reducible exact c4 | with_reducible exact c5, ?_⟩; (conv => whnf)) | (refine ⟨by kernel_rfl, ?_⟩; (conv => whnf)) | (refine ⟨fun _ => ?_, fun h => absurd h (by first | decide | (simp; done) | fail)⟩; (conv => whnf)) | (refine ⟨fun h => absurd h (by first | decide | (simp; done) | fail), fun _ => ?_⟩; (conv => whnf)) | fail))
theorem pc_r5Measure (g : GauT) (p : List Int) (hI : IG g) (hl : p.length < 2 ^ 40) : PC Tryz.prog 166 [gau g, ints p] (.tup [sp (meaF g p).1, u8 (meaF g p).2.1, i64 (meaF g p).2.2]) := by
  have c1 := pc_ValidGauge g hI
  have c2 := pc_ValidProfile5 p hl
  have c3 := pc_r5Width p (gThr g) (gNoi g) hl
  cases hg : gauB g
  · have e : meaF g p = (zS, 0, 8) := by unfold meaF; rw [hg]; rfl
    rw [e]
    rw [hg] at c1
    exact rmeaA (gThr g) (gNoi g) (gSc g).1.1 (gSc g).1.2 (gSc g).2.1 (gSc g).2.2 g.1.2.1 g.1.2.2 g.2.1 g.2.2 p c1
  rw [hg] at c1
  obtain ⟨⟨t1, t2⟩, ⟨n1, n2⟩, hsc, htol, _⟩ := gauB_known hg
  have e : meaF g p = meaG g (widE p (gThr g) (gNoi g)) (mulS (widE p (gThr g) (gNoi g)).1 (gSc g)) (if gThr g ≤ mxK p (p.length - 1) + gNoi g then 3 else 2) := by unfold meaF; rw [hg]; rfl
  rw [e]
  rcases wid_err (p := p) t1 t2 n1 n2 with ⟨hp, he⟩ | ⟨hp, he | he⟩
  · rw [hp] at c2
    rw [he]
    exact rmeaB (gThr g) (gNoi g) (gSc g).1.1 (gSc g).1.2 (gSc g).2.1 (gSc g).2.2 g.1.2.1 g.1.2.2 g.2.1 g.2.2 p c1 c2
  · rw [hp] at c2
    rw [he] at c3 ⊢
    have hlen := prof_len hp
    have c4 := pc_Moved p (gNoi g) (by omega) (prof_byte hp) (by omega) (by omega)
    have c5 := pc_Wide (movL p (gNoi g)) (gThr g) (movL_byte _ _) (by rw [movL_length]; omega) (by rw [movL_length]; omega) t1 t2
    rw [wide_max hp t1 t2] at c5
    have := rmeaC (gThr g) (gNoi g) (gSc g).1.1 (gSc g).1.2 (gSc g).2.1 (gSc g).2.2 g.1.2.1 g.1.2.2 g.2.1 g.2.2 p _ _ _ _ c1 c2 c3 c4 c5
    by_cases hM : gThr g ≤ mxK p (p.length - 1) + gNoi g
    · rw [decide_eq_true hM] at this
      rw [if_pos hM]
      exact this
    · rw [decide_eq_false hM] at this
      rw [if_neg hM]
      exact this
  · rw [hp] at c2
    rw [he] at c3
    have hw := wid_known he
    have c4 := pc_rMul4 (widE p (gThr g) (gNoi g)).1 (gSc g) (spanB_i hw.2.2.2.2.1) hI.2.2.1
    unfold meaG
    rw [if_neg (by rw [he]; decide), if_pos he]
    by_cases hm0 : (mulS (widE p (gThr g) (gNoi g)).1 (gSc g)).2 = 0
    · rw [if_pos hm0]
      rw [hm0] at c4
      have c5 := pc_Decided (mulS (widE p (gThr g) (gNoi g)).1 (gSc g)).1 g.1.2 g.2 (mulS_ok hm0).2.2 htol
      exact rmeaF (gThr g) (gNoi g) (gSc g).1.1 (gSc g).1.2 (gSc g).2.1 (gSc g).2.2 g.1.2.1 g.1.2.2 g.2.1 g.2.2 p _ _ _ c1 c2 c3 c4 c5
    · rw [if_neg hm0]
      exact rmeaE (gThr g) (gNoi g) (gSc g).1.1 (gSc g).1.2 (gSc g).2.1 (gSc g).2.2 g.1.2.1 g.1.2.2 g.2.1 g.2.2 p _ _ _ hm0 c1 c2 c3 c4
end Go.Proofs.Tryz.My
