/- A helper text: contracts of functions of the program, and plain lemmas. -/
import Derived.Test.YtiimhccemdcnpaaGreatMzHo0
import Derived.Test.YtiimhccemdcnpaaGreatMzTlp
set_option maxRecDepth 100000
set_option maxHeartbeats 0
set_option linter.unusedVariables false
set_option linter.unusedSimpArgs false
namespace Go.Proofs.Tryz.My
open Go Go.Ev

theorem endsG_fine {op : Int × Int → Int × Int → (Int × Int) × Int} : ∀ (l : List SpT) (acc : SpT), (∀ p ∈ l, (op p.1 p.2).2 = 0) → (endsG op acc l).2 = 0
  | [], _, _ => rfl
  | p :: l, acc, h => by
    have h0 := h p (by simp)
    unfold endsG
    rw [if_neg (by rw [h0]; simp)]
    exact endsG_fine l _ (fun q hq => h q (by simp [hq]))
theorem endsF_fine {op : Int × Int → Int × Int → (Int × Int) × Int} (l : List SpT) (h : ∀ p ∈ l, (op p.1 p.2).2 = 0) : (endsF op l).2 = 0 := by
  cases l with
  | nil => rfl
  | cons p l =>
    have h0 := h p (by simp)
    show (if (op p.1 p.2).2 ≠ 0 then (zS, (op p.1 p.2).2) else endsG op ((op p.1 p.2).1, (op p.1 p.2).1) l).2 = 0
    rw [if_neg (by rw [h0]; simp)]
    exact endsG_fine l _ (fun q hq => h q (by simp [hq]))
/-- A quotient of small numbers. -/
def smQ (A B : Int) (x : Rat) : Prop := ∃ n d : Int, x = (n : Rat) / (d : Rat) ∧ -A ≤ n ∧ n ≤ A ∧ 0 < d ∧ d ≤ B
theorem smQ_sub {x y : Rat} (hx : smQ 17000 255 x) (hy : smQ 17000 255 y) : smQ 10000000 65025 (x - y) := by
  obtain ⟨n, e, rfl, n1, n2, e1, e2⟩ := hx
  obtain ⟨m, f, rfl, m1, m2, f1, f2⟩ := hy
  have k1 := mul_size n1 n2 (show 0 ≤ f by omega) f2
  have k2 := mul_size m1 m2 (show 0 ≤ e by omega) e2
  have k3 := mul_size (show -255 ≤ e by omega) e2 (show 0 ≤ f by omega) f2
  refine ⟨n * f - m * e, e * f, ?_, by omega, by omega, Int.mul_pos e1 f1, by omega⟩
  have hE := cast_pos e1
  have hF := cast_pos f1
  rw [Rat.intCast_sub, Rat.intCast_mul, Rat.intCast_mul, Rat.intCast_mul]
  grind
theorem edg_small {p : List Int} {thr a noise d : Int} (hd : ways1 d) (h : (edgF p thr a noise d).2 = 0) : smQ 17000 255 (qv (edgF p thr a noise d).1.1) ∧ smQ 17000 255 (qv (edgF p thr a noise d).1.2) := by
  obtain ⟨hp, hq, _, s, k, j, hk, hj, e, q1, q2⟩ := edg_known hd h
  obtain ⟨t1, t2, a1, a2, n1, n2⟩ := ask_known hq
  have hl := prof_len hp
  have z1 := placeN_small (movL_byte p (-noise)) (by rw [movL_length]; exact hl.2) a1 (by rw [movL_length]; exact a2) hd t1 t2 hk
  have z2 := placeN_small (movL_byte p noise) (by rw [movL_length]; exact hl.2) a1 (by rw [movL_length]; exact a2) hd t1 t2 hj
  have y1 := (placeN_val (brk_some.1 hk).2.1 (brk_some.1 hk).2.2).2
  have y2 := (placeN_val (brk_some.1 hj).2.1 (brk_some.1 hj).2.2).2
  have w1 : smQ 17000 255 (qv (placeF (movL p (-noise)) thr a d k)) := ⟨_, _, q1.trans y1.symm, z1.1, z1.2.1, z1.2.2.1, z1.2.2.2⟩
  have w2 : smQ 17000 255 (qv (placeF (movL p noise) thr a d j)) := ⟨_, _, q2.trans y2.symm, z2.1, z2.2.1, z2.2.2.1, z2.2.2.2⟩
  rw [e]
  split
  · exact ⟨w1, w2⟩
  · exact ⟨w2, w1⟩
theorem wid_small {p : List Int} {thr noise : Int} (h : (widE p thr noise).2 = 0) : smQ 10000000 65025 (qv (widE p thr noise).1.1) ∧ smQ 10000000 65025 (qv (widE p thr noise).1.2) := by
  obtain ⟨_, _, r1, f1, _, x1, y1⟩ := wid_known h
  have hr := edg_small (.inl rfl) r1
  have hf := edg_small (.inr rfl) f1
  rw [x1, y1]
  exact ⟨smQ_sub hf.1 hr.2, smQ_sub hf.2 hr.1⟩
theorem mul_fine {a b : Int × Int} (ha : validB a = true) (hb : validB b = true) (sa : smQ 300000000 1040400 (qv a)) (sb : smB b = true) : (mulF a b).2 = 0 ∧ validB (mulF a b).1 = true ∧ qv (mulF a b).1 = qv a * qv b := by
  obtain ⟨n, d, e, n1, n2, d1, d2⟩ := sa
  simp only [smB, Bool.and_eq_true, decide_eq_true_eq] at sb
  have hb1 := ((validB_iff b).1 hb).1
  have k1 : -(300000000 * 1000000) ≤ n * b.1 ∧ n * b.1 ≤ 300000000 * 1000000 := by
    by_cases h : 0 ≤ b.1
    · exact mul_size n1 n2 h sb.1.2
    · have k := mul_size (a := n) (b := -b.1) n1 n2 (B := 1000000) (by omega) (by omega)
      rw [Int.mul_neg] at k
      omega
  have k2 := mul_size (show -1040400 ≤ d by omega) d2 (show 0 ≤ b.2 by omega) sb.2
  have h := fits_small (mulF_fits ha hb) (n := n * b.1) (d := d * b.2) ?_ (by omega) (by omega) (Int.mul_pos d1 (by omega)) (by omega)
  · exact ⟨h.2.1, h.1, h.2.2⟩
  · rw [e]
    unfold qv
    have c1 := cast_pos d1
    have c2 := cast_pos (show 0 < b.2 by omega)
    rw [Rat.intCast_mul, Rat.intCast_mul]
    grind
theorem smQ_more {A B C D : Int} {x : Rat} (h : smQ A B x) (h1 : A ≤ C) (h2 : B ≤ D) : smQ C D x := by
  obtain ⟨n, d, e, n1, n2, d1, d2⟩ := h
  exact ⟨n, d, e, by omega, by omega, d1, by omega⟩
theorem mulS_fine {p : List Int} {thr noise : Int} (h : (widE p thr noise).2 = 0) {s : SpT} (hs : spanB s = true) (s1 : smB s.1 = true) (s2 : smB s.2 = true) : (mulS (widE p thr noise).1 s).2 = 0 := by
  obtain ⟨_, _, _, _, sw, _⟩ := wid_known h
  obtain ⟨q1, q2⟩ := wid_small h
  obtain ⟨a1, a2, _⟩ := spanB_iff.1 sw
  obtain ⟨b1, b2, _⟩ := spanB_iff.1 hs
  have e : mulS (widE p thr noise).1 s = endsF mulF (allP (widE p thr noise).1 s) := by unfold mulS; rw [sw, hs]; rfl
  rw [e]
  refine endsF_fine _ fun p hp => ?_
  simp only [allP, List.mem_cons, List.not_mem_nil, or_false] at hp
  have q1 := smQ_more q1 (C := 300000000) (D := 1040400) (by decide) (by decide)
  have q2 := smQ_more q2 (C := 300000000) (D := 1040400) (by decide) (by decide)
  rcases hp with rfl | rfl | rfl | rfl
  · exact (mul_fine a1 b1 q1 s1).1
  · exact (mul_fine a1 b2 q1 s2).1
  · exact (mul_fine a2 b1 q2 s1).1
  · exact (mul_fine a2 b2 q2 s2).1
theorem verV_three (s t : SpT) : verV s t = 1 ∨ verV s t = 2 ∨ verV s t = 3 := by
  unfold verV
  split
  · split <;> simp
  · simp
/-- A good gauge measures a good profile. -/
theorem mea_ok {g : GauT} {p : List Int} (hg : gauB g = true) (hp : profB p = true) : (meaF g p).2.2 = 0 ∧ ((meaF g p).2.1 = 1 ∨ (meaF g p).2.1 = 2 ∨ (meaF g p).2.1 = 3) := by
  obtain ⟨t, n, s1, _, _, m1, m2, _⟩ := gauB_known hg
  unfold meaF
  rw [hg]
  simp only [if_true]
  rcases wid_err (p := p) t.1 t.2 n.1 n.2 with ⟨h1, h2⟩ | ⟨h1, h2 | h2⟩
  · rw [hp] at h1; simp at h1
  · rw [h2]
    show (0 : Int) = 0 ∧ ((if gThr g ≤ mxK p (p.length - 1) + gNoi g then (3 : Int) else 2) = 1 ∨ (if gThr g ≤ mxK p (p.length - 1) + gNoi g then (3 : Int) else 2) = 2 ∨ (if gThr g ≤ mxK p (p.length - 1) + gNoi g then (3 : Int) else 2) = 3)
    refine ⟨rfl, ?_⟩
    split <;> simp
  · have h6 : (widE p (gThr g) (gNoi g)).2 ≠ 6 := by omega
    unfold meaG
    rw [if_neg h6, if_pos h2, if_pos (mulS_fine h2 s1 m1 m2)]
    exact ⟨rfl, verV_three _ _⟩
theorem mea_bad {g : GauT} {p : List Int} (h : gauB g = false ∨ profB p = false) : (meaF g p).2.2 ≠ 0 := fun h0 => by
  obtain ⟨h1, h2, _⟩ := mea_known h0
  rw [h1, h2] at h
  simp at h
/-- No bright place: not passed. -/
theorem true_dark {g : GauT} {p moves : List Int} (h0 : (meaF g p).2.2 = 0) (hb : (fstN (alwL p moves (gNoi g)) (4 * gThr g) 0).2.2 = false) : (meaF g p).2.1 ≠ 1 := by
  obtain ⟨_, _, ⟨w, e⟩ | ⟨w, _⟩⟩ := mea_known h0
  · rw [e]
    simp only []
    split <;> simp
  · obtain ⟨a, b, c, d, e1, _⟩ := wid_holds (moves := moves) w
    rw [e1] at hb
    simp at hb
/-- A bright place: the length is what the gauge says. -/
theorem true_law {g : GauT} {p moves : List Int} {high : Bool} (hg : gauB g = true) (hp : profB p = true) {a b c d : Int} {t : Bool} (e1 : fstN (alwL p moves (gNoi g)) (4 * gThr g) 0 = (a, b, true)) (e2 : fstN (alwL p moves (gNoi g)).reverse (4 * gThr g) 0 = (c, d, t)) :
    ∃ w L, makeF ((((p.length : Int) - 1) * d - c) * b - a * d) (b * d) = (w, 0) ∧ bothF mulF w (if high then (gSc g).2 else (gSc g).1) = (L, 0) ∧ validB L = true ∧ spanB (meaF g p).1 = true ∧
      (((meaF g p).1 = s00 ∧ (meaF g p).2.1 = 3) ∨ (hasB (meaF g p).1 L = true ∧ (((meaF g p).2.1 = 1 ∧ hasB (gTol g) L = true) ∨ ((meaF g p).2.1 = 2 ∧ hasB (gTol g) L = false) ∨ (meaF g p).2.1 = 3))) := by
  obtain ⟨t1, n1, hs, ht, _, m1, m2, _⟩ := gauB_known hg
  have hl := prof_len hp
  have hq := alw_big p moves (gNoi g)
  have ql : (alwL p moves (gNoi g)).length = p.length := alwL_length _ _ _
  have rl : (alwL p moves (gNoi g)).reverse.length = p.length := by rw [List.length_reverse, ql]
  have s1 := fstN_small hq (by omega) (thr := 4 * gThr g) (a := 0) (by omega) (by omega)
  have s2 := fstN_small (rev_big hq) (by omega) (thr := 4 * gThr g) (a := 0) (by omega) (by omega)
  rw [e1] at s1
  rw [e2] at s2
  simp only [] at s1 s2
  obtain ⟨z1, z2, _⟩ := size_wid s1.1 s1.2.1 s1.2.2.1 s1.2.2.2 s2.1 s2.2.1 s2.2.2.1 s2.2.2.2 (show 0 ≤ (p.length : Int) - 1 by omega) (by omega)
  obtain ⟨v1, v2, v3⟩ := makeF_small (n := (((p.length : Int) - 1) * d - c) * b - a * d) (d := b * d) (by omega) (by omega) z2.1 (by omega)
  have hsc : ∀ x : Int × Int, validB x = true → smB x = true → (mulF (makeF ((((p.length : Int) - 1) * d - c) * b - a * d) (b * d)).1 x).2 = 0 ∧ validB (mulF (makeF ((((p.length : Int) - 1) * d - c) * b - a * d) (b * d)).1 x).1 = true ∧ qv (mulF (makeF ((((p.length : Int) - 1) * d - c) * b - a * d) (b * d)).1 x).1 = qv (makeF ((((p.length : Int) - 1) * d - c) * b - a * d) (b * d)).1 * qv x := fun x hx hm =>
    mul_fine v1 hx ⟨_, _, v3, by omega, by omega, z2.1, z2.2⟩ hm
  obtain ⟨g1, g2, g3⟩ := spanB_qv.1 hs
  have hx : ∃ x, (if high then (gSc g).2 else (gSc g).1) = x ∧ validB x = true ∧ smB x = true ∧ qv (gSc g).1 ≤ qv x ∧ qv x ≤ qv (gSc g).2 := by
    cases high
    · exact ⟨_, rfl, g1, m1, by grind, g3⟩
    · exact ⟨_, rfl, g2, m2, g3, by grind⟩
  obtain ⟨x, ex, x1, x2, x3, x4⟩ := hx
  obtain ⟨f1, f2, f3⟩ := hsc x x1 x2
  rw [ex]
  generalize hW : makeF ((((p.length : Int) - 1) * d - c) * b - a * d) (b * d) = W at *
  obtain ⟨w, we⟩ := W
  simp only [] at v1 v2 v3 f1 f2 f3
  subst v2
  have eL : mulF w x = ((mulF w x).1, 0) := by rw [← f1]
  have eb : bothF mulF w x = mulF w x := by unfold bothF; rw [v1, x1]; rfl
  refine ⟨w, (mulF w x).1, rfl, by rw [eb]; exact eL, f2, ?_⟩
  generalize mulF w x = L at *
  obtain ⟨o1, o2⟩ := mea_ok hg hp
  obtain ⟨_, _, ⟨k, e⟩ | ⟨k, sw, sm, m0, e⟩⟩ := mea_known o1
  · rw [e]
    refine ⟨by show spanB s00 = true; kernel_rfl, .inl ⟨rfl, ?_⟩⟩
    simp only []
    rw [if_pos]
    have hu : ∃ m, brk (alwL p moves (gNoi g)) (4 * gThr g) 0 1 = some m := by
      cases h : brk (alwL p moves (gNoi g)) (4 * gThr g) 0 1 with
      | none => rw [fstN_none h] at e1; simp at e1
      | some m => exact ⟨m, rfl⟩
    obtain ⟨m, hm⟩ := hu
    obtain ⟨j, hj⟩ := alw_upper (prof_byte hp) n1.1 hm
    have wm := wide_max (p := p) (thr := gThr g) (noise := gNoi g) hp t1.1 t1.2
    have hw : (wideF (movL p (gNoi g)) (gThr g)).2 = true := by
      unfold wideF
      rw [brF_some hj]
      rfl
    rw [hw] at wm
    exact of_decide_eq_true wm.symm
  · obtain ⟨a', b', c', d', e1', e2', _, _, _, _, _, q1, q2⟩ := wid_holds (moves := moves) k
    rw [e1] at e1'
    rw [e2] at e2'
    obtain ⟨rfl, rfl⟩ : a = a' ∧ b = b' := by simpa using e1'
    obtain ⟨rfl, rfl⟩ : c = c' ∧ d = d' := by
      have := congrArg (fun x => (x.1, x.2.1)) e2'
      simpa using this
    rw [← v3] at q1 q2
    have hin := mulS_in m0 q1 q2 x3 x4
    rw [← f3] at hin
    obtain ⟨p1, p2, p3⟩ := spanB_qv.1 sm
    obtain ⟨r1, r2, r3⟩ := spanB_qv.1 ht
    obtain ⟨y1, y2⟩ := verV_q sm ht
    have hk : hasB (mulS (widE p (gThr g) (gNoi g)).1 (gSc g)).1 L.1 = true := (hasB_qv p1 p2 f2).2 hin
    rw [e]
    refine ⟨sm, .inr ⟨hk, ?_⟩⟩
    simp only []
    rcases verV_three (mulS (widE p (gThr g) (gNoi g)).1 (gSc g)).1 (gTol g) with hv | hv | hv
    · left
      obtain ⟨i1, i2⟩ := y1.1 hv
      exact ⟨hv, (hasB_qv r1 r2 f2).2 ⟨by grind, by grind⟩⟩
    · right; left
      refine ⟨hv, ?_⟩
      cases hh : hasB (gTol g) L.1
      · rfl
      · exfalso
        obtain ⟨j1, j2⟩ := (hasB_qv r1 r2 f2).1 hh
        rcases y2.1 hv with h | h <;> grind
    · exact .inr (.inr hv)
end Go.Proofs.Tryz.My
