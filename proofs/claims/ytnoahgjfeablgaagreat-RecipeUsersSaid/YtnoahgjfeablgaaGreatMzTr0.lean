/- A helper text: contracts of functions of the program, and plain lemmas. -/
import Derived.Test.YtnoahgjfeablgaaGreatMzHo0
import Derived.Test.YtnoahgjfeablgaaGreatMzTlp
set_option maxRecDepth 100000
set_option maxHeartbeats 0
set_option linter.unusedVariables false
set_option linter.unusedSimpArgs false
namespace Go.Proofs.Tryz.My
open Go Go.Ev
theorem endsG_fine {op : Int × Int → Int × Int → (Int × Int) × Int} : ∀ (l : List SpT) (acc : SpT), (∀ p ∈ l, (op p.1 p.2).2 = 0) → (endsG op acc l).2 = 0
  | [], _, _ => rfl
  | p :: l, acc, h => by
    have h0 := h p (by simp)
    unfold endsG
    rw [if_neg (by rw [h0]; simp)]
    exact endsG_fine l _ (fun q hq => h q (by simp [hq]))
theorem endsF_fine {op : Int × Int → Int × Int → (Int × Int) × Int} (l : List SpT) (h : ∀ p ∈ l, (op p.1 p.2).2 = 0) : (endsF op l).2 = 0 := by
  cases l with
  | nil => rfl
  | cons p l =>
    have h0 := h p (by simp)
    show (if (op p.1 p.2).2 ≠ 0 then (zS, (op p.1 p.2).2) else endsG op ((op p.1 p.2).1, (op p.1 p.2).1) l).2 = 0
    rw [if_neg (by rw [h0]; simp)]
    exact endsG_fine l _ (fun q hq => h q (by simp [hq]))
def smQ (A B : Int) (x : Rat) : Prop := ∃ n d : Int, x = (n : Rat) / (d : Rat) ∧ -A ≤ n ∧ n ≤ A ∧ 0 < d ∧ d ≤ B
theorem smQ_sub {x y : Rat} (hx : smQ 17000 255 x) (hy : smQ 17000 255 y) : smQ 10000000 65025 (x - y) := by
  obtain ⟨n, e, rfl, n1, n2, e1, e2⟩ := hx
  obtain ⟨m, f, rfl, m1, m2, f1, f2⟩ := hy
  have k1 := mul_size n1 n2 (show 0 ≤ f by omega) f2
  have k2 := mul_size m1 m2 (show 0 ≤ e by omega) e2
  have k3 := mul_size (show -255 ≤ e by omega) e2 (show 0 ≤ f by omega) f2
  refine ⟨n * f - m * e, e * f, ?_, by omega, by omega, Int.mul_pos e1 f1, by omega⟩
  have hE := cast_pos e1
  have hF := cast_pos f1
  rw [Rat.intCast_sub, Rat.intCast_mul, Rat.intCast_mul, Rat.intCast_mul]
  grind
theorem edg_small {p : List Int} {thr a noise d : Int} (hd : ways1 d) (h : (edgF p thr a noise d).2 = 0) : smQ 17000 255 (qv (edgF p thr a noise d).1.1) ∧ smQ 17000 255 (qv (edgF p thr a noise d).1.2) := by
  obtain ⟨hp, hq, _, s, k, j, hk, hj, e, q1, q2⟩ := edg_known hd h
  obtain ⟨t1, t2, a1, a2, n1, n2⟩ := ask_known hq
  have hl := prof_len hp
  have z1 := placeN_small (movL_byte p (-noise)) (by rw [movL_length]; exact hl.2) a1 (by rw [movL_length]; exact a2) hd t1 t2 hk
  have z2 := placeN_small (movL_byte p noise) (by rw [movL_length]; exact hl.2) a1 (by rw [movL_length]; exact a2) hd t1 t2 hj
  have y1 := (placeN_val (brk_some.1 hk).2.1 (brk_some.1 hk).2.2).2
  have y2 := (placeN_val (brk_some.1 hj).2.1 (brk_some.1 hj).2.2).2
  have w1 : smQ 17000 255 (qv (placeF (movL p (-noise)) thr a d k)) := ⟨_, _, q1.trans y1.symm, z1.1, z1.2.1, z1.2.2.1, z1.2.2.2⟩
  have w2 : smQ 17000 255 (qv (placeF (movL p noise) thr a d j)) := ⟨_, _, q2.trans y2.symm, z2.1, z2.2.1, z2.2.2.1, z2.2.2.2⟩
  rw [e]
  split
  · exact ⟨w1, w2⟩
  · exact ⟨w2, w1⟩
theorem wid_small {p : List Int} {thr noise : Int} (h : (widE p thr noise).2 = 0) : smQ 10000000 65025 (qv (widE p thr noise).1.1) ∧ smQ 10000000 65025 (qv (widE p thr noise).1.2) := by
  obtain ⟨_, _, r1, f1, _, x1, y1⟩ := wid_known h
  have hr := edg_small (.inl rfl) r1
  have hf := edg_small (.inr rfl) f1
  rw [x1, y1]
  exact ⟨smQ_sub hf.1 hr.2, smQ_sub hf.2 hr.1⟩
theorem mul_fine {a b : Int × Int} (ha : validB a = true) (hb : validB b = true) (sa : smQ 300000000 1040400 (qv a)) (sb : smB b = true) : (mulF a b).2 = 0 ∧ validB (mulF a b).1 = true ∧ qv (mulF a b).1 = qv a * qv b := by
  obtain ⟨n, d, e, n1, n2, d1, d2⟩ := sa
  simp only [smB, Bool.and_eq_true, decide_eq_true_eq] at sb
  have hb1 := ((validB_iff b).1 hb).1
  have k1 : -(300000000 * 1000000) ≤ n * b.1 ∧ n * b.1 ≤ 300000000 * 1000000 := by
    by_cases h : 0 ≤ b.1
    · exact mul_size n1 n2 h sb.1.2
    · have k := mul_size (a := n) (b := -b.1) n1 n2 (B := 1000000) (by omega) (by omega)
      rw [Int.mul_neg] at k
      omega
  have k2 := mul_size (show -1040400 ≤ d by omega) d2 (show 0 ≤ b.2 by omega) sb.2
  have h := fits_small (mulF_fits ha hb) (n := n * b.1) (d := d * b.2) ?_ (by omega) (by omega) (Int.mul_pos d1 (by omega)) (by omega)
  · exact ⟨h.2.1, h.1, h.2.2⟩
  · rw [e]
    unfold qv
    have c1 := cast_pos d1
    have c2 := cast_pos (show 0 < b.2 by omega)
    rw [Rat.intCast_mul, Rat.intCast_mul]
    grind
theorem smQ_more {A B C D : Int} {x : Rat} (h : smQ A B x) (h1 : A ≤ C) (h2 : B ≤ D) : smQ C D x := by
  obtain ⟨n, d, e, n1, n2, d1, d2⟩ := h
  exact ⟨n, d, e, by omega, by omega, d1, by omega⟩
theorem mulS_fine {p : List Int} {thr noise : Int} (h : (widE p thr noise).2 = 0) {s : SpT} (hs : spanB s = true) (s1 : smB s.1 = true) (s2 : smB s.2 = true) : (mulS (widE p thr noise).1 s).2 = 0 := by
  obtain ⟨_, _, _, _, sw, _⟩ := wid_known h
  obtain ⟨q1, q2⟩ := wid_small h
  obtain ⟨a1, a2, _⟩ := spanB_iff.1 sw
  obtain ⟨b1, b2, _⟩ := spanB_iff.1 hs
  have e : mulS (widE p thr noise).1 s = endsF mulF (allP (widE p thr noise).1 s) := by unfold mulS; rw [sw, hs]; rfl
  rw [e]
  refine endsF_fine _ fun p hp => ?_
  simp only [allP, List.mem_cons, List.not_mem_nil, or_false] at hp
  have q1 := smQ_more q1 (C := 300000000) (D := 1040400) (by decide) (by decide)
  have q2 := smQ_more q2 (C := 300000000) (D := 1040400) (by decide) (by decide)
  rcases hp with rfl | rfl | rfl | rfl
  · exact (mul_fine a1 b1 q1 s1).1
  · exact (mul_fine a1 b2 q1 s2).1
  · exact (mul_fine a2 b1 q2 s1).1
  · exact (mul_fine a2 b2 q2 s2).1
theorem verV_three (s t : SpT) : verV s t = 1 ∨ verV s t = 2 ∨ verV s t = 3 := by
  unfold verV
  split
  · split <;> simp
  · simp
theorem mea_ok {g : GauT} {p : List Int} (hg : gauB g = true) (hp : profB p = true) : (meaF g p).2.2 = 0 ∧ ((meaF g p).2.1 = 1 ∨ (meaF g p).2.1 = 2 ∨ (meaF g p).2.1 = 3) := by
  obtain ⟨t, n, s1, _, _, m1, m2, _⟩ := gauB_known hg
  unfold meaF
  rw [hg]
  simp only [if_true]
  rcases wid_err (p := p) t.1 t.2 n.1 n.2 with ⟨h1, h2⟩ | ⟨h1, h2 | h2⟩
  · rw [hp] at h1; simp at h1
  · rw [h2]
    show (0 : Int) = 0 ∧ ((if gThr g ≤ mxK p (p.length - 1) + gNoi g then (3 : Int) else 2) = 1 ∨ (if gThr g ≤ mxK p (p.length - 1) + gNoi g then (3 : Int) else 2) = 2 ∨ (if gThr g ≤ mxK p (p.length - 1) + gNoi g then (3 : Int) else 2) = 3)
    refine ⟨rfl, ?_⟩
    split <;> simp
  · have h6 : (widE p (gThr g) (gNoi g)).2 ≠ 6 := by omega
    unfold meaG
    rw [if_neg h6, if_pos h2, if_pos (mulS_fine h2 s1 m1 m2)]
    exact ⟨rfl, verV_three _ _⟩
theorem mea_bad {g : GauT} {p : List Int} (h : gauB g = false ∨ profB p = false) : (meaF g p).2.2 ≠ 0 := fun h0 => by
  obtain ⟨h1, h2, _⟩ := mea_known h0
  rw [h1, h2] at h
  simp at h
end Go.Proofs.Tryz.My
