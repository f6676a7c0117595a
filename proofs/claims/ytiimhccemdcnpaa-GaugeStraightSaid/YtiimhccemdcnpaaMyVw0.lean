/- A helper text: contracts of functions of the program, and plain lemmas. -/
import Derived.Test.YtiimhccemdcnpaaMyGn0
import Derived.Test.YtiimhccemdcnpaaMyPvA
import Derived.Test.YtiimhccemdcnpaaMySi
import Derived.Test.YtiimhccemdcnpaaMyRf5
set_option maxRecDepth 100000
set_option maxHeartbeats 0
set_option linter.unusedVariables false
set_option linter.unusedSimpArgs false
namespace Go.Proofs.Try.My
open Go Go.Ev

/-! ### Views of an image -/
abbrev s16 : SpT := ((16, 1), (16, 1))
def edgV (s : SpT) (y : Nat) : SpT := (((y : Int), 1), ((mulS s s16).1.1.1 / (mulS s s16).1.1.2, -(-(mulS s s16).1.2.1 / (mulS s s16).1.2.2)))
def rowP (pix : List Int) (W y : Nat) : List Int := (pix.drop (y * W)).take W
def rowV (pix : List Int) (W : Nat) (thr noise : Int) (y : Nat) : List SpT := if (edgF (rowP pix W y) thr 0 noise 1).2 = 0 then [edgV (edgF (rowP pix W y) thr 0 noise 1).1 y] else []
def imV (pix : List Int) (W : Nat) (thr noise : Int) (H : Nat) : List SpT := (List.range H).flatMap (rowV pix W thr noise)
theorem imV_succ (pix : List Int) (W : Nat) (thr noise : Int) (H : Nat) : imV pix W thr noise (H + 1) = imV pix W thr noise H ++ rowV pix W thr noise H := by
  unfold imV
  rw [List.range_succ, List.flatMap_append]
  simp
theorem imV_len (pix : List Int) (W : Nat) (thr noise : Int) : ∀ H, (imV pix W thr noise H).length ≤ H
  | 0 => by simp [imV]
  | H + 1 => by
    rw [imV_succ, List.length_append]
    have := imV_len pix W thr noise H
    have : (rowV pix W thr noise H).length ≤ 1 := by unfold rowV; split <;> simp
    omega
theorem step_range {c : Nat → Int} {thr : Int} {k : Nat} (h1 : thr ≤ c k) (h2 : ∀ j, j < k → c j < thr) : 0 ≤ stepR c thr k ∧ stepR c thr k ≤ (k : Rat) := by
  cases k with
  | zero => exact ⟨Rat.le_refl, Rat.le_refl⟩
  | succ k =>
    obtain ⟨a, b⟩ := stepR_bounds h1 (h2 k (Nat.lt_succ_self k))
    have k0 : (0 : Rat) ≤ (k : Rat) := Rat.intCast_le_intCast.2 (show (0 : Int) ≤ (k : Int) by omega)
    have e : ((k + 1 : Nat) : Rat) = (k : Rat) + 1 := by
      show (((k + 1 : Nat) : Int) : Rat) = ((k : Int) : Rat) + 1
      rw [show ((k + 1 : Nat) : Int) = (k : Int) + 1 by omega, Rat.intCast_add]
      rfl
    rw [e]
    exact ⟨by grind, b⟩
theorem place_range {q : List Int} {thr : Int} (hq : byteL q) (hl : q.length ≤ 64) (h0 : 0 < q.length) (t1 : 1 ≤ thr) (t2 : thr ≤ 255) {k : Nat} (h : brk q thr 0 1 = some k) :
    validB (placeF q thr 0 1 k) = true ∧ 0 ≤ qv (placeF q thr 0 1 k) ∧ qv (placeF q thr 0 1 k) ≤ (((q.length : Int) - 1 : Int) : Rat) ∧
      ∃ n d : Int, qv (placeF q thr 0 1 k) = (n : Rat) / (d : Rat) ∧ -17000 ≤ n ∧ n ≤ 17000 ∧ 0 < d ∧ d ≤ 255 := by
  obtain ⟨p1, _, p3⟩ := placeF_ok hq hl (a := 0) (by omega) (by omega) (.inl rfl) t1 t2 h
  obtain ⟨s1, s2, s3, s4⟩ := placeN_small hq hl (a := 0) (by omega) (by omega) (.inl rfl) t1 t2 h
  obtain ⟨h1, h2, h3⟩ := brk_some.1 h
  obtain ⟨_, _, m3⟩ := makeF_small (n := (placeN q thr 0 1 k).1) (d := (placeN q thr 0 1 k).2) (by omega) (by omega) s3 (by omega)
  obtain ⟨r1, r2⟩ := step_range h2 h3
  have hs : stepsN q.length 0 1 = q.length := by simp [stepsN]
  rw [hs] at h1
  have e0 : ((0 : Int) : Rat) = 0 := rfl
  have e1 : ((1 : Int) : Rat) = 1 := rfl
  rw [e0, e1] at p3
  have kl : ((k : Int) : Rat) ≤ (((q.length : Int) - 1 : Int) : Rat) := Rat.intCast_le_intCast.2 (by omega)
  have kk : ((k : Int) : Rat) = (k : Rat) := rfl
  refine ⟨p1, by rw [p3]; grind, by rw [p3]; grind, _, _, m3, s1, s2, s3, s4⟩
theorem mul16 {x : Int × Int} (hx : validB x = true) {n d : Int} (e : qv x = (n : Rat) / (d : Rat)) (n1 : -17000 ≤ n) (n2 : n ≤ 17000) (d1 : 0 < d) (d2 : d ≤ 255) : (mulF x (16, 1)).2 = 0 ∧ validB (mulF x (16, 1)).1 = true ∧ qv (mulF x (16, 1)).1 = qv x * 16 := by
  have v : validB (16, 1) = true := by decide
  have q : qv (16, 1) = 16 := by rw [qv_one]; rfl
  have := fits_small (n := n * 16) (d := d) (mulF_fits hx v) (by rw [q, e, Rat.intCast_mul]; have e16 : ((16 : Int) : Rat) = 16 := rfl; rw [e16]; grind) (by omega) (by omega) d1 (by omega)
  rw [q] at this
  exact ⟨this.2.1, this.1, this.2.2⟩
theorem floor_le {n d : Int} (hd : 0 < d) : ((n / d : Int) : Rat) ≤ (n : Rat) / (d : Rat) ∧ (n : Rat) / (d : Rat) ≤ ((-(-n / d) : Int) : Rat) := by
  have z := cast_pos hd
  have q : (n : Rat) / (d : Rat) * (d : Rat) = (n : Rat) := Rat.div_mul_cancel (by grind)
  constructor
  · refine rat_le_of_mul z ?_
    rw [q, ← Rat.intCast_mul]
    exact Rat.intCast_le_intCast.2 (Int.ediv_mul_le n (by omega))
  · refine rat_le_of_mul z ?_
    rw [q, ← Rat.intCast_mul]
    refine Rat.intCast_le_intCast.2 ?_
    have := Int.ediv_mul_le (-n) (b := d) (by omega)
    rw [Int.neg_mul]
    omega
theorem edge_view {p : List Int} {thr noise : Int} (h : (edgF p thr 0 noise 1).2 = 0) (y : Nat) (hy : y < 16) (hl : p.length ≤ 16) :
    (mulS (edgF p thr 0 noise 1).1 s16).2 = 0 ∧ validB (mulS (edgF p thr 0 noise 1).1 s16).1.1 = true ∧ validB (mulS (edgF p thr 0 noise 1).1 s16).1.2 = true ∧ viewB (edgV (edgF p thr 0 noise 1).1 y) = true := by
  obtain ⟨hp, hk, _, sb, k, j, bk, bj, e, q1, q2⟩ := edg_known (.inl rfl) h
  obtain ⟨t1, t2, _, a2, n1, n2⟩ := ask_known hk
  have lk := prof_len hp
  obtain ⟨v1, l1, u1, x1, d1, f1, g1, g2, g3, g4⟩ := place_range (movL_byte p (-noise)) (by rw [movL_length]; omega) (by rw [movL_length]; omega) t1 t2 bk
  obtain ⟨v2, l2, u2, x2, d2, f2, k1, k2, k3, k4⟩ := place_range (movL_byte p noise) (by rw [movL_length]; omega) (by rw [movL_length]; omega) t1 t2 bj
  rw [movL_length] at u1 u2
  rw [if_neg (by decide)] at e
  generalize placeF (movL p (-noise)) thr 0 1 k = b at *
  generalize placeF (movL p noise) thr 0 1 j = a at *
  generalize edgF p thr 0 noise 1 = E at *
  obtain ⟨S, E2⟩ := E
  simp only [] at e sb
  subst e
  obtain ⟨w1, wv1, wq1⟩ := mul16 v1 f1 g1 g2 g3 g4
  obtain ⟨w2, wv2, wq2⟩ := mul16 v2 f2 k1 k2 k3 k4
  have s1 : spanB s16 = true := by decide
  have e2 : mulS (a, b) s16 = fourF (mulF a (16, 1)) (mulF a (16, 1)) (mulF b (16, 1)) (mulF b (16, 1)) := mulS_eq sb s1
  have h0 : (mulS (a, b) s16).2 = 0 := by
    rw [e2]
    unfold fourF
    rw [if_pos ⟨w2, w2, w1, w1⟩]
  have hall : ∃ l, mulS (a, b) s16 = endsF mulF l ∧ l = [(a, (16, 1)), (a, (16, 1)), (b, (16, 1)), (b, (16, 1))] := by
    refine ⟨_, ?_, rfl⟩
    unfold mulS
    rw [sb, s1]
    rfl
  obtain ⟨l, el, hl2⟩ := hall
  have h0' := h0
  rw [el] at h0'
  obtain ⟨o1, _, o3, o4⟩ := endsF_ok mulF_ok2 l (by rw [hl2]; intro q hq; simp only [List.mem_cons, List.not_mem_nil, or_false] at hq; have v16 : validB (16, 1) = true := by decide
                                                    rcases hq with rfl | rfl | rfl | rfl <;> exact ⟨by assumption, v16⟩) (by rw [hl2]; simp) h0'
  rw [← el] at o1 o3 o4
  obtain ⟨z1, z2, z3⟩ := spanB_qv.1 o1
  have r1 : 0 ≤ qv (mulS (a, b) s16).1.1 := by
    obtain ⟨q, hq, eq⟩ := o3
    rw [eq]
    rw [hl2] at hq
    simp only [List.mem_cons, List.not_mem_nil, or_false] at hq
    rcases hq with rfl | rfl | rfl | rfl <;> simp only [wq1, wq2] <;> grind
  have r2 : qv (mulS (a, b) s16).1.2 ≤ ((240 : Int) : Rat) := by
    have lc : (((p.length : Int) - 1 : Int) : Rat) ≤ ((15 : Int) : Rat) := Rat.intCast_le_intCast.2 (by omega)
    have c1 : ((15 : Int) : Rat) = 15 := rfl
    have c2 : ((240 : Int) : Rat) = 240 := rfl
    obtain ⟨q, hq, eq⟩ := o4
    rw [eq]
    rw [hl2] at hq
    simp only [List.mem_cons, List.not_mem_nil, or_false] at hq
    rcases hq with rfl | rfl | rfl | rfl <;> simp only [wq1, wq2] <;> grind
  refine ⟨h0, z1, z2, ?_⟩
  rw [viewB_iff]
  unfold edgV
  generalize (mulS (a, b) s16).1 = T at *
  obtain ⟨⟨n1', d1'⟩, ⟨n2', d2'⟩⟩ := T
  simp only [] at *
  have p1 := (validB_iff _).1 z1
  have p2 := (validB_iff _).1 z2
  simp only [] at p1 p2
  obtain ⟨fl1, _⟩ := floor_le (n := n1') (d := d1') (by omega)
  obtain ⟨_, fl2⟩ := floor_le (n := n2') (d := d2') (by omega)
  have Q1 : qv (n1', d1') = (n1' : Rat) / (d1' : Rat) := rfl
  have Q2 : qv (n2', d2') = (n2' : Rat) / (d2' : Rat) := rfl
  have m1 : 0 ≤ n1' := by
    have := (qv_sign z1).1
    refine Int.not_lt.1 fun hn => ?_
    have := ((qv_sign z1).2.1).2 hn
    grind
  have c0 : 0 ≤ n1' / d1' := Int.ediv_nonneg m1 (by omega)
  have c1 : n1' / d1' ≤ -(-n2' / d2') := Rat.intCast_le_intCast.1 (by rw [Q1, Q2] at z3; grind)
  have c2 : -(-n2' / d2') ≤ 240 := by
    have hle : n2' ≤ 240 * d2' := by
      have z := cast_pos (show 0 < d2' by omega)
      have q : (n2' : Rat) / (d2' : Rat) * (d2' : Rat) = (n2' : Rat) := Rat.div_mul_cancel (by grind)
      have := Rat.mul_le_mul_of_nonneg_right r2 (Rat.le_of_lt z)
      rw [Q2, q, ← Rat.intCast_mul] at this
      exact Rat.intCast_le_intCast.1 this
    have : -240 ≤ -n2' / d2' := (Int.le_ediv_iff_mul_le (show 0 < d2' by omega)).2 (by omega)
    omega
  omega
theorem imV_view {pix : List Int} {W : Nat} (hW : W ≤ 16) {thr noise : Int} {H : Nat} (hH : H ≤ 16) : (∀ v ∈ imV pix W thr noise H, viewB v = true ∧ v.1.2 = 1) ∧ (imV pix W thr noise H).Pairwise (fun a b => a.1.1 < b.1.1) ∧ ∀ v ∈ imV pix W thr noise H, v.1.1 < (H : Int) := by
  induction H with
  | zero => exact ⟨fun v hv => (by simp [imV] at hv), by simp [imV], fun v hv => (by simp [imV] at hv)⟩
  | succ H ih =>
    obtain ⟨i1, i2, i3⟩ := ih (by omega)
    have hr : ∀ v ∈ rowV pix W thr noise H, viewB v = true ∧ v.1.2 = 1 ∧ v.1.1 = (H : Int) := fun v hv => by
      unfold rowV at hv
      split at hv
      · rename_i he
        simp only [List.mem_cons, List.not_mem_nil, or_false] at hv
        subst hv
        exact ⟨(edge_view he H (by omega) (by unfold rowP; rw [List.length_take]; omega)).2.2.2, rfl, rfl⟩
      · cases hv
    rw [imV_succ]
    refine ⟨fun v hv => ?_, ?_, fun v hv => ?_⟩
    · rcases List.mem_append.1 hv with h | h
      · exact i1 v h
      · exact ⟨(hr v h).1, (hr v h).2.1⟩
    · rw [List.pairwise_append]
      refine ⟨i2, ?_, fun a ha b hb => ?_⟩
      · unfold rowV
        split <;> simp
      · rw [(hr b hb).2.2]
        exact i3 a ha
    · rcases List.mem_append.1 hv with h | h
      · have := i3 v h; omega
      · rw [(hr v h).2.2]; omega
/-- What FirstBad and Calibrate say of views of an image. -/
theorem bad_law {l : List SpT} (hl : l.length ≤ 12) (hv : ∀ v ∈ l, viewB v = true ∧ v.1.2 = 1) (hp : l.Pairwise (fun a b => a.1.1 < b.1.1)) :
    viewsE l = 0 ∧ decide (badI l ≥ 0) = decide ((calF l).2 = 6) ∧ ((calF l).2 = 43 → l.length < 2) := by
  have hv' : ∀ v ∈ l, viewB v = true := fun v h => (hv v h).1
  have hE := viewsE_of hl hv'
  have hc : (calF l).2 = (fixF l).2 := by
    unfold calF
    rw [if_pos hE]
    split
    · rename_i h; exact h.symm
    · rfl
  refine ⟨hE, ?_, ?_⟩
  · rw [hc, decide_eq_decide]
    have whole : l ≠ [] → l.take ((l.length - 1) + 1) = l := fun h => by
      have : 0 < l.length := List.length_pos_iff.2 h
      rw [show l.length - 1 + 1 = l.length by omega, List.take_length]
    have nil : agrF [] = true := (agr_iff (l := []) (fun v h => by cases h)).2 ⟨0, 0, fun v h => by cases h⟩
    rcases badI_cases hv' with ⟨e, hj⟩ | ⟨k, hk, e, _, hj⟩
    · have ha : agrF l = true := by
        by_cases h : l = []
        · rw [h]; exact nil
        · have := hj (l.length - 1)
          rw [whole h] at this
          exact this
      rw [e]
      rcases fix_cases hv' with ⟨_, a, _⟩ | ⟨_, _, _, f⟩ | ⟨_, _, _, f⟩
      · rw [ha] at a; cases a
      · rw [f]; show ((-1 : Int) ≥ 0 ↔ (43 : Int) = 6); decide
      · rw [f]; show ((-1 : Int) ≥ 0 ↔ (0 : Int) = 6); decide
    · have hn : l ≠ [] := fun h => by rw [h] at hk; simp at hk
      have ha : agrF l = false := by
        have := hj (l.length - 1) (by omega)
        rw [whole hn] at this
        exact this
      rw [e]
      rcases fix_cases hv' with ⟨_, _, f⟩ | ⟨_, _, a, _⟩ | ⟨_, _, a, _⟩
      · rw [f]; simp
      · rw [ha] at a; cases a
      · rw [ha] at a; cases a
  · intro h43
    rw [hc] at h43
    rcases fix_cases hv' with ⟨_, _, f⟩ | ⟨_, al, _, _⟩ | ⟨_, _, _, f⟩
    · rw [f] at h43; simp at h43
    · refine Nat.not_le.1 fun h2 => ?_
      have k := List.pairwise_iff_getElem.1 hp 0 1 (by omega) (by omega) (by omega)
      have m0 := List.getElem_mem (show 0 < l.length by omega)
      have m1 := List.getElem_mem (show 1 < l.length by omega)
      have := al _ m0 _ m1
      rw [(hv _ m0).2, (hv _ m1).2] at this
      omega
    · rw [f] at h43; simp at h43
end Go.Proofs.Try.My
