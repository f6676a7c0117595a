/- A helper text: contracts of functions of the program, and plain lemmas. -/
import Derived.Test.YtiimhccemdcnpaaGreatMzGn0
import Derived.Test.YtiimhccemdcnpaaGreatMzGaB
set_option maxRecDepth 100000
set_option maxHeartbeats 0
set_option linter.unusedVariables false
set_option linter.unusedSimpArgs false
namespace Go.Proofs.Tryz.My
open Go Go.Ev

/-! ### Profiles in reverse order -/
theorem rev_getD (p : List Int) {i : Nat} (h : i < p.length) : p.reverse.getD i 0 = p.getD (p.length - 1 - i) 0 := by
  simp only [List.getD, List.getElem?_reverse h]
theorem steps_rev {n : Nat} {a d : Int} (hd : ways1 d) (ha : 0 ≤ a) (hn : a < n) : stepsN n ((n : Int) - 1 - a) (-d) = stepsN n a d := by
  rcases hd with rfl | rfl <;> simp [stepsN] <;> omega
theorem atK_rev {p : List Int} {a d : Int} (hd : ways1 d) (ha : 0 ≤ a) (hn : a < p.length) {k : Nat} (hk : k < stepsN p.length a d) : atK p.reverse ((p.length : Int) - 1 - a) (-d) k = atK p a d k := by
  unfold atK
  rcases hd with rfl | rfl
  · simp [stepsN] at hk
    rw [rev_getD p (by omega)]
    congr 1
    omega
  · simp [stepsN] at hk
    rw [rev_getD p (by omega)]
    congr 1
    omega
theorem brk_rev {p : List Int} {thr a d : Int} (hd : ways1 d) (ha : 0 ≤ a) (hn : a < p.length) : brk p.reverse thr ((p.length : Int) - 1 - a) (-d) = brk p thr a d := by
  have hs := steps_rev hd ha hn
  cases h : brk p thr a d with
  | none =>
    rw [brk_none] at h ⊢
    intro j hj
    rw [List.length_reverse, hs] at hj
    rw [atK_rev hd ha hn hj]
    exact h j hj
  | some k =>
    rw [brk_some] at h ⊢
    obtain ⟨h1, h2, h3⟩ := h
    rw [List.length_reverse, hs]
    refine ⟨h1, by rw [atK_rev hd ha hn h1]; exact h2, fun j hj => ?_⟩
    rw [atK_rev hd ha hn (by omega)]
    exact h3 j hj
theorem stepR_congr {c e : Nat → Int} {thr : Int} : ∀ {k : Nat}, (∀ i, i ≤ k → c i = e i) → stepR c thr k = stepR e thr k
  | 0, _ => rfl
  | k + 1, h => by rw [stepR_succ, stepR_succ, h k (by omega), h (k + 1) (by omega)]
theorem stepR_rev {p : List Int} {thr a d : Int} (hd : ways1 d) (ha : 0 ≤ a) (hn : a < p.length) {k : Nat} (hk : k < stepsN p.length a d) : stepR (atK p.reverse ((p.length : Int) - 1 - a) (-d)) thr k = stepR (atK p a d) thr k :=
  stepR_congr fun i hi => atK_rev hd ha hn (by omega)
theorem ways_neg {d : Int} (h : ways1 d) : ways1 (-d) := by rcases h with rfl | rfl; exact .inr rfl; exact .inl rfl
theorem prof_rev (p : List Int) : profB p.reverse = profB p := by simp [profB]
theorem ask_rev (p : List Int) (thr a noise : Int) : askE p.reverse thr ((p.length : Int) - 1 - a) noise = askE p thr a noise := by
  rw [Bool.eq_iff_iff]
  simp only [askE, Bool.and_eq_true, decide_eq_true_eq, List.length_reverse]
  omega
theorem movL_rev (p : List Int) (b : Int) : movL p.reverse b = (movL p b).reverse := by simp [movL]
/-- The bright place of a reversed profile. -/
theorem fir_rev {p : List Int} {thr a d : Int} (hd : ways1 d) : (firF p.reverse thr ((p.length : Int) - 1 - a) (-d)).2 = (firF p thr a d).2 ∧
    ((firF p thr a d).2 = 0 → validB (firF p thr a d).1 = true ∧ validB (firF p.reverse thr ((p.length : Int) - 1 - a) (-d)).1 = true ∧
      qv (firF p.reverse thr ((p.length : Int) - 1 - a) (-d)).1 = ((p.length : Int) - 1 : Int) - qv (firF p thr a d).1) := by
  unfold firF
  rw [prof_rev, ask_rev]
  cases hp : profB p
  · simp
  cases hq : askE p thr a 0
  · simp
  simp only [if_true]
  obtain ⟨t1, t2, a1, a2, _, _⟩ := ask_known hq
  have hlen := prof_len hp
  have hb := prof_byte hp
  cases h : brk p thr a d with
  | none =>
    rw [brF_none h, brF_none (by rw [brk_rev hd a1 a2]; exact h)]
    simp [firG]
  | some k =>
    have h' : brk p.reverse thr ((p.length : Int) - 1 - a) (-d) = some k := by rw [brk_rev hd a1 a2]; exact h
    rw [brF_some h, brF_some h']
    obtain ⟨v1, _, q1⟩ := placeF_ok hb hlen.2 a1 a2 hd t1 t2 h
    have hb' : byteL p.reverse := prof_byte (by rw [prof_rev]; exact hp)
    obtain ⟨v2, _, q2⟩ := placeF_ok hb' (by simp; omega) (show (0 : Int) ≤ (p.length : Int) - 1 - a by omega) (by simp; omega) (ways_neg hd) t1 t2 h'
    refine ⟨by simp [firG], fun _ => ⟨v1, v2, ?_⟩⟩
    show qv (placeF p.reverse thr _ _ k) = _ - qv (placeF p thr a d k)
    rw [q1, q2, stepR_rev hd a1 a2 (brk_some.1 h).1, Rat.intCast_sub, Rat.intCast_neg]
    grind
/-- The span of the bright place of a reversed profile. -/
theorem edg_rev {p : List Int} {thr a noise d : Int} (hd : ways1 d) : (edgF p.reverse thr ((p.length : Int) - 1 - a) noise (-d)).2 = (edgF p thr a noise d).2 ∧
    ((edgF p thr a noise d).2 = 0 → spanB (edgF p thr a noise d).1 = true ∧ spanB (edgF p.reverse thr ((p.length : Int) - 1 - a) noise (-d)).1 = true ∧
      qv (edgF p.reverse thr ((p.length : Int) - 1 - a) noise (-d)).1.1 = ((p.length : Int) - 1 : Int) - qv (edgF p thr a noise d).1.2 ∧
      qv (edgF p.reverse thr ((p.length : Int) - 1 - a) noise (-d)).1.2 = ((p.length : Int) - 1 : Int) - qv (edgF p thr a noise d).1.1) := by
  cases hp : profB p
  · unfold edgF; rw [prof_rev, hp]; simp
  cases hq : askE p thr a noise
  · unfold edgF; rw [prof_rev, ask_rev, hp, hq]; simp
  obtain ⟨t1, t2, a1, a2, n1, n2⟩ := ask_known hq
  have hlen := prof_len hp
  cases h : brk (movL p (-noise)) thr a d with
  | none =>
    have h' : brk (movL p (-noise)).reverse thr ((p.length : Int) - 1 - a) (-d) = none := by
      have := brk_rev (p := movL p (-noise)) (thr := thr) hd a1 (by rw [movL_length]; exact a2)
      rw [movL_length] at this
      rw [this]; exact h
    unfold edgF edgeF
    rw [prof_rev, ask_rev, hp, hq, movL_rev, brF_none h, brF_none h']
    simp [edgeG]
  | some k =>
    have ok := edg_ok_of hd hp hq h
    have h' : brk (movL p.reverse (-noise)) thr ((p.length : Int) - 1 - a) (-d) = some k := by
      rw [movL_rev]
      have := brk_rev (p := movL p (-noise)) (thr := thr) hd a1 (by rw [movL_length]; exact a2)
      rw [movL_length] at this
      rw [this]; exact h
    have ok' := edg_ok_of (ways_neg hd) (by rw [prof_rev]; exact hp) (by rw [ask_rev]; exact hq) h'
    obtain ⟨_, _, _, s1, k1, j1, e1, e2, e3, e4, e5⟩ := edg_known hd ok
    obtain ⟨_, _, _, s2, k2, j2, f1, f2, f3, f4, f5⟩ := edg_known (ways_neg hd) ok'
    have g1 : ∀ b {j : Nat}, brk (movL p b) thr a d = some j → brk (movL p.reverse b) thr ((p.length : Int) - 1 - a) (-d) = some j ∧ stepR (atK (movL p.reverse b) ((p.length : Int) - 1 - a) (-d)) thr j = stepR (atK (movL p b) a d) thr j := fun b j hj => by
      have r1 := brk_rev (p := movL p b) (thr := thr) hd a1 (by rw [movL_length]; exact a2)
      have r2 := stepR_rev (p := movL p b) (thr := thr) hd a1 (by rw [movL_length]; exact a2) (k := j) (brk_some.1 hj).1
      rw [movL_length] at r1 r2
      rw [movL_rev]
      exact ⟨by rw [r1]; exact hj, r2⟩
    obtain ⟨x1, x2⟩ := g1 _ e1
    obtain ⟨y1, y2⟩ := g1 _ e2
    obtain rfl : k2 = k1 := by rw [x1] at f1; exact (Option.some.inj f1).symm
    obtain rfl : j2 = j1 := by rw [y1] at f2; exact (Option.some.inj f2).symm
    refine ⟨by rw [ok, ok'], fun _ => ⟨s1, s2, ?_⟩⟩
    rw [e3, f3]
    rcases hd with rfl | rfl
    · simp only [show ¬ ((1 : Int) < 0) by decide, show (-1 : Int) < 0 by decide, if_true, if_false]
      rw [e4, e5, f4, f5, x2, y2, Rat.intCast_sub, Rat.intCast_neg]
      constructor <;> grind
    · simp only [show ¬ (-(-1 : Int) < 0) by decide, show (-1 : Int) < 0 by decide, if_true, if_false]
      rw [e4, e5, f4, f5, x2, y2, Rat.intCast_sub, Rat.intCast_neg]
      constructor <;> grind
theorem edg_zero {p : List Int} {thr a noise d : Int} (h : (edgF p thr a noise d).2 ≠ 0) : (edgF p thr a noise d).1 = zS := by
  unfold edgF edgeF edgeG at h ⊢
  repeat' split
  all_goals simp_all
theorem span_eq {s t : SpT} (hs : spanB s = true) (ht : spanB t = true) (h1 : qv s.1 = qv t.1) (h2 : qv s.2 = qv t.2) : s = t := by
  obtain ⟨s1, s2, _⟩ := spanB_qv.1 hs
  obtain ⟨t1, t2, _⟩ := spanB_qv.1 ht
  exact Prod.ext ((qv_eq s1 t1).1 h1) ((qv_eq s2 t2).1 h2)
/-- The width of a reversed profile. -/
theorem wid_rev (p : List Int) (thr noise : Int) : widE p.reverse thr noise = widE p thr noise := by
  cases hp : profB p
  · unfold widE; rw [prof_rev, hp]; rfl
  have hlen := prof_len hp
  have e1 := @edg_rev p thr 0 noise 1 (.inl rfl)
  have e2 := @edg_rev p thr ((p.length : Int) - 1) noise (-1) (.inr rfl)
  rw [show (p.length : Int) - 1 - ((p.length : Int) - 1) = 0 by omega, show -(-1 : Int) = 1 by rfl] at e2
  rw [show (p.length : Int) - 1 - 0 = (p.length : Int) - 1 by omega] at e1
  by_cases h : (widE p thr noise).2 = 0
  · obtain ⟨_, _, r1, f1, s1, x1, y1⟩ := wid_known h
    have r2 := e2.1.trans f1
    have h' := wid_ok_of r2
    obtain ⟨_, _, r3, f3, s3, x3, y3⟩ := wid_known h'
    rw [List.length_reverse] at f3 x3 y3
    obtain ⟨_, _, a1, a2⟩ := e1.2 r1
    obtain ⟨_, _, b1, b2⟩ := e2.2 f1
    refine Prod.ext ?_ (h'.trans h.symm)
    refine span_eq s3 s1 ?_ ?_
    · rw [x1, x3, a1, b2]; grind
    · rw [y1, y3, a2, b1]; grind
  · have h' : (widE p.reverse thr noise).2 ≠ 0 := fun k => by
      obtain ⟨_, _, r3, f3, _⟩ := wid_known k
      rw [List.length_reverse] at f3
      rw [e2.1] at r3
      rw [e1.1] at f3
      exact h (wid_ok_of f3)
    have hz : ∀ q : List Int, (widE q thr noise).2 ≠ 0 → widE q thr noise = (if profB q then (if askE q thr 0 noise then (zS, 6) else (zS, 2)) else (zS, 50)) := fun q hq => by
      unfold widE widF widG at hq ⊢
      repeat' split
      all_goals simp_all
    rw [hz _ h, hz _ h', prof_rev]
    have : askE p.reverse thr 0 noise = askE p thr 0 noise := by
      rw [Bool.eq_iff_iff]
      simp only [askE, Bool.and_eq_true, decide_eq_true_eq, List.length_reverse]
    rw [this]
end Go.Proofs.Tryz.My
