/- A helper text: contracts of functions of the program, and plain lemmas. -/
import Derived.Test.YtiimhccemdcnpaaMyGn0
import Derived.Test.YtiimhccemdcnpaaMyGaB
import Derived.Test.YtiimhccemdcnpaaMyGd3
import Derived.Test.YtiimhccemdcnpaaMyGcA
import Derived.Test.YtiimhccemdcnpaaEvSix
set_option maxRecDepth 100000
set_option maxHeartbeats 0
set_option linter.unusedVariables false
set_option linter.unusedSimpArgs false
namespace Go.Proofs.Try.My
open Go Go.Ev

/-! ### Profiles in reverse order -/
theorem rev_getD (p : List Int) {i : Nat} (h : i < p.length) : p.reverse.getD i 0 = p.getD (p.length - 1 - i) 0 := by
  simp only [List.getD, List.getElem?_reverse h]
theorem steps_rev {n : Nat} {a d : Int} (hd : ways1 d) (ha : 0 ≤ a) (hn : a < n) : stepsN n ((n : Int) - 1 - a) (-d) = stepsN n a d := by
  rcases hd with rfl | rfl <;> simp [stepsN] <;> omega
theorem atK_rev {p : List Int} {a d : Int} (hd : ways1 d) (ha : 0 ≤ a) (hn : a < p.length) {k : Nat} (hk : k < stepsN p.length a d) : atK p.reverse ((p.length : Int) - 1 - a) (-d) k = atK p a d k := by
  unfold atK
  rcases hd with rfl | rfl
  · simp [stepsN] at hk
    rw [rev_getD p (by omega)]
    congr 1
    omega
  · simp [stepsN] at hk
    rw [rev_getD p (by omega)]
    congr 1
    omega
theorem brk_rev {p : List Int} {thr a d : Int} (hd : ways1 d) (ha : 0 ≤ a) (hn : a < p.length) : brk p.reverse thr ((p.length : Int) - 1 - a) (-d) = brk p thr a d := by
  have hs := steps_rev hd ha hn
  cases h : brk p thr a d with
  | none =>
    rw [brk_none] at h ⊢
    intro j hj
    rw [List.length_reverse, hs] at hj
    rw [atK_rev hd ha hn hj]
    exact h j hj
  | some k =>
    rw [brk_some] at h ⊢
    obtain ⟨h1, h2, h3⟩ := h
    rw [List.length_reverse, hs]
    refine ⟨h1, by rw [atK_rev hd ha hn h1]; exact h2, fun j hj => ?_⟩
    rw [atK_rev hd ha hn (by omega)]
    exact h3 j hj
theorem stepR_congr {c e : Nat → Int} {thr : Int} : ∀ {k : Nat}, (∀ i, i ≤ k → c i = e i) → stepR c thr k = stepR e thr k
  | 0, _ => rfl
  | k + 1, h => by rw [stepR_succ, stepR_succ, h k (by omega), h (k + 1) (by omega)]
theorem stepR_rev {p : List Int} {thr a d : Int} (hd : ways1 d) (ha : 0 ≤ a) (hn : a < p.length) {k : Nat} (hk : k < stepsN p.length a d) : stepR (atK p.reverse ((p.length : Int) - 1 - a) (-d)) thr k = stepR (atK p a d) thr k :=
  stepR_congr fun i hi => atK_rev hd ha hn (by omega)
theorem ways_neg {d : Int} (h : ways1 d) : ways1 (-d) := by rcases h with rfl | rfl; exact .inr rfl; exact .inl rfl
theorem prof_rev (p : List Int) : profB p.reverse = profB p := by simp [profB]
theorem ask_rev (p : List Int) (thr a noise : Int) : askE p.reverse thr ((p.length : Int) - 1 - a) noise = askE p thr a noise := by
  rw [Bool.eq_iff_iff]
  simp only [askE, Bool.and_eq_true, decide_eq_true_eq, List.length_reverse]
  omega
theorem movL_rev (p : List Int) (b : Int) : movL p.reverse b = (movL p b).reverse := by simp [movL]
/-- The bright place of a reversed profile. -/
theorem fir_rev {p : List Int} {thr a d : Int} (hd : ways1 d) : (firF p.reverse thr ((p.length : Int) - 1 - a) (-d)).2 = (firF p thr a d).2 ∧
    ((firF p thr a d).2 = 0 → validB (firF p thr a d).1 = true ∧ validB (firF p.reverse thr ((p.length : Int) - 1 - a) (-d)).1 = true ∧
      qv (firF p.reverse thr ((p.length : Int) - 1 - a) (-d)).1 = ((p.length : Int) - 1 : Int) - qv (firF p thr a d).1) := by
  unfold firF
  rw [prof_rev, ask_rev]
  cases hp : profB p
  · simp
  cases hq : askE p thr a 0
  · simp
  simp only [if_true]
  obtain ⟨t1, t2, a1, a2, _, _⟩ := ask_known hq
  have hlen := prof_len hp
  have hb := prof_byte hp
  cases h : brk p thr a d with
  | none =>
    rw [brF_none h, brF_none (by rw [brk_rev hd a1 a2]; exact h)]
    simp [firG]
  | some k =>
    have h' : brk p.reverse thr ((p.length : Int) - 1 - a) (-d) = some k := by rw [brk_rev hd a1 a2]; exact h
    rw [brF_some h, brF_some h']
    obtain ⟨v1, _, q1⟩ := placeF_ok hb hlen.2 a1 a2 hd t1 t2 h
    have hb' : byteL p.reverse := prof_byte (by rw [prof_rev]; exact hp)
    obtain ⟨v2, _, q2⟩ := placeF_ok hb' (by simp; omega) (show (0 : Int) ≤ (p.length : Int) - 1 - a by omega) (by simp; omega) (ways_neg hd) t1 t2 h'
    refine ⟨by simp [firG], fun _ => ⟨v1, v2, ?_⟩⟩
    show qv (placeF p.reverse thr _ _ k) = _ - qv (placeF p thr a d k)
    rw [q1, q2, stepR_rev hd a1 a2 (brk_some.1 h).1, Rat.intCast_sub, Rat.intCast_neg]
    grind
/-- The span of the bright place of a reversed profile. -/
theorem edg_rev {p : List Int} {thr a noise d : Int} (hd : ways1 d) : (edgF p.reverse thr ((p.length : Int) - 1 - a) noise (-d)).2 = (edgF p thr a noise d).2 ∧
    ((edgF p thr a noise d).2 = 0 → spanB (edgF p thr a noise d).1 = true ∧ spanB (edgF p.reverse thr ((p.length : Int) - 1 - a) noise (-d)).1 = true ∧
      qv (edgF p.reverse thr ((p.length : Int) - 1 - a) noise (-d)).1.1 = ((p.length : Int) - 1 : Int) - qv (edgF p thr a noise d).1.2 ∧
      qv (edgF p.reverse thr ((p.length : Int) - 1 - a) noise (-d)).1.2 = ((p.length : Int) - 1 : Int) - qv (edgF p thr a noise d).1.1) := by
  cases hp : profB p
  · unfold edgF; rw [prof_rev, hp]; simp
  cases hq : askE p thr a noise
  · unfold edgF; rw [prof_rev, ask_rev, hp, hq]; simp
  obtain ⟨t1, t2, a1, a2, n1, n2⟩ := ask_known hq
  have hlen := prof_len hp
  cases h : brk (movL p (-noise)) thr a d with
  | none =>
    have h' : brk (movL p (-noise)).reverse thr ((p.length : Int) - 1 - a) (-d) = none := by
      have := brk_rev (p := movL p (-noise)) (thr := thr) hd a1 (by rw [movL_length]; exact a2)
      rw [movL_length] at this
      rw [this]; exact h
    unfold edgF edgeF
    rw [prof_rev, ask_rev, hp, hq, movL_rev, brF_none h, brF_none h']
    simp [edgeG]
  | some k =>
    have ok := edg_ok_of hd hp hq h
    have h' : brk (movL p.reverse (-noise)) thr ((p.length : Int) - 1 - a) (-d) = some k := by
      rw [movL_rev]
      have := brk_rev (p := movL p (-noise)) (thr := thr) hd a1 (by rw [movL_length]; exact a2)
      rw [movL_length] at this
      rw [this]; exact h
    have ok' := edg_ok_of (ways_neg hd) (by rw [prof_rev]; exact hp) (by rw [ask_rev]; exact hq) h'
    obtain ⟨_, _, _, s1, k1, j1, e1, e2, e3, e4, e5⟩ := edg_known hd ok
    obtain ⟨_, _, _, s2, k2, j2, f1, f2, f3, f4, f5⟩ := edg_known (ways_neg hd) ok'
    have g1 : ∀ b {j : Nat}, brk (movL p b) thr a d = some j → brk (movL p.reverse b) thr ((p.length : Int) - 1 - a) (-d) = some j ∧ stepR (atK (movL p.reverse b) ((p.length : Int) - 1 - a) (-d)) thr j = stepR (atK (movL p b) a d) thr j := fun b j hj => by
      have r1 := brk_rev (p := movL p b) (thr := thr) hd a1 (by rw [movL_length]; exact a2)
      have r2 := stepR_rev (p := movL p b) (thr := thr) hd a1 (by rw [movL_length]; exact a2) (k := j) (brk_some.1 hj).1
      rw [movL_length] at r1 r2
      rw [movL_rev]
      exact ⟨by rw [r1]; exact hj, r2⟩
    obtain ⟨x1, x2⟩ := g1 _ e1
    obtain ⟨y1, y2⟩ := g1 _ e2
    obtain rfl : k2 = k1 := by rw [x1] at f1; exact (Option.some.inj f1).symm
    obtain rfl : j2 = j1 := by rw [y1] at f2; exact (Option.some.inj f2).symm
    refine ⟨by rw [ok, ok'], fun _ => ⟨s1, s2, ?_⟩⟩
    rw [e3, f3]
    rcases hd with rfl | rfl
    · simp only [show ¬ ((1 : Int) < 0) by decide, show (-1 : Int) < 0 by decide, if_true, if_false]
      rw [e4, e5, f4, f5, x2, y2, Rat.intCast_sub, Rat.intCast_neg]
      constructor <;> grind
    · simp only [show ¬ (-(-1 : Int) < 0) by decide, show (-1 : Int) < 0 by decide, if_true, if_false]
      rw [e4, e5, f4, f5, x2, y2, Rat.intCast_sub, Rat.intCast_neg]
      constructor <;> grind
theorem edg_zero {p : List Int} {thr a noise d : Int} (h : (edgF p thr a noise d).2 ≠ 0) : (edgF p thr a noise d).1 = zS := by
  unfold edgF edgeF edgeG at h ⊢
  repeat' split
  all_goals simp_all
theorem span_eq {s t : SpT} (hs : spanB s = true) (ht : spanB t = true) (h1 : qv s.1 = qv t.1) (h2 : qv s.2 = qv t.2) : s = t := by
  obtain ⟨s1, s2, _⟩ := spanB_qv.1 hs
  obtain ⟨t1, t2, _⟩ := spanB_qv.1 ht
  exact Prod.ext ((qv_eq s1 t1).1 h1) ((qv_eq s2 t2).1 h2)
/-- The width of a reversed profile. -/
theorem wid_rev (p : List Int) (thr noise : Int) : widE p.reverse thr noise = widE p thr noise := by
  cases hp : profB p
  · unfold widE; rw [prof_rev, hp]; rfl
  have hlen := prof_len hp
  have e1 := @edg_rev p thr 0 noise 1 (.inl rfl)
  have e2 := @edg_rev p thr ((p.length : Int) - 1) noise (-1) (.inr rfl)
  rw [show (p.length : Int) - 1 - ((p.length : Int) - 1) = 0 by omega, show -(-1 : Int) = 1 by rfl] at e2
  rw [show (p.length : Int) - 1 - 0 = (p.length : Int) - 1 by omega] at e1
  by_cases h : (widE p thr noise).2 = 0
  · obtain ⟨_, _, r1, f1, s1, x1, y1⟩ := wid_known h
    have r2 := e2.1.trans f1
    have h' := wid_ok_of r2
    obtain ⟨_, _, r3, f3, s3, x3, y3⟩ := wid_known h'
    rw [List.length_reverse] at f3 x3 y3
    obtain ⟨_, _, a1, a2⟩ := e1.2 r1
    obtain ⟨_, _, b1, b2⟩ := e2.2 f1
    refine Prod.ext ?_ (h'.trans h.symm)
    refine span_eq s3 s1 ?_ ?_
    · rw [x1, x3, a1, b2]; grind
    · rw [y1, y3, a2, b1]; grind
  · have h' : (widE p.reverse thr noise).2 ≠ 0 := fun k => by
      obtain ⟨_, _, r3, f3, _⟩ := wid_known k
      rw [List.length_reverse] at f3
      rw [e2.1] at r3
      rw [e1.1] at f3
      exact h (wid_ok_of f3)
    have hz : ∀ q : List Int, (widE q thr noise).2 ≠ 0 → widE q thr noise = (if profB q then (if askE q thr 0 noise then (zS, 6) else (zS, 2)) else (zS, 50)) := fun q hq => by
      unfold widE widF widG at hq ⊢
      repeat' split
      all_goals simp_all
    rw [hz _ h, hz _ h', prof_rev]
    have : askE p.reverse thr 0 noise = askE p thr 0 noise := by
      rw [Bool.eq_iff_iff]
      simp only [askE, Bool.and_eq_true, decide_eq_true_eq, List.length_reverse]
    rw [this]
end Go.Proofs.Try.My
set_option maxRecDepth 100000
set_option maxHeartbeats 0
set_option linter.unusedVariables false
set_option linter.unusedSimpArgs false
namespace Go.Proofs.Try.My
open Go Go.Ev

theorem hasB_qv {s : SpT} {x : Int × Int} (h1 : validB s.1 = true) (h2 : validB s.2 = true) (hx : validB x = true) : hasB s x = true ↔ qv s.1 ≤ qv x ∧ qv x ≤ qv s.2 := by
  unfold hasB
  rw [Bool.and_eq_true, decide_eq_true_eq, decide_eq_true_eq, cmpF_le h1 hx, cmpF_le hx h2]
end Go.Proofs.Try.My
set_option maxRecDepth 100000
set_option maxHeartbeats 0
set_option linter.unusedVariables false
set_option linter.unusedSimpArgs false
namespace Go.Proofs.Try.My
open Go Go.Ev

/-! ### Profiles in quarters -/
def byQ (moves : List Int) (noise : Int) (i : Nat) : Int := if i < moves.length then Int.tmod (moves.getD i 0) (4 * noise + 1) else 0
def clipQ (v : Int) : Int := if (if v > 0 then v else 0) < 1020 then (if v > 0 then v else 0) else 1020
def valQ (p moves : List Int) (noise : Int) (i : Nat) : Int := clipQ (4 * p.getD i 0 + byQ moves noise i)
/-- The profile that the noise allows. -/
def alwL (p moves : List Int) (noise : Int) : List Int := (List.range p.length).map (valQ p moves noise)
theorem alwL_length (p moves : List Int) (noise : Int) : (alwL p moves noise).length = p.length := by simp [alwL]
theorem alwL_getD (p moves : List Int) (noise : Int) (i : Nat) : (alwL p moves noise).getD i 0 = if i < p.length then valQ p moves noise i else 0 := by
  unfold alwL
  by_cases h : i < p.length
  · rw [if_pos h]; simp [List.getD, h]
  · rw [if_neg h]; simp [List.getD, h]
theorem clipQ_bounds (v : Int) : 0 ≤ clipQ v ∧ clipQ v ≤ 1020 := by unfold clipQ; split <;> split at * <;> omega
theorem byQ_bounds (moves : List Int) {noise : Int} (h : 0 ≤ noise) (i : Nat) : -(4 * noise) ≤ byQ moves noise i ∧ byQ moves noise i ≤ 4 * noise := by
  unfold byQ
  split
  · generalize moves.getD i 0 = m
    have h1 := Int.tmod_lt_of_pos m (b := 4 * noise + 1) (by omega)
    have h2 := Int.neg_tmod (a := m) (b := 4 * noise + 1)
    have h3 := Int.tmod_lt_of_pos (-m) (b := 4 * noise + 1) (by omega)
    omega
  · omega
def sclL (p : List Int) : List Int := p.map (fun v => 4 * v)
theorem sclL_length (p : List Int) : (sclL p).length = p.length := by simp [sclL]
theorem sclL_getD (p : List Int) (i : Nat) : (sclL p).getD i 0 = 4 * p.getD i 0 := by
  unfold sclL
  by_cases h : i < p.length
  · simp [List.getD, h]
  · simp [List.getD, h]
theorem atK_scl (p : List Int) (a d : Int) (k : Nat) : atK (sclL p) a d k = 4 * atK p a d k := sclL_getD p _
theorem brk_scl (p : List Int) (thr a d : Int) : brk (sclL p) (4 * thr) a d = brk p thr a d := by
  cases h : brk p thr a d with
  | none =>
    rw [brk_none] at h ⊢
    intro j hj
    rw [sclL_length] at hj
    have := h j hj
    rw [atK_scl]; omega
  | some k =>
    rw [brk_some] at h ⊢
    obtain ⟨h1, h2, h3⟩ := h
    rw [sclL_length, atK_scl]
    refine ⟨h1, by omega, fun j hj => ?_⟩
    have := h3 j hj
    rw [atK_scl]; omega
theorem stepR_scl (p : List Int) {thr a d : Int} {k : Nat} (h1 : thr ≤ atK p a d k) (h2 : ∀ j, j < k → atK p a d j < thr) : stepR (atK (sclL p) a d) (4 * thr) k = stepR (atK p a d) thr k := by
  cases k with
  | zero => rfl
  | succ k =>
    have h3 := h2 k (by omega)
    rw [stepR_succ, stepR_succ, atK_scl, atK_scl]
    congr 1
    rw [div_eq_div (cast_ne (by omega)) (cast_ne (by omega)), cast_eq_mul]
    grind
theorem alw_low {p moves : List Int} {noise : Int} (hb : byteL p) (h : 0 ≤ noise) (i : Nat) : (sclL (movL p (-noise))).getD i 0 ≤ (alwL p moves noise).getD i 0 := by
  rw [sclL_getD, movL_getD, alwL_getD]
  split
  · have := byQ_bounds moves h i
    have hv := hb i (by assumption)
    unfold valQ clipQ clipL
    split <;> (try split) <;> (try split) <;> (try split) <;> omega
  · omega
theorem alw_upp {p moves : List Int} {noise : Int} (hb : byteL p) (h : 0 ≤ noise) (i : Nat) : (alwL p moves noise).getD i 0 ≤ (sclL (movL p noise)).getD i 0 := by
  rw [sclL_getD, movL_getD, alwL_getD]
  split
  · have := byQ_bounds moves h i
    have hv := hb i (by assumption)
    unfold valQ clipQ clipL
    split <;> (try split) <;> (try split) <;> (try split) <;> omega
  · omega
/-- The first bright place of a profile that the noise allows lies between those of the upper and of the lower one. -/
theorem alw_between {p moves : List Int} {thr a noise d : Int} (hb : byteL p) (h : 0 ≤ noise) {k j : Nat} (hk : brk (movL p (-noise)) thr a d = some k) (hj : brk (movL p noise) thr a d = some j) :
    ∃ m, brk (alwL p moves noise) (4 * thr) a d = some m ∧ stepR (atK (movL p noise) a d) thr j ≤ stepR (atK (alwL p moves noise) a d) (4 * thr) m ∧ stepR (atK (alwL p moves noise) a d) (4 * thr) m ≤ stepR (atK (movL p (-noise)) a d) thr k := by
  have hk' : brk (sclL (movL p (-noise))) (4 * thr) a d = some k := by rw [brk_scl]; exact hk
  obtain ⟨m, hm, _, m1⟩ := brk_mono (q := alwL p moves noise) (by simp [sclL_length, movL_length, alwL_length]) (alw_low hb h) hk'
  obtain ⟨j2, hj2, _, m2⟩ := brk_mono (q := sclL (movL p noise)) (by simp [sclL_length, movL_length, alwL_length]) (alw_upp hb h) hm
  rw [brk_scl] at hj2
  obtain rfl : j2 = j := by rw [hj] at hj2; exact (Option.some.inj hj2).symm
  obtain ⟨_, k1, k2⟩ := brk_some.1 hk
  obtain ⟨_, j1, j2⟩ := brk_some.1 hj
  rw [stepR_scl _ k1 k2] at m1
  rw [stepR_scl _ j1 j2] at m2
  exact ⟨m, hm, m2, m1⟩
/-- A bright place in quarters makes the upper profile bright. -/
theorem alw_upper {p moves : List Int} {thr a noise d : Int} (hb : byteL p) (h : 0 ≤ noise) {m : Nat} (hm : brk (alwL p moves noise) (4 * thr) a d = some m) : ∃ j, brk (movL p noise) thr a d = some j := by
  obtain ⟨j2, hj2, _, m2⟩ := brk_mono (q := sclL (movL p noise)) (by simp [sclL_length, movL_length, alwL_length]) (alw_upp hb h) hm
  rw [brk_scl] at hj2
  exact ⟨j2, hj2⟩
/-- What the law's own 'first' returns. -/
def fstN (q : List Int) (thr a : Int) : Int × Int × Bool :=
  match brk q thr a 1 with
  | none => (0, 1, false)
  | some k => ((placeN q thr a 1 k).1, (placeN q thr a 1 k).2, true)
def bigL (q : List Int) : Prop := ∀ i, i < q.length → 0 ≤ q.getD i 0 ∧ q.getD i 0 ≤ 1020
theorem alw_big (p moves : List Int) (noise : Int) : bigL (alwL p moves noise) := fun i hi => by
  rw [alwL_length] at hi
  rw [alwL_getD, if_pos hi]
  exact clipQ_bounds _
theorem rev_big {q : List Int} (h : bigL q) : bigL q.reverse := fun i hi => by
  simp at hi
  rw [rev_getD q hi]
  exact h _ (by omega)
theorem placeN_big {q : List Int} (hq : bigL q) (hl : q.length ≤ 64) {thr a : Int} (ha : 0 ≤ a) (hn : a < q.length) {k : Nat} (h : brk q thr a 1 = some k) :
    -70000 ≤ (placeN q thr a 1 k).1 ∧ (placeN q thr a 1 k).1 ≤ 70000 ∧ 0 < (placeN q thr a 1 k).2 ∧ (placeN q thr a 1 k).2 ≤ 1020 := by
  obtain ⟨h1, h2, h3⟩ := brk_some.1 h
  cases k with
  | zero => simp only [placeN]; omega
  | succ k =>
    have b0 := h3 k (by omega)
    simp [stepsN] at h1
    have e1 : (a + 1 * ((k + 1 : Nat) : Int)).toNat < q.length := by omega
    have e2 : (a + 1 * (k : Int)).toNat < q.length := by omega
    have b1 := hq _ e1
    have b2 := hq _ e2
    simp only [placeN]
    unfold atK at *
    generalize q.getD (a + 1 * ((k + 1 : Nat) : Int)).toNat 0 = u at *
    generalize q.getD (a + 1 * (k : Int)).toNat 0 = v at *
    have m1 : (a + 1 * (k : Int)) * (u - v) ≤ 63 * (u - v) := Int.mul_le_mul_of_nonneg_right (by omega) (by omega)
    have m2 : 0 ≤ (a + 1 * (k : Int)) * (u - v) := Int.mul_nonneg (by omega) (by omega)
    generalize (a + 1 * (k : Int)) * (u - v) = w at *
    omega
theorem fstN_some {q : List Int} (hq : bigL q) (hl : q.length ≤ 64) {thr a : Int} (ha : 0 ≤ a) (hn : a < q.length) {k : Nat} (h : brk q thr a 1 = some k) :
    ∃ n d : Int, fstN q thr a = (n, d, true) ∧ -70000 ≤ n ∧ n ≤ 70000 ∧ 0 < d ∧ d ≤ 1020 ∧ (n : Rat) / (d : Rat) = (a : Rat) + stepR (atK q a 1) thr k := by
  obtain ⟨b1, b2, b3, b4⟩ := placeN_big hq hl ha hn h
  obtain ⟨h1, h2, h3⟩ := brk_some.1 h
  obtain ⟨_, v⟩ := placeN_val h2 h3
  refine ⟨_, _, by unfold fstN; rw [h], b1, b2, b3, b4, ?_⟩
  rw [v, show ((1 : Int) : Rat) = 1 from rfl]
  grind
theorem fstN_none {q : List Int} {thr a : Int} (h : brk q thr a 1 = none) : fstN q thr a = (0, 1, false) := by unfold fstN; rw [h]
theorem fstN_small {q : List Int} (hq : bigL q) (hl : q.length ≤ 64) {thr a : Int} (ha : 0 ≤ a) (hn : a < q.length) : -70000 ≤ (fstN q thr a).1 ∧ (fstN q thr a).1 ≤ 70000 ∧ 0 < (fstN q thr a).2.1 ∧ (fstN q thr a).2.1 ≤ 1020 := by
  cases h : brk q thr a 1 with
  | none => rw [fstN_none h]; decide
  | some k =>
    obtain ⟨n, d, e, x1, x2, x3, x4, _⟩ := fstN_some hq hl ha hn h
    rw [e]
    exact ⟨x1, x2, x3, x4⟩
/-- Whether a span holds a quotient. -/
def holB (s : SpT) (n d : Int) : Bool := decide ((makeF n d).2 = 0) && (spanB s && validB (makeF n d).1 && hasB s (makeF n d).1)
theorem holB_true {s : SpT} {n d : Int} (hs : spanB s = true) (n1 : -1000000000 ≤ n) (n2 : n ≤ 1000000000) (d1 : 0 < d) (d2 : d ≤ 2000000) (h1 : qv s.1 ≤ (n : Rat) / (d : Rat)) (h2 : (n : Rat) / (d : Rat) ≤ qv s.2) : holB s n d = true := by
  obtain ⟨v, e, q⟩ := makeF_small (n := n) (d := d) (by omega) (by omega) d1 (by omega)
  obtain ⟨s1, s2, _⟩ := spanB_qv.1 hs
  unfold holB
  rw [e, hs, v, (hasB_qv s1 s2 v).2 ⟨by rw [q]; exact h1, by rw [q]; exact h2⟩]
  rfl
theorem rat_end {n d : Int} (e : Int) (hd : 0 < d) : ((e * d - n : Int) : Rat) / (d : Rat) = (e : Rat) - (n : Rat) / (d : Rat) := by
  have := cast_pos hd
  rw [Rat.intCast_sub, Rat.intCast_mul]
  grind
theorem rat_wid {a b c d : Int} (e : Int) (hb : 0 < b) (hd : 0 < d) : (((e * d - c) * b - a * d : Int) : Rat) / ((b * d : Int) : Rat) = ((e : Rat) - (c : Rat) / (d : Rat)) - (a : Rat) / (b : Rat) := by
  have := cast_pos hb
  have := cast_pos hd
  rw [Rat.intCast_sub, Rat.intCast_mul, Rat.intCast_mul, Rat.intCast_sub, Rat.intCast_mul, Rat.intCast_mul]
  generalize (a : Rat) = A at *
  generalize (b : Rat) = B at *
  generalize (c : Rat) = C at *
  generalize (d : Rat) = D at *
  generalize (e : Rat) = E at *
  have e1 : A / B * B = A := by grind
  have e2 : C / D * D = C := by grind
  have hBD : B * D ≠ 0 := by
    have := Rat.mul_pos (a := B) (b := D) (by assumption) (by assumption)
    grind
  have : ((E - C / D) - A / B) * (B * D) = (E * D - C) * B - A * D := by grind
  rw [← this]
  grind
theorem mul_size {a b A B : Int} (h1 : -A ≤ a) (h2 : a ≤ A) (h3 : 0 ≤ b) (h4 : b ≤ B) : -(A * B) ≤ a * b ∧ a * b ≤ A * B := by
  have k1 : a * b ≤ A * b := Int.mul_le_mul_of_nonneg_right h2 h3
  have k2 : (-A) * b ≤ a * b := Int.mul_le_mul_of_nonneg_right h1 h3
  have k3 : A * b ≤ A * B := Int.mul_le_mul_of_nonneg_left h4 (by omega)
  have k4 : (-A) * b = -(A * b) := by grind
  omega
theorem size_end {n d e : Int} (n1 : -70000 ≤ n) (n2 : n ≤ 70000) (d1 : 0 < d) (d2 : d ≤ 1020) (e1 : 0 ≤ e) (e2 : e ≤ 63) : -140000 ≤ e * d - n ∧ e * d - n ≤ 140000 ∧ -70000 ≤ e * d ∧ e * d ≤ 70000 := by
  have h := mul_size (a := e) (b := d) (A := 63) (B := 1020) (by omega) e2 (by omega) d2
  omega
theorem size_wid {a b c d e : Int} (a1 : -70000 ≤ a) (a2 : a ≤ 70000) (b1 : 0 < b) (b2 : b ≤ 1020) (c1 : -70000 ≤ c) (c2 : c ≤ 70000) (d1 : 0 < d) (d2 : d ≤ 1020) (e1 : 0 ≤ e) (e2 : e ≤ 63) :
    (-300000000 ≤ (e * d - c) * b - a * d ∧ (e * d - c) * b - a * d ≤ 300000000) ∧ (0 < b * d ∧ b * d ≤ 1040400) ∧ (-200000000 ≤ (e * d - c) * b ∧ (e * d - c) * b ≤ 200000000) ∧ (-200000000 ≤ a * d ∧ a * d ≤ 200000000) := by
  have h := size_end c1 c2 d1 d2 e1 e2
  have h1 := mul_size (a := e * d - c) (b := b) (A := 140000) (B := 1020) (by omega) (by omega) (by omega) b2
  have h2 := mul_size (a := a) (b := d) (A := 70000) (B := 1020) a1 a2 (by omega) d2
  have h3 := mul_size (a := b) (b := d) (A := 1020) (B := 1020) (by omega) b2 (by omega) d2
  have h4 := Int.mul_pos b1 d1
  omega
/-- Rise and Fall hold the places of each profile that the noise allows. -/
theorem rise_holds {p moves : List Int} {thr a noise : Int} (h : (edgF p thr a noise 1).2 = 0) :
    ∃ n d, fstN (alwL p moves noise) (4 * thr) a = (n, d, true) ∧ -70000 ≤ n ∧ n ≤ 70000 ∧ 0 < d ∧ d ≤ 1020 ∧ spanB (edgF p thr a noise 1).1 = true ∧ qv (edgF p thr a noise 1).1.1 ≤ (n : Rat) / (d : Rat) ∧ (n : Rat) / (d : Rat) ≤ qv (edgF p thr a noise 1).1.2 := by
  obtain ⟨hp, hq, _, s, k, j, hk, hj, e, q1, q2⟩ := edg_known (.inl rfl) h
  obtain ⟨t1, t2, a1, a2, n1, n2⟩ := ask_known hq
  obtain ⟨m, hm, m1, m2⟩ := alw_between (moves := moves) (prof_byte hp) n1 hk hj
  obtain ⟨n, d, x1, x2, x3, x4, x5, x6⟩ := fstN_some (alw_big p moves noise) (by rw [alwL_length]; exact (prof_len hp).2) a1 (by rw [alwL_length]; exact a2) hm
  refine ⟨n, d, x1, x2, x3, x4, x5, s, ?_⟩
  rw [x6, e]
  simp only [show ¬ ((1 : Int) < 0) by decide, if_false]
  rw [q1, q2, show ((1 : Int) : Rat) = 1 from rfl]
  constructor <;> grind
theorem fall_holds {p moves : List Int} {thr a noise : Int} (h : (edgF p thr a noise (-1)).2 = 0) :
    ∃ n d, fstN (alwL p moves noise).reverse (4 * thr) ((p.length : Int) - 1 - a) = (n, d, true) ∧ -70000 ≤ n ∧ n ≤ 70000 ∧ 0 < d ∧ d ≤ 1020 ∧ spanB (edgF p thr a noise (-1)).1 = true ∧
      qv (edgF p thr a noise (-1)).1.1 ≤ (((p.length : Int) - 1 : Int) : Rat) - (n : Rat) / (d : Rat) ∧ (((p.length : Int) - 1 : Int) : Rat) - (n : Rat) / (d : Rat) ≤ qv (edgF p thr a noise (-1)).1.2 := by
  obtain ⟨hp, hq, _, s, k, j, hk, hj, e, q1, q2⟩ := edg_known (.inr rfl) h
  obtain ⟨t1, t2, a1, a2, n1, n2⟩ := ask_known hq
  obtain ⟨m, hm, m1, m2⟩ := alw_between (moves := moves) (prof_byte hp) n1 hk hj
  have hr := brk_rev (p := alwL p moves noise) (thr := 4 * thr) (.inr rfl) a1 (by rw [alwL_length]; exact a2)
  have hs := stepR_rev (p := alwL p moves noise) (thr := 4 * thr) (.inr rfl) a1 (by rw [alwL_length]; exact a2) (k := m) (brk_some.1 hm).1
  rw [alwL_length, show -(-1 : Int) = 1 from rfl] at hr hs
  rw [hm] at hr
  obtain ⟨n, d, x1, x2, x3, x4, x5, x6⟩ := fstN_some (rev_big (alw_big p moves noise)) (by rw [List.length_reverse, alwL_length]; exact (prof_len hp).2) (show (0 : Int) ≤ (p.length : Int) - 1 - a by omega) (by rw [List.length_reverse, alwL_length]; omega) hr
  refine ⟨n, d, x1, x2, x3, x4, x5, s, ?_⟩
  rw [x6, e, hs]
  simp only [show (-1 : Int) < 0 by decide, if_true]
  rw [q1, q2, show ((-1 : Int) : Rat) = -1 from rfl, Rat.intCast_sub ((p.length : Int) - 1) a]
  constructor <;> grind
/-- Width holds the width of each profile that the noise allows. -/
theorem wid_holds {p moves : List Int} {thr noise : Int} (h : (widE p thr noise).2 = 0) :
    ∃ a b c d, fstN (alwL p moves noise) (4 * thr) 0 = (a, b, true) ∧ fstN (alwL p moves noise).reverse (4 * thr) 0 = (c, d, true) ∧
      (-70000 ≤ a ∧ a ≤ 70000) ∧ (0 < b ∧ b ≤ 1020) ∧ (-70000 ≤ c ∧ c ≤ 70000) ∧ (0 < d ∧ d ≤ 1020) ∧ spanB (widE p thr noise).1 = true ∧
      qv (widE p thr noise).1.1 ≤ ((((p.length : Int) - 1) * d - c) * b - a * d : Int) / ((b * d : Int) : Rat) ∧ ((((p.length : Int) - 1) * d - c) * b - a * d : Int) / ((b * d : Int) : Rat) ≤ qv (widE p thr noise).1.2 := by
  obtain ⟨hp, hq, r1, f1, s1, x1, y1⟩ := wid_known h
  obtain ⟨a, b, e1, a1, a2, b1, b2, _, q1, q2⟩ := rise_holds (moves := moves) r1
  obtain ⟨c, d, e2, c1, c2, d1, d2, _, q3, q4⟩ := fall_holds (moves := moves) f1
  rw [show (p.length : Int) - 1 - ((p.length : Int) - 1) = 0 by omega] at e2
  refine ⟨a, b, c, d, e1, e2, ⟨a1, a2⟩, ⟨b1, b2⟩, ⟨c1, c2⟩, ⟨d1, d2⟩, s1, ?_⟩
  rw [rat_wid _ b1 d1, x1, y1]
  constructor <;> grind
theorem holB_wid {s : SpT} {a b c d e : Int} (hs : spanB s = true) (ha : -70000 ≤ a ∧ a ≤ 70000) (hb : 0 < b ∧ b ≤ 1020) (hc : -70000 ≤ c ∧ c ≤ 70000) (hd : 0 < d ∧ d ≤ 1020) (e1 : 0 ≤ e) (e2 : e ≤ 63)
    (h1 : qv s.1 ≤ ((e * d - c) * b - a * d : Int) / ((b * d : Int) : Rat)) (h2 : ((e * d - c) * b - a * d : Int) / ((b * d : Int) : Rat) ≤ qv s.2) : holB s ((e * d - c) * b - a * d) (b * d) = true := by
  obtain ⟨k1, k2, k3, k4⟩ := size_wid ha.1 ha.2 hb.1 hb.2 hc.1 hc.2 hd.1 hd.2 e1 e2
  exact holB_true hs (by omega) (by omega) (by omega) (by omega) h1 h2
end Go.Proofs.Try.My
set_option maxRecDepth 100000
set_option maxHeartbeats 0
set_option linter.unusedVariables false
set_option linter.unusedSimpArgs false
namespace Go.Proofs.Try.My
open Go Go.Ev

end Go.Proofs.Try.My
set_option maxRecDepth 100000
set_option maxHeartbeats 0
set_option linter.unusedVariables false
set_option linter.unusedSimpArgs false
namespace Go.Proofs.Try.My
open Go Go.Ev

abbrev e16 (n : Int) : List AV := [.int .i16 n]
abbrev i16s (l : List Int) : AV := .sl 1 0 e16 l
theorem wf_i16 {n : Int} (h : (Lit.int .i16 n).wf = true) : -32768 ≤ n ∧ n ≤ 32767 := by
  simp [Lit.wf, IntKind.min, IntKind.max, IntKind.signed, IntKind.bits] at h
  omega
theorem get_i16 {moves : List Int} (h : ∀ n ∈ moves, (Lit.int .i16 n).wf = true) {k : Nat} (hk : k < moves.length) : -32768 ≤ moves.getD k 0 ∧ moves.getD k 0 ≤ 32767 := by
  have : moves.getD k 0 ∈ moves := by
    simp only [List.getD, List.getElem?_eq_getElem hk, Option.getD_some]
    exact List.getElem_mem hk
  exact wf_i16 (h _ this)
theorem pc_first (q : List Int) (thr a : Int) (hq : bigL q) (hl : q.length ≤ 64) (ha : 0 ≤ a) (hn : a < q.length) :
    PC Try.prog 27 [ints q, i64 thr, i64 a] (.tup [i64 (fstN q thr a).1, i64 (fstN q thr a).2.1, .bool (fstN q thr a).2.2]) := by
  have hs : stepsN q.length a 1 = ((q.length : Int) - a).toNat := by simp [stepsN]
  have at0 : atK q a 1 0 = q.getD a.toNat 0 := by unfold atK; simp
  refine pc_of_bodyF hm Try.func27 (by kernel_rfl) ?_
  conv => whnf
  refine ⟨⟨by omega, by omega⟩, ?_⟩
  (conv => whnf)
  refine ⟨fun h => ?_, fun h => ?_⟩
  · have h := of_decide_eq_true h
    have hk : brk q thr a 1 = some 0 := brk_some.2 ⟨by omega, by rw [at0]; exact h, fun j hj => absurd hj (Nat.not_lt_zero j)⟩
    have e : fstN q thr a = (a, 1, true) := by unfold fstN; rw [hk]; rfl
    rw [e]
    (conv => whnf)
  have h := of_decide_eq_false h
  have b0 := hq a.toNat (by omega)
  (conv => whnf)
  refine Or.inr ⟨Nat, [9], [], [], fun k => [i64 (a + ((k + 1 : Nat) : Int))], fun _ => [], fun _ => [], fun k => q.length - (a + ((k + 1 : Nat) : Int)).toNat, fun k => a + ((k + 1 : Nat) : Int) ≤ q.length ∧ ∀ j, j ≤ k → atK q a 1 j < thr, ?_⟩
  (conv => whnf)
  refine ⟨⟨0, ?_⟩, ?_⟩
  · (conv => whnf)
    refine ⟨⟨⟨by omega, fun j hj => ?_⟩, ?_, rfl, rfl⟩, by kernel_rfl, by kernel_rfl⟩
    · obtain rfl : j = 0 := by omega
      rw [at0]; omega
    · rw [w64 _ (by omega) (by omega)]; rfl
  · intro k ⟨hk, hlow⟩
    have at1 : atK q a 1 (k + 1) = q.getD (a + ((k + 1 : Nat) : Int)).toNat 0 := by unfold atK; rw [Int.one_mul]
    have atm : atK q a 1 k = q.getD (a + (k : Int)).toNat 0 := by unfold atK; rw [Int.one_mul]
    (conv => whnf)
    refine ⟨fun h2 => ?_, fun h2 => ?_⟩
    · have h2 := of_decide_eq_true h2
      (conv => whnf)
      refine ⟨⟨by omega, by omega⟩, ?_⟩
      (conv => whnf)
      have b1 := hq (a + ((k + 1 : Nat) : Int)).toNat (by omega)
      have b2 := hq (a + (k : Int)).toNat (by omega)
      have wd : IntKind.i64.wrap (a + ((k + 1 : Nat) : Int) - 1) = a + (k : Int) := by rw [w64 _ (by omega) (by omega)]; omega
      have l0 := hlow k (Nat.le_refl k)
      refine ⟨fun h3 => ?_, fun h3 => ?_⟩
      · have h3 := of_decide_eq_true h3
        have hbk : brk q thr a 1 = some (k + 1) := brk_some.2 ⟨by omega, by rw [at1]; exact h3, fun j hj => hlow j (by omega)⟩
        have e : fstN q thr a = ((a + (k : Int)) * (q.getD (a + ((k + 1 : Nat) : Int)).toNat 0 - q.getD (a + (k : Int)).toNat 0) + (thr - q.getD (a + (k : Int)).toNat 0), q.getD (a + ((k + 1 : Nat) : Int)).toNat 0 - q.getD (a + (k : Int)).toNat 0, true) := by
          unfold fstN
          rw [hbk]
          simp only [placeN]
          rw [at1, atm, Int.one_mul, Int.one_mul]
        rw [e]
        rw [atm] at l0
        (conv => whnf)
        (repeat' (first | (refine ⟨by kernel_rfl, ?_⟩; (conv => whnf)) | fail))
        refine ⟨⟨by omega, by omega⟩, ?_⟩
        (conv => whnf)
        rw [wd]
        refine ⟨⟨by omega, by omega⟩, ?_⟩
        (conv => whnf)
        (repeat' (first | (refine ⟨by kernel_rfl, ?_⟩; (conv => whnf)) | (refine And.intro (a := _ ∧ _) ⟨by omega, by omega⟩ ?_; (conv => whnf))))
        rw [wd]
        have w1 : IntKind.i64.wrap (q.getD (a + ((k + 1 : Nat) : Int)).toNat 0 - q.getD (a + (k : Int)).toNat 0) = q.getD (a + ((k + 1 : Nat) : Int)).toNat 0 - q.getD (a + (k : Int)).toNat 0 := w64 _ (by omega) (by omega)
        have ms := mul_size (a := a + (k : Int)) (b := q.getD (a + ((k + 1 : Nat) : Int)).toNat 0 - q.getD (a + (k : Int)).toNat 0) (A := 63) (B := 1020) (by omega) (by omega) (by omega) (by omega)
        rw [w1, w64 ((a + (k : Int)) * (q.getD (a + ((k + 1 : Nat) : Int)).toNat 0 - q.getD (a + (k : Int)).toNat 0)) (by omega) (by omega)]
        generalize (a + (k : Int)) * (q.getD (a + ((k + 1 : Nat) : Int)).toNat 0 - q.getD (a + (k : Int)).toNat 0) = m at *
        rw [w64 (m + thr) (by omega) (by omega), w64 _ (by omega) (by omega)]
        rw [show m + thr - q.getD (a + (k : Int)).toNat 0 = m + (thr - q.getD (a + (k : Int)).toNat 0) by omega]
      · have h3 := of_decide_eq_false h3
        (conv => whnf)
        refine ⟨k + 1, ?_⟩
        (conv => whnf)
        refine ⟨⟨⟨by show q.length - (a + ((k + 1 + 1 : Nat) : Int)).toNat < q.length - (a + ((k + 1 : Nat) : Int)).toNat; omega, by omega, fun j hj => ?_⟩, ?_, rfl, rfl⟩, by kernel_rfl, by kernel_rfl⟩
        · by_cases e : j = k + 1
          · subst e; rw [at1]; omega
          · exact hlow j (by omega)
        · rw [w64 _ (by omega) (by omega)]
          show [i64 (a + ((k + 1 : Nat) : Int) + 1)] = [i64 (a + ((k + 1 + 1 : Nat) : Int))]
          rw [show a + ((k + 1 : Nat) : Int) + 1 = a + ((k + 1 + 1 : Nat) : Int) by omega]
    · have h2 := of_decide_eq_false h2
      have hbk : brk q thr a 1 = none := brk_none.2 fun j hj => hlow j (by omega)
      have e := fstN_none hbk
      rw [e]
      (conv => whnf)
end Go.Proofs.Try.My
