/- A helper text: contracts of functions of the program, and plain lemmas. -/
import Derived.Test.YtiimhccemdcnpaaGreatMzMr0
import Derived.Test.YtiimhccemdcnpaaGreatMzGcA
import Derived.Test.YtiimhccemdcnpaaGreatMzDd0
set_option maxRecDepth 100000
set_option maxHeartbeats 0
set_option linter.unusedVariables false
set_option linter.unusedSimpArgs false
namespace Go.Proofs.Tryz.My
open Go Go.Ev

/-! ### Profiles in quarters -/
def byQ (moves : List Int) (noise : Int) (i : Nat) : Int := if i < moves.length then Int.tmod (moves.getD i 0) (4 * noise + 1) else 0
def clipQ (v : Int) : Int := if (if v > 0 then v else 0) < 1020 then (if v > 0 then v else 0) else 1020
def valQ (p moves : List Int) (noise : Int) (i : Nat) : Int := clipQ (4 * p.getD i 0 + byQ moves noise i)
/-- The profile that the noise allows. -/
def alwL (p moves : List Int) (noise : Int) : List Int := (List.range p.length).map (valQ p moves noise)
theorem alwL_length (p moves : List Int) (noise : Int) : (alwL p moves noise).length = p.length := by simp [alwL]
theorem alwL_getD (p moves : List Int) (noise : Int) (i : Nat) : (alwL p moves noise).getD i 0 = if i < p.length then valQ p moves noise i else 0 := by
  unfold alwL
  by_cases h : i < p.length
  · rw [if_pos h]; simp [List.getD, h]
  · rw [if_neg h]; simp [List.getD, h]
theorem clipQ_bounds (v : Int) : 0 ≤ clipQ v ∧ clipQ v ≤ 1020 := by unfold clipQ; split <;> split at * <;> omega
theorem byQ_bounds (moves : List Int) {noise : Int} (h : 0 ≤ noise) (i : Nat) : -(4 * noise) ≤ byQ moves noise i ∧ byQ moves noise i ≤ 4 * noise := by
  unfold byQ
  split
  · generalize moves.getD i 0 = m
    have h1 := Int.tmod_lt_of_pos m (b := 4 * noise + 1) (by omega)
    have h2 := Int.neg_tmod (a := m) (b := 4 * noise + 1)
    have h3 := Int.tmod_lt_of_pos (-m) (b := 4 * noise + 1) (by omega)
    omega
  · omega
def sclL (p : List Int) : List Int := p.map (fun v => 4 * v)
theorem sclL_length (p : List Int) : (sclL p).length = p.length := by simp [sclL]
theorem sclL_getD (p : List Int) (i : Nat) : (sclL p).getD i 0 = 4 * p.getD i 0 := by
  unfold sclL
  by_cases h : i < p.length
  · simp [List.getD, h]
  · simp [List.getD, h]
theorem atK_scl (p : List Int) (a d : Int) (k : Nat) : atK (sclL p) a d k = 4 * atK p a d k := sclL_getD p _
theorem brk_scl (p : List Int) (thr a d : Int) : brk (sclL p) (4 * thr) a d = brk p thr a d := by
  cases h : brk p thr a d with
  | none =>
    rw [brk_none] at h ⊢
    intro j hj
    rw [sclL_length] at hj
    have := h j hj
    rw [atK_scl]; omega
  | some k =>
    rw [brk_some] at h ⊢
    obtain ⟨h1, h2, h3⟩ := h
    rw [sclL_length, atK_scl]
    refine ⟨h1, by omega, fun j hj => ?_⟩
    have := h3 j hj
    rw [atK_scl]; omega
theorem stepR_scl (p : List Int) {thr a d : Int} {k : Nat} (h1 : thr ≤ atK p a d k) (h2 : ∀ j, j < k → atK p a d j < thr) : stepR (atK (sclL p) a d) (4 * thr) k = stepR (atK p a d) thr k := by
  cases k with
  | zero => rfl
  | succ k =>
    have h3 := h2 k (by omega)
    rw [stepR_succ, stepR_succ, atK_scl, atK_scl]
    congr 1
    rw [div_eq_div (cast_ne (by omega)) (cast_ne (by omega)), cast_eq_mul]
    grind
theorem alw_low {p moves : List Int} {noise : Int} (hb : byteL p) (h : 0 ≤ noise) (i : Nat) : (sclL (movL p (-noise))).getD i 0 ≤ (alwL p moves noise).getD i 0 := by
  rw [sclL_getD, movL_getD, alwL_getD]
  split
  · have := byQ_bounds moves h i
    have hv := hb i (by assumption)
    unfold valQ clipQ clipL
    split <;> (try split) <;> (try split) <;> (try split) <;> omega
  · omega
theorem alw_upp {p moves : List Int} {noise : Int} (hb : byteL p) (h : 0 ≤ noise) (i : Nat) : (alwL p moves noise).getD i 0 ≤ (sclL (movL p noise)).getD i 0 := by
  rw [sclL_getD, movL_getD, alwL_getD]
  split
  · have := byQ_bounds moves h i
    have hv := hb i (by assumption)
    unfold valQ clipQ clipL
    split <;> (try split) <;> (try split) <;> (try split) <;> omega
  · omega
/-- The first bright place of a profile that the noise allows lies between those of the upper and of the lower one. -/
theorem alw_between {p moves : List Int} {thr a noise d : Int} (hb : byteL p) (h : 0 ≤ noise) {k j : Nat} (hk : brk (movL p (-noise)) thr a d = some k) (hj : brk (movL p noise) thr a d = some j) :
    ∃ m, brk (alwL p moves noise) (4 * thr) a d = some m ∧ stepR (atK (movL p noise) a d) thr j ≤ stepR (atK (alwL p moves noise) a d) (4 * thr) m ∧ stepR (atK (alwL p moves noise) a d) (4 * thr) m ≤ stepR (atK (movL p (-noise)) a d) thr k := by
  have hk' : brk (sclL (movL p (-noise))) (4 * thr) a d = some k := by rw [brk_scl]; exact hk
  obtain ⟨m, hm, _, m1⟩ := brk_mono (q := alwL p moves noise) (by simp [sclL_length, movL_length, alwL_length]) (alw_low hb h) hk'
  obtain ⟨j2, hj2, _, m2⟩ := brk_mono (q := sclL (movL p noise)) (by simp [sclL_length, movL_length, alwL_length]) (alw_upp hb h) hm
  rw [brk_scl] at hj2
  obtain rfl : j2 = j := by rw [hj] at hj2; exact (Option.some.inj hj2).symm
  obtain ⟨_, k1, k2⟩ := brk_some.1 hk
  obtain ⟨_, j1, j2⟩ := brk_some.1 hj
  rw [stepR_scl _ k1 k2] at m1
  rw [stepR_scl _ j1 j2] at m2
  exact ⟨m, hm, m2, m1⟩
/-- A bright place in quarters makes the upper profile bright. -/
theorem alw_upper {p moves : List Int} {thr a noise d : Int} (hb : byteL p) (h : 0 ≤ noise) {m : Nat} (hm : brk (alwL p moves noise) (4 * thr) a d = some m) : ∃ j, brk (movL p noise) thr a d = some j := by
  obtain ⟨j2, hj2, _, m2⟩ := brk_mono (q := sclL (movL p noise)) (by simp [sclL_length, movL_length, alwL_length]) (alw_upp hb h) hm
  rw [brk_scl] at hj2
  exact ⟨j2, hj2⟩
/-- What the law's own 'first' returns. -/
def fstN (q : List Int) (thr a : Int) : Int × Int × Bool :=
  match brk q thr a 1 with
  | none => (0, 1, false)
  | some k => ((placeN q thr a 1 k).1, (placeN q thr a 1 k).2, true)
def bigL (q : List Int) : Prop := ∀ i, i < q.length → 0 ≤ q.getD i 0 ∧ q.getD i 0 ≤ 1020
theorem alw_big (p moves : List Int) (noise : Int) : bigL (alwL p moves noise) := fun i hi => by
  rw [alwL_length] at hi
  rw [alwL_getD, if_pos hi]
  exact clipQ_bounds _
theorem rev_big {q : List Int} (h : bigL q) : bigL q.reverse := fun i hi => by
  simp at hi
  rw [rev_getD q hi]
  exact h _ (by omega)
theorem placeN_big {q : List Int} (hq : bigL q) (hl : q.length ≤ 64) {thr a : Int} (ha : 0 ≤ a) (hn : a < q.length) {k : Nat} (h : brk q thr a 1 = some k) :
    -70000 ≤ (placeN q thr a 1 k).1 ∧ (placeN q thr a 1 k).1 ≤ 70000 ∧ 0 < (placeN q thr a 1 k).2 ∧ (placeN q thr a 1 k).2 ≤ 1020 := by
  obtain ⟨h1, h2, h3⟩ := brk_some.1 h
  cases k with
  | zero => simp only [placeN]; omega
  | succ k =>
    have b0 := h3 k (by omega)
    simp [stepsN] at h1
    have e1 : (a + 1 * ((k + 1 : Nat) : Int)).toNat < q.length := by omega
    have e2 : (a + 1 * (k : Int)).toNat < q.length := by omega
    have b1 := hq _ e1
    have b2 := hq _ e2
    simp only [placeN]
    unfold atK at *
    generalize q.getD (a + 1 * ((k + 1 : Nat) : Int)).toNat 0 = u at *
    generalize q.getD (a + 1 * (k : Int)).toNat 0 = v at *
    have m1 : (a + 1 * (k : Int)) * (u - v) ≤ 63 * (u - v) := Int.mul_le_mul_of_nonneg_right (by omega) (by omega)
    have m2 : 0 ≤ (a + 1 * (k : Int)) * (u - v) := Int.mul_nonneg (by omega) (by omega)
    generalize (a + 1 * (k : Int)) * (u - v) = w at *
    omega
theorem fstN_some {q : List Int} (hq : bigL q) (hl : q.length ≤ 64) {thr a : Int} (ha : 0 ≤ a) (hn : a < q.length) {k : Nat} (h : brk q thr a 1 = some k) :
    ∃ n d : Int, fstN q thr a = (n, d, true) ∧ -70000 ≤ n ∧ n ≤ 70000 ∧ 0 < d ∧ d ≤ 1020 ∧ (n : Rat) / (d : Rat) = (a : Rat) + stepR (atK q a 1) thr k := by
  obtain ⟨b1, b2, b3, b4⟩ := placeN_big hq hl ha hn h
  obtain ⟨h1, h2, h3⟩ := brk_some.1 h
  obtain ⟨_, v⟩ := placeN_val h2 h3
  refine ⟨_, _, by unfold fstN; rw [h], b1, b2, b3, b4, ?_⟩
  rw [v, show ((1 : Int) : Rat) = 1 from rfl]
  grind
theorem fstN_none {q : List Int} {thr a : Int} (h : brk q thr a 1 = none) : fstN q thr a = (0, 1, false) := by unfold fstN; rw [h]
theorem fstN_small {q : List Int} (hq : bigL q) (hl : q.length ≤ 64) {thr a : Int} (ha : 0 ≤ a) (hn : a < q.length) : -70000 ≤ (fstN q thr a).1 ∧ (fstN q thr a).1 ≤ 70000 ∧ 0 < (fstN q thr a).2.1 ∧ (fstN q thr a).2.1 ≤ 1020 := by
  cases h : brk q thr a 1 with
  | none => rw [fstN_none h]; decide
  | some k =>
    obtain ⟨n, d, e, x1, x2, x3, x4, _⟩ := fstN_some hq hl ha hn h
    rw [e]
    exact ⟨x1, x2, x3, x4⟩
/-- Whether a span holds a quotient. -/
def holB (s : SpT) (n d : Int) : Bool := decide ((makeF n d).2 = 0) && (spanB s && validB (makeF n d).1 && hasB s (makeF n d).1)
theorem holB_true {s : SpT} {n d : Int} (hs : spanB s = true) (n1 : -1000000000 ≤ n) (n2 : n ≤ 1000000000) (d1 : 0 < d) (d2 : d ≤ 2000000) (h1 : qv s.1 ≤ (n : Rat) / (d : Rat)) (h2 : (n : Rat) / (d : Rat) ≤ qv s.2) : holB s n d = true := by
  obtain ⟨v, e, q⟩ := makeF_small (n := n) (d := d) (by omega) (by omega) d1 (by omega)
  obtain ⟨s1, s2, _⟩ := spanB_qv.1 hs
  unfold holB
  rw [e, hs, v, (hasB_qv s1 s2 v).2 ⟨by rw [q]; exact h1, by rw [q]; exact h2⟩]
  rfl
theorem rat_end {n d : Int} (e : Int) (hd : 0 < d) : ((e * d - n : Int) : Rat) / (d : Rat) = (e : Rat) - (n : Rat) / (d : Rat) := by
  have := cast_pos hd
  rw [Rat.intCast_sub, Rat.intCast_mul]
  grind
theorem rat_wid {a b c d : Int} (e : Int) (hb : 0 < b) (hd : 0 < d) : (((e * d - c) * b - a * d : Int) : Rat) / ((b * d : Int) : Rat) = ((e : Rat) - (c : Rat) / (d : Rat)) - (a : Rat) / (b : Rat) := by
  have := cast_pos hb
  have := cast_pos hd
  rw [Rat.intCast_sub, Rat.intCast_mul, Rat.intCast_mul, Rat.intCast_sub, Rat.intCast_mul, Rat.intCast_mul]
  generalize (a : Rat) = A at *
  generalize (b : Rat) = B at *
  generalize (c : Rat) = C at *
  generalize (d : Rat) = D at *
  generalize (e : Rat) = E at *
  have e1 : A / B * B = A := by grind
  have e2 : C / D * D = C := by grind
  have hBD : B * D ≠ 0 := by
    have := Rat.mul_pos (a := B) (b := D) (by assumption) (by assumption)
    grind
  have : ((E - C / D) - A / B) * (B * D) = (E * D - C) * B - A * D := by grind
  rw [← this]
  grind
theorem mul_size {a b A B : Int} (h1 : -A ≤ a) (h2 : a ≤ A) (h3 : 0 ≤ b) (h4 : b ≤ B) : -(A * B) ≤ a * b ∧ a * b ≤ A * B := by
  have k1 : a * b ≤ A * b := Int.mul_le_mul_of_nonneg_right h2 h3
  have k2 : (-A) * b ≤ a * b := Int.mul_le_mul_of_nonneg_right h1 h3
  have k3 : A * b ≤ A * B := Int.mul_le_mul_of_nonneg_left h4 (by omega)
  have k4 : (-A) * b = -(A * b) := by grind
  omega
theorem size_end {n d e : Int} (n1 : -70000 ≤ n) (n2 : n ≤ 70000) (d1 : 0 < d) (d2 : d ≤ 1020) (e1 : 0 ≤ e) (e2 : e ≤ 63) : -140000 ≤ e * d - n ∧ e * d - n ≤ 140000 ∧ -70000 ≤ e * d ∧ e * d ≤ 70000 := by
  have h := mul_size (a := e) (b := d) (A := 63) (B := 1020) (by omega) e2 (by omega) d2
  omega
theorem size_wid {a b c d e : Int} (a1 : -70000 ≤ a) (a2 : a ≤ 70000) (b1 : 0 < b) (b2 : b ≤ 1020) (c1 : -70000 ≤ c) (c2 : c ≤ 70000) (d1 : 0 < d) (d2 : d ≤ 1020) (e1 : 0 ≤ e) (e2 : e ≤ 63) :
    (-300000000 ≤ (e * d - c) * b - a * d ∧ (e * d - c) * b - a * d ≤ 300000000) ∧ (0 < b * d ∧ b * d ≤ 1040400) ∧ (-200000000 ≤ (e * d - c) * b ∧ (e * d - c) * b ≤ 200000000) ∧ (-200000000 ≤ a * d ∧ a * d ≤ 200000000) := by
  have h := size_end c1 c2 d1 d2 e1 e2
  have h1 := mul_size (a := e * d - c) (b := b) (A := 140000) (B := 1020) (by omega) (by omega) (by omega) b2
  have h2 := mul_size (a := a) (b := d) (A := 70000) (B := 1020) a1 a2 (by omega) d2
  have h3 := mul_size (a := b) (b := d) (A := 1020) (B := 1020) (by omega) b2 (by omega) d2
  have h4 := Int.mul_pos b1 d1
  omega
/-- Rise and Fall hold the places of each profile that the noise allows. -/
theorem rise_holds {p moves : List Int} {thr a noise : Int} (h : (edgF p thr a noise 1).2 = 0) :
    ∃ n d, fstN (alwL p moves noise) (4 * thr) a = (n, d, true) ∧ -70000 ≤ n ∧ n ≤ 70000 ∧ 0 < d ∧ d ≤ 1020 ∧ spanB (edgF p thr a noise 1).1 = true ∧ qv (edgF p thr a noise 1).1.1 ≤ (n : Rat) / (d : Rat) ∧ (n : Rat) / (d : Rat) ≤ qv (edgF p thr a noise 1).1.2 := by
  obtain ⟨hp, hq, _, s, k, j, hk, hj, e, q1, q2⟩ := edg_known (.inl rfl) h
  obtain ⟨t1, t2, a1, a2, n1, n2⟩ := ask_known hq
  obtain ⟨m, hm, m1, m2⟩ := alw_between (moves := moves) (prof_byte hp) n1 hk hj
  obtain ⟨n, d, x1, x2, x3, x4, x5, x6⟩ := fstN_some (alw_big p moves noise) (by rw [alwL_length]; exact (prof_len hp).2) a1 (by rw [alwL_length]; exact a2) hm
  refine ⟨n, d, x1, x2, x3, x4, x5, s, ?_⟩
  rw [x6, e]
  simp only [show ¬ ((1 : Int) < 0) by decide, if_false]
  rw [q1, q2, show ((1 : Int) : Rat) = 1 from rfl]
  constructor <;> grind
theorem fall_holds {p moves : List Int} {thr a noise : Int} (h : (edgF p thr a noise (-1)).2 = 0) :
    ∃ n d, fstN (alwL p moves noise).reverse (4 * thr) ((p.length : Int) - 1 - a) = (n, d, true) ∧ -70000 ≤ n ∧ n ≤ 70000 ∧ 0 < d ∧ d ≤ 1020 ∧ spanB (edgF p thr a noise (-1)).1 = true ∧
      qv (edgF p thr a noise (-1)).1.1 ≤ (((p.length : Int) - 1 : Int) : Rat) - (n : Rat) / (d : Rat) ∧ (((p.length : Int) - 1 : Int) : Rat) - (n : Rat) / (d : Rat) ≤ qv (edgF p thr a noise (-1)).1.2 := by
  obtain ⟨hp, hq, _, s, k, j, hk, hj, e, q1, q2⟩ := edg_known (.inr rfl) h
  obtain ⟨t1, t2, a1, a2, n1, n2⟩ := ask_known hq
  obtain ⟨m, hm, m1, m2⟩ := alw_between (moves := moves) (prof_byte hp) n1 hk hj
  have hr := brk_rev (p := alwL p moves noise) (thr := 4 * thr) (.inr rfl) a1 (by rw [alwL_length]; exact a2)
  have hs := stepR_rev (p := alwL p moves noise) (thr := 4 * thr) (.inr rfl) a1 (by rw [alwL_length]; exact a2) (k := m) (brk_some.1 hm).1
  rw [alwL_length, show -(-1 : Int) = 1 from rfl] at hr hs
  rw [hm] at hr
  obtain ⟨n, d, x1, x2, x3, x4, x5, x6⟩ := fstN_some (rev_big (alw_big p moves noise)) (by rw [List.length_reverse, alwL_length]; exact (prof_len hp).2) (show (0 : Int) ≤ (p.length : Int) - 1 - a by omega) (by rw [List.length_reverse, alwL_length]; omega) hr
  refine ⟨n, d, x1, x2, x3, x4, x5, s, ?_⟩
  rw [x6, e, hs]
  simp only [show (-1 : Int) < 0 by decide, if_true]
  rw [q1, q2, show ((-1 : Int) : Rat) = -1 from rfl, Rat.intCast_sub ((p.length : Int) - 1) a]
  constructor <;> grind
/-- Width holds the width of each profile that the noise allows. -/
theorem wid_holds {p moves : List Int} {thr noise : Int} (h : (widE p thr noise).2 = 0) :
    ∃ a b c d, fstN (alwL p moves noise) (4 * thr) 0 = (a, b, true) ∧ fstN (alwL p moves noise).reverse (4 * thr) 0 = (c, d, true) ∧
      (-70000 ≤ a ∧ a ≤ 70000) ∧ (0 < b ∧ b ≤ 1020) ∧ (-70000 ≤ c ∧ c ≤ 70000) ∧ (0 < d ∧ d ≤ 1020) ∧ spanB (widE p thr noise).1 = true ∧
      qv (widE p thr noise).1.1 ≤ ((((p.length : Int) - 1) * d - c) * b - a * d : Int) / ((b * d : Int) : Rat) ∧ ((((p.length : Int) - 1) * d - c) * b - a * d : Int) / ((b * d : Int) : Rat) ≤ qv (widE p thr noise).1.2 := by
  obtain ⟨hp, hq, r1, f1, s1, x1, y1⟩ := wid_known h
  obtain ⟨a, b, e1, a1, a2, b1, b2, _, q1, q2⟩ := rise_holds (moves := moves) r1
  obtain ⟨c, d, e2, c1, c2, d1, d2, _, q3, q4⟩ := fall_holds (moves := moves) f1
  rw [show (p.length : Int) - 1 - ((p.length : Int) - 1) = 0 by omega] at e2
  refine ⟨a, b, c, d, e1, e2, ⟨a1, a2⟩, ⟨b1, b2⟩, ⟨c1, c2⟩, ⟨d1, d2⟩, s1, ?_⟩
  rw [rat_wid _ b1 d1, x1, y1]
  constructor <;> grind
theorem holB_wid {s : SpT} {a b c d e : Int} (hs : spanB s = true) (ha : -70000 ≤ a ∧ a ≤ 70000) (hb : 0 < b ∧ b ≤ 1020) (hc : -70000 ≤ c ∧ c ≤ 70000) (hd : 0 < d ∧ d ≤ 1020) (e1 : 0 ≤ e) (e2 : e ≤ 63)
    (h1 : qv s.1 ≤ ((e * d - c) * b - a * d : Int) / ((b * d : Int) : Rat)) (h2 : ((e * d - c) * b - a * d : Int) / ((b * d : Int) : Rat) ≤ qv s.2) : holB s ((e * d - c) * b - a * d) (b * d) = true := by
  obtain ⟨k1, k2, k3, k4⟩ := size_wid ha.1 ha.2 hb.1 hb.2 hc.1 hc.2 hd.1 hd.2 e1 e2
  exact holB_true hs (by omega) (by omega) (by omega) (by omega) h1 h2
end Go.Proofs.Tryz.My
