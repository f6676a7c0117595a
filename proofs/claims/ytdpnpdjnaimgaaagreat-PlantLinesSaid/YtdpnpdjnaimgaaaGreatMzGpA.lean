/- A helper text: contracts of functions of the program, and plain lemmas. -/
import Derived.Test.YtdpnpdjnaimgaaaGreatMzExB
set_option maxRecDepth 100000
set_option maxHeartbeats 0
set_option linter.unusedVariables false
set_option linter.unusedSimpArgs false
namespace Go.Proofs.Tryz.My
open Go Go.Ev
theorem makeF_small {n d : Int} (h1 : -4611686018427387903 ≤ n) (h2 : n ≤ 4611686018427387903) (h3 : 0 < d) (h4 : d ≤ 4611686018427387903) : validB (makeF n d).1 = true ∧ (makeF n d).2 = 0 ∧ qv (makeF n d).1 = (n : Rat) / (d : Rat) := by
  rcases makeF_fits (n := n) (d := d) (by omega) with h | ⟨h, h0⟩
  · exact h
  · exfalso
    have hg : 0 < Nat.gcd n.natAbs d.natAbs := Nat.gcd_pos_of_pos_right _ (by omega)
    rw [makeF_pos h3] at h
    unfold madeF at h
    have k1 : n.natAbs / Nat.gcd n.natAbs d.natAbs ≤ 4611686018427387903 := Nat.le_trans (Nat.div_le_self _ _) (by omega)
    have k2 : d.natAbs / Nat.gcd n.natAbs d.natAbs ≤ 4611686018427387903 := Nat.le_trans (Nat.div_le_self _ _) (by omega)
    simp [k1, k2] at h
theorem fits_small {n d : Int} {x : Rat} {r : (Int × Int) × Int} (h : Fits x r) (hx : x = (n : Rat) / (d : Rat)) (h1 : -4611686018427387903 ≤ n) (h2 : n ≤ 4611686018427387903) (h3 : 0 < d) (h4 : d ≤ 4611686018427387903) : validB r.1 = true ∧ r.2 = 0 ∧ qv r.1 = x := by
  have h5 := makeF_small h1 h2 h3 h4
  have h6 := makeF_fits (n := n) (d := d) (by omega)
  rw [← hx] at h6 h5
  rw [h.unique h6]
  exact h5
theorem valid_one {n : Int} (h1 : -4611686018427387903 ≤ n) (h2 : n ≤ 4611686018427387903) : validB (n, 1) = true := by
  rw [validB_iff]
  simp only []
  refine ⟨by omega, by omega, h1, h2, ?_⟩
  show Nat.gcd n.natAbs 1 = 1
  exact Nat.gcd_one_right _
theorem qv_one (n : Int) : qv (n, 1) = n := by
  unfold qv
  simp only [Rat.intCast_one]
  grind
theorem makeF_one {n : Int} (h1 : -4611686018427387903 ≤ n) (h2 : n ≤ 4611686018427387903) : makeF n 1 = ((n, 1), 0) := by
  have h := makeF_fits (n := n) (d := 1) (by omega)
  have e : (n : Rat) / ((1 : Int) : Rat) = n := by simp only [Rat.intCast_one]; grind
  rw [e] at h
  exact h.unique (.inl ⟨valid_one h1 h2, rfl, qv_one n⟩)
theorem add_part {w N s : Int} (hw1 : -4611686018427387903 ≤ w) (hw2 : w ≤ 4611686018427387903) (h1 : -4611686018427387903 ≤ N) (h2 : N ≤ 4611686018427387903) (h3 : 0 < s) (h4 : s ≤ 4611686018427387903) : addF (w, 1) (makeF N s).1 = makeF (w * s + N) s := by
  obtain ⟨v, _, q⟩ := makeF_small h1 h2 h3 h4
  have h := addF_fits (valid_one hw1 hw2) v
  rw [qv_one, q] at h
  have k := makeF_fits (n := w * s + N) (d := s) (by omega)
  have e : ((w * s + N : Int) : Rat) / (s : Rat) = (w : Rat) + (N : Rat) / (s : Rat) := by
    have := cast_pos h3
    rw [Rat.intCast_add, Rat.intCast_mul]
    grind
  rw [e] at k
  exact h.unique k
def stepsN (n : Nat) (a d : Int) : Nat := if d < 0 then (a + 1).toNat else ((n : Int) - a).toNat
def atK (p : List Int) (a d : Int) (k : Nat) : Int := p.getD (a + d * k).toNat 0
def brkB (p : List Int) (thr a d : Int) (k : Nat) : Bool := decide (thr ≤ atK p a d k)
def brk (p : List Int) (thr a d : Int) : Option Nat := (List.range (stepsN p.length a d)).find? (brkB p thr a d)
theorem brk_some {p : List Int} {thr a d : Int} {k : Nat} : brk p thr a d = some k ↔ k < stepsN p.length a d ∧ thr ≤ atK p a d k ∧ ∀ j, j < k → atK p a d j < thr := by
  unfold brk
  rw [List.find?_range_eq_some]
  simp only [brkB, decide_eq_true_eq, List.mem_range, Bool.not_eq_true', decide_eq_false_iff_not, Int.not_le]
  constructor
  · rintro ⟨a, b, c⟩; exact ⟨b, a, c⟩
  · rintro ⟨a, b, c⟩; exact ⟨b, a, c⟩
theorem brk_none {p : List Int} {thr a d : Int} : brk p thr a d = none ↔ ∀ j, j < stepsN p.length a d → atK p a d j < thr := by
  unfold brk
  rw [List.find?_range_eq_none]
  simp only [brkB, Bool.not_eq_true', decide_eq_false_iff_not, Int.not_le]
def placeN (p : List Int) (thr a d : Int) : Nat → Int × Int
  | 0 => (a, 1)
  | k + 1 => ((a + d * k) * (atK p a d (k + 1) - atK p a d k) + d * (thr - atK p a d k), atK p a d (k + 1) - atK p a d k)
def placeF (p : List Int) (thr a d : Int) (k : Nat) : Int × Int := (makeF (placeN p thr a d k).1 (placeN p thr a d k).2).1
def brF (p : List Int) (thr a d : Int) : (Int × Int) × Bool :=
  match brk p thr a d with
  | none => ((0, 0), false)
  | some k => (placeF p thr a d k, true)
def stepR (c : Nat → Int) (thr : Int) : Nat → Rat
  | 0 => 0
  | k + 1 => (k : Rat) + ((thr - c k : Int) : Rat) / ((c (k + 1) - c k : Int) : Rat)
theorem stepR_succ (c : Nat → Int) (thr : Int) (k : Nat) : stepR c thr (k + 1) = (k : Rat) + ((thr - c k : Int) : Rat) / ((c (k + 1) - c k : Int) : Rat) := rfl
theorem stepR_bounds {c : Nat → Int} {thr : Int} {k : Nat} (h1 : thr ≤ c (k + 1)) (h2 : c k < thr) : (k : Rat) < stepR c thr (k + 1) ∧ stepR c thr (k + 1) ≤ (k : Rat) + 1 := by
  have hd := cast_pos (show 0 < c (k + 1) - c k by omega)
  have hn := cast_pos (show 0 < thr - c k by omega)
  have hle : ((thr - c k : Int) : Rat) ≤ ((c (k + 1) - c k : Int) : Rat) := Rat.intCast_le_intCast.2 (by omega)
  rw [stepR_succ]
  generalize ((thr - c k : Int) : Rat) = N at *
  generalize ((c (k + 1) - c k : Int) : Rat) = D at *
  have e1 : N / D * D = N := by grind
  have p1 : 0 < N / D := by
    rw [← ratmul_lt hd, e1]; grind
  have p2 : N / D ≤ 1 := by
    refine Rat.not_lt.1 fun h => ?_
    rw [← ratmul_lt hd, e1] at h
    grind
  exact ⟨by grind, by grind⟩
theorem stepR_mono {c e : Nat → Int} {thr : Int} {k j : Nat} (hce : ∀ i, i ≤ k → c i ≤ e i) (hk : thr ≤ c k) (hk' : ∀ i, i < k → c i < thr) (hj : thr ≤ e j) (hj' : ∀ i, i < j → e i < thr) : j ≤ k ∧ stepR e thr j ≤ stepR c thr k := by
  have hjk : j ≤ k := by
    refine Nat.not_lt.1 fun h => ?_
    have := hj' k h
    have := hce k (Nat.le_refl k)
    omega
  refine ⟨hjk, ?_⟩
  cases k with
  | zero =>
    obtain rfl : j = 0 := by omega
    exact Rat.le_refl
  | succ k =>
    have b1 := stepR_bounds hk (hk' k (by omega))
    cases j with
    | zero =>
      show (0 : Rat) ≤ _
      have : (0 : Rat) ≤ (k : Rat) := by exact_mod_cast Nat.zero_le k
      grind
    | succ j =>
      have b2 := stepR_bounds hj (hj' j (by omega))
      by_cases hlt : j < k
      · have : (j : Rat) + 1 ≤ (k : Rat) := by exact_mod_cast hlt
        grind
      · obtain rfl : j = k := by omega
        have q0 := hce j (by omega)
        have q1 := hce (j + 1) (by omega)
        have r0 := hk' j (by omega)
        have r1 := hj' j (by omega)
        rw [stepR_succ, stepR_succ]
        have key : ((thr - e j : Int) : Rat) / ((e (j + 1) - e j : Int) : Rat) ≤ ((thr - c j : Int) : Rat) / ((c (j + 1) - c j : Int) : Rat) := by
          refine Rat.not_lt.1 fun h => ?_
          rw [div_lt_div (cast_pos (by omega)) (cast_pos (by omega)), cast_lt_mul] at h
          have m1 : (thr - e j) * (c (j + 1) - thr) ≤ (thr - c j) * (c (j + 1) - thr) := Int.mul_le_mul_of_nonneg_right (by omega) (by omega)
          have m2 : (thr - c j) * (c (j + 1) - thr) ≤ (thr - c j) * (e (j + 1) - thr) := Int.mul_le_mul_of_nonneg_left (by omega) (by omega)
          grind
        grind
theorem placeN_val {p : List Int} {thr a d : Int} {k : Nat} (h1 : thr ≤ atK p a d k) (h2 : ∀ j, j < k → atK p a d j < thr) :
    0 < (placeN p thr a d k).2 ∧ ((placeN p thr a d k).1 : Rat) / ((placeN p thr a d k).2 : Rat) = (a : Rat) + (d : Rat) * stepR (atK p a d) thr k := by
  cases k with
  | zero =>
    refine ⟨by simp [placeN], ?_⟩
    simp only [placeN, stepR, Rat.intCast_one]
    grind
  | succ k =>
    have := h2 k (by omega)
    refine ⟨by simp only [placeN]; omega, ?_⟩
    simp only [placeN, stepR]
    have hd := cast_pos (show 0 < atK p a d (k + 1) - atK p a d k by omega)
    rw [Rat.intCast_add, Rat.intCast_mul, Rat.intCast_mul, Rat.intCast_add, Rat.intCast_mul]
    have e : ((k : Int) : Rat) = (k : Rat) := rfl
    rw [e]
    generalize ((atK p a d (k + 1) - atK p a d k : Int) : Rat) = D at *
    generalize ((thr - atK p a d k : Int) : Rat) = N at *
    grind
end Go.Proofs.Tryz.My
set_option maxRecDepth 100000
set_option maxHeartbeats 0
set_option linter.unusedVariables false
set_option linter.unusedSimpArgs false
namespace Go.Proofs.Tryz.My
open Go Go.Ev
def byteL (p : List Int) : Prop := ∀ i, i < p.length → 0 ≤ p.getD i 0 ∧ p.getD i 0 ≤ 255
def ways1 (d : Int) : Prop := d = 1 ∨ d = -1
theorem steps_in {n : Nat} {a d : Int} (ha : 0 ≤ a) (hn : a < n) (hd : ways1 d) {k : Nat} (hk : k < stepsN n a d) : 0 ≤ a + d * k ∧ a + d * k < n := by
  unfold stepsN at hk
  rcases hd with rfl | rfl <;> simp at hk <;> omega
theorem atK_byte {p : List Int} (hp : byteL p) {a d : Int} (ha : 0 ≤ a) (hn : a < p.length) (hd : ways1 d) {k : Nat} (hk : k < stepsN p.length a d) : 0 ≤ atK p a d k ∧ atK p a d k ≤ 255 := by
  have := steps_in ha hn hd hk
  exact hp _ (by omega)
theorem placeN_small {p : List Int} (hp : byteL p) (hl : p.length ≤ 64) {thr a d : Int} (ha : 0 ≤ a) (hn : a < p.length) (hd : ways1 d) (t1 : 1 ≤ thr) (t2 : thr ≤ 255) {k : Nat} (h : brk p thr a d = some k) :
    -17000 ≤ (placeN p thr a d k).1 ∧ (placeN p thr a d k).1 ≤ 17000 ∧ 0 < (placeN p thr a d k).2 ∧ (placeN p thr a d k).2 ≤ 255 := by
  obtain ⟨h1, h2, h3⟩ := brk_some.1 h
  cases k with
  | zero => simp only [placeN]; omega
  | succ k =>
    have b1 := atK_byte hp ha hn hd h1
    have b2 := atK_byte hp ha hn hd (k := k) (by omega)
    have b3 := steps_in ha hn hd (k := k) (by omega)
    have b4 := h3 k (by omega)
    simp only [placeN]
    generalize atK p a d (k + 1) = u at *
    generalize atK p a d k = v at *
    generalize a + d * (k : Int) = w at *
    have m1 : w * (u - v) ≤ 64 * (u - v) := Int.mul_le_mul_of_nonneg_right (by omega) (by omega)
    have m2 : 0 ≤ w * (u - v) := Int.mul_nonneg (by omega) (by omega)
    rcases hd with rfl | rfl <;> omega
theorem placeF_ok {p : List Int} (hp : byteL p) (hl : p.length ≤ 64) {thr a d : Int} (ha : 0 ≤ a) (hn : a < p.length) (hd : ways1 d) (t1 : 1 ≤ thr) (t2 : thr ≤ 255) {k : Nat} (h : brk p thr a d = some k) :
    validB (placeF p thr a d k) = true ∧ (makeF (placeN p thr a d k).1 (placeN p thr a d k).2).2 = 0 ∧ qv (placeF p thr a d k) = (a : Rat) + (d : Rat) * stepR (atK p a d) thr k := by
  obtain ⟨s1, s2, s3, s4⟩ := placeN_small hp hl ha hn hd t1 t2 h
  obtain ⟨h1, h2, h3⟩ := brk_some.1 h
  obtain ⟨v1, v2, v3⟩ := makeF_small (n := (placeN p thr a d k).1) (d := (placeN p thr a d k).2) (by omega) (by omega) s3 (by omega)
  refine ⟨v1, v2, ?_⟩
  rw [← (placeN_val h2 h3).2]
  exact v3
theorem brk_mono {p q : List Int} (hpq : p.length = q.length) (hle : ∀ i, p.getD i 0 ≤ q.getD i 0) {thr a d : Int} {k : Nat} (h : brk p thr a d = some k) :
    ∃ j, brk q thr a d = some j ∧ j ≤ k ∧ stepR (atK q a d) thr j ≤ stepR (atK p a d) thr k := by
  obtain ⟨h1, h2, h3⟩ := brk_some.1 h
  have hc : ∀ i, atK p a d i ≤ atK q a d i := fun i => hle _
  cases hq : brk q thr a d with
  | none =>
    have := brk_none.1 hq k (by rw [← hpq]; exact h1)
    have := hc k
    omega
  | some j =>
    obtain ⟨j1, j2, j3⟩ := brk_some.1 hq
    exact ⟨j, rfl, stepR_mono (fun i _ => hc i) h2 h3 j2 j3⟩
def clipL (v : Int) : Int := if v < 0 then 0 else if 255 < v then 255 else v
def movL (p : List Int) (b : Int) : List Int := p.map fun v => clipL (v + b)
theorem movL_length (p : List Int) (b : Int) : (movL p b).length = p.length := by simp [movL]
theorem movL_getD (p : List Int) (b : Int) (i : Nat) : (movL p b).getD i 0 = if i < p.length then clipL (p.getD i 0 + b) else 0 := by
  by_cases h : i < p.length <;> simp [movL, List.getD, h]
theorem clipL_bounds (v : Int) : 0 ≤ clipL v ∧ clipL v ≤ 255 := by unfold clipL; split <;> (try split) <;> omega
theorem clipL_mono {v w : Int} (h : v ≤ w) : clipL v ≤ clipL w := by unfold clipL; split <;> split <;> (try split) <;> (try split) <;> omega
theorem movL_byte (p : List Int) (b : Int) : byteL (movL p b) := by
  intro i hi
  rw [movL_length] at hi
  rw [movL_getD, if_pos hi]
  exact clipL_bounds _
theorem movL_mono (p : List Int) {b c : Int} (h : b ≤ c) (i : Nat) : (movL p b).getD i 0 ≤ (movL p c).getD i 0 := by
  rw [movL_getD, movL_getD]
  split
  · exact clipL_mono (by omega)
  · exact Int.le_refl _
theorem brk_both {p : List Int} {thr : Int} (hl : 0 < p.length) : brk p thr 0 1 = none ↔ brk p thr ((p.length : Int) - 1) (-1) = none := by
  rw [brk_none, brk_none]
  constructor
  · intro h j hj
    have hj' : j < p.length := by simp [stepsN] at hj; omega
    have := h (p.length - 1 - j) (by simp [stepsN]; omega)
    unfold atK at this ⊢
    rw [show ((p.length : Int) - 1 + -1 * (j : Int)).toNat = p.length - 1 - j by omega]
    rwa [show ((0 : Int) + 1 * ((p.length - 1 - j : Nat) : Int)).toNat = p.length - 1 - j by omega] at this
  · intro h j hj
    have hj' : j < p.length := by simp [stepsN] at hj; omega
    have := h (p.length - 1 - j) (by simp [stepsN]; omega)
    unfold atK at this ⊢
    rw [show ((0 : Int) + 1 * (j : Int)).toNat = j by omega]
    rwa [show ((p.length : Int) - 1 + -1 * ((p.length - 1 - j : Nat) : Int)).toNat = j by omega] at this
theorem sub_small {x y : Int × Int} {n m e f : Int} (hx : validB x = true) (hy : validB y = true) (ex : qv x = (n : Rat) / (e : Rat)) (ey : qv y = (m : Rat) / (f : Rat)) (n1 : -17000 ≤ n) (n2 : n ≤ 17000) (m1 : -17000 ≤ m) (m2 : m ≤ 17000) (e1 : 0 < e) (e2 : e ≤ 255) (f1 : 0 < f) (f2 : f ≤ 255) :
    validB (subF x y).1 = true ∧ (subF x y).2 = 0 ∧ qv (subF x y).1 = qv x - qv y := by
  have h := subF_fits hx hy
  have hE := cast_pos e1
  have hF := cast_pos f1
  have p1 : n * f ≤ 17000 * f := Int.mul_le_mul_of_nonneg_right n2 (by omega)
  have p2 : -17000 * f ≤ n * f := Int.mul_le_mul_of_nonneg_right n1 (by omega)
  have p3 : m * e ≤ 17000 * e := Int.mul_le_mul_of_nonneg_right m2 (by omega)
  have p4 : -17000 * e ≤ m * e := Int.mul_le_mul_of_nonneg_right m1 (by omega)
  have p5 : e * f ≤ 255 * f := Int.mul_le_mul_of_nonneg_right e2 (by omega)
  refine fits_small h (n := n * f - m * e) (d := e * f) ?_ (by omega) (by omega) (Int.mul_pos e1 f1) (by omega)
  rw [ex, ey, Rat.intCast_sub, Rat.intCast_mul, Rat.intCast_mul, Rat.intCast_mul]
  grind
def askE (p : List Int) (thr a noise : Int) : Bool := decide (1 ≤ thr) && decide (thr ≤ 255) && (decide (0 ≤ a) && decide (a ≤ (p.length : Int) - 1)) && (decide (0 ≤ noise) && decide (noise ≤ 64))
def edgeG (lo hi : (Int × Int) × Bool) (d : Int) : SpT × Int := if lo.2 then (if d < 0 then (lo.1, hi.1) else (hi.1, lo.1), 0) else (zS, 6)
def edgeF (p : List Int) (thr a noise d : Int) : SpT × Int := edgeG (brF (movL p (-noise)) thr a d) (brF (movL p noise) thr a d) d
def wideF (p : List Int) (thr : Int) : (Int × Int) × Bool := if (brF p thr 0 1).2 then ((subF (brF p thr ((p.length : Int) - 1) (-1)).1 (brF p thr 0 1).1).1, true) else ((0, 0), false)
def widG (lo hi : (Int × Int) × Bool) : SpT × Int := if lo.2 then ((lo.1, hi.1), 0) else (zS, 6)
def widF (p : List Int) (thr noise : Int) : SpT × Int := widG (wideF (movL p (-noise)) thr) (wideF (movL p noise) thr)
theorem brF_some {p : List Int} {thr a d : Int} {k : Nat} (h : brk p thr a d = some k) : brF p thr a d = (placeF p thr a d k, true) := by unfold brF; rw [h]
theorem brF_none {p : List Int} {thr a d : Int} (h : brk p thr a d = none) : brF p thr a d = ((0, 0), false) := by unfold brF; rw [h]
theorem edge_known {p : List Int} (hl : p.length ≤ 64) {thr a noise d : Int} (ha : 0 ≤ a) (hn : a < p.length) (hd : ways1 d) (t1 : 1 ≤ thr) (t2 : thr ≤ 255) (n0 : 0 ≤ noise) :
    (brk (movL p (-noise)) thr a d = none ∧ edgeF p thr a noise d = (zS, 6)) ∨
    ∃ k j, brk (movL p (-noise)) thr a d = some k ∧ brk (movL p noise) thr a d = some j ∧ j ≤ k ∧
      validB (placeF (movL p (-noise)) thr a d k) = true ∧ validB (placeF (movL p noise) thr a d j) = true ∧
      qv (placeF (movL p (-noise)) thr a d k) = (a : Rat) + (d : Rat) * stepR (atK (movL p (-noise)) a d) thr k ∧
      qv (placeF (movL p noise) thr a d j) = (a : Rat) + (d : Rat) * stepR (atK (movL p noise) a d) thr j ∧
      stepR (atK (movL p noise) a d) thr j ≤ stepR (atK (movL p (-noise)) a d) thr k ∧
      edgeF p thr a noise d = (if d < 0 then (placeF (movL p (-noise)) thr a d k, placeF (movL p noise) thr a d j) else (placeF (movL p noise) thr a d j, placeF (movL p (-noise)) thr a d k), 0) ∧ spanB (edgeF p thr a noise d).1 = true := by
  cases hk : brk (movL p (-noise)) thr a d with
  | none => exact .inl ⟨rfl, by unfold edgeF edgeG; rw [brF_none hk]; rfl⟩
  | some k =>
    obtain ⟨j, hj, hjk, hst⟩ := brk_mono (p := movL p (-noise)) (q := movL p noise) (by simp [movL_length]) (movL_mono p (by omega)) hk
    have l1 : (a : Int) < (movL p (-noise)).length := by rw [movL_length]; exact hn
    have l2 : (a : Int) < (movL p noise).length := by rw [movL_length]; exact hn
    obtain ⟨v1, _, q1⟩ := placeF_ok (movL_byte p _) (by rw [movL_length]; exact hl) ha l1 hd t1 t2 hk
    obtain ⟨v2, _, q2⟩ := placeF_ok (movL_byte p _) (by rw [movL_length]; exact hl) ha l2 hd t1 t2 hj
    have e : edgeF p thr a noise d = (if d < 0 then (placeF (movL p (-noise)) thr a d k, placeF (movL p noise) thr a d j) else (placeF (movL p noise) thr a d j, placeF (movL p (-noise)) thr a d k), 0) := by
      unfold edgeF edgeG
      rw [brF_some hk, brF_some hj]
      rfl
    refine .inr ⟨k, j, rfl, hj, hjk, v1, v2, q1, q2, hst, e, ?_⟩
    rw [e, spanB_qv]
    rcases hd with rfl | rfl
    · refine ⟨v2, v1, ?_⟩
      simp only [show ¬ ((1 : Int) < 0) by decide, if_false]
      rw [q1, q2]
      have : ((1 : Int) : Rat) = 1 := rfl
      rw [this]
      grind
    · refine ⟨v1, v2, ?_⟩
      simp only [show ((-1 : Int) < 0) by decide, if_true]
      rw [q1, q2]
      have : ((-1 : Int) : Rat) = -1 := rfl
      rw [this]
      grind
theorem wid_law {p : List Int} (hl0 : 0 < p.length) (hl : p.length ≤ 64) {thr noise : Int} (t1 : 1 ≤ thr) (t2 : thr ≤ 255) (n0 : 0 ≤ noise) :
    (edgeF p thr 0 noise 1 = (zS, 6) ∧ widF p thr noise = (zS, 6)) ∨
    ((edgeF p thr 0 noise 1).2 = 0 ∧ (edgeF p thr ((p.length : Int) - 1) noise (-1)).2 = 0 ∧ spanB (edgeF p thr 0 noise 1).1 = true ∧ spanB (edgeF p thr ((p.length : Int) - 1) noise (-1)).1 = true ∧
      subS (edgeF p thr ((p.length : Int) - 1) noise (-1)).1 (edgeF p thr 0 noise 1).1 = widF p thr noise ∧ (widF p thr noise).2 = 0 ∧ spanB (widF p thr noise).1 = true ∧
      qv (widF p thr noise).1.1 = qv (edgeF p thr ((p.length : Int) - 1) noise (-1)).1.1 - qv (edgeF p thr 0 noise 1).1.2 ∧ qv (widF p thr noise).1.2 = qv (edgeF p thr ((p.length : Int) - 1) noise (-1)).1.2 - qv (edgeF p thr 0 noise 1).1.1) := by
  have hb := brk_both (p := movL p (-noise)) (thr := thr) (by rw [movL_length]; exact hl0)
  rw [movL_length] at hb
  rcases edge_known (p := p) hl (thr := thr) (a := 0) (noise := noise) (d := 1) (by omega) (by omega) (.inl rfl) t1 t2 n0 with ⟨h1, e1⟩ | ⟨k, j, hk, hj, hjk, v1, v2, q1, q2, hst, e1, s1⟩
  · left
    refine ⟨e1, ?_⟩
    unfold widF widG wideF
    rw [brF_none h1]
    rfl
  · right
    rcases edge_known (p := p) hl (thr := thr) (a := (p.length : Int) - 1) (noise := noise) (d := -1) (by omega) (by omega) (.inr rfl) t1 t2 n0 with ⟨h2, e2⟩ | ⟨k', j', hk', hj', hjk', v1', v2', q1', q2', hst', e2, s2⟩
    · rw [← hb, hk] at h2; cases h2
    have f1 : edgeF p thr 0 noise 1 = ((placeF (movL p noise) thr 0 1 j, placeF (movL p (-noise)) thr 0 1 k), 0) := by rw [e1, if_neg (by decide)]
    have f2 : edgeF p thr ((p.length : Int) - 1) noise (-1) = ((placeF (movL p (-noise)) thr ((p.length : Int) - 1) (-1) k', placeF (movL p noise) thr ((p.length : Int) - 1) (-1) j'), 0) := by rw [e2, if_pos (by decide)]
    have hw : widF p thr noise = (((subF (placeF (movL p (-noise)) thr ((p.length : Int) - 1) (-1) k') (placeF (movL p (-noise)) thr 0 1 k)).1, (subF (placeF (movL p noise) thr ((p.length : Int) - 1) (-1) j') (placeF (movL p noise) thr 0 1 j)).1), 0) := by
      unfold widF widG wideF
      rw [movL_length, movL_length, brF_some hk, brF_some hj, brF_some hk', brF_some hj']
      rfl
    have nl : ((movL p (-noise)).length : Int) ≤ 64 := by rw [movL_length]; omega
    have nu : ((movL p noise).length : Int) ≤ 64 := by rw [movL_length]; omega
    have z1 := placeN_small (movL_byte p (-noise)) (by omega) (a := 0) (d := 1) (by omega) (by rw [movL_length]; omega) (.inl rfl) t1 t2 hk
    have z2 := placeN_small (movL_byte p noise) (by omega) (a := 0) (d := 1) (by omega) (by rw [movL_length]; omega) (.inl rfl) t1 t2 hj
    have z3 := placeN_small (movL_byte p (-noise)) (by omega) (a := (p.length : Int) - 1) (d := -1) (by omega) (by rw [movL_length]; omega) (.inr rfl) t1 t2 hk'
    have z4 := placeN_small (movL_byte p noise) (by omega) (a := (p.length : Int) - 1) (d := -1) (by omega) (by rw [movL_length]; omega) (.inr rfl) t1 t2 hj'
    have y1 := (placeN_val (brk_some.1 hk).2.1 (brk_some.1 hk).2.2).2
    have y2 := (placeN_val (brk_some.1 hj).2.1 (brk_some.1 hj).2.2).2
    have y3 := (placeN_val (brk_some.1 hk').2.1 (brk_some.1 hk').2.2).2
    have y4 := (placeN_val (brk_some.1 hj').2.1 (brk_some.1 hj').2.2).2
    have d1 := sub_small v1' v1 (q1'.trans y3.symm) (q1.trans y1.symm) z3.1 z3.2.1 z1.1 z1.2.1 z3.2.2.1 z3.2.2.2 z1.2.2.1 z1.2.2.2
    have d2 := sub_small v2' v2 (q2'.trans y4.symm) (q2.trans y2.symm) z4.1 z4.2.1 z2.1 z2.2.1 z4.2.2.1 z4.2.2.2 z2.2.2.1 z2.2.2.2
    rw [f1] at s1 ⊢
    rw [f2] at s2 ⊢
    clear f1 f2 e1 e2 y1 y2 y3 y4 z1 z2 z3 z4 q1 q2 q1' q2' hst hst' hk hj hk' hj' hb
    generalize placeF (movL p (-noise)) thr ((p.length : Int) - 1) (-1) k' = A at *
    generalize placeF (movL p noise) thr ((p.length : Int) - 1) (-1) j' = B at *
    generalize placeF (movL p (-noise)) thr 0 1 k = C at *
    generalize placeF (movL p noise) thr 0 1 j = D at *
    have r1 := (spanB_qv.1 s1).2.2
    have r2 := (spanB_qv.1 s2).2.2
    simp only [] at r1 r2
    have hle : qv A - qv C ≤ qv B - qv D := by grind
    have he := ends_two (op := subF) (p := (A, C)) (q := (B, D)) (subF_fits v1' v1) (subF_fits v2' v2) hle
    rw [if_pos ⟨d1.2.1, d2.2.1⟩] at he
    have hsub : subS (A, B) (D, C) = (((subF A C).1, (subF B D).1), 0) := by
      unfold subS
      rw [s1, s2]
      exact he
    refine ⟨rfl, rfl, s1, s2, by rw [hsub, hw], by rw [hw], ?_, by rw [hw]; exact d1.2.2, by rw [hw]; exact d2.2.2⟩
    rw [hw, spanB_qv]
    refine ⟨d1.1, d2.1, ?_⟩
    show qv (subF A C).1 ≤ qv (subF B D).1
    rw [d1.2.2, d2.2.2]
    exact hle
end Go.Proofs.Tryz.My
