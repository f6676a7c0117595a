/- A helper text: contracts of functions of the program, and plain lemmas. -/
import Derived.Test.YtblmmhmdnnnidaaMyExB
set_option maxRecDepth 100000
set_option maxHeartbeats 0
set_option linter.unusedVariables false
set_option linter.unusedSimpArgs false
namespace Go.Proofs.Try.My
open Go Go.Ev

/-! ### Fractions that are small enough -/
theorem makeF_small {n d : Int} (h1 : -4611686018427387903 ≤ n) (h2 : n ≤ 4611686018427387903) (h3 : 0 < d) (h4 : d ≤ 4611686018427387903) : validB (makeF n d).1 = true ∧ (makeF n d).2 = 0 ∧ qv (makeF n d).1 = (n : Rat) / (d : Rat) := by
  rcases makeF_fits (n := n) (d := d) (by omega) with h | ⟨h, h0⟩
  · exact h
  · exfalso
    have hg : 0 < Nat.gcd n.natAbs d.natAbs := Nat.gcd_pos_of_pos_right _ (by omega)
    rw [makeF_pos h3] at h
    unfold madeF at h
    have k1 : n.natAbs / Nat.gcd n.natAbs d.natAbs ≤ 4611686018427387903 := Nat.le_trans (Nat.div_le_self _ _) (by omega)
    have k2 : d.natAbs / Nat.gcd n.natAbs d.natAbs ≤ 4611686018427387903 := Nat.le_trans (Nat.div_le_self _ _) (by omega)
    simp [k1, k2] at h
theorem fits_small {n d : Int} {x : Rat} {r : (Int × Int) × Int} (h : Fits x r) (hx : x = (n : Rat) / (d : Rat)) (h1 : -4611686018427387903 ≤ n) (h2 : n ≤ 4611686018427387903) (h3 : 0 < d) (h4 : d ≤ 4611686018427387903) : validB r.1 = true ∧ r.2 = 0 ∧ qv r.1 = x := by
  have h5 := makeF_small h1 h2 h3 h4
  have h6 := makeF_fits (n := n) (d := d) (by omega)
  rw [← hx] at h6 h5
  rw [h.unique h6]
  exact h5
theorem valid_one {n : Int} (h1 : -4611686018427387903 ≤ n) (h2 : n ≤ 4611686018427387903) : validB (n, 1) = true := by
  rw [validB_iff]
  simp only []
  refine ⟨by omega, by omega, h1, h2, ?_⟩
  show Nat.gcd n.natAbs 1 = 1
  exact Nat.gcd_one_right _
theorem qv_one (n : Int) : qv (n, 1) = n := by
  unfold qv
  simp only [Rat.intCast_one]
  grind
theorem makeF_one {n : Int} (h1 : -4611686018427387903 ≤ n) (h2 : n ≤ 4611686018427387903) : makeF n 1 = ((n, 1), 0) := by
  have h := makeF_fits (n := n) (d := 1) (by omega)
  have e : (n : Rat) / ((1 : Int) : Rat) = n := by simp only [Rat.intCast_one]; grind
  rw [e] at h
  exact h.unique (.inl ⟨valid_one h1 h2, rfl, qv_one n⟩)
/-- A whole number and a part. -/
theorem add_part {w N s : Int} (hw1 : -4611686018427387903 ≤ w) (hw2 : w ≤ 4611686018427387903) (h1 : -4611686018427387903 ≤ N) (h2 : N ≤ 4611686018427387903) (h3 : 0 < s) (h4 : s ≤ 4611686018427387903) : addF (w, 1) (makeF N s).1 = makeF (w * s + N) s := by
  obtain ⟨v, _, q⟩ := makeF_small h1 h2 h3 h4
  have h := addF_fits (valid_one hw1 hw2) v
  rw [qv_one, q] at h
  have k := makeF_fits (n := w * s + N) (d := s) (by omega)
  have e : ((w * s + N : Int) : Rat) / (s : Rat) = (w : Rat) + (N : Rat) / (s : Rat) := by
    have := cast_pos h3
    rw [Rat.intCast_add, Rat.intCast_mul]
    grind
  rw [e] at k
  exact h.unique k

/-! ### The first bright place -/
/-- How many indices there are from one on in a direction. -/
def stepsN (n : Nat) (a d : Int) : Nat := if d < 0 then (a + 1).toNat else ((n : Int) - a).toNat
def atK (p : List Int) (a d : Int) (k : Nat) : Int := p.getD (a + d * k).toNat 0
def brkB (p : List Int) (thr a d : Int) (k : Nat) : Bool := decide (thr ≤ atK p a d k)
/-- The first step at which a profile is bright. -/
def brk (p : List Int) (thr a d : Int) : Option Nat := (List.range (stepsN p.length a d)).find? (brkB p thr a d)
theorem brk_some {p : List Int} {thr a d : Int} {k : Nat} : brk p thr a d = some k ↔ k < stepsN p.length a d ∧ thr ≤ atK p a d k ∧ ∀ j, j < k → atK p a d j < thr := by
  unfold brk
  rw [List.find?_range_eq_some]
  simp only [brkB, decide_eq_true_eq, List.mem_range, Bool.not_eq_true', decide_eq_false_iff_not, Int.not_le]
  constructor
  · rintro ⟨a, b, c⟩; exact ⟨b, a, c⟩
  · rintro ⟨a, b, c⟩; exact ⟨b, a, c⟩
theorem brk_none {p : List Int} {thr a d : Int} : brk p thr a d = none ↔ ∀ j, j < stepsN p.length a d → atK p a d j < thr := by
  unfold brk
  rw [List.find?_range_eq_none]
  simp only [brkB, Bool.not_eq_true', decide_eq_false_iff_not, Int.not_le]
/-- The place of a step. -/
def placeN (p : List Int) (thr a d : Int) : Nat → Int × Int
  | 0 => (a, 1)
  | k + 1 => ((a + d * k) * (atK p a d (k + 1) - atK p a d k) + d * (thr - atK p a d k), atK p a d (k + 1) - atK p a d k)
def placeF (p : List Int) (thr a d : Int) (k : Nat) : Int × Int := (makeF (placeN p thr a d k).1 (placeN p thr a d k).2).1
def brF (p : List Int) (thr a d : Int) : (Int × Int) × Bool :=
  match brk p thr a d with
  | none => ((0, 0), false)
  | some k => (placeF p thr a d k, true)
/-- How far away the bright place of a sequence is. -/
def stepR (c : Nat → Int) (thr : Int) : Nat → Rat
  | 0 => 0
  | k + 1 => (k : Rat) + ((thr - c k : Int) : Rat) / ((c (k + 1) - c k : Int) : Rat)
theorem stepR_succ (c : Nat → Int) (thr : Int) (k : Nat) : stepR c thr (k + 1) = (k : Rat) + ((thr - c k : Int) : Rat) / ((c (k + 1) - c k : Int) : Rat) := rfl
theorem stepR_bounds {c : Nat → Int} {thr : Int} {k : Nat} (h1 : thr ≤ c (k + 1)) (h2 : c k < thr) : (k : Rat) < stepR c thr (k + 1) ∧ stepR c thr (k + 1) ≤ (k : Rat) + 1 := by
  have hd := cast_pos (show 0 < c (k + 1) - c k by omega)
  have hn := cast_pos (show 0 < thr - c k by omega)
  have hle : ((thr - c k : Int) : Rat) ≤ ((c (k + 1) - c k : Int) : Rat) := Rat.intCast_le_intCast.2 (by omega)
  rw [stepR_succ]
  generalize ((thr - c k : Int) : Rat) = N at *
  generalize ((c (k + 1) - c k : Int) : Rat) = D at *
  have e1 : N / D * D = N := by grind
  have p1 : 0 < N / D := by
    rw [← ratmul_lt hd, e1]; grind
  have p2 : N / D ≤ 1 := by
    refine Rat.not_lt.1 fun h => ?_
    rw [← ratmul_lt hd, e1] at h
    grind
  exact ⟨by grind, by grind⟩
/-- A brighter sequence is bright earlier. -/
theorem stepR_mono {c e : Nat → Int} {thr : Int} {k j : Nat} (hce : ∀ i, i ≤ k → c i ≤ e i) (hk : thr ≤ c k) (hk' : ∀ i, i < k → c i < thr) (hj : thr ≤ e j) (hj' : ∀ i, i < j → e i < thr) : j ≤ k ∧ stepR e thr j ≤ stepR c thr k := by
  have hjk : j ≤ k := by
    refine Nat.not_lt.1 fun h => ?_
    have := hj' k h
    have := hce k (Nat.le_refl k)
    omega
  refine ⟨hjk, ?_⟩
  cases k with
  | zero =>
    obtain rfl : j = 0 := by omega
    exact Rat.le_refl
  | succ k =>
    have b1 := stepR_bounds hk (hk' k (by omega))
    cases j with
    | zero =>
      show (0 : Rat) ≤ _
      have : (0 : Rat) ≤ (k : Rat) := by exact_mod_cast Nat.zero_le k
      grind
    | succ j =>
      have b2 := stepR_bounds hj (hj' j (by omega))
      by_cases hlt : j < k
      · have : (j : Rat) + 1 ≤ (k : Rat) := by exact_mod_cast hlt
        grind
      · obtain rfl : j = k := by omega
        have q0 := hce j (by omega)
        have q1 := hce (j + 1) (by omega)
        have r0 := hk' j (by omega)
        have r1 := hj' j (by omega)
        rw [stepR_succ, stepR_succ]
        have key : ((thr - e j : Int) : Rat) / ((e (j + 1) - e j : Int) : Rat) ≤ ((thr - c j : Int) : Rat) / ((c (j + 1) - c j : Int) : Rat) := by
          refine Rat.not_lt.1 fun h => ?_
          rw [div_lt_div (cast_pos (by omega)) (cast_pos (by omega)), cast_lt_mul] at h
          have m1 : (thr - e j) * (c (j + 1) - thr) ≤ (thr - c j) * (c (j + 1) - thr) := Int.mul_le_mul_of_nonneg_right (by omega) (by omega)
          have m2 : (thr - c j) * (c (j + 1) - thr) ≤ (thr - c j) * (e (j + 1) - thr) := Int.mul_le_mul_of_nonneg_left (by omega) (by omega)
          grind
        grind
theorem placeN_val {p : List Int} {thr a d : Int} {k : Nat} (h1 : thr ≤ atK p a d k) (h2 : ∀ j, j < k → atK p a d j < thr) :
    0 < (placeN p thr a d k).2 ∧ ((placeN p thr a d k).1 : Rat) / ((placeN p thr a d k).2 : Rat) = (a : Rat) + (d : Rat) * stepR (atK p a d) thr k := by
  cases k with
  | zero =>
    refine ⟨by simp [placeN], ?_⟩
    simp only [placeN, stepR, Rat.intCast_one]
    grind
  | succ k =>
    have := h2 k (by omega)
    refine ⟨by simp only [placeN]; omega, ?_⟩
    simp only [placeN, stepR]
    have hd := cast_pos (show 0 < atK p a d (k + 1) - atK p a d k by omega)
    rw [Rat.intCast_add, Rat.intCast_mul, Rat.intCast_mul, Rat.intCast_add, Rat.intCast_mul]
    have e : ((k : Int) : Rat) = (k : Rat) := rfl
    rw [e]
    generalize ((atK p a d (k + 1) - atK p a d k : Int) : Rat) = D at *
    generalize ((thr - atK p a d k : Int) : Rat) = N at *
    grind
end Go.Proofs.Try.My
