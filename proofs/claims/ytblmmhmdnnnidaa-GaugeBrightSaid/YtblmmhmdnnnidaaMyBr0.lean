/- A helper text: contracts of functions of the program, and plain lemmas. -/
import Derived.Test.YtblmmhmdnnnidaaMyGaB
import Derived.Test.YtblmmhmdnnnidaaMyTlq
set_option maxRecDepth 100000
set_option maxHeartbeats 0
set_option linter.unusedVariables false
set_option linter.unusedSimpArgs false
namespace Go.Proofs.Try.My
open Go Go.Ev

/-! ### What a first bright place is -/
theorem place_law {w t D x1 x2 : Int} (hD : 0 < D) (t0 : 0 < t) (t1 : t ≤ D) (x0 : 1 ≤ x2) (hE : x1 * D = (w * D + t) * x2) :
    -(-x1 / x2) = w + 1 ∧ ((x1 / x2 = w ∧ (x1 - w * x2) * D = t * x2) ∨ (x1 / x2 = w + 1 ∧ t = D)) ∧ 0 < x1 - w * x2 ∧ x1 - w * x2 ≤ x2 := by
  obtain ⟨r, hr⟩ : ∃ r, r = x1 - w * x2 := ⟨_, rfl⟩
  have e : r * D = t * x2 := by
    rw [hr, Int.sub_mul, hE]
    grind
  have r0 : 0 < r := by
    refine Int.not_le.1 fun h => ?_
    have k1 := Int.mul_le_mul_of_nonneg_right h (show 0 ≤ D by omega)
    have k2 := Int.mul_pos t0 (show 0 < x2 by omega)
    omega
  have r1 : r ≤ x2 := by
    refine Int.not_lt.1 fun h => ?_
    have k1 := Int.mul_le_mul_of_nonneg_right (show x2 + 1 ≤ r by omega) (show 0 ≤ D by omega)
    have k2 := Int.mul_le_mul_of_nonneg_right t1 (show 0 ≤ x2 by omega)
    rw [Int.add_mul, Int.mul_comm x2 D] at k1
    omega
  have hx : x1 = w * x2 + r := by omega
  rw [← hr]
  refine ⟨?_, ?_, r0, r1⟩
  · have e5 : x2 * (-(w + 1)) = -(w * x2) - x2 := by rw [Int.mul_neg, Int.mul_add, Int.mul_one, Int.mul_comm x2 w]; omega
    have := ((Int.ediv_emod_unique (a := -x1) (r := x2 - r) (q := -(w + 1)) (show 0 < x2 by omega)).2 ⟨by rw [e5]; omega, by omega, by omega⟩).1
    rw [this]
    omega
  · by_cases hc : r = x2
    · right
      have e6 : x2 * (w + 1) = w * x2 + x2 := by rw [Int.mul_add, Int.mul_one, Int.mul_comm]
      refine ⟨((Int.ediv_emod_unique (a := x1) (r := 0) (q := w + 1) (show 0 < x2 by omega)).2 ⟨by rw [e6]; omega, by omega, by omega⟩).1, ?_⟩
      rw [hc, Int.mul_comm x2 D] at e
      exact (Int.eq_of_mul_eq_mul_right (show x2 ≠ 0 by omega) e).symm
    · left
      have e6 : x2 * w = w * x2 := Int.mul_comm _ _
      exact ⟨((Int.ediv_emod_unique (a := x1) (r := r) (q := w) (show 0 < x2 by omega)).2 ⟨by rw [e6]; omega, by omega, by omega⟩).1, e⟩
theorem den_le {x1 x2 N D : Int} (hv : validB (x1, x2) = true) (hD : 0 < D) (hE : x1 * D = N * x2) : x2 ≤ D := by
  obtain ⟨v1, _, _, _, hco⟩ := (validB_iff _).1 hv
  simp only [] at v1 hco
  have k : x2.natAbs ∣ x1.natAbs * D.natAbs := by
    rw [← Int.natAbs_mul, hE, Int.natAbs_mul]
    exact Nat.dvd_mul_left _ _
  have c : Nat.Coprime x2.natAbs x1.natAbs := by
    show Nat.gcd _ _ = 1
    rw [Nat.gcd_comm]
    exact hco
  have := Nat.le_of_dvd (by omega) (c.dvd_of_dvd_mul_left k)
  omega
theorem bright_law {p : List Int} {thr a : Int} {k : Nat} (hp : byteL p) (hl : p.length ≤ 64) (ha : 0 ≤ a) (hn : a < p.length) (t1 : 1 ≤ thr) (t2 : thr ≤ 255) (h : brk p thr a 1 = some (k + 1)) {x1 x2 : Int} (hx : placeF p thr a 1 (k + 1) = (x1, x2)) :
    validB (x1, x2) = true ∧ (1 ≤ x2 ∧ x2 ≤ 255) ∧ -(-x1 / x2) = a + k + 1 ∧ (a + k + 1 < p.length) ∧ (0 ≤ x1 ∧ x1 ≤ 17000) ∧ ¬ (x1 = a ∧ x2 = 1) ∧ (0 < x1 - (a + k) * x2 ∧ x1 - (a + k) * x2 ≤ x2) ∧
    ((x1 / x2 = a + k ∧ atK p a 1 k * x2 + (x1 - (a + k) * x2) * (atK p a 1 (k + 1) - atK p a 1 k) = thr * x2) ∨ (x1 / x2 = a + k + 1 ∧ atK p a 1 (k + 1) = thr)) := by
  obtain ⟨p1, p2, p3⟩ := placeF_ok hp hl ha hn (.inl rfl) t1 t2 h
  obtain ⟨s1, s2, s3, s4⟩ := placeN_small hp hl ha hn (.inl rfl) t1 t2 h
  obtain ⟨h1, h2, h3⟩ := brk_some.1 h
  have hs := steps_in ha hn (.inl rfl) h1
  have b1 := atK_byte hp ha hn (.inl rfl) h1
  have b2 := atK_byte hp ha hn (.inl rfl) (k := k) (by omega)
  have h4 := h3 k (by omega)
  obtain ⟨_, _, p4⟩ := makeF_small (n := (placeN p thr a 1 (k + 1)).1) (d := (placeN p thr a 1 (k + 1)).2) (by omega) (by omega) s3 (by omega)
  have p4 : qv (placeF p thr a 1 (k + 1)) = _ := p4
  rw [hx] at p1 p4
  simp only [placeN] at p4 s1 s2 s3 s4
  generalize hc1 : atK p a 1 (k + 1) = c1 at *
  generalize hc0 : atK p a 1 k = c0 at *
  rw [Int.one_mul, Int.one_mul] at p4 s1 s2
  obtain ⟨v1, v2, _⟩ := (validB_iff _).1 p1
  simp only [] at v1 v2
  have hE : x1 * (c1 - c0) = ((a + k) * (c1 - c0) + (thr - c0)) * x2 := by
    unfold qv at p4
    simp only [] at p4
    have z1 : (0 : Rat) < (x2 : Rat) := cast_pos (by omega)
    have z2 : (0 : Rat) < ((c1 - c0 : Int) : Rat) := cast_pos (by omega)
    have : ((x1 * (c1 - c0) : Int) : Rat) = ((((a + k) * (c1 - c0) + (thr - c0)) * x2 : Int) : Rat) := by
      rw [Rat.intCast_mul, Rat.intCast_mul]
      generalize ((c1 - c0 : Int) : Rat) = D at *
      generalize (((a + k) * (c1 - c0) + (thr - c0) : Int) : Rat) = N at *
      generalize (x1 : Rat) = X at *
      generalize (x2 : Rat) = Y at *
      have q1 : X = N / D * Y := by rw [← p4]; exact (Rat.div_mul_cancel (by grind)).symm
      have q2 : N / D * D = N := Rat.div_mul_cancel (by grind)
      rw [q1]
      grind
    exact Rat.intCast_inj.1 this
  have dl := den_le p1 (show 0 < c1 - c0 by omega) hE
  obtain ⟨l1, l2, l3, l4⟩ := place_law (show 0 < c1 - c0 by omega) (show 0 < thr - c0 by omega) (show thr - c0 ≤ c1 - c0 by omega) v1 hE
  have m1 := Int.mul_le_mul_of_nonneg_right (show a + k ≤ 63 by omega) (show 0 ≤ x2 by omega)
  have m2 := Int.mul_nonneg (show 0 ≤ a + k by omega) (show 0 ≤ x2 by omega)
  refine ⟨p1, by omega, l1, by omega, by omega, ?_, ⟨l3, l4⟩, ?_⟩
  · rintro ⟨rfl, rfl⟩
    rw [Int.mul_one] at l3
    omega
  · rcases l2 with ⟨l2, l5⟩ | ⟨l2, l5⟩
    · left
      refine ⟨l2, ?_⟩
      rw [l5, ← Int.add_mul]
      congr 1
      omega
    · right
      exact ⟨l2, by omega⟩
end Go.Proofs.Try.My
