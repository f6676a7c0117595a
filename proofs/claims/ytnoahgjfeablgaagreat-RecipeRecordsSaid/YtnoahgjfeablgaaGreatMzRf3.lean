/- A helper text: contracts of functions of the program, and plain lemmas. -/
import Derived.Test.YtnoahgjfeablgaaGreatEvSix
import Derived.Test.YtnoahgjfeablgaaGreatMzRf2
import Derived.Test.YtnoahgjfeablgaaGreatMzExB
set_option maxRecDepth 100000
set_option maxHeartbeats 0
set_option linter.unusedVariables false
set_option linter.unusedSimpArgs false
namespace Go.Proofs.Tryz.My
open Go Go.Ev
abbrev okF (r : (Int × Int) × Int) : AV := .tup [fr r.1, .bool (decide (r.2 = 0))]
theorem low_eq {sg : Int} {N D : Nat} (hD : 0 < D) {r : (Int × Int) × Int} (hr : r = makeF (if sg < 0 then -(N : Int) else (N : Int)) (D : Int)) : lowF sg N D = (r.1, decide (r.2 = 0)) := by
  rw [hr, makeF_pos (by omega)]
  unfold lowF
  have e1 : (if sg < 0 then -(N : Int) else (N : Int)).natAbs = N := by split <;> omega
  rw [e1, Int.natAbs_natCast]
  unfold lowN madeF
  have hg : 0 < Nat.gcd N D := Nat.gcd_pos_of_pos_right _ hD
  by_cases hc : N / Nat.gcd N D ≤ 4611686018427387903 ∧ D / Nat.gcd N D ≤ 4611686018427387903
  · simp only [hc, and_self, if_true]
    by_cases hs : sg < 0
    · by_cases hn : N = 0
      · subst hn; simp [hs]
      · have : -(N : Int) < 0 := by omega
        simp [hs, this]
        intro h; omega
    · have : ¬ (N : Int) < 0 := by omega
      simp [hs, this]
  · simp only [hc, if_false]
    simp
theorem pc_rNeg (a : Int × Int) (h : validB a = true) : PC Tryz.prog 154 [fr a] (fr (negF a)) := by
  have := (validB_iff a).1 h
  refine pc_of_bodyF hm Tryz.func154 (by kernel_rfl) ?_
  conv => whnf
  (repeat' (first | (refine ansS (fun hh => ?_) (fun hh => ?_) <;> (first | simp only [ansX] at hh | skip) <;> (first | (exfalso; omega) | (exfalso; simp [*] at hh; done) | (exfalso; revert hh; decide) | exact absurd (by assumption) hh | (conv => whnf))) | ((first | refine ⟨by kernel_rfl, ?_⟩ | refine ansB (by omega) (by omega) ?_ | refine ansB (by decide) (by decide) ?_ | refine And.intro (a := _ ≤ _) (by omega) ?_ | refine And.intro (a := _ ≠ _) (by omega) ?_ | fail); (conv => whnf))))
  rw [wi _ (by omega) (by omega), show 0 - a.1 = -a.1 by omega]
  rfl
theorem sgn_cases (n : Int) : (n < 0 ∧ sgR n = -1) ∨ (n = 0 ∧ sgR n = 0) ∨ (0 < n ∧ sgR n = 1) := by
  unfold sgR
  by_cases h1 : n < 0
  · simp [h1]
  · by_cases h2 : 0 < n
    · simp [h1, h2]
    · right; left; simp [h1, h2]; omega
theorem natMul (n : Int) (k : Int) (hk : 0 ≤ k) : ((n.natAbs * k.natAbs : Nat) : Int) = if n < 0 then -(n * k) else n * k := by
  rw [Int.natCast_mul, show ((k.natAbs : Nat) : Int) = k by omega]
  split
  · rw [show ((n.natAbs : Nat) : Int) = -n by omega, Int.neg_mul]
  · rw [show ((n.natAbs : Nat) : Int) = n by omega]
theorem pc_rPlus (a b : Int × Int) (ha : validB a = true) (hb : validB b = true) : PC Tryz.prog 153 [fr a, fr b] (okF (addF a b)) := by
  have va := (validB_iff a).1 ha
  have vb := (validB_iff b).1 hb
  have hdef : addF a b = makeF (a.1 * b.2 + b.1 * a.2) (a.2 * b.2) := rfl
  obtain ⟨n, d⟩ := a
  obtain ⟨m, e⟩ := b
  simp only [] at *
  have i1 : I64 n := by unfold I64; omega
  have i2 : I64 d := by unfold I64; omega
  have i3 : I64 m := by unfold I64; omega
  have i4 : I64 e := by unfold I64; omega
  have p1 := pc_rtimes n.natAbs e.natAbs (by omega) (by omega)
  have p2 := pc_rtimes m.natAbs d.natAbs (by omega) (by omega)
  have p3 := pc_rtimes d.natAbs e.natAbs (by omega) (by omega)
  have hx : n.natAbs * e.natAbs ≤ 4611686018427387903 * 4611686018427387903 := Nat.mul_le_mul (by omega) (by omega)
  have hy : m.natAbs * d.natAbs ≤ 4611686018427387903 * 4611686018427387903 := Nat.mul_le_mul (by omega) (by omega)
  have hd : d.natAbs * e.natAbs ≤ 4611686018427387903 * 4611686018427387903 := Nat.mul_le_mul (by omega) (by omega)
  have hd0 : 0 < d.natAbs * e.natAbs := Nat.mul_pos (by omega) (by omega)
  have kx := natMul n e (by omega)
  have ky := natMul m d (by omega)
  have kd := natMul d e (by omega)
  rw [if_neg (by omega)] at kd
  rw [← kd] at hdef
  have c2 := pc_rless (n.natAbs * e.natAbs) (m.natAbs * d.natAbs) (by omega) (by omega)
  have low := fun (sg : Int) (N : Nat) (h : n * e + m * d = if sg < 0 then -(N : Int) else (N : Int)) => low_eq (sg := sg) (N := N) hd0 (r := addF (n, d) (m, e)) (by rw [hdef, h])
  generalize addF (n, d) (m, e) = res at *
  have z1 : n = 0 → n * e = 0 := fun h => by rw [h, Int.zero_mul]
  have z2 : m = 0 → m * d = 0 := fun h => by rw [h, Int.zero_mul]
  generalize n.natAbs * e.natAbs = X at *
  generalize m.natAbs * d.natAbs = Y at *
  generalize d.natAbs * e.natAbs = D at *
  generalize n * e = NX at *
  generalize m * d = MY at *
  have cl := fun (sg : Int) (N : Nat) (hN : N < 170141183460469231731687303715884105728) => pc_rLowest sg N D hN (by omega) hd0
  have sn := sgn_cases n
  have sm := sgn_cases m
  have g1 := pc_rsign n
  have g2 := pc_rsign m
  generalize sgR n = s at *
  generalize sgR m = t at *
  clear hdef kd ha hb
  have hst : IntKind.i64.wrap (s * t) = s * t := by
    rcases sn with ⟨_, h⟩ | ⟨_, h⟩ | ⟨_, h⟩ <;> rcases sm with ⟨_, h'⟩ | ⟨_, h'⟩ | ⟨_, h'⟩ <;> subst h <;> subst h' <;> decide
  have hst2 : IntKind.i64.wrap (s + t) = s + t := by
    rcases sn with ⟨_, h⟩ | ⟨_, h⟩ | ⟨_, h⟩ <;> rcases sm with ⟨_, h'⟩ | ⟨_, h'⟩ | ⟨_, h'⟩ <;> subst h <;> subst h' <;> decide
  have hdiff : 0 ≤ s * t ↔ ¬ ((n < 0 ∧ 0 < m) ∨ (0 < n ∧ m < 0)) := by
    rcases sn with ⟨_, h⟩ | ⟨_, h⟩ | ⟨_, h⟩ <;> rcases sm with ⟨_, h'⟩ | ⟨_, h'⟩ | ⟨_, h'⟩ <;> subst h <;> subst h' <;> omega
  refine pc_of_bodyF hm Tryz.func153 (by kernel_rfl) ?_
  conv => whnf
  (repeat' (first | (refine ansS (fun hh => ?_) (fun hh => ?_) <;> (first | simp only [ansX] at hh | skip) <;> (first | (exfalso; omega) | (exfalso; simp [*] at hh; done) | (exfalso; revert hh; decide) | exact absurd (by assumption) hh | (conv => whnf))) | ((first | refine ⟨by kernel_rfl, ?_⟩ | refine ansB (by omega) (by omega) ?_ | refine ansB (by decide) (by decide) ?_ | refine And.intro (a := _ ≤ _) (by omega) ?_ | refine And.intro (a := _ ≠ _) (by omega) ?_ | ((try (refine Or.inl ?_; (conv => whnf))); (try (refine ⟨false, ?_⟩; (conv => whnf))); refine ⟨_, by first | exact pc_rsize n i1 | exact pc_rsize d i2 | exact pc_rsize m i3 | exact pc_rsize e i4 | exact p1 | exact p2 | exact p3 | exact g1 | exact g2, ?_⟩) | fail); (conv => whnf))))
  · rw [hst] at hh
    have hs := hdiff.1 hh
    have l := low (s + t) (X + Y) (by rw [Int.natCast_add, kx, ky]; split <;> split <;> split <;> omega)
    have c := cl (s + t) (X + Y) (by omega)
    rw [l] at c
    have cp := pc_rplus X Y (by omega)
    (repeat' (first | (refine ansS (fun hh => ?_) (fun hh => ?_) <;> (first | simp only [ansX] at hh | skip) <;> (first | (exfalso; omega) | (exfalso; simp [*] at hh; done) | (exfalso; revert hh; decide) | exact absurd (by assumption) hh | (conv => whnf))) | ((first | refine ⟨by kernel_rfl, ?_⟩ | refine ansB (by omega) (by omega) ?_ | refine ansB (by decide) (by decide) ?_ | refine And.intro (a := _ ≤ _) (by omega) ?_ | refine And.intro (a := _ ≠ _) (by omega) ?_ | ((try (refine Or.inl ?_; (conv => whnf))); (try (refine ⟨false, ?_⟩; (conv => whnf))); refine ⟨_, by exact cp, ?_⟩) | fail); (conv => whnf))))
    rw [hst2]
    (repeat' (first | (refine ansS (fun hh => ?_) (fun hh => ?_) <;> (first | simp only [ansX] at hh | skip) <;> (first | (exfalso; omega) | (exfalso; simp [*] at hh; done) | (exfalso; revert hh; decide) | exact absurd (by assumption) hh | (conv => whnf))) | ((first | refine ⟨by kernel_rfl, ?_⟩ | refine ansB (by omega) (by omega) ?_ | refine ansB (by decide) (by decide) ?_ | refine And.intro (a := _ ≤ _) (by omega) ?_ | refine And.intro (a := _ ≠ _) (by omega) ?_ | ((try (refine Or.inl ?_; (conv => whnf))); (try (refine ⟨false, ?_⟩; (conv => whnf))); refine ⟨_, by exact c, ?_⟩) | fail); (conv => whnf))))
  · rw [hst] at hh
    have hs : (n < 0 ∧ 0 < m) ∨ (0 < n ∧ m < 0) := by
      rcases Classical.em ((n < 0 ∧ 0 < m) ∨ (0 < n ∧ m < 0)) with h | h
      · exact h
      · exact absurd (hdiff.2 h) hh
    clear hh hst hst2 hdiff
    (repeat' (first | (refine ansS (fun hh => ?_) (fun hh => ?_) <;> (first | simp only [ansX] at hh | skip) <;> (first | (exfalso; omega) | (exfalso; simp [*] at hh; done) | (exfalso; revert hh; decide) | exact absurd (by assumption) hh | (conv => whnf))) | ((first | refine ⟨by kernel_rfl, ?_⟩ | refine ansB (by omega) (by omega) ?_ | refine ansB (by decide) (by decide) ?_ | refine And.intro (a := _ ≤ _) (by omega) ?_ | refine And.intro (a := _ ≠ _) (by omega) ?_ | ((try (refine Or.inl ?_; (conv => whnf))); (try (refine ⟨false, ?_⟩; (conv => whnf))); refine ⟨_, by exact c2, ?_⟩) | fail); (conv => whnf))))
    · have l := low t (Y - X) (by split at kx <;> split at ky <;> split <;> omega)
      have c := cl t (Y - X) (by omega)
      rw [l] at c
      have cp := pc_rminus Y X (by omega) (by omega)
      (repeat' (first | (refine ansS (fun hh => ?_) (fun hh => ?_) <;> (first | simp only [ansX] at hh | skip) <;> (first | (exfalso; omega) | (exfalso; simp [*] at hh; done) | (exfalso; revert hh; decide) | exact absurd (by assumption) hh | (conv => whnf))) | ((first | refine ⟨by kernel_rfl, ?_⟩ | refine ansB (by omega) (by omega) ?_ | refine ansB (by decide) (by decide) ?_ | refine And.intro (a := _ ≤ _) (by omega) ?_ | refine And.intro (a := _ ≠ _) (by omega) ?_ | ((try (refine Or.inl ?_; (conv => whnf))); (try (refine ⟨false, ?_⟩; (conv => whnf))); refine ⟨_, by first | exact g2 | exact cp | exact c, ?_⟩) | fail); (conv => whnf))))
    · have l := low s (X - Y) (by split at kx <;> split at ky <;> split <;> omega)
      have c := cl s (X - Y) (by omega)
      rw [l] at c
      have cp := pc_rminus X Y (by omega) (by omega)
      (repeat' (first | (refine ansS (fun hh => ?_) (fun hh => ?_) <;> (first | simp only [ansX] at hh | skip) <;> (first | (exfalso; omega) | (exfalso; simp [*] at hh; done) | (exfalso; revert hh; decide) | exact absurd (by assumption) hh | (conv => whnf))) | ((first | refine ⟨by kernel_rfl, ?_⟩ | refine ansB (by omega) (by omega) ?_ | refine ansB (by decide) (by decide) ?_ | refine And.intro (a := _ ≤ _) (by omega) ?_ | refine And.intro (a := _ ≠ _) (by omega) ?_ | ((try (refine Or.inl ?_; (conv => whnf))); (try (refine ⟨false, ?_⟩; (conv => whnf))); refine ⟨_, by first | exact g1 | exact cp | exact c, ?_⟩) | fail); (conv => whnf))))
end Go.Proofs.Tryz.My
