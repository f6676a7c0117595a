/- A helper text: contracts of functions of the program, and plain lemmas. -/
import Derived.Test.YtdpnpdjnaimgaaaGreatEvSix
import Derived.Test.YtdpnpdjnaimgaaaGreatMzRf1
import Derived.Test.YtdpnpdjnaimgaaaGreatMzExB
set_option maxRecDepth 100000
set_option maxHeartbeats 0
set_option linter.unusedVariables false
set_option linter.unusedSimpArgs false
namespace Go.Proofs.Tryz.My
open Go Go.Ev
theorem pc_rcommon (a b : Nat) (ha : a < 170141183460469231731687303715884105728) (hb : b < 170141183460469231731687303715884105728) : PC Tryz.prog 254 [pr a, pr b] (pr (Nat.gcd a b)) := by
  refine pc_of_bodyF hm Tryz.func254 (by kernel_rfl) ?_
  conv => whnf
  refine Or.inr ⟨Nat × Nat, [], [2, 3], [], fun _ => [], fun i => [cW i.1, cW i.2], fun _ => [], fun i => i.2, fun i => Nat.gcd i.1 i.2 = Nat.gcd a b ∧ i.1 < 170141183460469231731687303715884105728 ∧ i.2 < 170141183460469231731687303715884105728, ?_⟩
  (conv => whnf)
  refine ⟨⟨(a, b), ?_⟩, ?_⟩
  · (conv => whnf)
    exact ⟨⟨⟨rfl, ha, hb⟩, rfl, rfl, rfl⟩, by kernel_rfl, by kernel_rfl⟩
  · rintro ⟨x, y⟩ ⟨h1, h2, h3⟩
    simp only [] at h1 h2 h3
    (conv => whnf)
    refine ⟨by kernel_rfl, ?_⟩
    by_cases hy : y = 0
    · subst hy
      (conv => whnf)
      (repeat' (first | (refine ansS (fun hh => ?_) (fun hh => ?_) <;> (first | simp only [ansX] at hh | skip) <;> (first | (exfalso; omega) | (exfalso; simp [*] at hh; done) | (exfalso; revert hh; decide) | exact absurd (by assumption) hh | (conv => whnf))) | ((first | refine ⟨by kernel_rfl, ?_⟩ | refine ansB (by omega) (by omega) ?_ | refine ansB (by decide) (by decide) ?_ | refine And.intro (a := _ ≤ _) (by omega) ?_ | refine And.intro (a := _ ≠ _) (by omega) ?_ | fail); (conv => whnf))))
      show pr x = _
      rw [← h1, Nat.gcd_zero_right]
    · have cc := pc_parted x y (by omega) (by omega) h3
      (conv => whnf)
      (repeat' (first | (refine ansS (fun hh => ?_) (fun hh => ?_) <;> (first | simp only [ansX] at hh | skip) <;> (first | (exfalso; omega) | (exfalso; simp [*] at hh; done) | (exfalso; revert hh; decide) | exact absurd (by assumption) hh | (conv => whnf))) | ((first | refine ⟨by kernel_rfl, ?_⟩ | refine ansB (by omega) (by omega) ?_ | refine ansB (by decide) (by decide) ?_ | refine And.intro (a := _ ≤ _) (by omega) ?_ | refine And.intro (a := _ ≠ _) (by omega) ?_ | ((try (refine Or.inl ?_; (conv => whnf))); (try (refine ⟨false, ?_⟩; (conv => whnf))); refine ⟨_, by exact cc, ?_⟩) | fail); (conv => whnf))))
      refine ⟨(y, x % y), ?_⟩
      (conv => whnf)
      refine ⟨⟨⟨Nat.mod_lt _ (by omega), ?_, h3, ?_⟩, rfl, rfl, rfl⟩, by kernel_rfl, by kernel_rfl⟩
      · show Nat.gcd y (x % y) = _
        rw [← h1, Nat.gcd_comm x y, Nat.gcd_rec y x, Nat.gcd_comm]
      · exact Nat.lt_of_le_of_lt (Nat.mod_le x y) h2
def lowN (sg : Int) (n d : Nat) : (Int × Int) × Bool := if n ≤ 4611686018427387903 ∧ d ≤ 4611686018427387903 then ((if sg < 0 then -(n : Int) else (n : Int), (d : Int)), true) else ((0, 0), false)
def lowF (sg : Int) (N D : Nat) : (Int × Int) × Bool := lowN sg (N / Nat.gcd N D) (D / Nat.gcd N D)
theorem pc_rLowest (sg : Int) (N D : Nat) (hN : N < 170141183460469231731687303715884105728) (hD : D < 170141183460469231731687303715884105728) (hD0 : 0 < D) : PC Tryz.prog 298 [i64 sg, pr N, pr D] (.tup [fr (lowF sg N D).1, .bool (lowF sg N D).2]) := by
  have hg : 0 < Nat.gcd N D := Nat.gcd_pos_of_pos_right _ hD0
  have c1 := pc_rcommon N D hN hD
  have hle : Nat.gcd N D ≤ D := Nat.gcd_le_right _ hD0
  have c2 := pc_parted N (Nat.gcd N D) (by omega) hg (by omega)
  have c3 := pc_parted D (Nat.gcd N D) (by omega) hg (by omega)
  have hl : lowF sg N D = lowN sg (N / Nat.gcd N D) (D / Nat.gcd N D) := rfl
  have q1 : N / Nat.gcd N D < 340282366920938463463374607431768211456 := Nat.lt_of_le_of_lt (Nat.div_le_self _ _) (by omega)
  have q2 : D / Nat.gcd N D < 340282366920938463463374607431768211456 := Nat.lt_of_le_of_lt (Nat.div_le_self _ _) (by omega)
  rw [hl]
  generalize N / Nat.gcd N D = n at *
  generalize D / Nat.gcd N D = d at *
  have bad : ¬ (n ≤ 4611686018427387903 ∧ d ≤ 4611686018427387903) → lowN sg n d = ((0, 0), false) := fun h => by simp only [lowN, h, if_false]
  refine pc_of_bodyF hm Tryz.func298 (by kernel_rfl) ?_
  conv => whnf
  (repeat' (first | (refine ansS (fun hh => ?_) (fun hh => ?_) <;> (first | simp only [ansX] at hh | skip) <;> (first | (exfalso; omega) | (exfalso; simp [*] at hh; done) | (exfalso; revert hh; decide) | exact absurd (by assumption) hh | (conv => whnf))) | ((first | refine ⟨by kernel_rfl, ?_⟩ | refine ansB (by omega) (by omega) ?_ | refine ansB (by decide) (by decide) ?_ | refine And.intro (a := _ ≤ _) (by omega) ?_ | refine And.intro (a := _ ≠ _) (by omega) ?_ | ((try (refine Or.inl ?_; (conv => whnf))); (try (refine ⟨false, ?_⟩; (conv => whnf))); refine ⟨_, by first | exact c1 | exact c2 | exact c3, ?_⟩) | fail); (conv => whnf))))
  · rw [bad (by omega)]
  · rw [bad (by omega)]
  · rw [bad (by omega)]
  · rw [bad (by omega)]
  · have h1 : n ≤ 4611686018427387903 ∧ d ≤ 4611686018427387903 := by omega
    have e1 : n % 18446744073709551616 = n := by omega
    have e2 : d % 18446744073709551616 = d := by omega
    rw [e1, e2, wi (n : Int) (by omega) (by omega), wi (d : Int) (by omega) (by omega), wi _ (by omega) (by omega)]
    simp [lowN, h1, hh]
  · have h1 : n ≤ 4611686018427387903 ∧ d ≤ 4611686018427387903 := by omega
    have e1 : n % 18446744073709551616 = n := by omega
    have e2 : d % 18446744073709551616 = d := by omega
    rw [e1, e2, wi (n : Int) (by omega) (by omega), wi (d : Int) (by omega) (by omega)]
    have hh' : ¬ sg < 0 := by omega
    simp [lowN, h1, hh']
theorem pc_rfit (x : Int × Int) (b : Bool) : PC Tryz.prog 329 [fr x, .bool b] (.tup [fr (if b then x else (0, 0)), i64 (if b then 0 else 4)]) := by
  refine pc_of_bodyF hm Tryz.func329 (by kernel_rfl) ?_
  conv => whnf
  (repeat' (first | (refine ansS (fun hh => ?_) (fun hh => ?_) <;> (first | simp only [ansX] at hh | skip) <;> (first | (exfalso; omega) | (exfalso; simp [*] at hh; done) | (exfalso; revert hh; decide) | exact absurd (by assumption) hh | (conv => whnf))) | ((first | refine ⟨by kernel_rfl, ?_⟩ | refine ansB (by omega) (by omega) ?_ | refine ansB (by decide) (by decide) ?_ | refine And.intro (a := _ ≤ _) (by omega) ?_ | refine And.intro (a := _ ≠ _) (by omega) ?_ | fail); (conv => whnf))))
  all_goals simp_all
theorem sgn_mul (a b : Int) : sgR a * sgR b = if a = 0 ∨ b = 0 then 0 else if (decide (a < 0) != decide (b < 0)) = true then -1 else 1 := by
  unfold sgR
  by_cases h1 : a < 0 <;> by_cases h2 : b < 0 <;> by_cases h3 : 0 < a <;> by_cases h4 : 0 < b <;> simp [h1, h2, h3, h4] <;> omega
theorem make_low (num den : Int) (hd : den ≠ 0) : makeF num den = (if (lowF (sgR num * sgR den) num.natAbs den.natAbs).2 then (lowF (sgR num * sgR den) num.natAbs den.natAbs).1 else (0, 0), if (lowF (sgR num * sgR den) num.natAbs den.natAbs).2 then 0 else 4) := by
  unfold makeF lowF
  rw [if_neg hd, sgn_mul]
  by_cases h0 : num = 0
  · subst h0
    simp [madeF, lowN]
    split <;> simp
  · unfold madeF lowN
    have : ¬ (num = 0 ∨ den = 0) := by omega
    rw [if_neg this]
    generalize (decide (num < 0) != decide (den < 0)) = b
    split <;> cases b <;> simp
theorem pc_rMake (num den : Int) (h1 : I64 num) (h2 : I64 den) : PC Tryz.prog 322 [i64 num, i64 den] (.tup [fr (makeF num den).1, i64 (makeF num den).2]) := by
  have l1 := abs_lt h1
  have l2 := abs_lt h2
  by_cases hd : den = 0
  · subst hd
    refine pc_of_bodyF hm Tryz.func322 (by kernel_rfl) ?_
    conv => whnf
    (repeat' (first | (refine ansS (fun hh => ?_) (fun hh => ?_) <;> (first | simp only [ansX] at hh | skip) <;> (first | (exfalso; omega) | (exfalso; simp [*] at hh; done) | (exfalso; revert hh; decide) | exact absurd (by assumption) hh | (conv => whnf))) | ((first | refine ⟨by kernel_rfl, ?_⟩ | refine ansB (by omega) (by omega) ?_ | refine ansB (by decide) (by decide) ?_ | refine And.intro (a := _ ≤ _) (by omega) ?_ | refine And.intro (a := _ ≠ _) (by omega) ?_ | fail); (conv => whnf))))
    all_goals simp [makeF]
  · rw [make_low num den hd]
    have hsg : I64 (sgR num * sgR den) := by rw [sgn_mul]; unfold I64; split <;> (try split) <;> omega
    have c1 := pc_rLowest (sgR num * sgR den) num.natAbs den.natAbs (by omega) (by omega) (by omega)
    rw [pr_small _ l1, pr_small _ l2] at c1
    have c2 := pc_rfit (lowF (sgR num * sgR den) num.natAbs den.natAbs).1 (lowF (sgR num * sgR den) num.natAbs den.natAbs).2
    generalize lowF (sgR num * sgR den) num.natAbs den.natAbs = x at *
    refine pc_of_bodyF hm Tryz.func322 (by kernel_rfl) ?_
    conv => whnf
    (repeat' (first | (refine ansS (fun hh => ?_) (fun hh => ?_) <;> (first | simp only [ansX] at hh | skip) <;> (first | (exfalso; omega) | (exfalso; simp [*] at hh; done) | (exfalso; revert hh; decide) | exact absurd (by assumption) hh | (conv => whnf))) | ((first | refine ⟨by kernel_rfl, ?_⟩ | refine ansB (by omega) (by omega) ?_ | refine ansB (by decide) (by decide) ?_ | refine And.intro (a := _ ≤ _) (by omega) ?_ | refine And.intro (a := _ ≠ _) (by omega) ?_ | ((try (refine Or.inl ?_; (conv => whnf))); (try (refine ⟨false, ?_⟩; (conv => whnf))); refine ⟨_, by first | exact pc_rsign num | exact pc_rsign den | exact pc_rsize num h1 | exact pc_rsize den h2, ?_⟩) | fail); (conv => whnf))))
    have e : IntKind.i64.wrap (sgR num * sgR den) = sgR num * sgR den := w64 _ hsg.1 hsg.2
    rw [e]
    (repeat' (first | (refine ansS (fun hh => ?_) (fun hh => ?_) <;> (first | simp only [ansX] at hh | skip) <;> (first | (exfalso; omega) | (exfalso; simp [*] at hh; done) | (exfalso; revert hh; decide) | exact absurd (by assumption) hh | (conv => whnf))) | ((first | refine ⟨by kernel_rfl, ?_⟩ | refine ansB (by omega) (by omega) ?_ | refine ansB (by decide) (by decide) ?_ | refine And.intro (a := _ ≤ _) (by omega) ?_ | refine And.intro (a := _ ≠ _) (by omega) ?_ | ((try (refine Or.inl ?_; (conv => whnf))); (try (refine ⟨false, ?_⟩; (conv => whnf))); refine ⟨_, by first | exact c1 | exact c2, ?_⟩) | fail); (conv => whnf))))
    all_goals set_option pp.maxSteps 300 in trace_state
theorem pc_rValid (x : Int × Int) (h1 : I64 x.1) (h2 : I64 x.2) : PC Tryz.prog 205 [fr x] (.bool (validB x)) := by
  have v1 := validB_false x
  have v2 := validB_iff x
  obtain ⟨n, d⟩ := x
  simp only [] at v1 v2 h1 h2
  have c1 := pc_rcommon n.natAbs d.natAbs (by unfold I64 at h1; omega) (by unfold I64 at h2; omega)
  have l1 := abs_lt h1
  have l2 := abs_lt h2
  rw [pr_small _ l1, pr_small _ l2] at c1
  have hgl : d ≠ 0 → Nat.gcd n.natAbs d.natAbs < 18446744073709551616 := fun h => Nat.lt_of_le_of_lt (Nat.gcd_le_right _ (by omega)) l2
  refine pc_of_bodyF hm Tryz.func205 (by kernel_rfl) ?_
  conv => whnf
  (repeat' (first | (refine ansS (fun hh => ?_) (fun hh => ?_) <;> (first | simp only [ansX] at hh | skip) <;> (first | (exfalso; omega) | (exfalso; simp [*] at hh; done) | (exfalso; revert hh; decide) | exact absurd (by assumption) hh | (conv => whnf))) | ((first | refine ⟨by kernel_rfl, ?_⟩ | refine ansB (by omega) (by omega) ?_ | refine ansB (by decide) (by decide) ?_ | refine And.intro (a := _ ≤ _) (by omega) ?_ | refine And.intro (a := _ ≠ _) (by omega) ?_ | ((try (refine Or.inl ?_; (conv => whnf))); (try (refine ⟨false, ?_⟩; (conv => whnf))); refine ⟨_, by first | exact pc_rsize n h1 | exact pc_rsize d h2 | exact c1, ?_⟩) | fail); (conv => whnf))))
  · rw [v1.2 (by omega)]
  · rw [v1.2 (by omega)]
  · rw [v1.2 (by omega)]
  · rw [v1.2 (by omega)]
  · congr 1
    have hg := hgl (by omega)
    by_cases hv : Nat.gcd n.natAbs d.natAbs = 1
    · rw [v2.2 ⟨by omega, by omega, by omega, by omega, hv⟩, hv]; rfl
    · rw [v1.2 (fun h => hv h.2.2.2.2)]
      have : decide ((((Nat.gcd n.natAbs d.natAbs) % 18446744073709551616 : Nat) : Int) = 1) = false := decide_eq_false (by omega)
      rw [this, Bool.false_and, Bool.and_false]
theorem pc_rOrder (a b : Int × Int) (ha : validB a = true) (hb : validB b = true) : PC Tryz.prog 257 [fr a, fr b] (i64 (cmpF a b)) := by
  rw [validB_iff] at ha hb
  obtain ⟨n, d⟩ := a
  obtain ⟨m, e⟩ := b
  simp only [] at *
  have i1 : I64 n := by unfold I64; omega
  have i2 : I64 d := by unfold I64; omega
  have i3 : I64 m := by unfold I64; omega
  have i4 : I64 e := by unfold I64; omega
  have p1 := pc_rtimes n.natAbs e.natAbs (by omega) (by omega)
  have p2 := pc_rtimes m.natAbs d.natAbs (by omega) (by omega)
  have hx : n.natAbs * e.natAbs < 340282366920938463463374607431768211456 := Nat.lt_of_le_of_lt (Nat.mul_le_mul (show n.natAbs ≤ 4611686018427387903 by omega) (show e.natAbs ≤ 4611686018427387903 by omega)) (by decide)
  have hy : m.natAbs * d.natAbs < 340282366920938463463374607431768211456 := Nat.lt_of_le_of_lt (Nat.mul_le_mul (show m.natAbs ≤ 4611686018427387903 by omega) (show d.natAbs ≤ 4611686018427387903 by omega)) (by decide)
  have hsx : ((n.natAbs * e.natAbs : Nat) : Int) = if n < 0 then -(n * e) else n * e := by
    rw [Int.natCast_mul, show ((e.natAbs : Nat) : Int) = e by omega]
    split
    · rw [show ((n.natAbs : Nat) : Int) = -n by omega, Int.neg_mul]
    · rw [show ((n.natAbs : Nat) : Int) = n by omega]
  have hsy : ((m.natAbs * d.natAbs : Nat) : Int) = if m < 0 then -(m * d) else m * d := by
    rw [Int.natCast_mul, show ((d.natAbs : Nat) : Int) = d by omega]
    split
    · rw [show ((m.natAbs : Nat) : Int) = -m by omega, Int.neg_mul]
    · rw [show ((m.natAbs : Nat) : Int) = m by omega]
  have l1 := pc_rless (n.natAbs * e.natAbs) (m.natAbs * d.natAbs) hx hy
  have s1 : 0 < n → 0 < n * e := fun h => Int.mul_pos h (by omega)
  have s2 : n < 0 → n * e < 0 := fun h => Int.mul_neg_of_neg_of_pos h (by omega)
  have s3 : 0 < m → 0 < m * d := fun h => Int.mul_pos h (by omega)
  have s4 : m < 0 → m * d < 0 := fun h => Int.mul_neg_of_neg_of_pos h (by omega)
  have s5 : n = 0 → n * e = 0 := fun h => by rw [h, Int.zero_mul]
  have s6 : m = 0 → m * d = 0 := fun h => by rw [h, Int.zero_mul]
  have hc : cmpF (n, d) (m, e) = if n * e < m * d then -1 else if n * e = m * d then 0 else 1 := rfl
  generalize n.natAbs * e.natAbs = x at *
  generalize m.natAbs * d.natAbs = y at *
  generalize n * e = X at *
  generalize m * d = Y at *
  have g1 := pc_rsign n
  have g2 := pc_rsign m
  have g3 := pc_rsign (sgR n - sgR m)
  have r1 : sgR n = if n < 0 then -1 else if 0 < n then 1 else 0 := rfl
  have r2 : sgR m = if m < 0 then -1 else if 0 < m then 1 else 0 := rfl
  have r3 : sgR (sgR n - sgR m) = if sgR n - sgR m < 0 then -1 else if 0 < sgR n - sgR m then 1 else 0 := rfl
  generalize sgR n = sn at *
  generalize sgR m = sm at *
  generalize sgR (sn - sm) = sd at *
  have e1 : IntKind.i64.wrap (sn - sm) = sn - sm := wi _ (by split at r1 <;> (try split at r1) <;> split at r2 <;> (try split at r2) <;> omega) (by split at r1 <;> (try split at r1) <;> split at r2 <;> (try split at r2) <;> omega)
  have e2 : IntKind.i64.wrap (0 - sn) = 0 - sn := wi _ (by split at r1 <;> (try split at r1) <;> omega) (by split at r1 <;> (try split at r1) <;> omega)
  refine pc_of_bodyF hm Tryz.func257 (by kernel_rfl) ?_
  conv => whnf
  (repeat' (first | (refine ansS (fun hh => ?_) (fun hh => ?_) <;> (first | simp only [ansX] at hh | skip) <;> (first | (exfalso; omega) | (exfalso; simp [*] at hh; done) | (exfalso; revert hh; decide) | exact absurd (by assumption) hh | (conv => whnf))) | ((first | refine ⟨by kernel_rfl, ?_⟩ | refine ansB (by omega) (by omega) ?_ | refine ansB (by decide) (by decide) ?_ | refine And.intro (a := _ ≤ _) (by omega) ?_ | refine And.intro (a := _ ≠ _) (by omega) ?_ | ((try (refine Or.inl ?_; (conv => whnf))); (try (refine ⟨false, ?_⟩; (conv => whnf))); refine ⟨_, by first | exact g1 | exact g2, ?_⟩) | fail); (conv => whnf))))
  · rw [e1]
    (repeat' (first | (refine ansS (fun hh => ?_) (fun hh => ?_) <;> (first | simp only [ansX] at hh | skip) <;> (first | (exfalso; omega) | (exfalso; simp [*] at hh; done) | (exfalso; revert hh; decide) | exact absurd (by assumption) hh | (conv => whnf))) | ((first | refine ⟨by kernel_rfl, ?_⟩ | refine ansB (by omega) (by omega) ?_ | refine ansB (by decide) (by decide) ?_ | refine And.intro (a := _ ≤ _) (by omega) ?_ | refine And.intro (a := _ ≠ _) (by omega) ?_ | ((try (refine Or.inl ?_; (conv => whnf))); (try (refine ⟨false, ?_⟩; (conv => whnf))); refine ⟨_, by exact g3, ?_⟩) | fail); (conv => whnf))))
    rw [hc]
    congr 1
    split at r1 <;> (try split at r1) <;> split at r2 <;> (try split at r2) <;> first
      | (rw [if_pos (by omega)]; omega)
      | (rw [if_neg (by omega), if_pos (by omega)]; omega)
      | (rw [if_neg (by omega), if_neg (by omega)]; omega)
  · (repeat' (first | (refine ansS (fun hh => ?_) (fun hh => ?_) <;> (first | simp only [ansX] at hh | skip) <;> (first | (exfalso; omega) | (exfalso; simp [*] at hh; done) | (exfalso; revert hh; decide) | exact absurd (by assumption) hh | (conv => whnf))) | ((first | refine ⟨by kernel_rfl, ?_⟩ | refine ansB (by omega) (by omega) ?_ | refine ansB (by decide) (by decide) ?_ | refine And.intro (a := _ ≤ _) (by omega) ?_ | refine And.intro (a := _ ≠ _) (by omega) ?_ | ((try (refine Or.inl ?_; (conv => whnf))); (try (refine ⟨false, ?_⟩; (conv => whnf))); refine ⟨_, by first | exact pc_rsize n i1 | exact pc_rsize d i2 | exact pc_rsize m i3 | exact pc_rsize e i4 | exact p1 | exact p2 | exact l1, ?_⟩) | fail); (conv => whnf))))
    case' refine_2.refine_2.refine_1 => ((repeat' (first | (refine ansS (fun hh => ?_) (fun hh => ?_) <;> (first | simp only [ansX] at hh | skip) <;> (first | (exfalso; omega) | (exfalso; simp [*] at hh; done) | (exfalso; revert hh; decide) | exact absurd (by assumption) hh | (conv => whnf))) | ((first | refine ⟨by kernel_rfl, ?_⟩ | refine ansB (by omega) (by omega) ?_ | refine ansB (by decide) (by decide) ?_ | refine And.intro (a := _ ≤ _) (by omega) ?_ | refine And.intro (a := _ ≠ _) (by omega) ?_ | ((try (refine Or.inl ?_; (conv => whnf))); (try (refine ⟨false, ?_⟩; (conv => whnf))); refine ⟨_, by exact g1, ?_⟩) | fail); (conv => whnf)))); rw [e2]; (repeat' (first | (refine ansS (fun hh => ?_) (fun hh => ?_) <;> (first | simp only [ansX] at hh | skip) <;> (first | (exfalso; omega) | (exfalso; simp [*] at hh; done) | (exfalso; revert hh; decide) | exact absurd (by assumption) hh | (conv => whnf))) | ((first | refine ⟨by kernel_rfl, ?_⟩ | refine ansB (by omega) (by omega) ?_ | refine ansB (by decide) (by decide) ?_ | refine And.intro (a := _ ≤ _) (by omega) ?_ | refine And.intro (a := _ ≠ _) (by omega) ?_ | fail); (conv => whnf)))))
    case' refine_2.refine_2.refine_2 => (repeat' (first | (refine ansS (fun hh => ?_) (fun hh => ?_) <;> (first | simp only [ansX] at hh | skip) <;> (first | (exfalso; omega) | (exfalso; simp [*] at hh; done) | (exfalso; revert hh; decide) | exact absurd (by assumption) hh | (conv => whnf))) | ((first | refine ⟨by kernel_rfl, ?_⟩ | refine ansB (by omega) (by omega) ?_ | refine ansB (by decide) (by decide) ?_ | refine And.intro (a := _ ≤ _) (by omega) ?_ | refine And.intro (a := _ ≠ _) (by omega) ?_ | ((try (refine Or.inl ?_; (conv => whnf))); (try (refine ⟨false, ?_⟩; (conv => whnf))); refine ⟨_, by exact g1, ?_⟩) | fail); (conv => whnf))))
    all_goals
      rw [hc]
      congr 1
      clear hc p1 p2 l1 g1 g2 g3 r3 i1 i2 i3 i4 ha hb
      try simp only [reduceCtorEq, or_false, and_true] at *
      split at r1 <;> (try split at r1) <;> split at r2 <;> (try split at r2) <;> split at hsx <;> split at hsy <;> first
        | (exfalso; omega)
        | (rw [if_pos (by omega)]; first | done | omega)
        | (rw [if_neg (by omega), if_pos (by omega)]; first | done | omega)
        | (rw [if_neg (by omega), if_neg (by omega)]; first | done | omega)
theorem pc_rValidSpan (a : SpT) (h1 : I64 a.1.1) (h2 : I64 a.1.2) (h3 : I64 a.2.1) (h4 : I64 a.2.2) : PC Tryz.prog 209 [sp a] (.bool (spanB a)) := by
  have v1 := pc_rValid a.1 h1 h2
  have v2 := pc_rValid a.2 h3 h4
  have o := pc_rOrder a.1 a.2
  have hs : spanB a = (validB a.1 && validB a.2 && decide (cmpF a.1 a.2 ≤ 0)) := rfl
  rw [hs]
  cases e1 : validB a.1
  · rw [e1] at v1
    refine pc_of_bodyF hm Tryz.func209 (by kernel_rfl) ?_
    conv => whnf
    (repeat' (first | (refine ansS (fun hh => ?_) (fun hh => ?_) <;> (first | simp only [ansX] at hh | skip) <;> (first | (exfalso; omega) | (exfalso; simp [*] at hh; done) | (exfalso; revert hh; decide) | exact absurd (by assumption) hh | (conv => whnf))) | ((first | refine ⟨by kernel_rfl, ?_⟩ | refine ansB (by omega) (by omega) ?_ | refine ansB (by decide) (by decide) ?_ | refine And.intro (a := _ ≤ _) (by omega) ?_ | refine And.intro (a := _ ≠ _) (by omega) ?_ | ((try (refine Or.inl ?_; (conv => whnf))); (try (refine ⟨false, ?_⟩; (conv => whnf))); refine ⟨_, by exact v1, ?_⟩) | fail); (conv => whnf))))
    all_goals simp
  · cases e2 : validB a.2
    · rw [e1] at v1
      rw [e2] at v2
      refine pc_of_bodyF hm Tryz.func209 (by kernel_rfl) ?_
      conv => whnf
      (repeat' (first | (refine ansS (fun hh => ?_) (fun hh => ?_) <;> (first | simp only [ansX] at hh | skip) <;> (first | (exfalso; omega) | (exfalso; simp [*] at hh; done) | (exfalso; revert hh; decide) | exact absurd (by assumption) hh | (conv => whnf))) | ((first | refine ⟨by kernel_rfl, ?_⟩ | refine ansB (by omega) (by omega) ?_ | refine ansB (by decide) (by decide) ?_ | refine And.intro (a := _ ≤ _) (by omega) ?_ | refine And.intro (a := _ ≠ _) (by omega) ?_ | ((try (refine Or.inl ?_; (conv => whnf))); (try (refine ⟨false, ?_⟩; (conv => whnf))); refine ⟨_, by first | exact v1 | exact v2, ?_⟩) | fail); (conv => whnf))))
      all_goals simp
    · rw [e1] at v1
      rw [e2] at v2
      have o := o e1 e2
      refine pc_of_bodyF hm Tryz.func209 (by kernel_rfl) ?_
      conv => whnf
      (repeat' (first | (refine ansS (fun hh => ?_) (fun hh => ?_) <;> (first | simp only [ansX] at hh | skip) <;> (first | (exfalso; omega) | (exfalso; simp [*] at hh; done) | (exfalso; revert hh; decide) | exact absurd (by assumption) hh | (conv => whnf))) | ((first | refine ⟨by kernel_rfl, ?_⟩ | refine ansB (by omega) (by omega) ?_ | refine ansB (by decide) (by decide) ?_ | refine And.intro (a := _ ≤ _) (by omega) ?_ | refine And.intro (a := _ ≠ _) (by omega) ?_ | ((try (refine Or.inl ?_; (conv => whnf))); (try (refine ⟨false, ?_⟩; (conv => whnf))); refine ⟨_, by first | exact v1 | exact v2 | exact o, ?_⟩) | fail); (conv => whnf))))
      all_goals simp
end Go.Proofs.Tryz.My
set_option maxRecDepth 100000
set_option maxHeartbeats 0
set_option linter.unusedVariables false
set_option linter.unusedSimpArgs false
namespace Go.Proofs.Tryz.My
open Go Go.Ev
abbrev okF (r : (Int × Int) × Int) : AV := .tup [fr r.1, .bool (decide (r.2 = 0))]
theorem low_eq {sg : Int} {N D : Nat} (hD : 0 < D) {r : (Int × Int) × Int} (hr : r = makeF (if sg < 0 then -(N : Int) else (N : Int)) (D : Int)) : lowF sg N D = (r.1, decide (r.2 = 0)) := by
  rw [hr, makeF_pos (by omega)]
  unfold lowF
  have e1 : (if sg < 0 then -(N : Int) else (N : Int)).natAbs = N := by split <;> omega
  rw [e1, Int.natAbs_natCast]
  unfold lowN madeF
  have hg : 0 < Nat.gcd N D := Nat.gcd_pos_of_pos_right _ hD
  by_cases hc : N / Nat.gcd N D ≤ 4611686018427387903 ∧ D / Nat.gcd N D ≤ 4611686018427387903
  · simp only [hc, and_self, if_true]
    by_cases hs : sg < 0
    · by_cases hn : N = 0
      · subst hn; simp [hs]
      · have : -(N : Int) < 0 := by omega
        simp [hs, this]
        intro h; omega
    · have : ¬ (N : Int) < 0 := by omega
      simp [hs, this]
  · simp only [hc, if_false]
    simp
theorem pc_rNeg (a : Int × Int) (h : validB a = true) : PC Tryz.prog 262 [fr a] (fr (negF a)) := by
  have := (validB_iff a).1 h
  refine pc_of_bodyF hm Tryz.func262 (by kernel_rfl) ?_
  conv => whnf
  (repeat' (first | (refine ansS (fun hh => ?_) (fun hh => ?_) <;> (first | simp only [ansX] at hh | skip) <;> (first | (exfalso; omega) | (exfalso; simp [*] at hh; done) | (exfalso; revert hh; decide) | exact absurd (by assumption) hh | (conv => whnf))) | ((first | refine ⟨by kernel_rfl, ?_⟩ | refine ansB (by omega) (by omega) ?_ | refine ansB (by decide) (by decide) ?_ | refine And.intro (a := _ ≤ _) (by omega) ?_ | refine And.intro (a := _ ≠ _) (by omega) ?_ | fail); (conv => whnf))))
  rw [wi _ (by omega) (by omega), show 0 - a.1 = -a.1 by omega]
  rfl
theorem sgn_cases (n : Int) : (n < 0 ∧ sgR n = -1) ∨ (n = 0 ∧ sgR n = 0) ∨ (0 < n ∧ sgR n = 1) := by
  unfold sgR
  by_cases h1 : n < 0
  · simp [h1]
  · by_cases h2 : 0 < n
    · simp [h1, h2]
    · right; left; simp [h1, h2]; omega
theorem natMul (n : Int) (k : Int) (hk : 0 ≤ k) : ((n.natAbs * k.natAbs : Nat) : Int) = if n < 0 then -(n * k) else n * k := by
  rw [Int.natCast_mul, show ((k.natAbs : Nat) : Int) = k by omega]
  split
  · rw [show ((n.natAbs : Nat) : Int) = -n by omega, Int.neg_mul]
  · rw [show ((n.natAbs : Nat) : Int) = n by omega]
theorem pc_rPlus (a b : Int × Int) (ha : validB a = true) (hb : validB b = true) : PC Tryz.prog 261 [fr a, fr b] (okF (addF a b)) := by
  have va := (validB_iff a).1 ha
  have vb := (validB_iff b).1 hb
  have hdef : addF a b = makeF (a.1 * b.2 + b.1 * a.2) (a.2 * b.2) := rfl
  obtain ⟨n, d⟩ := a
  obtain ⟨m, e⟩ := b
  simp only [] at *
  have i1 : I64 n := by unfold I64; omega
  have i2 : I64 d := by unfold I64; omega
  have i3 : I64 m := by unfold I64; omega
  have i4 : I64 e := by unfold I64; omega
  have p1 := pc_rtimes n.natAbs e.natAbs (by omega) (by omega)
  have p2 := pc_rtimes m.natAbs d.natAbs (by omega) (by omega)
  have p3 := pc_rtimes d.natAbs e.natAbs (by omega) (by omega)
  have hx : n.natAbs * e.natAbs ≤ 4611686018427387903 * 4611686018427387903 := Nat.mul_le_mul (by omega) (by omega)
  have hy : m.natAbs * d.natAbs ≤ 4611686018427387903 * 4611686018427387903 := Nat.mul_le_mul (by omega) (by omega)
  have hd : d.natAbs * e.natAbs ≤ 4611686018427387903 * 4611686018427387903 := Nat.mul_le_mul (by omega) (by omega)
  have hd0 : 0 < d.natAbs * e.natAbs := Nat.mul_pos (by omega) (by omega)
  have kx := natMul n e (by omega)
  have ky := natMul m d (by omega)
  have kd := natMul d e (by omega)
  rw [if_neg (by omega)] at kd
  rw [← kd] at hdef
  have c2 := pc_rless (n.natAbs * e.natAbs) (m.natAbs * d.natAbs) (by omega) (by omega)
  have low := fun (sg : Int) (N : Nat) (h : n * e + m * d = if sg < 0 then -(N : Int) else (N : Int)) => low_eq (sg := sg) (N := N) hd0 (r := addF (n, d) (m, e)) (by rw [hdef, h])
  generalize addF (n, d) (m, e) = res at *
  have z1 : n = 0 → n * e = 0 := fun h => by rw [h, Int.zero_mul]
  have z2 : m = 0 → m * d = 0 := fun h => by rw [h, Int.zero_mul]
  generalize n.natAbs * e.natAbs = X at *
  generalize m.natAbs * d.natAbs = Y at *
  generalize d.natAbs * e.natAbs = D at *
  generalize n * e = NX at *
  generalize m * d = MY at *
  have cl := fun (sg : Int) (N : Nat) (hN : N < 170141183460469231731687303715884105728) => pc_rLowest sg N D hN (by omega) hd0
  have sn := sgn_cases n
  have sm := sgn_cases m
  have g1 := pc_rsign n
  have g2 := pc_rsign m
  generalize sgR n = s at *
  generalize sgR m = t at *
  clear hdef kd ha hb
  have hst : IntKind.i64.wrap (s * t) = s * t := by
    rcases sn with ⟨_, h⟩ | ⟨_, h⟩ | ⟨_, h⟩ <;> rcases sm with ⟨_, h'⟩ | ⟨_, h'⟩ | ⟨_, h'⟩ <;> subst h <;> subst h' <;> decide
  have hst2 : IntKind.i64.wrap (s + t) = s + t := by
    rcases sn with ⟨_, h⟩ | ⟨_, h⟩ | ⟨_, h⟩ <;> rcases sm with ⟨_, h'⟩ | ⟨_, h'⟩ | ⟨_, h'⟩ <;> subst h <;> subst h' <;> decide
  have hdiff : 0 ≤ s * t ↔ ¬ ((n < 0 ∧ 0 < m) ∨ (0 < n ∧ m < 0)) := by
    rcases sn with ⟨_, h⟩ | ⟨_, h⟩ | ⟨_, h⟩ <;> rcases sm with ⟨_, h'⟩ | ⟨_, h'⟩ | ⟨_, h'⟩ <;> subst h <;> subst h' <;> omega
  refine pc_of_bodyF hm Tryz.func261 (by kernel_rfl) ?_
  conv => whnf
  (repeat' (first | (refine ansS (fun hh => ?_) (fun hh => ?_) <;> (first | simp only [ansX] at hh | skip) <;> (first | (exfalso; omega) | (exfalso; simp [*] at hh; done) | (exfalso; revert hh; decide) | exact absurd (by assumption) hh | (conv => whnf))) | ((first | refine ⟨by kernel_rfl, ?_⟩ | refine ansB (by omega) (by omega) ?_ | refine ansB (by decide) (by decide) ?_ | refine And.intro (a := _ ≤ _) (by omega) ?_ | refine And.intro (a := _ ≠ _) (by omega) ?_ | ((try (refine Or.inl ?_; (conv => whnf))); (try (refine ⟨false, ?_⟩; (conv => whnf))); refine ⟨_, by first | exact pc_rsize n i1 | exact pc_rsize d i2 | exact pc_rsize m i3 | exact pc_rsize e i4 | exact p1 | exact p2 | exact p3 | exact g1 | exact g2, ?_⟩) | fail); (conv => whnf))))
  · rw [hst] at hh
    have hs := hdiff.1 hh
    have l := low (s + t) (X + Y) (by rw [Int.natCast_add, kx, ky]; split <;> split <;> split <;> omega)
    have c := cl (s + t) (X + Y) (by omega)
    rw [l] at c
    have cp := pc_rplus X Y (by omega)
    (repeat' (first | (refine ansS (fun hh => ?_) (fun hh => ?_) <;> (first | simp only [ansX] at hh | skip) <;> (first | (exfalso; omega) | (exfalso; simp [*] at hh; done) | (exfalso; revert hh; decide) | exact absurd (by assumption) hh | (conv => whnf))) | ((first | refine ⟨by kernel_rfl, ?_⟩ | refine ansB (by omega) (by omega) ?_ | refine ansB (by decide) (by decide) ?_ | refine And.intro (a := _ ≤ _) (by omega) ?_ | refine And.intro (a := _ ≠ _) (by omega) ?_ | ((try (refine Or.inl ?_; (conv => whnf))); (try (refine ⟨false, ?_⟩; (conv => whnf))); refine ⟨_, by exact cp, ?_⟩) | fail); (conv => whnf))))
    rw [hst2]
    (repeat' (first | (refine ansS (fun hh => ?_) (fun hh => ?_) <;> (first | simp only [ansX] at hh | skip) <;> (first | (exfalso; omega) | (exfalso; simp [*] at hh; done) | (exfalso; revert hh; decide) | exact absurd (by assumption) hh | (conv => whnf))) | ((first | refine ⟨by kernel_rfl, ?_⟩ | refine ansB (by omega) (by omega) ?_ | refine ansB (by decide) (by decide) ?_ | refine And.intro (a := _ ≤ _) (by omega) ?_ | refine And.intro (a := _ ≠ _) (by omega) ?_ | ((try (refine Or.inl ?_; (conv => whnf))); (try (refine ⟨false, ?_⟩; (conv => whnf))); refine ⟨_, by exact c, ?_⟩) | fail); (conv => whnf))))
  · rw [hst] at hh
    have hs : (n < 0 ∧ 0 < m) ∨ (0 < n ∧ m < 0) := by
      rcases Classical.em ((n < 0 ∧ 0 < m) ∨ (0 < n ∧ m < 0)) with h | h
      · exact h
      · exact absurd (hdiff.2 h) hh
    clear hh hst hst2 hdiff
    (repeat' (first | (refine ansS (fun hh => ?_) (fun hh => ?_) <;> (first | simp only [ansX] at hh | skip) <;> (first | (exfalso; omega) | (exfalso; simp [*] at hh; done) | (exfalso; revert hh; decide) | exact absurd (by assumption) hh | (conv => whnf))) | ((first | refine ⟨by kernel_rfl, ?_⟩ | refine ansB (by omega) (by omega) ?_ | refine ansB (by decide) (by decide) ?_ | refine And.intro (a := _ ≤ _) (by omega) ?_ | refine And.intro (a := _ ≠ _) (by omega) ?_ | ((try (refine Or.inl ?_; (conv => whnf))); (try (refine ⟨false, ?_⟩; (conv => whnf))); refine ⟨_, by exact c2, ?_⟩) | fail); (conv => whnf))))
    · have l := low t (Y - X) (by split at kx <;> split at ky <;> split <;> omega)
      have c := cl t (Y - X) (by omega)
      rw [l] at c
      have cp := pc_rminus Y X (by omega) (by omega)
      (repeat' (first | (refine ansS (fun hh => ?_) (fun hh => ?_) <;> (first | simp only [ansX] at hh | skip) <;> (first | (exfalso; omega) | (exfalso; simp [*] at hh; done) | (exfalso; revert hh; decide) | exact absurd (by assumption) hh | (conv => whnf))) | ((first | refine ⟨by kernel_rfl, ?_⟩ | refine ansB (by omega) (by omega) ?_ | refine ansB (by decide) (by decide) ?_ | refine And.intro (a := _ ≤ _) (by omega) ?_ | refine And.intro (a := _ ≠ _) (by omega) ?_ | ((try (refine Or.inl ?_; (conv => whnf))); (try (refine ⟨false, ?_⟩; (conv => whnf))); refine ⟨_, by first | exact g2 | exact cp | exact c, ?_⟩) | fail); (conv => whnf))))
    · have l := low s (X - Y) (by split at kx <;> split at ky <;> split <;> omega)
      have c := cl s (X - Y) (by omega)
      rw [l] at c
      have cp := pc_rminus X Y (by omega) (by omega)
      (repeat' (first | (refine ansS (fun hh => ?_) (fun hh => ?_) <;> (first | simp only [ansX] at hh | skip) <;> (first | (exfalso; omega) | (exfalso; simp [*] at hh; done) | (exfalso; revert hh; decide) | exact absurd (by assumption) hh | (conv => whnf))) | ((first | refine ⟨by kernel_rfl, ?_⟩ | refine ansB (by omega) (by omega) ?_ | refine ansB (by decide) (by decide) ?_ | refine And.intro (a := _ ≤ _) (by omega) ?_ | refine And.intro (a := _ ≠ _) (by omega) ?_ | ((try (refine Or.inl ?_; (conv => whnf))); (try (refine ⟨false, ?_⟩; (conv => whnf))); refine ⟨_, by first | exact g1 | exact cp | exact c, ?_⟩) | fail); (conv => whnf))))
end Go.Proofs.Tryz.My
