/- A helper text: contracts of functions of the program, and plain lemmas. -/
import Derived.Test.YtanhmmiifbhcpaaMyRf1
set_option maxRecDepth 100000
set_option maxHeartbeats 0
set_option linter.unusedVariables false
set_option linter.unusedSimpArgs false
namespace Go.Proofs.Try.My
open Go Go.Ev

theorem pc_rcommon (a b : Nat) (ha : a < 170141183460469231731687303715884105728) (hb : b < 170141183460469231731687303715884105728) : PC Try.prog 111 [pr a, pr b] (pr (Nat.gcd a b)) := by
  refine pc_of_body hm Try.func111 (by kernel_rfl) ?_
  conv => whnf
  refine Or.inr ⟨Nat × Nat, [], [2, 3], [], fun _ => [], fun i => [cW i.1, cW i.2], fun _ => [], fun i => i.2, fun i => Nat.gcd i.1 i.2 = Nat.gcd a b ∧ i.1 < 170141183460469231731687303715884105728 ∧ i.2 < 170141183460469231731687303715884105728, ?_⟩
  (conv => whnf)
  refine ⟨⟨(a, b), ?_⟩, ?_⟩
  · (conv => whnf)
    exact ⟨⟨⟨rfl, ha, hb⟩, rfl, rfl, rfl⟩, by kernel_rfl, by kernel_rfl⟩
  · rintro ⟨x, y⟩ ⟨h1, h2, h3⟩
    simp only [] at h1 h2 h3
    (conv => whnf)
    refine ⟨by kernel_rfl, ?_⟩
    by_cases hy : y = 0
    · subst hy
      (conv => whnf)
      (repeat' (first | (refine And.intro (a := _ = true → _) (b := _ = false → _) (fun hh => ?_) (fun hh => ?_) <;> (first | simp only [decide_eq_true_eq, decide_eq_false_iff_not, Bool.or_eq_true, Bool.and_eq_true, Bool.or_eq_false_iff, Bool.and_eq_false_iff, Bool.not_eq_true', Bool.not_eq_false', ge_iff_le, gt_iff_lt] at hh | skip) <;> (first | (exfalso; omega) | (exfalso; simp [*] at hh; done) | (exfalso; revert hh; decide) | exact absurd (by assumption) hh | (conv => whnf))) | (refine ⟨by kernel_rfl, ?_⟩; (conv => whnf)) | (refine And.intro (a := _ ∧ _) ⟨by omega, by omega⟩ ?_; (conv => whnf)) | (refine And.intro (a := _ ∧ _) ⟨by decide, by decide⟩ ?_; (conv => whnf)) | (refine And.intro (a := _ ≤ _) (by omega) ?_; (conv => whnf)) | (refine And.intro (a := _ ≠ _) (by omega) ?_; (conv => whnf))))
      show pr x = _
      rw [← h1, Nat.gcd_zero_right]
    · have cc := pc_parted x y (by omega) (by omega) h3
      (conv => whnf)
      (repeat' (first | (refine And.intro (a := _ = true → _) (b := _ = false → _) (fun hh => ?_) (fun hh => ?_) <;> (first | simp only [decide_eq_true_eq, decide_eq_false_iff_not, Bool.or_eq_true, Bool.and_eq_true, Bool.or_eq_false_iff, Bool.and_eq_false_iff, Bool.not_eq_true', Bool.not_eq_false', ge_iff_le, gt_iff_lt] at hh | skip) <;> (first | (exfalso; omega) | (exfalso; simp [*] at hh; done) | (exfalso; revert hh; decide) | exact absurd (by assumption) hh | (conv => whnf))) | (refine ⟨by kernel_rfl, ?_⟩; (conv => whnf)) | (refine And.intro (a := _ ∧ _) ⟨by omega, by omega⟩ ?_; (conv => whnf)) | (refine And.intro (a := _ ∧ _) ⟨by decide, by decide⟩ ?_; (conv => whnf)) | (refine And.intro (a := _ ≤ _) (by omega) ?_; (conv => whnf)) | (refine And.intro (a := _ ≠ _) (by omega) ?_; (conv => whnf)) | (refine Or.inl ?_; (conv => whnf); first | (refine ⟨_, by first | exact cc, ?_⟩; (conv => whnf)) | (refine ⟨false, ?_⟩; (conv => whnf); refine ⟨_, by first | exact cc, ?_⟩; (conv => whnf))) | (refine ⟨_, by first | exact cc, ?_⟩; (conv => whnf))))
      refine ⟨(y, x % y), ?_⟩
      (conv => whnf)
      refine ⟨⟨⟨Nat.mod_lt _ (by omega), ?_, h3, ?_⟩, rfl, rfl, rfl⟩, by kernel_rfl, by kernel_rfl⟩
      · show Nat.gcd y (x % y) = _
        rw [← h1, Nat.gcd_comm x y, Nat.gcd_rec y x, Nat.gcd_comm]
      · exact Nat.lt_of_le_of_lt (Nat.mod_le x y) h2
def lowN (sg : Int) (n d : Nat) : (Int × Int) × Bool := if n ≤ 4611686018427387903 ∧ d ≤ 4611686018427387903 then ((if sg < 0 then -(n : Int) else (n : Int), (d : Int)), true) else ((0, 0), false)
def lowF (sg : Int) (N D : Nat) : (Int × Int) × Bool := lowN sg (N / Nat.gcd N D) (D / Nat.gcd N D)
theorem pc_rLowest (sg : Int) (N D : Nat) (hN : N < 170141183460469231731687303715884105728) (hD : D < 170141183460469231731687303715884105728) (hD0 : 0 < D) : PC Try.prog 127 [i64 sg, pr N, pr D] (.tup [fr (lowF sg N D).1, .bool (lowF sg N D).2]) := by
  have hg : 0 < Nat.gcd N D := Nat.gcd_pos_of_pos_right _ hD0
  have c1 := pc_rcommon N D hN hD
  have hle : Nat.gcd N D ≤ D := Nat.gcd_le_right _ hD0
  have c2 := pc_parted N (Nat.gcd N D) (by omega) hg (by omega)
  have c3 := pc_parted D (Nat.gcd N D) (by omega) hg (by omega)
  have hl : lowF sg N D = lowN sg (N / Nat.gcd N D) (D / Nat.gcd N D) := rfl
  have q1 : N / Nat.gcd N D < 340282366920938463463374607431768211456 := Nat.lt_of_le_of_lt (Nat.div_le_self _ _) (by omega)
  have q2 : D / Nat.gcd N D < 340282366920938463463374607431768211456 := Nat.lt_of_le_of_lt (Nat.div_le_self _ _) (by omega)
  rw [hl]
  generalize N / Nat.gcd N D = n at *
  generalize D / Nat.gcd N D = d at *
  have bad : ¬ (n ≤ 4611686018427387903 ∧ d ≤ 4611686018427387903) → lowN sg n d = ((0, 0), false) := fun h => by simp only [lowN, h, if_false]
  refine pc_of_body hm Try.func127 (by kernel_rfl) ?_
  conv => whnf
  (repeat' (first | (refine And.intro (a := _ = true → _) (b := _ = false → _) (fun hh => ?_) (fun hh => ?_) <;> (first | simp only [decide_eq_true_eq, decide_eq_false_iff_not, Bool.or_eq_true, Bool.and_eq_true, Bool.or_eq_false_iff, Bool.and_eq_false_iff, Bool.not_eq_true', Bool.not_eq_false', ge_iff_le, gt_iff_lt] at hh | skip) <;> (first | (exfalso; omega) | (exfalso; simp [*] at hh; done) | (exfalso; revert hh; decide) | exact absurd (by assumption) hh | (conv => whnf))) | (refine ⟨by kernel_rfl, ?_⟩; (conv => whnf)) | (refine And.intro (a := _ ∧ _) ⟨by omega, by omega⟩ ?_; (conv => whnf)) | (refine And.intro (a := _ ∧ _) ⟨by decide, by decide⟩ ?_; (conv => whnf)) | (refine And.intro (a := _ ≤ _) (by omega) ?_; (conv => whnf)) | (refine And.intro (a := _ ≠ _) (by omega) ?_; (conv => whnf)) | (refine Or.inl ?_; (conv => whnf); first | (refine ⟨_, by first | exact c1 | exact c2 | exact c3, ?_⟩; (conv => whnf)) | (refine ⟨false, ?_⟩; (conv => whnf); refine ⟨_, by first | exact c1 | exact c2 | exact c3, ?_⟩; (conv => whnf))) | (refine ⟨_, by first | exact c1 | exact c2 | exact c3, ?_⟩; (conv => whnf))))
  · rw [bad (by omega)]
  · rw [bad (by omega)]
  · rw [bad (by omega)]
  · rw [bad (by omega)]
  · have h1 : n ≤ 4611686018427387903 ∧ d ≤ 4611686018427387903 := by omega
    have e1 : n % 18446744073709551616 = n := by omega
    have e2 : d % 18446744073709551616 = d := by omega
    rw [e1, e2, wi (n : Int) (by omega) (by omega), wi (d : Int) (by omega) (by omega), wi _ (by omega) (by omega)]
    simp [lowN, h1, hh]
  · have h1 : n ≤ 4611686018427387903 ∧ d ≤ 4611686018427387903 := by omega
    have e1 : n % 18446744073709551616 = n := by omega
    have e2 : d % 18446744073709551616 = d := by omega
    rw [e1, e2, wi (n : Int) (by omega) (by omega), wi (d : Int) (by omega) (by omega)]
    have hh' : ¬ sg < 0 := by omega
    simp [lowN, h1, hh']
theorem pc_rfit (x : Int × Int) (b : Bool) : PC Try.prog 130 [fr x, .bool b] (.tup [fr (if b then x else (0, 0)), i64 (if b then 0 else 4)]) := by
  refine pc_of_body hm Try.func130 (by kernel_rfl) ?_
  conv => whnf
  (repeat' (first | (refine And.intro (a := _ = true → _) (b := _ = false → _) (fun hh => ?_) (fun hh => ?_) <;> (first | simp only [decide_eq_true_eq, decide_eq_false_iff_not, Bool.or_eq_true, Bool.and_eq_true, Bool.or_eq_false_iff, Bool.and_eq_false_iff, Bool.not_eq_true', Bool.not_eq_false', ge_iff_le, gt_iff_lt] at hh | skip) <;> (first | (exfalso; omega) | (exfalso; simp [*] at hh; done) | (exfalso; revert hh; decide) | exact absurd (by assumption) hh | (conv => whnf))) | (refine ⟨by kernel_rfl, ?_⟩; (conv => whnf)) | (refine And.intro (a := _ ∧ _) ⟨by omega, by omega⟩ ?_; (conv => whnf)) | (refine And.intro (a := _ ∧ _) ⟨by decide, by decide⟩ ?_; (conv => whnf)) | (refine And.intro (a := _ ≤ _) (by omega) ?_; (conv => whnf)) | (refine And.intro (a := _ ≠ _) (by omega) ?_; (conv => whnf))))
  all_goals simp_all
theorem sgn_mul (a b : Int) : sgn a * sgn b = if a = 0 ∨ b = 0 then 0 else if (decide (a < 0) != decide (b < 0)) = true then -1 else 1 := by
  unfold sgn
  by_cases h1 : a < 0 <;> by_cases h2 : b < 0 <;> by_cases h3 : 0 < a <;> by_cases h4 : 0 < b <;> simp [h1, h2, h3, h4] <;> omega
theorem make_low (num den : Int) (hd : den ≠ 0) : makeF num den = (if (lowF (sgn num * sgn den) num.natAbs den.natAbs).2 then (lowF (sgn num * sgn den) num.natAbs den.natAbs).1 else (0, 0), if (lowF (sgn num * sgn den) num.natAbs den.natAbs).2 then 0 else 4) := by
  unfold makeF lowF
  rw [if_neg hd, sgn_mul]
  by_cases h0 : num = 0
  · subst h0
    simp [madeF, lowN]
    split <;> simp
  · unfold madeF lowN
    have : ¬ (num = 0 ∨ den = 0) := by omega
    rw [if_neg this]
    generalize (decide (num < 0) != decide (den < 0)) = b
    split <;> cases b <;> simp
theorem pc_rMake (num den : Int) (h1 : I64 num) (h2 : I64 den) : PC Try.prog 113 [i64 num, i64 den] (.tup [fr (makeF num den).1, i64 (makeF num den).2]) := by
  have l1 := abs_lt h1
  have l2 := abs_lt h2
  by_cases hd : den = 0
  · subst hd
    refine pc_of_body hm Try.func113 (by kernel_rfl) ?_
    conv => whnf
    (repeat' (first | (refine And.intro (a := _ = true → _) (b := _ = false → _) (fun hh => ?_) (fun hh => ?_) <;> (first | simp only [decide_eq_true_eq, decide_eq_false_iff_not, Bool.or_eq_true, Bool.and_eq_true, Bool.or_eq_false_iff, Bool.and_eq_false_iff, Bool.not_eq_true', Bool.not_eq_false', ge_iff_le, gt_iff_lt] at hh | skip) <;> (first | (exfalso; omega) | (exfalso; simp [*] at hh; done) | (exfalso; revert hh; decide) | exact absurd (by assumption) hh | (conv => whnf))) | (refine ⟨by kernel_rfl, ?_⟩; (conv => whnf)) | (refine And.intro (a := _ ∧ _) ⟨by omega, by omega⟩ ?_; (conv => whnf)) | (refine And.intro (a := _ ∧ _) ⟨by decide, by decide⟩ ?_; (conv => whnf)) | (refine And.intro (a := _ ≤ _) (by omega) ?_; (conv => whnf)) | (refine And.intro (a := _ ≠ _) (by omega) ?_; (conv => whnf))))
    all_goals simp [makeF]
  · rw [make_low num den hd]
    have hsg : I64 (sgn num * sgn den) := by rw [sgn_mul]; unfold I64; split <;> (try split) <;> omega
    have c1 := pc_rLowest (sgn num * sgn den) num.natAbs den.natAbs (by omega) (by omega) (by omega)
    rw [pr_small _ l1, pr_small _ l2] at c1
    have c2 := pc_rfit (lowF (sgn num * sgn den) num.natAbs den.natAbs).1 (lowF (sgn num * sgn den) num.natAbs den.natAbs).2
    generalize lowF (sgn num * sgn den) num.natAbs den.natAbs = x at *
    refine pc_of_body hm Try.func113 (by kernel_rfl) ?_
    conv => whnf
    (repeat' (first | (refine And.intro (a := _ = true → _) (b := _ = false → _) (fun hh => ?_) (fun hh => ?_) <;> (first | simp only [decide_eq_true_eq, decide_eq_false_iff_not, Bool.or_eq_true, Bool.and_eq_true, Bool.or_eq_false_iff, Bool.and_eq_false_iff, Bool.not_eq_true', Bool.not_eq_false', ge_iff_le, gt_iff_lt] at hh | skip) <;> (first | (exfalso; omega) | (exfalso; simp [*] at hh; done) | (exfalso; revert hh; decide) | exact absurd (by assumption) hh | (conv => whnf))) | (refine ⟨by kernel_rfl, ?_⟩; (conv => whnf)) | (refine And.intro (a := _ ∧ _) ⟨by omega, by omega⟩ ?_; (conv => whnf)) | (refine And.intro (a := _ ∧ _) ⟨by decide, by decide⟩ ?_; (conv => whnf)) | (refine And.intro (a := _ ≤ _) (by omega) ?_; (conv => whnf)) | (refine And.intro (a := _ ≠ _) (by omega) ?_; (conv => whnf)) | (refine Or.inl ?_; (conv => whnf); first | (refine ⟨_, by first | exact pc_rsign num | exact pc_rsign den | exact pc_rsize num h1 | exact pc_rsize den h2, ?_⟩; (conv => whnf)) | (refine ⟨false, ?_⟩; (conv => whnf); refine ⟨_, by first | exact pc_rsign num | exact pc_rsign den | exact pc_rsize num h1 | exact pc_rsize den h2, ?_⟩; (conv => whnf))) | (refine ⟨_, by first | exact pc_rsign num | exact pc_rsign den | exact pc_rsize num h1 | exact pc_rsize den h2, ?_⟩; (conv => whnf))))
    have e : IntKind.i64.wrap (sgn num * sgn den) = sgn num * sgn den := w64 _ hsg.1 hsg.2
    rw [e]
    (repeat' (first | (refine And.intro (a := _ = true → _) (b := _ = false → _) (fun hh => ?_) (fun hh => ?_) <;> (first | simp only [decide_eq_true_eq, decide_eq_false_iff_not, Bool.or_eq_true, Bool.and_eq_true, Bool.or_eq_false_iff, Bool.and_eq_false_iff, Bool.not_eq_true', Bool.not_eq_false', ge_iff_le, gt_iff_lt] at hh | skip) <;> (first | (exfalso; omega) | (exfalso; simp [*] at hh; done) | (exfalso; revert hh; decide) | exact absurd (by assumption) hh | (conv => whnf))) | (refine ⟨by kernel_rfl, ?_⟩; (conv => whnf)) | (refine And.intro (a := _ ∧ _) ⟨by omega, by omega⟩ ?_; (conv => whnf)) | (refine And.intro (a := _ ∧ _) ⟨by decide, by decide⟩ ?_; (conv => whnf)) | (refine And.intro (a := _ ≤ _) (by omega) ?_; (conv => whnf)) | (refine And.intro (a := _ ≠ _) (by omega) ?_; (conv => whnf)) | (refine Or.inl ?_; (conv => whnf); first | (refine ⟨_, by first | exact c1 | exact c2, ?_⟩; (conv => whnf)) | (refine ⟨false, ?_⟩; (conv => whnf); refine ⟨_, by first | exact c1 | exact c2, ?_⟩; (conv => whnf))) | (refine ⟨_, by first | exact c1 | exact c2, ?_⟩; (conv => whnf))))
    all_goals skip
theorem pc_rValid (x : Int × Int) (h1 : I64 x.1) (h2 : I64 x.2) : PC Try.prog 76 [fr x] (.bool (validB x)) := by
  have v1 := validB_false x
  have v2 := validB_iff x
  obtain ⟨n, d⟩ := x
  simp only [] at v1 v2 h1 h2
  have c1 := pc_rcommon n.natAbs d.natAbs (by unfold I64 at h1; omega) (by unfold I64 at h2; omega)
  have l1 := abs_lt h1
  have l2 := abs_lt h2
  rw [pr_small _ l1, pr_small _ l2] at c1
  have hgl : d ≠ 0 → Nat.gcd n.natAbs d.natAbs < 18446744073709551616 := fun h => Nat.lt_of_le_of_lt (Nat.gcd_le_right _ (by omega)) l2
  refine pc_of_body hm Try.func76 (by kernel_rfl) ?_
  conv => whnf
  (repeat' (first | (refine And.intro (a := _ = true → _) (b := _ = false → _) (fun hh => ?_) (fun hh => ?_) <;> (first | simp only [decide_eq_true_eq, decide_eq_false_iff_not, Bool.or_eq_true, Bool.and_eq_true, Bool.or_eq_false_iff, Bool.and_eq_false_iff, Bool.not_eq_true', Bool.not_eq_false', ge_iff_le, gt_iff_lt] at hh | skip) <;> (first | (exfalso; omega) | (exfalso; simp [*] at hh; done) | (exfalso; revert hh; decide) | exact absurd (by assumption) hh | (conv => whnf))) | (refine ⟨by kernel_rfl, ?_⟩; (conv => whnf)) | (refine And.intro (a := _ ∧ _) ⟨by omega, by omega⟩ ?_; (conv => whnf)) | (refine And.intro (a := _ ∧ _) ⟨by decide, by decide⟩ ?_; (conv => whnf)) | (refine And.intro (a := _ ≤ _) (by omega) ?_; (conv => whnf)) | (refine And.intro (a := _ ≠ _) (by omega) ?_; (conv => whnf)) | (refine Or.inl ?_; (conv => whnf); first | (refine ⟨_, by first | exact pc_rsize n h1 | exact pc_rsize d h2 | exact c1, ?_⟩; (conv => whnf)) | (refine ⟨false, ?_⟩; (conv => whnf); refine ⟨_, by first | exact pc_rsize n h1 | exact pc_rsize d h2 | exact c1, ?_⟩; (conv => whnf))) | (refine ⟨_, by first | exact pc_rsize n h1 | exact pc_rsize d h2 | exact c1, ?_⟩; (conv => whnf))))
  · rw [v1.2 (by omega)]
  · rw [v1.2 (by omega)]
  · rw [v1.2 (by omega)]
  · rw [v1.2 (by omega)]
  · congr 1
    have hg := hgl (by omega)
    by_cases hv : Nat.gcd n.natAbs d.natAbs = 1
    · rw [v2.2 ⟨by omega, by omega, by omega, by omega, hv⟩, hv]; rfl
    · rw [v1.2 (fun h => hv h.2.2.2.2)]
      have : decide ((((Nat.gcd n.natAbs d.natAbs) % 18446744073709551616 : Nat) : Int) = 1) = false := decide_eq_false (by omega)
      rw [this, Bool.false_and, Bool.and_false]
theorem pc_rCheck (a : Int × Int) (h1 : I64 a.1) (h2 : I64 a.2) : PC Try.prog 76 [fr a] (.bool (validB a)) := pc_rValid a h1 h2
theorem sgn_i (n : Int) : -1 ≤ sgn n ∧ sgn n ≤ 1 := by unfold sgn; split <;> (try split) <;> omega
theorem pc_rOrder (a b : Int × Int) (ha : validB a = true) (hb : validB b = true) : PC Try.prog 79 [fr a, fr b] (i64 (cmpF a b)) := by
  rw [validB_iff] at ha hb
  obtain ⟨n, d⟩ := a
  obtain ⟨m, e⟩ := b
  simp only [] at *
  have i1 : I64 n := by unfold I64; omega
  have i2 : I64 d := by unfold I64; omega
  have i3 : I64 m := by unfold I64; omega
  have i4 : I64 e := by unfold I64; omega
  have p1 := pc_rtimes n.natAbs e.natAbs (by omega) (by omega)
  have p2 := pc_rtimes m.natAbs d.natAbs (by omega) (by omega)
  have hx : n.natAbs * e.natAbs < 340282366920938463463374607431768211456 := Nat.lt_of_le_of_lt (Nat.mul_le_mul (show n.natAbs ≤ 4611686018427387903 by omega) (show e.natAbs ≤ 4611686018427387903 by omega)) (by decide)
  have hy : m.natAbs * d.natAbs < 340282366920938463463374607431768211456 := Nat.lt_of_le_of_lt (Nat.mul_le_mul (show m.natAbs ≤ 4611686018427387903 by omega) (show d.natAbs ≤ 4611686018427387903 by omega)) (by decide)
  have hsx : ((n.natAbs * e.natAbs : Nat) : Int) = if n < 0 then -(n * e) else n * e := by
    rw [Int.natCast_mul, show ((e.natAbs : Nat) : Int) = e by omega]
    split
    · rw [show ((n.natAbs : Nat) : Int) = -n by omega, Int.neg_mul]
    · rw [show ((n.natAbs : Nat) : Int) = n by omega]
  have hsy : ((m.natAbs * d.natAbs : Nat) : Int) = if m < 0 then -(m * d) else m * d := by
    rw [Int.natCast_mul, show ((d.natAbs : Nat) : Int) = d by omega]
    split
    · rw [show ((m.natAbs : Nat) : Int) = -m by omega, Int.neg_mul]
    · rw [show ((m.natAbs : Nat) : Int) = m by omega]
  have l1 := pc_rless (n.natAbs * e.natAbs) (m.natAbs * d.natAbs) hx hy
  have s1 : 0 < n → 0 < n * e := fun h => Int.mul_pos h (by omega)
  have s2 : n < 0 → n * e < 0 := fun h => Int.mul_neg_of_neg_of_pos h (by omega)
  have s3 : 0 < m → 0 < m * d := fun h => Int.mul_pos h (by omega)
  have s4 : m < 0 → m * d < 0 := fun h => Int.mul_neg_of_neg_of_pos h (by omega)
  have s5 : n = 0 → n * e = 0 := fun h => by rw [h, Int.zero_mul]
  have s6 : m = 0 → m * d = 0 := fun h => by rw [h, Int.zero_mul]
  have hc : cmpF (n, d) (m, e) = if n * e < m * d then -1 else if n * e = m * d then 0 else 1 := rfl
  generalize n.natAbs * e.natAbs = x at *
  generalize m.natAbs * d.natAbs = y at *
  generalize n * e = X at *
  generalize m * d = Y at *
  have g1 := pc_rsign n
  have g2 := pc_rsign m
  have g3 := pc_rsign (sgn n - sgn m)
  have r1 : sgn n = if n < 0 then -1 else if 0 < n then 1 else 0 := rfl
  have r2 : sgn m = if m < 0 then -1 else if 0 < m then 1 else 0 := rfl
  have r3 : sgn (sgn n - sgn m) = if sgn n - sgn m < 0 then -1 else if 0 < sgn n - sgn m then 1 else 0 := rfl
  generalize sgn n = sn at *
  generalize sgn m = sm at *
  generalize sgn (sn - sm) = sd at *
  have e1 : IntKind.i64.wrap (sn - sm) = sn - sm := wi _ (by split at r1 <;> (try split at r1) <;> split at r2 <;> (try split at r2) <;> omega) (by split at r1 <;> (try split at r1) <;> split at r2 <;> (try split at r2) <;> omega)
  have e2 : IntKind.i64.wrap (0 - sn) = 0 - sn := wi _ (by split at r1 <;> (try split at r1) <;> omega) (by split at r1 <;> (try split at r1) <;> omega)
  refine pc_of_body hm Try.func79 (by kernel_rfl) ?_
  conv => whnf
  (repeat' (first | (refine And.intro (a := _ = true → _) (b := _ = false → _) (fun hh => ?_) (fun hh => ?_) <;> (first | simp only [decide_eq_true_eq, decide_eq_false_iff_not, Bool.or_eq_true, Bool.and_eq_true, Bool.or_eq_false_iff, Bool.and_eq_false_iff, Bool.not_eq_true', Bool.not_eq_false', ge_iff_le, gt_iff_lt] at hh | skip) <;> (first | (exfalso; omega) | (exfalso; simp [*] at hh; done) | (exfalso; revert hh; decide) | exact absurd (by assumption) hh | (conv => whnf))) | (refine ⟨by kernel_rfl, ?_⟩; (conv => whnf)) | (refine And.intro (a := _ ∧ _) ⟨by omega, by omega⟩ ?_; (conv => whnf)) | (refine And.intro (a := _ ∧ _) ⟨by decide, by decide⟩ ?_; (conv => whnf)) | (refine And.intro (a := _ ≤ _) (by omega) ?_; (conv => whnf)) | (refine And.intro (a := _ ≠ _) (by omega) ?_; (conv => whnf)) | (refine Or.inl ?_; (conv => whnf); first | (refine ⟨_, by first | exact g1 | exact g2, ?_⟩; (conv => whnf)) | (refine ⟨false, ?_⟩; (conv => whnf); refine ⟨_, by first | exact g1 | exact g2, ?_⟩; (conv => whnf))) | (refine ⟨_, by first | exact g1 | exact g2, ?_⟩; (conv => whnf))))
  · rw [e1]
    (repeat' (first | (refine And.intro (a := _ = true → _) (b := _ = false → _) (fun hh => ?_) (fun hh => ?_) <;> (first | simp only [decide_eq_true_eq, decide_eq_false_iff_not, Bool.or_eq_true, Bool.and_eq_true, Bool.or_eq_false_iff, Bool.and_eq_false_iff, Bool.not_eq_true', Bool.not_eq_false', ge_iff_le, gt_iff_lt] at hh | skip) <;> (first | (exfalso; omega) | (exfalso; simp [*] at hh; done) | (exfalso; revert hh; decide) | exact absurd (by assumption) hh | (conv => whnf))) | (refine ⟨by kernel_rfl, ?_⟩; (conv => whnf)) | (refine And.intro (a := _ ∧ _) ⟨by omega, by omega⟩ ?_; (conv => whnf)) | (refine And.intro (a := _ ∧ _) ⟨by decide, by decide⟩ ?_; (conv => whnf)) | (refine And.intro (a := _ ≤ _) (by omega) ?_; (conv => whnf)) | (refine And.intro (a := _ ≠ _) (by omega) ?_; (conv => whnf)) | (refine Or.inl ?_; (conv => whnf); first | (refine ⟨_, by first | exact g3, ?_⟩; (conv => whnf)) | (refine ⟨false, ?_⟩; (conv => whnf); refine ⟨_, by first | exact g3, ?_⟩; (conv => whnf))) | (refine ⟨_, by first | exact g3, ?_⟩; (conv => whnf))))
    rw [hc]
    congr 1
    split at r1 <;> (try split at r1) <;> split at r2 <;> (try split at r2) <;> first
      | (rw [if_pos (by omega)]; omega)
      | (rw [if_neg (by omega), if_pos (by omega)]; omega)
      | (rw [if_neg (by omega), if_neg (by omega)]; omega)
  · (repeat' (first | (refine And.intro (a := _ = true → _) (b := _ = false → _) (fun hh => ?_) (fun hh => ?_) <;> (first | simp only [decide_eq_true_eq, decide_eq_false_iff_not, Bool.or_eq_true, Bool.and_eq_true, Bool.or_eq_false_iff, Bool.and_eq_false_iff, Bool.not_eq_true', Bool.not_eq_false', ge_iff_le, gt_iff_lt] at hh | skip) <;> (first | (exfalso; omega) | (exfalso; simp [*] at hh; done) | (exfalso; revert hh; decide) | exact absurd (by assumption) hh | (conv => whnf))) | (refine ⟨by kernel_rfl, ?_⟩; (conv => whnf)) | (refine And.intro (a := _ ∧ _) ⟨by omega, by omega⟩ ?_; (conv => whnf)) | (refine And.intro (a := _ ∧ _) ⟨by decide, by decide⟩ ?_; (conv => whnf)) | (refine And.intro (a := _ ≤ _) (by omega) ?_; (conv => whnf)) | (refine And.intro (a := _ ≠ _) (by omega) ?_; (conv => whnf)) | (refine Or.inl ?_; (conv => whnf); first | (refine ⟨_, by first | exact pc_rsize n i1 | exact pc_rsize d i2 | exact pc_rsize m i3 | exact pc_rsize e i4 | exact p1 | exact p2 | exact l1, ?_⟩; (conv => whnf)) | (refine ⟨false, ?_⟩; (conv => whnf); refine ⟨_, by first | exact pc_rsize n i1 | exact pc_rsize d i2 | exact pc_rsize m i3 | exact pc_rsize e i4 | exact p1 | exact p2 | exact l1, ?_⟩; (conv => whnf))) | (refine ⟨_, by first | exact pc_rsize n i1 | exact pc_rsize d i2 | exact pc_rsize m i3 | exact pc_rsize e i4 | exact p1 | exact p2 | exact l1, ?_⟩; (conv => whnf))))
    case' refine_2.refine_2.refine_1 => ((repeat' (first | (refine And.intro (a := _ = true → _) (b := _ = false → _) (fun hh => ?_) (fun hh => ?_) <;> (first | simp only [decide_eq_true_eq, decide_eq_false_iff_not, Bool.or_eq_true, Bool.and_eq_true, Bool.or_eq_false_iff, Bool.and_eq_false_iff, Bool.not_eq_true', Bool.not_eq_false', ge_iff_le, gt_iff_lt] at hh | skip) <;> (first | (exfalso; omega) | (exfalso; simp [*] at hh; done) | (exfalso; revert hh; decide) | exact absurd (by assumption) hh | (conv => whnf))) | (refine ⟨by kernel_rfl, ?_⟩; (conv => whnf)) | (refine And.intro (a := _ ∧ _) ⟨by omega, by omega⟩ ?_; (conv => whnf)) | (refine And.intro (a := _ ∧ _) ⟨by decide, by decide⟩ ?_; (conv => whnf)) | (refine And.intro (a := _ ≤ _) (by omega) ?_; (conv => whnf)) | (refine And.intro (a := _ ≠ _) (by omega) ?_; (conv => whnf)) | (refine Or.inl ?_; (conv => whnf); first | (refine ⟨_, by first | exact g1, ?_⟩; (conv => whnf)) | (refine ⟨false, ?_⟩; (conv => whnf); refine ⟨_, by first | exact g1, ?_⟩; (conv => whnf))) | (refine ⟨_, by first | exact g1, ?_⟩; (conv => whnf)))); rw [e2]; (repeat' (first | (refine And.intro (a := _ = true → _) (b := _ = false → _) (fun hh => ?_) (fun hh => ?_) <;> (first | simp only [decide_eq_true_eq, decide_eq_false_iff_not, Bool.or_eq_true, Bool.and_eq_true, Bool.or_eq_false_iff, Bool.and_eq_false_iff, Bool.not_eq_true', Bool.not_eq_false', ge_iff_le, gt_iff_lt] at hh | skip) <;> (first | (exfalso; omega) | (exfalso; simp [*] at hh; done) | (exfalso; revert hh; decide) | exact absurd (by assumption) hh | (conv => whnf))) | (refine ⟨by kernel_rfl, ?_⟩; (conv => whnf)) | (refine And.intro (a := _ ∧ _) ⟨by omega, by omega⟩ ?_; (conv => whnf)) | (refine And.intro (a := _ ∧ _) ⟨by decide, by decide⟩ ?_; (conv => whnf)) | (refine And.intro (a := _ ≤ _) (by omega) ?_; (conv => whnf)) | (refine And.intro (a := _ ≠ _) (by omega) ?_; (conv => whnf)))))
    case' refine_2.refine_2.refine_2 => (repeat' (first | (refine And.intro (a := _ = true → _) (b := _ = false → _) (fun hh => ?_) (fun hh => ?_) <;> (first | simp only [decide_eq_true_eq, decide_eq_false_iff_not, Bool.or_eq_true, Bool.and_eq_true, Bool.or_eq_false_iff, Bool.and_eq_false_iff, Bool.not_eq_true', Bool.not_eq_false', ge_iff_le, gt_iff_lt] at hh | skip) <;> (first | (exfalso; omega) | (exfalso; simp [*] at hh; done) | (exfalso; revert hh; decide) | exact absurd (by assumption) hh | (conv => whnf))) | (refine ⟨by kernel_rfl, ?_⟩; (conv => whnf)) | (refine And.intro (a := _ ∧ _) ⟨by omega, by omega⟩ ?_; (conv => whnf)) | (refine And.intro (a := _ ∧ _) ⟨by decide, by decide⟩ ?_; (conv => whnf)) | (refine And.intro (a := _ ≤ _) (by omega) ?_; (conv => whnf)) | (refine And.intro (a := _ ≠ _) (by omega) ?_; (conv => whnf)) | (refine Or.inl ?_; (conv => whnf); first | (refine ⟨_, by first | exact g1, ?_⟩; (conv => whnf)) | (refine ⟨false, ?_⟩; (conv => whnf); refine ⟨_, by first | exact g1, ?_⟩; (conv => whnf))) | (refine ⟨_, by first | exact g1, ?_⟩; (conv => whnf))))
    all_goals
      rw [hc]
      congr 1
      clear hc p1 p2 l1 g1 g2 g3 r3 i1 i2 i3 i4 ha hb
      try simp only [reduceCtorEq, or_false, and_true] at *
      split at r1 <;> (try split at r1) <;> split at r2 <;> (try split at r2) <;> split at hsx <;> split at hsy <;> first
        | (exfalso; omega)
        | (rw [if_pos (by omega)]; first | done | omega)
        | (rw [if_neg (by omega), if_pos (by omega)]; first | done | omega)
        | (rw [if_neg (by omega), if_neg (by omega)]; first | done | omega)
theorem pc_rValidSpan (a : SpT) (h1 : I64 a.1.1) (h2 : I64 a.1.2) (h3 : I64 a.2.1) (h4 : I64 a.2.2) : PC Try.prog 48 [sp a] (.bool (spanB a)) := by
  have v1 := pc_rValid a.1 h1 h2
  have v2 := pc_rValid a.2 h3 h4
  have o := pc_rOrder a.1 a.2
  have hs : spanB a = (validB a.1 && validB a.2 && decide (cmpF a.1 a.2 ≤ 0)) := rfl
  rw [hs]
  cases e1 : validB a.1
  · rw [e1] at v1
    refine pc_of_body hm Try.func48 (by kernel_rfl) ?_
    conv => whnf
    (repeat' (first | (refine And.intro (a := _ = true → _) (b := _ = false → _) (fun hh => ?_) (fun hh => ?_) <;> (first | simp only [decide_eq_true_eq, decide_eq_false_iff_not, Bool.or_eq_true, Bool.and_eq_true, Bool.or_eq_false_iff, Bool.and_eq_false_iff, Bool.not_eq_true', Bool.not_eq_false', ge_iff_le, gt_iff_lt] at hh | skip) <;> (first | (exfalso; omega) | (exfalso; simp [*] at hh; done) | (exfalso; revert hh; decide) | exact absurd (by assumption) hh | (conv => whnf))) | (refine ⟨by kernel_rfl, ?_⟩; (conv => whnf)) | (refine And.intro (a := _ ∧ _) ⟨by omega, by omega⟩ ?_; (conv => whnf)) | (refine And.intro (a := _ ∧ _) ⟨by decide, by decide⟩ ?_; (conv => whnf)) | (refine And.intro (a := _ ≤ _) (by omega) ?_; (conv => whnf)) | (refine And.intro (a := _ ≠ _) (by omega) ?_; (conv => whnf)) | (refine Or.inl ?_; (conv => whnf); first | (refine ⟨_, by first | exact v1, ?_⟩; (conv => whnf)) | (refine ⟨false, ?_⟩; (conv => whnf); refine ⟨_, by first | exact v1, ?_⟩; (conv => whnf))) | (refine ⟨_, by first | exact v1, ?_⟩; (conv => whnf))))
    all_goals simp
  · cases e2 : validB a.2
    · rw [e1] at v1
      rw [e2] at v2
      refine pc_of_body hm Try.func48 (by kernel_rfl) ?_
      conv => whnf
      (repeat' (first | (refine And.intro (a := _ = true → _) (b := _ = false → _) (fun hh => ?_) (fun hh => ?_) <;> (first | simp only [decide_eq_true_eq, decide_eq_false_iff_not, Bool.or_eq_true, Bool.and_eq_true, Bool.or_eq_false_iff, Bool.and_eq_false_iff, Bool.not_eq_true', Bool.not_eq_false', ge_iff_le, gt_iff_lt] at hh | skip) <;> (first | (exfalso; omega) | (exfalso; simp [*] at hh; done) | (exfalso; revert hh; decide) | exact absurd (by assumption) hh | (conv => whnf))) | (refine ⟨by kernel_rfl, ?_⟩; (conv => whnf)) | (refine And.intro (a := _ ∧ _) ⟨by omega, by omega⟩ ?_; (conv => whnf)) | (refine And.intro (a := _ ∧ _) ⟨by decide, by decide⟩ ?_; (conv => whnf)) | (refine And.intro (a := _ ≤ _) (by omega) ?_; (conv => whnf)) | (refine And.intro (a := _ ≠ _) (by omega) ?_; (conv => whnf)) | (refine Or.inl ?_; (conv => whnf); first | (refine ⟨_, by first | exact v1 | exact v2, ?_⟩; (conv => whnf)) | (refine ⟨false, ?_⟩; (conv => whnf); refine ⟨_, by first | exact v1 | exact v2, ?_⟩; (conv => whnf))) | (refine ⟨_, by first | exact v1 | exact v2, ?_⟩; (conv => whnf))))
      all_goals simp
    · rw [e1] at v1
      rw [e2] at v2
      have o := o e1 e2
      refine pc_of_body hm Try.func48 (by kernel_rfl) ?_
      conv => whnf
      (repeat' (first | (refine And.intro (a := _ = true → _) (b := _ = false → _) (fun hh => ?_) (fun hh => ?_) <;> (first | simp only [decide_eq_true_eq, decide_eq_false_iff_not, Bool.or_eq_true, Bool.and_eq_true, Bool.or_eq_false_iff, Bool.and_eq_false_iff, Bool.not_eq_true', Bool.not_eq_false', ge_iff_le, gt_iff_lt] at hh | skip) <;> (first | (exfalso; omega) | (exfalso; simp [*] at hh; done) | (exfalso; revert hh; decide) | exact absurd (by assumption) hh | (conv => whnf))) | (refine ⟨by kernel_rfl, ?_⟩; (conv => whnf)) | (refine And.intro (a := _ ∧ _) ⟨by omega, by omega⟩ ?_; (conv => whnf)) | (refine And.intro (a := _ ∧ _) ⟨by decide, by decide⟩ ?_; (conv => whnf)) | (refine And.intro (a := _ ≤ _) (by omega) ?_; (conv => whnf)) | (refine And.intro (a := _ ≠ _) (by omega) ?_; (conv => whnf)) | (refine Or.inl ?_; (conv => whnf); first | (refine ⟨_, by first | exact v1 | exact v2 | exact o, ?_⟩; (conv => whnf)) | (refine ⟨false, ?_⟩; (conv => whnf); refine ⟨_, by first | exact v1 | exact v2 | exact o, ?_⟩; (conv => whnf))) | (refine ⟨_, by first | exact v1 | exact v2 | exact o, ?_⟩; (conv => whnf))))
      all_goals simp
end Go.Proofs.Try.My
