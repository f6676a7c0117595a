/- A helper text: contracts of functions of the program, and plain lemmas. -/
import Derived.Test.YtanhmmiifbhcpaaEvY
import Derived.Test.YtanhmmiifbhcpaaChecked
set_option maxRecDepth 100000
set_option maxHeartbeats 0
set_option linter.unusedVariables false
set_option linter.unusedSimpArgs false
namespace Go.Proofs.Try.My
open Go Go.Ev
theorem hmE : Try.prog.follows .mixedOrders = true := by kernel_rfl
theorem hm : Try.prog.follows .mixedOrders = true := hmE

theorem pc_abs (n : Int) (h : I64 n) : PC Try.prog 108 [i64 n] (u64 n.natAbs) := by
  unfold I64 at h
  refine pc_of_body hm Try.func108 (by kernel_rfl) ?_
  conv => whnf
  refine ⟨fun h => ?_, fun h => ?_⟩
  · have h := of_decide_eq_true h
    (conv => whnf)
    congr 1
    rw [wumod, wumod]; omega
  · have h := of_decide_eq_false h
    (conv => whnf)
    congr 1
    rw [wumod]; omega
theorem pc_gcd (a b : Nat) (ha : a < 18446744073709551616) (hb : b < 18446744073709551616) : PC Try.prog 109 [u64 a, u64 b] (u64 (Nat.gcd a b)) := by
  refine pc_of_body hm Try.func109 (by kernel_rfl) ?_
  conv => whnf
  refine Or.inr ⟨Nat × Nat, [0, 1], [], [], fun i => [u64 i.1, u64 i.2], fun _ => [], fun _ => [], fun i => i.2, fun i => Nat.gcd i.1 i.2 = Nat.gcd a b ∧ i.1 < 18446744073709551616 ∧ i.2 < 18446744073709551616, ?_⟩
  (conv => whnf)
  refine ⟨⟨(a, b), ?_⟩, ?_⟩
  · (conv => whnf)
    exact ⟨⟨⟨rfl, ha, hb⟩, rfl, rfl, rfl⟩, by kernel_rfl, by kernel_rfl⟩
  · rintro ⟨x, y⟩ ⟨h1, h2, h3⟩
    (conv => whnf)
    refine ⟨fun h => ?_, fun h => ?_⟩
    · have h : y ≠ 0 := by
        have h : ¬ ((y : Int) = 0) := by simpa using h
        omega
      (conv => whnf)
      refine ⟨by kernel_rfl, ?_⟩
      (conv => whnf)
      refine ⟨by show (y : Int) ≠ 0; omega, ?_⟩
      (conv => whnf)
      refine ⟨by kernel_rfl, ?_⟩
      (conv => whnf)
      refine ⟨(y, x % y), ?_⟩
      (conv => whnf)
      refine ⟨⟨⟨Nat.mod_lt _ (by omega), ?_, h3, ?_⟩, ?_, rfl, rfl⟩, by kernel_rfl, by kernel_rfl⟩
      · show Nat.gcd y (x % y) = _
        rw [← h1, Nat.gcd_comm x y, Nat.gcd_rec y x, Nat.gcd_comm]
      · exact Nat.lt_of_le_of_lt (Nat.mod_le x y) h2
      · show [AV.int .u64 (y : Int), AV.int .u64 ((x : Int).tmod (y : Int))] = [u64 y, u64 (x % y)]
        rw [mod_u]
    · have h : y = 0 := by
        have h : ((y : Int) = 0) := by simpa using h
        omega
      (conv => whnf)
      subst h
      congr 1
      rw [← h1]; simp
theorem less_iff (x y : Nat) : x < y ↔ (x / 18446744073709551616 < y / 18446744073709551616 ∨ (x / 18446744073709551616 = y / 18446744073709551616 ∧ x % 18446744073709551616 < y % 18446744073709551616)) := by omega
theorem pc_less (x y : Nat) (hx : x < 340282366920938463463374607431768211456) (hy : y < 340282366920938463463374607431768211456) : PC Try.prog 132 [pr x, pr y] (.bool (decide (x < y))) := by
  refine pc_of_body hm Try.func132 (by kernel_rfl) ?_
  conv => whnf
  (repeat' (first | (refine And.intro (a := _ = true → _) (b := _ = false → _) (fun hh => ?_) (fun hh => ?_) <;> (first | simp only [decide_eq_true_eq, decide_eq_false_iff_not, Bool.or_eq_true, Bool.and_eq_true, Bool.or_eq_false_iff, Bool.and_eq_false_iff, Bool.not_eq_true', Bool.not_eq_false', ge_iff_le, gt_iff_lt] at hh | skip) <;> (first | (exfalso; omega) | (exfalso; simp [*] at hh; done) | (exfalso; revert hh; decide) | exact absurd (by assumption) hh | (conv => whnf))) | (refine ⟨by kernel_rfl, ?_⟩; (conv => whnf)) | (refine And.intro (a := _ ∧ _) ⟨by omega, by omega⟩ ?_; (conv => whnf)) | (refine And.intro (a := _ ∧ _) ⟨by decide, by decide⟩ ?_; (conv => whnf)) | (refine And.intro (a := _ ≤ _) (by omega) ?_; (conv => whnf)) | (refine And.intro (a := _ ≠ _) (by omega) ?_; (conv => whnf))))
  all_goals
    congr 1
    refine Eq.symm ?_
    first
      | (refine decide_eq_true ?_; rw [less_iff]; omega)
      | (refine decide_eq_false ?_; rw [less_iff]; omega)
      | (refine decide_eq_decide.2 ?_; rw [less_iff]; omega)
theorem pc_Mul64 (x y : Nat) (hx : x < 18446744073709551616) (hy : y < 18446744073709551616) : PC Try.prog 133 [u64 x, u64 y] (.tup [u64 (x * y / 18446744073709551616), u64 (x * y % 18446744073709551616)]) := by
  refine pc_of_body hm Try.func133 (by kernel_rfl) ?_
  conv => whnf
  obtain ⟨m1, m2, m3, m4⟩ := Go.Lib.mul64_hi x y hx hy
  have e1 : x / 4294967296 * (y % 4294967296) % 18446744073709551616 = x / 4294967296 * (y % 4294967296) := Nat.mod_eq_of_lt (by omega)
  have e2 : x % 4294967296 * (y / 4294967296) % 18446744073709551616 = x % 4294967296 * (y / 4294967296) := Nat.mod_eq_of_lt (by omega)
  have hlt : x * y / 18446744073709551616 < 18446744073709551616 := by
    have : x * y ≤ 18446744073709551615 * 18446744073709551615 := Nat.mul_le_mul (by omega) (by omega)
    omega
  rw [← m4] at hlt
  have e3 : x / 4294967296 * (y / 4294967296) % 18446744073709551616 = x / 4294967296 * (y / 4294967296) := Nat.mod_eq_of_lt (by omega)
  have e4 : (x / 4294967296 * (y / 4294967296) + (x / 4294967296 * (y % 4294967296) + x % 4294967296 * (y % 4294967296) / 4294967296) / 4294967296) % 18446744073709551616 = x / 4294967296 * (y / 4294967296) + (x / 4294967296 * (y % 4294967296) + x % 4294967296 * (y % 4294967296) / 4294967296) / 4294967296 := Nat.mod_eq_of_lt (by omega)
  simp only [shr32_u, mask32_u _ hx, mask32_u _ hy, mul_u, add_u, Nat.mod_eq_of_lt m1, e1, Nat.mod_eq_of_lt m2, mask32_u _ m2, e2, Nat.mod_eq_of_lt m3, e3, e4, Nat.mod_eq_of_lt hlt]
  rw [m4]
theorem pc_product (x y : Nat) (hx : x < 18446744073709551616) (hy : y < 18446744073709551616) : PC Try.prog 131 [u64 x, u64 y] (pr (x * y)) := by
  refine pc_of_body hm Try.func131 (by kernel_rfl) ?_
  conv => whnf
  (first | (refine Or.inl ?_; (conv => whnf); refine ⟨_, pc_Mul64 x y hx hy, ?_⟩) | refine ⟨_, pc_Mul64 x y hx hy, ?_⟩)
  (conv => whnf)
def madeF (neg : Bool) (N D : Nat) : (Int × Int) × Int := if N ≤ 4611686018427387903 ∧ D ≤ 4611686018427387903 then ((if neg then -(N : Int) else N, D), 0) else ((0, 0), 4)
theorem pc_made (neg : Bool) (N D : Nat) (hN : N < 340282366920938463463374607431768211456) (hD : D < 340282366920938463463374607431768211456) : PC Try.prog 110 [.bool neg, pr N, pr D] (.tup [fr (madeF neg N D).1, i64 (madeF neg N D).2]) := by
  refine pc_of_body hm Try.func110 (by kernel_rfl) ?_
  conv => whnf
  have bad : ¬ (N ≤ 4611686018427387903 ∧ D ≤ 4611686018427387903) → madeF neg N D = ((0, 0), 4) := fun h => by simp [madeF, h]
  (repeat' (first | (refine And.intro (a := _ = true → _) (b := _ = false → _) (fun hh => ?_) (fun hh => ?_) <;> (first | simp only [decide_eq_true_eq, decide_eq_false_iff_not, Bool.or_eq_true, Bool.and_eq_true, Bool.or_eq_false_iff, Bool.and_eq_false_iff, Bool.not_eq_true', Bool.not_eq_false', ge_iff_le, gt_iff_lt] at hh | skip) <;> (first | (exfalso; omega) | (exfalso; simp [*] at hh; done) | (exfalso; revert hh; decide) | exact absurd (by assumption) hh | (conv => whnf))) | (refine ⟨by kernel_rfl, ?_⟩; (conv => whnf)) | (refine And.intro (a := _ ∧ _) ⟨by omega, by omega⟩ ?_; (conv => whnf)) | (refine And.intro (a := _ ∧ _) ⟨by decide, by decide⟩ ?_; (conv => whnf)) | (refine And.intro (a := _ ≤ _) (by omega) ?_; (conv => whnf)) | (refine And.intro (a := _ ≠ _) (by omega) ?_; (conv => whnf))))
  · rw [bad (by omega)]
  · rw [bad (by omega)]
  · rw [bad (by omega)]
  · rw [bad (by omega)]
  · have h1 : N ≤ 4611686018427387903 ∧ D ≤ 4611686018427387903 := by omega
    have e1 : N % 18446744073709551616 = N := by omega
    have e2 : D % 18446744073709551616 = D := by omega
    rw [e1, e2, wi (N : Int) (by omega) (by omega), wi (D : Int) (by omega) (by omega), wi _ (by omega) (by omega)]
    subst hh
    simp [madeF, h1]
  · have h1 : N ≤ 4611686018427387903 ∧ D ≤ 4611686018427387903 := by omega
    have e1 : N % 18446744073709551616 = N := by omega
    have e2 : D % 18446744073709551616 = D := by omega
    rw [e1, e2, wi (N : Int) (by omega) (by omega), wi (D : Int) (by omega) (by omega)]
    subst hh
    simp [madeF, h1]
theorem pr_small (n : Nat) (h : n < 18446744073709551616) : pr n = .agg [.int .u64 0, u64 n] := by
  have e1 : n / 18446744073709551616 = 0 := by omega
  have e2 : n % 18446744073709551616 = n := by omega
  show AV.agg [u64 (n / 18446744073709551616), u64 (n % 18446744073709551616)] = _
  rw [e1, e2]; rfl
def makeF (num den : Int) : (Int × Int) × Int := if den = 0 then ((0, 0), 10) else madeF (decide (num < 0) != decide (den < 0)) (num.natAbs / Nat.gcd num.natAbs den.natAbs) (den.natAbs / Nat.gcd num.natAbs den.natAbs)
theorem abs_lt {n : Int} (h : I64 n) : n.natAbs < 18446744073709551616 := by unfold I64 at h; omega
theorem gcd_pos_r {a b : Nat} (h : b ≠ 0) : Nat.gcd a b ≠ 0 := fun e => h (Nat.eq_zero_of_gcd_eq_zero_right e)
theorem pc_Make (num den : Int) (h1 : I64 num) (h2 : I64 den) : PC Try.prog 75 [i64 num, i64 den] (.tup [fr (makeF num den).1, i64 (makeF num den).2]) := by
  have l1 := abs_lt h1
  have l2 := abs_lt h2
  by_cases hd : den = 0
  · subst hd
    refine pc_of_body hm Try.func75 (by kernel_rfl) ?_
    conv => whnf
    (repeat' (first | (refine And.intro (a := _ = true → _) (b := _ = false → _) (fun hh => ?_) (fun hh => ?_) <;> (first | simp only [decide_eq_true_eq, decide_eq_false_iff_not, Bool.or_eq_true, Bool.and_eq_true, Bool.or_eq_false_iff, Bool.and_eq_false_iff, Bool.not_eq_true', Bool.not_eq_false', ge_iff_le, gt_iff_lt] at hh | skip) <;> (first | (exfalso; omega) | (exfalso; simp [*] at hh; done) | (exfalso; revert hh; decide) | exact absurd (by assumption) hh | (conv => whnf))) | (refine ⟨by kernel_rfl, ?_⟩; (conv => whnf)) | (refine And.intro (a := _ ∧ _) ⟨by omega, by omega⟩ ?_; (conv => whnf)) | (refine And.intro (a := _ ∧ _) ⟨by decide, by decide⟩ ?_; (conv => whnf)) | (refine And.intro (a := _ ≤ _) (by omega) ?_; (conv => whnf)) | (refine And.intro (a := _ ≠ _) (by omega) ?_; (conv => whnf))))
    all_goals simp [makeF]
  · have hg : Nat.gcd num.natAbs den.natAbs ≠ 0 := gcd_pos_r (by omega)
    have hmk : makeF num den = madeF (decide (num < 0) != decide (den < 0)) (num.natAbs / Nat.gcd num.natAbs den.natAbs) (den.natAbs / Nat.gcd num.natAbs den.natAbs) := by simp [makeF, hd]
    have c3 := pc_gcd num.natAbs den.natAbs l1 l2
    generalize Nat.gcd num.natAbs den.natAbs = g at *
    have q1 : num.natAbs / g < 18446744073709551616 := Nat.lt_of_le_of_lt (Nat.div_le_self _ _) l1
    have q2 : den.natAbs / g < 18446744073709551616 := Nat.lt_of_le_of_lt (Nat.div_le_self _ _) l2
    have c4 := pc_made (decide (num < 0) != decide (den < 0)) (num.natAbs / g) (den.natAbs / g) (by omega) (by omega)
    rw [pr_small _ q1, pr_small _ q2, ← hmk] at c4
    refine pc_of_body hm Try.func75 (by kernel_rfl) ?_
    conv => whnf
    (repeat' (first | (refine And.intro (a := _ = true → _) (b := _ = false → _) (fun hh => ?_) (fun hh => ?_) <;> (first | simp only [decide_eq_true_eq, decide_eq_false_iff_not, Bool.or_eq_true, Bool.and_eq_true, Bool.or_eq_false_iff, Bool.and_eq_false_iff, Bool.not_eq_true', Bool.not_eq_false', ge_iff_le, gt_iff_lt] at hh | skip) <;> (first | (exfalso; omega) | (exfalso; simp [*] at hh; done) | (exfalso; revert hh; decide) | exact absurd (by assumption) hh | (conv => whnf))) | (refine ⟨by kernel_rfl, ?_⟩; (conv => whnf)) | (refine And.intro (a := _ ∧ _) ⟨by omega, by omega⟩ ?_; (conv => whnf)) | (refine And.intro (a := _ ∧ _) ⟨by decide, by decide⟩ ?_; (conv => whnf)) | (refine And.intro (a := _ ≤ _) (by omega) ?_; (conv => whnf)) | (refine And.intro (a := _ ≠ _) (by omega) ?_; (conv => whnf)) | (refine Or.inl ?_; (conv => whnf); first | (refine ⟨_, by first | exact pc_abs num h1 | exact pc_abs den h2 | exact c3, ?_⟩; (conv => whnf)) | (refine ⟨false, ?_⟩; (conv => whnf); refine ⟨_, by first | exact pc_abs num h1 | exact pc_abs den h2 | exact c3, ?_⟩; (conv => whnf))) | (refine ⟨_, by first | exact pc_abs num h1 | exact pc_abs den h2 | exact c3, ?_⟩; (conv => whnf))))
    rw [div_u _ _ l1, div_u _ _ l2]
    (repeat' (first | (refine And.intro (a := _ = true → _) (b := _ = false → _) (fun hh => ?_) (fun hh => ?_) <;> (first | simp only [decide_eq_true_eq, decide_eq_false_iff_not, Bool.or_eq_true, Bool.and_eq_true, Bool.or_eq_false_iff, Bool.and_eq_false_iff, Bool.not_eq_true', Bool.not_eq_false', ge_iff_le, gt_iff_lt] at hh | skip) <;> (first | (exfalso; omega) | (exfalso; simp [*] at hh; done) | (exfalso; revert hh; decide) | exact absurd (by assumption) hh | (conv => whnf))) | (refine ⟨by kernel_rfl, ?_⟩; (conv => whnf)) | (refine And.intro (a := _ ∧ _) ⟨by omega, by omega⟩ ?_; (conv => whnf)) | (refine And.intro (a := _ ∧ _) ⟨by decide, by decide⟩ ?_; (conv => whnf)) | (refine And.intro (a := _ ≤ _) (by omega) ?_; (conv => whnf)) | (refine And.intro (a := _ ≠ _) (by omega) ?_; (conv => whnf)) | (refine Or.inl ?_; (conv => whnf); first | (refine ⟨_, by first | exact c4, ?_⟩; (conv => whnf)) | (refine ⟨false, ?_⟩; (conv => whnf); refine ⟨_, by first | exact c4, ?_⟩; (conv => whnf))) | (refine ⟨_, by first | exact c4, ?_⟩; (conv => whnf))))
    all_goals skip
end Go.Proofs.Try.My
