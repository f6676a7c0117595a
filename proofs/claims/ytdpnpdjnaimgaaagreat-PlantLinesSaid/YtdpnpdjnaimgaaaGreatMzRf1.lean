/- A helper text: contracts of functions of the program, and plain lemmas. -/
import Derived.Test.YtdpnpdjnaimgaaaGreatEvSix
import Derived.Test.YtdpnpdjnaimgaaaGreatMzExA
set_option maxRecDepth 100000
set_option maxHeartbeats 0
set_option linter.unusedVariables false
set_option linter.unusedSimpArgs false
namespace Go.Proofs.Tryz.My
open Go Go.Ev
theorem pc_rsize (n : Int) (h : I64 n) : PC Tryz.prog 255 [i64 n] (u64 n.natAbs) := by
  unfold I64 at h
  refine pc_of_bodyF hm Tryz.func255 (by kernel_rfl) ?_
  conv => whnf
  refine ⟨fun h => ?_, fun h => ?_⟩
  · have h := of_decide_eq_true h
    (conv => whnf)
    congr 1
    rw [wumod, wumod]; omega
  · have h := of_decide_eq_false h
    (conv => whnf)
    congr 1
    rw [wumod]; omega
def sgR (n : Int) : Int := if n < 0 then -1 else if 0 < n then 1 else 0
theorem pc_rsign (n : Int) : PC Tryz.prog 294 [i64 n] (i64 (sgR n)) := by
  refine pc_of_bodyF hm Tryz.func294 (by kernel_rfl) ?_
  conv => whnf
  (repeat' (first | (refine ansS (fun hh => ?_) (fun hh => ?_) <;> (first | simp only [ansX] at hh | skip) <;> (first | (exfalso; omega) | (exfalso; simp [*] at hh; done) | (exfalso; revert hh; decide) | exact absurd (by assumption) hh | (conv => whnf))) | ((first | refine ⟨by kernel_rfl, ?_⟩ | refine ansB (by omega) (by omega) ?_ | refine ansB (by decide) (by decide) ?_ | refine And.intro (a := _ ≤ _) (by omega) ?_ | refine And.intro (a := _ ≠ _) (by omega) ?_ | fail); (conv => whnf))))
  all_goals
    congr 1
    unfold sgR
    omega
theorem pc_rtimes (x y : Nat) (hx : x < 18446744073709551616) (hy : y < 18446744073709551616) : PC Tryz.prog 295 [u64 x, u64 y] (pr (x * y)) := by
  refine pc_of_bodyF hm Tryz.func295 (by kernel_rfl) ?_
  conv => whnf
  (first | (refine Or.inl ?_; (conv => whnf); refine ⟨_, pc_Mul64 x y hx hy, ?_⟩) | refine ⟨_, pc_Mul64 x y hx hy, ?_⟩)
  (conv => whnf)
theorem pc_rless (x y : Nat) (hx : x < 340282366920938463463374607431768211456) (hy : y < 340282366920938463463374607431768211456) : PC Tryz.prog 296 [pr x, pr y] (.bool (decide (x < y))) := by
  refine pc_of_bodyF hm Tryz.func296 (by kernel_rfl) ?_
  conv => whnf
  (repeat' (first | (refine ansS (fun hh => ?_) (fun hh => ?_) <;> (first | simp only [ansX] at hh | skip) <;> (first | (exfalso; omega) | (exfalso; simp [*] at hh; done) | (exfalso; revert hh; decide) | exact absurd (by assumption) hh | (conv => whnf))) | ((first | refine ⟨by kernel_rfl, ?_⟩ | refine ansB (by omega) (by omega) ?_ | refine ansB (by decide) (by decide) ?_ | refine And.intro (a := _ ≤ _) (by omega) ?_ | refine And.intro (a := _ ≠ _) (by omega) ?_ | fail); (conv => whnf))))
  all_goals
    congr 1
    refine Eq.symm ?_
    first
      | (refine decide_eq_true ?_; rw [less_iff]; omega)
      | (refine decide_eq_false ?_; rw [less_iff]; omega)
      | (refine decide_eq_decide.2 ?_; rw [less_iff]; omega)
theorem pc_Add64 (x y c : Nat) (hc : c ≤ 1) : PC Tryz.prog 318 [u64 x, u64 y, u64 c] (.tup [u64 ((x + y + c) % 18446744073709551616), u64 ((x + y + c) / 18446744073709551616)]) :=
  pc_add64 Tryz.func318 (by kernel_rfl) (by kernel_rfl) (by kernel_rfl) (by kernel_rfl) x y c hc
theorem pc_Sub64 (x y c : Nat) (hc : c ≤ 1) : PC Tryz.prog 319 [u64 x, u64 y, u64 c] (.tup [u64 ((x + 18446744073709551616 - y - c) % 18446744073709551616), u64 (if x < y + c then 1 else 0)]) :=
  pc_sub64 Tryz.func319 (by kernel_rfl) (by kernel_rfl) (by kernel_rfl) (by kernel_rfl) x y c hc
theorem pc_rplus (x y : Nat) (h : x + y < 340282366920938463463374607431768211456) : PC Tryz.prog 299 [pr x, pr y] (pr (x + y)) := by
  refine pc_of_bodyF hm Tryz.func299 (by kernel_rfl) ?_
  conv => whnf
  (first | (refine Or.inl ?_; (conv => whnf); refine ⟨_, pc_Add64 (x % 18446744073709551616) (y % 18446744073709551616) 0 (by omega), ?_⟩) | refine ⟨_, pc_Add64 (x % 18446744073709551616) (y % 18446744073709551616) 0 (by omega), ?_⟩)
  (conv => whnf)
  rw [add_u, add_u]
  have e1 : (x % 18446744073709551616 + y % 18446744073709551616 + 0) % 18446744073709551616 = (x + y) % 18446744073709551616 := by omega
  have e2 : ((x / 18446744073709551616 + y / 18446744073709551616) % 18446744073709551616 + (x % 18446744073709551616 + y % 18446744073709551616 + 0) / 18446744073709551616) % 18446744073709551616 = (x + y) / 18446744073709551616 := by omega
  rw [e1, e2]
theorem pc_rminus (x y : Nat) (hx : x < 340282366920938463463374607431768211456) (h : y ≤ x) : PC Tryz.prog 300 [pr x, pr y] (pr (x - y)) := by
  refine pc_of_bodyF hm Tryz.func300 (by kernel_rfl) ?_
  conv => whnf
  (first | (refine Or.inl ?_; (conv => whnf); refine ⟨_, pc_Sub64 (x % 18446744073709551616) (y % 18446744073709551616) 0 (by omega), ?_⟩) | refine ⟨_, pc_Sub64 (x % 18446744073709551616) (y % 18446744073709551616) 0 (by omega), ?_⟩)
  (conv => whnf)
  rw [sub_u _ _ (by omega), sub_u _ _ (by split <;> omega)]
  have e1 : (x % 18446744073709551616 + 18446744073709551616 - y % 18446744073709551616 - 0) % 18446744073709551616 = (x - y) % 18446744073709551616 := by omega
  have e2 : ((x / 18446744073709551616 + (18446744073709551616 - y / 18446744073709551616)) % 18446744073709551616 + (18446744073709551616 - (if x % 18446744073709551616 < y % 18446744073709551616 + 0 then 1 else 0))) % 18446744073709551616 = (x - y) / 18446744073709551616 := by split <;> omega
  rw [e1, e2]
theorem pc_rplusS (x c : Nat) (hc : c < 18446744073709551616) (h : x + c < 340282366920938463463374607431768211456) : PC Tryz.prog 299 [pr x, .agg [.int .u64 0, u64 c]] (pr (x + c)) := by
  rw [← pr_small c hc]
  exact pc_rplus x c h
theorem and_one_u (a : Nat) (ha : a < 18446744073709551616) : bits .and .u64 (a : Int) 1 = ((a % 2 : Nat) : Int) := by
  have := bits_and_u a 1 ha (by decide)
  rw [Nat.and_one_is_mod] at this
  exact this
theorem pc_rbit (x : Nat) (i : Nat) (hx : x < 340282366920938463463374607431768211456) (hi : i < 128) : PC Tryz.prog 321 [pr x, i64 i] (u64 (x / 2 ^ i % 2)) := by
  refine pc_of_bodyF hm Tryz.func321 (by kernel_rfl) ?_
  conv => whnf
  refine ⟨fun h => ?_, fun h => ?_⟩
  · have h := of_decide_eq_true h
    (conv => whnf)
    have e : IntKind.i64.wrap ((i : Int) - 64) = ((i - 64 : Nat) : Int) := by rw [wi _ (by omega) (by omega)]; omega
    rw [e]
    refine ⟨by omega, ?_⟩
    (conv => whnf)
    rw [shr_u _ _ (by omega), and_one_u _ (Nat.lt_of_le_of_lt (Nat.div_le_self _ _) (by omega))]
    congr 3
    have e2 : 2 ^ i = 18446744073709551616 * 2 ^ (i - 64) := by rw [show 18446744073709551616 = 2 ^ 64 by decide, ← Nat.pow_add]; congr 1; omega
    rw [e2, Nat.div_div_eq_div_mul]
  · have h := of_decide_eq_false h
    (conv => whnf)
    refine ⟨by omega, ?_⟩
    (conv => whnf)
    rw [shr_u _ _ (by omega), and_one_u _ (Nat.lt_of_le_of_lt (Nat.div_le_self _ _) (by omega))]
    have e2 : 18446744073709551616 = 2 ^ i * (2 * 2 ^ (63 - i)) := by
      rw [show 18446744073709551616 = 2 ^ 64 by decide, ← Nat.pow_succ', ← Nat.pow_add]; congr 1; omega
    have e3 : x % 18446744073709551616 / 2 ^ i % 2 = x / 2 ^ i % 2 := by rw [e2, Nat.mod_mul_right_div_self, Nat.mod_mul_right_mod]
    rw [e3]
theorem top_step (a : Nat) (k : Nat) : a / 2 ^ k = 2 * (a / 2 ^ (k + 1)) + a / 2 ^ k % 2 := by
  have : a / 2 ^ (k + 1) = a / 2 ^ k / 2 := by rw [Nat.pow_succ, Nat.div_div_eq_div_mul]
  omega
theorem part_step (a b k : Nat) (hb : 0 < b) : (b ≤ 2 * (a / 2 ^ (k + 1) % b) + a / 2 ^ k % 2 → a / 2 ^ k / b = 2 * (a / 2 ^ (k + 1) / b) + 1 ∧ a / 2 ^ k % b = 2 * (a / 2 ^ (k + 1) % b) + a / 2 ^ k % 2 - b) ∧
    (2 * (a / 2 ^ (k + 1) % b) + a / 2 ^ k % 2 < b → a / 2 ^ k / b = 2 * (a / 2 ^ (k + 1) / b) ∧ a / 2 ^ k % b = 2 * (a / 2 ^ (k + 1) % b) + a / 2 ^ k % 2) := by
  have h1 := top_step a k
  have h2 := Nat.div_add_mod (a / 2 ^ (k + 1)) b
  have h3 := Nat.mod_lt (a / 2 ^ (k + 1)) hb
  have h4 : a / 2 ^ k % 2 < 2 := Nat.mod_lt _ (by omega)
  generalize a / 2 ^ (k + 1) % b = r at *
  generalize hq : a / 2 ^ (k + 1) / b = q at *
  generalize a / 2 ^ (k + 1) = t at *
  generalize a / 2 ^ k % 2 = c at *
  generalize a / 2 ^ k = s at *
  have hs : s = b * (2 * q) + (2 * r + c) := by rw [h1, ← h2, Nat.mul_add, Nat.mul_left_comm]; omega
  constructor
  · intro h
    have hs2 : s = b * (2 * q + 1) + (2 * r + c - b) := by rw [hs, Nat.mul_add, Nat.mul_one]; omega
    constructor
    · rw [hs2, Nat.mul_add_div hb, Nat.div_eq_of_lt (by omega)]
    · rw [hs2, Nat.mul_add_mod, Nat.mod_eq_of_lt (by omega)]
  · intro h
    constructor
    · rw [hs, Nat.mul_add_div hb, Nat.div_eq_of_lt (by omega)]; omega
    · rw [hs, Nat.mul_add_mod, Nat.mod_eq_of_lt (by omega)]
abbrev cW (n : Nat) : Row := .cells 321 [u64 (n / 18446744073709551616), u64 (n % 18446744073709551616)]
theorem pc_parted (a b : Nat) (ha : a < 340282366920938463463374607431768211456) (hb : 0 < b) (hb2 : b < 170141183460469231731687303715884105728) : PC Tryz.prog 293 [pr a, pr b] (.tup [pr (a / b), pr (a % b)]) := by
  refine pc_of_bodyF hm Tryz.func293 (by kernel_rfl) ?_
  conv => whnf
  refine Or.inr ⟨Nat, [8], [6, 7], [], fun k => [i64 ((k : Int) - 1)], fun k => [cW (a / 2 ^ k / b), cW (a / 2 ^ k % b)], fun _ => [], fun k => k, fun k => k ≤ 128, ?_⟩
  (conv => whnf)
  refine ⟨⟨128, ?_⟩, ?_⟩
  · have e : a / 2 ^ 128 = 0 := Nat.div_eq_of_lt (by rw [show (2:Nat) ^ 128 = 340282366920938463463374607431768211456 by decide]; exact ha)
    (conv => whnf)
    refine ⟨⟨by omega, rfl, ?_, rfl⟩, by kernel_rfl, by kernel_rfl⟩
    show [cW 0, cW 0] = [cW (a / 2 ^ 128 / b), cW (a / 2 ^ 128 % b)]
    rw [e, Nat.zero_div, Nat.zero_mod]
  · intro k hk
    (conv => whnf)
    refine ⟨fun h => ?_, fun h => ?_⟩
    · have h := of_decide_eq_true h
      obtain ⟨k, rfl⟩ : ∃ j, k = j + 1 := ⟨k - 1, by omega⟩
      have ps := part_step a b k hb
      have hq : a / 2 ^ (k + 1) / b ≤ 340282366920938463463374607431768211456 := by
        have := Nat.div_le_self (a / 2 ^ (k + 1)) b
        have := Nat.div_le_self a (2 ^ (k + 1))
        omega
      have hq2 : a / 2 ^ k / b < 340282366920938463463374607431768211456 := by
        have := Nat.div_le_self (a / 2 ^ k) b
        have := Nat.div_le_self a (2 ^ k)
        omega
      have hr := Nat.mod_lt (a / 2 ^ (k + 1)) hb
      have hc : a / 2 ^ k % 2 < 2 := Nat.mod_lt _ (by omega)
      have hbit := pc_rbit a k ha (by omega)
      have e1 : ((k + 1 : Nat) : Int) - 1 = k := by omega
      (conv => whnf)
      rw [e1]
      generalize gq : a / 2 ^ k / b = q' at *
      generalize gr : a / 2 ^ k % b = r' at *
      generalize a / 2 ^ (k + 1) / b = q at *
      generalize a / 2 ^ (k + 1) % b = r at *
      generalize a / 2 ^ k % 2 = c at *
      (conv => whnf)
      have hqq : q + q < 340282366920938463463374607431768211456 := by
        by_cases hcs : b ≤ 2 * r + c
        · have := (ps.1 hcs).1; omega
        · have := (ps.2 (by omega)).1; omega
      have m1 := pc_rminus (r + r + c) b
      (repeat' (first | (refine ansS (fun hh => ?_) (fun hh => ?_) <;> (first | simp only [ansX] at hh | skip) <;> (first | (exfalso; omega) | (exfalso; simp [*] at hh; done) | (exfalso; revert hh; decide) | exact absurd (by assumption) hh | (conv => whnf))) | ((first | refine ⟨by kernel_rfl, ?_⟩ | refine ansB (by omega) (by omega) ?_ | refine ansB (by decide) (by decide) ?_ | refine And.intro (a := _ ≤ _) (by omega) ?_ | refine And.intro (a := _ ≠ _) (by omega) ?_ | ((try (refine Or.inl ?_; (conv => whnf))); (try (refine ⟨false, ?_⟩; (conv => whnf))); refine ⟨_, by first | exact pc_rplus r r (by omega) | exact hbit | exact pc_rplusS (r + r) c (by omega) (by omega) | exact pc_rplus q q hqq | exact pc_rless (r + r + c) b (by omega) (by omega), ?_⟩) | fail); (conv => whnf))))
      · (repeat' (first | (refine ansS (fun hh => ?_) (fun hh => ?_) <;> (first | simp only [ansX] at hh | skip) <;> (first | (exfalso; omega) | (exfalso; simp [*] at hh; done) | (exfalso; revert hh; decide) | exact absurd (by assumption) hh | (conv => whnf))) | ((first | refine ⟨by kernel_rfl, ?_⟩ | refine ansB (by omega) (by omega) ?_ | refine ansB (by decide) (by decide) ?_ | refine And.intro (a := _ ≤ _) (by omega) ?_ | refine And.intro (a := _ ≠ _) (by omega) ?_ | ((try (refine Or.inl ?_; (conv => whnf))); (try (refine ⟨false, ?_⟩; (conv => whnf))); refine ⟨_, by exact m1 (by omega) (by omega), ?_⟩) | fail); (conv => whnf))))
        refine ⟨k, ?_⟩
        obtain ⟨p1, p2⟩ := ps.1 (by omega)
        (conv => whnf)
        refine ⟨⟨⟨Nat.lt_succ_self k, Nat.le_of_succ_le hk⟩, ?_, ?_, rfl⟩, by kernel_rfl, by kernel_rfl⟩
        · rw [wi _ (by omega) (by omega)]
        · have e2 : IntKind.u64.wrap ((((q + q) % 18446744073709551616 : Nat) : Int) + 1) = ((q' % 18446744073709551616 : Nat) : Int) := by
            rw [wumod]; omega
          have e3 : (q + q) / 18446744073709551616 = q' / 18446744073709551616 := by omega
          have e4 : r + r + c - b = r' := by omega
          show _ = [cW (a / 2 ^ k / b), cW (a / 2 ^ k % b)]
          rw [e2, e3, e4, gq, gr]
      · refine ⟨k, ?_⟩
        obtain ⟨p1, p2⟩ := ps.2 (by omega)
        (conv => whnf)
        refine ⟨⟨⟨Nat.lt_succ_self k, Nat.le_of_succ_le hk⟩, ?_, ?_, rfl⟩, by kernel_rfl, by kernel_rfl⟩
        · rw [wi _ (by omega) (by omega)]
        · have e3 : q + q = q' := by omega
          have e4 : r + r + c = r' := by omega
          show _ = [cW (a / 2 ^ k / b), cW (a / 2 ^ k % b)]
          rw [e3, e4, gq, gr]
    · have h := of_decide_eq_false h
      have : k = 0 := by omega
      subst this
      (conv => whnf)
      (repeat' (first | (refine ansS (fun hh => ?_) (fun hh => ?_) <;> (first | simp only [ansX] at hh | skip) <;> (first | (exfalso; omega) | (exfalso; simp [*] at hh; done) | (exfalso; revert hh; decide) | exact absurd (by assumption) hh | (conv => whnf))) | ((first | refine ⟨by kernel_rfl, ?_⟩ | refine ansB (by omega) (by omega) ?_ | refine ansB (by decide) (by decide) ?_ | refine And.intro (a := _ ≤ _) (by omega) ?_ | refine And.intro (a := _ ≠ _) (by omega) ?_ | fail); (conv => whnf))))
      rw [Nat.pow_zero, Nat.div_one]
end Go.Proofs.Tryz.My
