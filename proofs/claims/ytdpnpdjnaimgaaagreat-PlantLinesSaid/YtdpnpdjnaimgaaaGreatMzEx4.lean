/- A helper text: contracts of functions of the program, and plain lemmas. -/
import Derived.Test.YtdpnpdjnaimgaaaGreatEvSix
import Derived.Test.YtdpnpdjnaimgaaaGreatMzFq
import Derived.Test.YtdpnpdjnaimgaaaGreatMzExA
import Derived.Test.YtdpnpdjnaimgaaaGreatMzRf1
set_option maxRecDepth 100000
set_option maxHeartbeats 0
set_option linter.unusedVariables false
set_option linter.unusedSimpArgs false
namespace Go.Proofs.Tryz.My
open Go Go.Ev
theorem pc_padd (x y : Nat) (h : x + y < 340282366920938463463374607431768211456) : PC Tryz.prog 290 [pr x, pr y] (pr (x + y)) := by
  refine pc_of_bodyF hm Tryz.func290 (by kernel_rfl) ?_
  conv => whnf
  (repeat' (first | (refine ansS (fun hh => ?_) (fun hh => ?_) <;> (first | simp only [ansX] at hh | skip) <;> (first | (exfalso; omega) | (exfalso; simp [*] at hh; done) | (exfalso; revert hh; decide) | exact absurd (by assumption) hh | (conv => whnf))) | ((first | refine ⟨by kernel_rfl, ?_⟩ | refine ansB (by omega) (by omega) ?_ | refine ansB (by decide) (by decide) ?_ | refine And.intro (a := _ ≤ _) (by omega) ?_ | refine And.intro (a := _ ≠ _) (by omega) ?_ | ((try (refine Or.inl ?_; (conv => whnf))); (try (refine ⟨false, ?_⟩; (conv => whnf))); refine ⟨_, by exact pc_Add64 (x % 18446744073709551616) (y % 18446744073709551616) 0 (by omega), ?_⟩) | fail); (conv => whnf))))
  rw [add_u, add_u]
  have e1 : (x % 18446744073709551616 + y % 18446744073709551616 + 0) % 18446744073709551616 = (x + y) % 18446744073709551616 := by omega
  have e2 : ((x / 18446744073709551616 + y / 18446744073709551616) % 18446744073709551616 + (x % 18446744073709551616 + y % 18446744073709551616 + 0) / 18446744073709551616) % 18446744073709551616 = (x + y) / 18446744073709551616 := by omega
  rw [e1, e2]
theorem pc_psub (x y : Nat) (hx : x < 340282366920938463463374607431768211456) (h : y ≤ x) : PC Tryz.prog 291 [pr x, pr y] (pr (x - y)) := by
  refine pc_of_bodyF hm Tryz.func291 (by kernel_rfl) ?_
  conv => whnf
  (repeat' (first | (refine ansS (fun hh => ?_) (fun hh => ?_) <;> (first | simp only [ansX] at hh | skip) <;> (first | (exfalso; omega) | (exfalso; simp [*] at hh; done) | (exfalso; revert hh; decide) | exact absurd (by assumption) hh | (conv => whnf))) | ((first | refine ⟨by kernel_rfl, ?_⟩ | refine ansB (by omega) (by omega) ?_ | refine ansB (by decide) (by decide) ?_ | refine And.intro (a := _ ≤ _) (by omega) ?_ | refine And.intro (a := _ ≠ _) (by omega) ?_ | ((try (refine Or.inl ?_; (conv => whnf))); (try (refine ⟨false, ?_⟩; (conv => whnf))); refine ⟨_, by exact pc_Sub64 (x % 18446744073709551616) (y % 18446744073709551616) 0 (by omega), ?_⟩) | fail); (conv => whnf))))
  rw [sub_u _ _ (by omega), sub_u _ _ (by split <;> omega)]
  have e1 : (x % 18446744073709551616 + 18446744073709551616 - y % 18446744073709551616 - 0) % 18446744073709551616 = (x - y) % 18446744073709551616 := by omega
  have e2 : ((x / 18446744073709551616 + (18446744073709551616 - y / 18446744073709551616)) % 18446744073709551616 + (18446744073709551616 - (if x % 18446744073709551616 < y % 18446744073709551616 + 0 then 1 else 0))) % 18446744073709551616 = (x - y) / 18446744073709551616 := by split <;> omega
  rw [e1, e2]
theorem pc_minus (a : Int × Int) (h : validB a = true) : PC Tryz.prog 251 [fr a] (fr (-a.1, a.2)) := by
  have := (validB_iff a).1 h
  refine pc_of_bodyF hm Tryz.func251 (by kernel_rfl) ?_
  conv => whnf
  (repeat' (first | (refine ansS (fun hh => ?_) (fun hh => ?_) <;> (first | simp only [ansX] at hh | skip) <;> (first | (exfalso; omega) | (exfalso; simp [*] at hh; done) | (exfalso; revert hh; decide) | exact absurd (by assumption) hh | (conv => whnf))) | ((first | refine ⟨by kernel_rfl, ?_⟩ | refine ansB (by omega) (by omega) ?_ | refine ansB (by decide) (by decide) ?_ | refine And.intro (a := _ ≤ _) (by omega) ?_ | refine And.intro (a := _ ≠ _) (by omega) ?_ | fail); (conv => whnf))))
  rw [wi _ (by omega) (by omega), show 0 - a.1 = -a.1 by omega]
def overF (a : Int × Int) : Int × Int := if a.1 < 0 then (-a.2, -a.1) else (a.2, a.1)
theorem pc_times (a b : Int × Int) (ha : validB a = true) (hb : validB b = true) : PC Tryz.prog 147 [fr a, fr b] (.tup [fr (mulF a b).1, i64 (mulF a b).2]) := by
  rw [mul_law ha hb]
  have va := (validB_iff a).1 ha
  have vb := (validB_iff b).1 hb
  obtain ⟨n, d⟩ := a
  obtain ⟨m, e⟩ := b
  simp only [] at *
  have i1 : I64 n := by unfold I64; omega
  have i2 : I64 d := by unfold I64; omega
  have i3 : I64 m := by unfold I64; omega
  have i4 : I64 e := by unfold I64; omega
  have c1 := pc_gcd n.natAbs e.natAbs (by omega) (by omega)
  have c2 := pc_gcd m.natAbs d.natAbs (by omega) (by omega)
  have hg0 : 0 < Nat.gcd n.natAbs e.natAbs := Nat.gcd_pos_of_pos_right _ (by omega)
  have hh0 : 0 < Nat.gcd m.natAbs d.natAbs := Nat.gcd_pos_of_pos_right _ (by omega)
  generalize Nat.gcd n.natAbs e.natAbs = g at *
  generalize Nat.gcd m.natAbs d.natAbs = h at *
  have l1 : n.natAbs / g ≤ 4611686018427387903 := Nat.le_trans (Nat.div_le_self _ _) (by omega)
  have l2 : e.natAbs / g ≤ 4611686018427387903 := Nat.le_trans (Nat.div_le_self _ _) (by omega)
  have l3 : m.natAbs / h ≤ 4611686018427387903 := Nat.le_trans (Nat.div_le_self _ _) (by omega)
  have l4 : d.natAbs / h ≤ 4611686018427387903 := Nat.le_trans (Nat.div_le_self _ _) (by omega)
  have p1 := pc_product (n.natAbs / g) (m.natAbs / h) (by omega) (by omega)
  have p2 := pc_product (d.natAbs / h) (e.natAbs / g) (by omega) (by omega)
  have hx : n.natAbs / g * (m.natAbs / h) < 340282366920938463463374607431768211456 := Nat.lt_of_le_of_lt (Nat.mul_le_mul l1 l3) (by decide)
  have hy : d.natAbs / h * (e.natAbs / g) < 340282366920938463463374607431768211456 := Nat.lt_of_le_of_lt (Nat.mul_le_mul l4 l2) (by decide)
  have cm := pc_made (decide (n < 0) != decide (m < 0)) _ _ hx hy
  refine pc_of_bodyF hm Tryz.func147 (by kernel_rfl) ?_
  conv => whnf
  (repeat' (first | (refine ansS (fun hh => ?_) (fun hh => ?_) <;> (first | simp only [ansX] at hh | skip) <;> (first | (exfalso; omega) | (exfalso; simp [*] at hh; done) | (exfalso; revert hh; decide) | exact absurd (by assumption) hh | (conv => whnf))) | ((first | refine ⟨by kernel_rfl, ?_⟩ | refine ansB (by omega) (by omega) ?_ | refine ansB (by decide) (by decide) ?_ | refine And.intro (a := _ ≤ _) (by omega) ?_ | refine And.intro (a := _ ≠ _) (by omega) ?_ | ((try (refine Or.inl ?_; (conv => whnf))); (try (refine ⟨false, ?_⟩; (conv => whnf))); refine ⟨_, by first | exact pc_abs n i1 | exact pc_abs d i2 | exact pc_abs m i3 | exact pc_abs e i4 | exact c1 | exact c2, ?_⟩) | fail); (conv => whnf))))
  rw [div_u _ _ (by omega), div_u _ _ (by omega)]
  (repeat' (first | (refine ansS (fun hh => ?_) (fun hh => ?_) <;> (first | simp only [ansX] at hh | skip) <;> (first | (exfalso; omega) | (exfalso; simp [*] at hh; done) | (exfalso; revert hh; decide) | exact absurd (by assumption) hh | (conv => whnf))) | ((first | refine ⟨by kernel_rfl, ?_⟩ | refine ansB (by omega) (by omega) ?_ | refine ansB (by decide) (by decide) ?_ | refine And.intro (a := _ ≤ _) (by omega) ?_ | refine And.intro (a := _ ≠ _) (by omega) ?_ | ((try (refine Or.inl ?_; (conv => whnf))); (try (refine ⟨false, ?_⟩; (conv => whnf))); refine ⟨_, by first | exact p1 | exact pc_abs d i2 | exact pc_abs e i4, ?_⟩) | fail); (conv => whnf))))
  rw [div_u _ _ (by omega), div_u _ _ (by omega)]
  (repeat' (first | (refine ansS (fun hh => ?_) (fun hh => ?_) <;> (first | simp only [ansX] at hh | skip) <;> (first | (exfalso; omega) | (exfalso; simp [*] at hh; done) | (exfalso; revert hh; decide) | exact absurd (by assumption) hh | (conv => whnf))) | ((first | refine ⟨by kernel_rfl, ?_⟩ | refine ansB (by omega) (by omega) ?_ | refine ansB (by decide) (by decide) ?_ | refine And.intro (a := _ ≤ _) (by omega) ?_ | refine And.intro (a := _ ≠ _) (by omega) ?_ | ((try (refine Or.inl ?_; (conv => whnf))); (try (refine ⟨false, ?_⟩; (conv => whnf))); refine ⟨_, by first | exact p2 | exact cm, ?_⟩) | fail); (conv => whnf))))
end Go.Proofs.Tryz.My
