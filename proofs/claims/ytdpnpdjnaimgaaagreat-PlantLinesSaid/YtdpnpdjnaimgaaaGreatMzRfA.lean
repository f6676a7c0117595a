/- A helper text: contracts of functions of the program, and plain lemmas. -/
import Derived.Test.YtdpnpdjnaimgaaaGreatEvSix
import Derived.Test.YtdpnpdjnaimgaaaGreatMzRfB
import Derived.Test.YtdpnpdjnaimgaaaGreatMzExB
set_option maxRecDepth 100000
set_option maxHeartbeats 0
set_option linter.unusedVariables false
set_option linter.unusedSimpArgs false
namespace Go.Proofs.Tryz.My
open Go Go.Ev
theorem natMul2 (n m : Int) : ((n.natAbs * m.natAbs : Nat) : Int) = if (n < 0 ∧ 0 < m) ∨ (0 < n ∧ m < 0) then -(n * m) else n * m := by
  rw [Int.natCast_mul]
  by_cases h1 : n < 0
  · rw [show ((n.natAbs : Nat) : Int) = -n by omega]
    by_cases h2 : m < 0
    · rw [show ((m.natAbs : Nat) : Int) = -m by omega, if_neg (by omega)]; grind
    · rw [show ((m.natAbs : Nat) : Int) = m by omega]
      by_cases h3 : m = 0
      · subst h3; simp
      · rw [if_pos (by omega)]; grind
  · rw [show ((n.natAbs : Nat) : Int) = n by omega]
    by_cases h2 : m < 0
    · rw [show ((m.natAbs : Nat) : Int) = -m by omega]
      by_cases h3 : n = 0
      · subst h3; simp
      · rw [if_pos (by omega)]; grind
    · rw [show ((m.natAbs : Nat) : Int) = m by omega, if_neg (by omega)]
theorem sgn_prod (n m : Int) : sgR n * sgR m < 0 ↔ (n < 0 ∧ 0 < m) ∨ (0 < n ∧ m < 0) := by
  rcases sgn_cases n with ⟨_, h⟩ | ⟨_, h⟩ | ⟨_, h⟩ <;> rcases sgn_cases m with ⟨_, h'⟩ | ⟨_, h'⟩ | ⟨_, h'⟩ <;> rw [h, h'] <;> omega
theorem sgn_prod_i (n m : Int) : IntKind.i64.wrap (sgR n * sgR m) = sgR n * sgR m := by
  rcases sgn_cases n with ⟨_, h⟩ | ⟨_, h⟩ | ⟨_, h⟩ <;> rcases sgn_cases m with ⟨_, h'⟩ | ⟨_, h'⟩ | ⟨_, h'⟩ <;> rw [h, h'] <;> decide
theorem pc_rTimes (a b : Int × Int) (ha : validB a = true) (hb : validB b = true) : PC Tryz.prog 263 [fr a, fr b] (okF (mulF a b)) := by
  have va := (validB_iff a).1 ha
  have vb := (validB_iff b).1 hb
  have hdef : mulF a b = makeF (a.1 * b.1) (a.2 * b.2) := rfl
  obtain ⟨n, d⟩ := a
  obtain ⟨m, e⟩ := b
  simp only [] at *
  have i1 : I64 n := by unfold I64; omega
  have i2 : I64 d := by unfold I64; omega
  have i3 : I64 m := by unfold I64; omega
  have i4 : I64 e := by unfold I64; omega
  have p1 := pc_rtimes n.natAbs m.natAbs (by omega) (by omega)
  have p3 := pc_rtimes d.natAbs e.natAbs (by omega) (by omega)
  have hx : n.natAbs * m.natAbs ≤ 4611686018427387903 * 4611686018427387903 := Nat.mul_le_mul (by omega) (by omega)
  have hd : d.natAbs * e.natAbs ≤ 4611686018427387903 * 4611686018427387903 := Nat.mul_le_mul (by omega) (by omega)
  have hd0 : 0 < d.natAbs * e.natAbs := Nat.mul_pos (by omega) (by omega)
  have kx := natMul2 n m
  have kd := natMul d e (by omega)
  rw [if_neg (by omega)] at kd
  rw [← kd] at hdef
  have sp := sgn_prod n m
  have spi := sgn_prod_i n m
  have l := low_eq (sg := sgR n * sgR m) (N := n.natAbs * m.natAbs) hd0 (r := mulF (n, d) (m, e)) (by
    rw [hdef, kx]
    congr 1
    by_cases h : (n < 0 ∧ 0 < m) ∨ (0 < n ∧ m < 0)
    · rw [if_pos h, if_pos (sp.2 h)]; omega
    · rw [if_neg h, if_neg (fun k => h (sp.1 k))])
  have c := pc_rLowest (sgR n * sgR m) (n.natAbs * m.natAbs) (d.natAbs * e.natAbs) (by omega) (by omega) hd0
  rw [l] at c
  have g1 := pc_rsign n
  have g2 := pc_rsign m
  generalize mulF (n, d) (m, e) = res at *
  generalize n.natAbs * m.natAbs = X at *
  generalize d.natAbs * e.natAbs = D at *
  generalize sgR n = s at *
  generalize sgR m = t at *
  refine pc_of_bodyF hm Tryz.func263 (by kernel_rfl) ?_
  conv => whnf
  (repeat' (first | (refine ansS (fun hh => ?_) (fun hh => ?_) <;> (first | simp only [ansX] at hh | skip) <;> (first | (exfalso; omega) | (exfalso; simp [*] at hh; done) | (exfalso; revert hh; decide) | exact absurd (by assumption) hh | (conv => whnf))) | ((first | refine ⟨by kernel_rfl, ?_⟩ | refine ansB (by omega) (by omega) ?_ | refine ansB (by decide) (by decide) ?_ | refine And.intro (a := _ ≤ _) (by omega) ?_ | refine And.intro (a := _ ≠ _) (by omega) ?_ | ((try (refine Or.inl ?_; (conv => whnf))); (try (refine ⟨false, ?_⟩; (conv => whnf))); refine ⟨_, by first | exact g1 | exact g2 | exact pc_rsize n i1 | exact pc_rsize d i2 | exact pc_rsize m i3 | exact pc_rsize e i4 | exact p1 | exact p3, ?_⟩) | fail); (conv => whnf))))
  rw [spi]
  (repeat' (first | (refine ansS (fun hh => ?_) (fun hh => ?_) <;> (first | simp only [ansX] at hh | skip) <;> (first | (exfalso; omega) | (exfalso; simp [*] at hh; done) | (exfalso; revert hh; decide) | exact absurd (by assumption) hh | (conv => whnf))) | ((first | refine ⟨by kernel_rfl, ?_⟩ | refine ansB (by omega) (by omega) ?_ | refine ansB (by decide) (by decide) ?_ | refine And.intro (a := _ ≤ _) (by omega) ?_ | refine And.intro (a := _ ≠ _) (by omega) ?_ | ((try (refine Or.inl ?_; (conv => whnf))); (try (refine ⟨false, ?_⟩; (conv => whnf))); refine ⟨_, by exact c, ?_⟩) | fail); (conv => whnf))))
theorem pc_rLeast (a b : Int × Int) (ha : validB a = true) (hb : validB b = true) : PC Tryz.prog 301 [fr a, fr b] (fr (lesF a b)) := by
  have c := pc_rOrder a b ha hb
  rw [lesF_eq ha hb]
  generalize cmpF a b = x at *
  refine pc_of_bodyF hm Tryz.func301 (by kernel_rfl) ?_
  conv => whnf
  (repeat' (first | (refine ansS (fun hh => ?_) (fun hh => ?_) <;> (first | simp only [ansX] at hh | skip) <;> (first | (exfalso; omega) | (exfalso; simp [*] at hh; done) | (exfalso; revert hh; decide) | exact absurd (by assumption) hh | (conv => whnf))) | ((first | refine ⟨by kernel_rfl, ?_⟩ | refine ansB (by omega) (by omega) ?_ | refine ansB (by decide) (by decide) ?_ | refine And.intro (a := _ ≤ _) (by omega) ?_ | refine And.intro (a := _ ≠ _) (by omega) ?_ | ((try (refine Or.inl ?_; (conv => whnf))); (try (refine ⟨false, ?_⟩; (conv => whnf))); refine ⟨_, by exact c, ?_⟩) | fail); (conv => whnf))))
  · rw [if_pos hh]
  · rw [if_neg hh]
theorem pc_rMost (a b : Int × Int) (ha : validB a = true) (hb : validB b = true) : PC Tryz.prog 302 [fr a, fr b] (fr (greF a b)) := by
  have c := pc_rOrder a b ha hb
  rw [greF_eq ha hb]
  generalize cmpF a b = x at *
  refine pc_of_bodyF hm Tryz.func302 (by kernel_rfl) ?_
  conv => whnf
  (repeat' (first | (refine ansS (fun hh => ?_) (fun hh => ?_) <;> (first | simp only [ansX] at hh | skip) <;> (first | (exfalso; omega) | (exfalso; simp [*] at hh; done) | (exfalso; revert hh; decide) | exact absurd (by assumption) hh | (conv => whnf))) | ((first | refine ⟨by kernel_rfl, ?_⟩ | refine ansB (by omega) (by omega) ?_ | refine ansB (by decide) (by decide) ?_ | refine And.intro (a := _ ≤ _) (by omega) ?_ | refine And.intro (a := _ ≠ _) (by omega) ?_ | ((try (refine Or.inl ?_; (conv => whnf))); (try (refine ⟨false, ?_⟩; (conv => whnf))); refine ⟨_, by exact c, ?_⟩) | fail); (conv => whnf))))
  · rw [if_pos hh]
  · rw [if_neg hh]
def fourF (a b c d : (Int × Int) × Int) : SpT × Int := if a.2 = 0 ∧ b.2 = 0 ∧ c.2 = 0 ∧ d.2 = 0 then ((lesF (lesF (lesF a.1 b.1) c.1) d.1, greF (greF (greF a.1 b.1) c.1) d.1), 0) else (zS, 4)
theorem ends_four {op : Int × Int → Int × Int → (Int × Int) × Int} {p q r s : SpT} (hp : ∃ x, Fits x (op p.1 p.2)) (hq : ∃ x, Fits x (op q.1 q.2)) (hr : ∃ x, Fits x (op r.1 r.2)) (hs : ∃ x, Fits x (op s.1 s.2)) :
    endsF op [p, q, r, s] = fourF (op p.1 p.2) (op q.1 q.2) (op r.1 r.2) (op s.1 s.2) := by
  obtain ⟨_, hp⟩ := hp
  obtain ⟨_, hq⟩ := hq
  obtain ⟨_, hr⟩ := hr
  obtain ⟨_, hs⟩ := hs
  simp only [endsF, endsG, fourF]
  by_cases h1 : (op p.1 p.2).2 = 0
  · by_cases h2 : (op q.1 q.2).2 = 0
    · by_cases h3 : (op r.1 r.2).2 = 0
      · by_cases h4 : (op s.1 s.2).2 = 0
        · simp [h1, h2, h3, h4]
        · have := hs.bad h4
          simp [h1, h2, h3, h4, this]
      · have := hr.bad h3
        simp [h1, h2, h3, this]
    · have := hq.bad h2
      simp [h1, h2, this]
  · have := hp.bad h1
    simp [h1, this]
theorem les_self (a : Int × Int) : lesF a a = a := by unfold lesF; split <;> rfl
theorem gre_self (a : Int × Int) : greF a a = a := by unfold greF; split <;> rfl
theorem pc_four_bad0 (a1 a2 b1 b2 c1 c2 d1 d2 : Int) (x y z : Bool) : PC Tryz.prog 264 [.agg [i64 a1, i64 a2, i64 b1, i64 b2, i64 c1, i64 c2, i64 d1, i64 d2], .agg [.bool false, .bool x, .bool y, .bool z]] (.tup [sp zS, i64 4]) := by
  refine pc_of_bodyF hm Tryz.func264 (by kernel_rfl) ?_
  conv => whnf
  refine Or.inl ⟨5, ?_⟩
  (conv => whnf)
  refine ⟨fun _ => ?_, fun h => absurd h (by decide)⟩
  (conv => whnf)
  refine ⟨⟨by decide, by decide⟩, ?_⟩
  (conv => whnf)
  refine ⟨fun _ => ?_, fun h => absurd h (by decide)⟩
  (conv => whnf)
theorem pc_four_bad1 (a1 a2 b1 b2 c1 c2 d1 d2 : Int) (y z : Bool) : PC Tryz.prog 264 [.agg [i64 a1, i64 a2, i64 b1, i64 b2, i64 c1, i64 c2, i64 d1, i64 d2], .agg [.bool true, .bool false, .bool y, .bool z]] (.tup [sp zS, i64 4]) := by
  refine pc_of_bodyF hm Tryz.func264 (by kernel_rfl) ?_
  conv => whnf
  refine Or.inl ⟨5, ?_⟩
  (conv => whnf)
  refine ⟨fun _ => ?_, fun h => absurd h (by decide)⟩
  (conv => whnf)
  refine ⟨⟨by decide, by decide⟩, ?_⟩
  (conv => whnf)
  refine ⟨fun h => absurd h (by decide), fun _ => ?_⟩
  (conv => whnf)
  rw [show IntKind.i64.wrap (0 + 1) = 1 from by decide]
  refine ⟨fun _ => ?_, fun h => absurd h (by decide)⟩
  (conv => whnf)
  refine ⟨⟨by decide, by decide⟩, ?_⟩
  (conv => whnf)
  refine ⟨fun _ => ?_, fun h => absurd h (by decide)⟩
  (conv => whnf)
theorem pc_four_bad2 (a1 a2 b1 b2 c1 c2 d1 d2 : Int) (z : Bool) : PC Tryz.prog 264 [.agg [i64 a1, i64 a2, i64 b1, i64 b2, i64 c1, i64 c2, i64 d1, i64 d2], .agg [.bool true, .bool true, .bool false, .bool z]] (.tup [sp zS, i64 4]) := by
  refine pc_of_bodyF hm Tryz.func264 (by kernel_rfl) ?_
  conv => whnf
  refine Or.inl ⟨5, ?_⟩
  (conv => whnf)
  refine ⟨fun _ => ?_, fun h => absurd h (by decide)⟩
  (conv => whnf)
  refine ⟨⟨by decide, by decide⟩, ?_⟩
  (conv => whnf)
  refine ⟨fun h => absurd h (by decide), fun _ => ?_⟩
  (conv => whnf)
  rw [show IntKind.i64.wrap (0 + 1) = 1 from by decide]
  refine ⟨fun _ => ?_, fun h => absurd h (by decide)⟩
  (conv => whnf)
  refine ⟨⟨by decide, by decide⟩, ?_⟩
  (conv => whnf)
  refine ⟨fun h => absurd h (by decide), fun _ => ?_⟩
  (conv => whnf)
  rw [show IntKind.i64.wrap (1 + 1) = 2 from by decide]
  refine ⟨fun _ => ?_, fun h => absurd h (by decide)⟩
  (conv => whnf)
  refine ⟨⟨by decide, by decide⟩, ?_⟩
  (conv => whnf)
  refine ⟨fun _ => ?_, fun h => absurd h (by decide)⟩
  (conv => whnf)
theorem pc_four_bad3 (a1 a2 b1 b2 c1 c2 d1 d2 : Int) : PC Tryz.prog 264 [.agg [i64 a1, i64 a2, i64 b1, i64 b2, i64 c1, i64 c2, i64 d1, i64 d2], .agg [.bool true, .bool true, .bool true, .bool false]] (.tup [sp zS, i64 4]) := by
  refine pc_of_bodyF hm Tryz.func264 (by kernel_rfl) ?_
  conv => whnf
  refine Or.inl ⟨5, ?_⟩
  (conv => whnf)
  refine ⟨fun _ => ?_, fun h => absurd h (by decide)⟩
  (conv => whnf)
  refine ⟨⟨by decide, by decide⟩, ?_⟩
  (conv => whnf)
  refine ⟨fun h => absurd h (by decide), fun _ => ?_⟩
  (conv => whnf)
  rw [show IntKind.i64.wrap (0 + 1) = 1 from by decide]
  refine ⟨fun _ => ?_, fun h => absurd h (by decide)⟩
  (conv => whnf)
  refine ⟨⟨by decide, by decide⟩, ?_⟩
  (conv => whnf)
  refine ⟨fun h => absurd h (by decide), fun _ => ?_⟩
  (conv => whnf)
  rw [show IntKind.i64.wrap (1 + 1) = 2 from by decide]
  refine ⟨fun _ => ?_, fun h => absurd h (by decide)⟩
  (conv => whnf)
  refine ⟨⟨by decide, by decide⟩, ?_⟩
  (conv => whnf)
  refine ⟨fun h => absurd h (by decide), fun _ => ?_⟩
  (conv => whnf)
  rw [show IntKind.i64.wrap (2 + 1) = 3 from by decide]
  refine ⟨fun _ => ?_, fun h => absurd h (by decide)⟩
  (conv => whnf)
  refine ⟨⟨by decide, by decide⟩, ?_⟩
  (conv => whnf)
  refine ⟨fun _ => ?_, fun h => absurd h (by decide)⟩
  (conv => whnf)
theorem pc_four_ok (a1 a2 b1 b2 c1 c2 d1 d2 : Int) (x1 x2 x3 y1 y2 y3 : Int × Int)
    (l0 : PC Tryz.prog 301 [fr (a1, a2), fr (a1, a2)] (fr (a1, a2))) (g0 : PC Tryz.prog 302 [fr (a1, a2), fr (a1, a2)] (fr (a1, a2)))
    (l1 : PC Tryz.prog 301 [fr (a1, a2), fr (b1, b2)] (fr x1)) (g1 : PC Tryz.prog 302 [fr (a1, a2), fr (b1, b2)] (fr y1))
    (l2 : PC Tryz.prog 301 [fr x1, fr (c1, c2)] (fr x2)) (g2 : PC Tryz.prog 302 [fr y1, fr (c1, c2)] (fr y2))
    (l3 : PC Tryz.prog 301 [fr x2, fr (d1, d2)] (fr x3)) (g3 : PC Tryz.prog 302 [fr y2, fr (d1, d2)] (fr y3)) :
    PC Tryz.prog 264 [.agg [i64 a1, i64 a2, i64 b1, i64 b2, i64 c1, i64 c2, i64 d1, i64 d2], .agg [.bool true, .bool true, .bool true, .bool true]] (.tup [sp (x3, y3), i64 0]) := by
  refine pc_of_bodyF hm Tryz.func264 (by kernel_rfl) ?_
  conv => whnf
  refine Or.inl ⟨5, ?_⟩
  (conv => whnf)
  refine ⟨fun _ => ?_, fun h => absurd h (by decide)⟩
  (conv => whnf)
  refine ⟨⟨by decide, by decide⟩, ?_⟩
  (conv => whnf)
  refine ⟨fun h => absurd h (by decide), fun _ => ?_⟩
  (conv => whnf)
  rw [show IntKind.i64.wrap (0 + 1) = 1 from by decide]
  refine ⟨fun _ => ?_, fun h => absurd h (by decide)⟩
  (conv => whnf)
  refine ⟨⟨by decide, by decide⟩, ?_⟩
  (conv => whnf)
  refine ⟨fun h => absurd h (by decide), fun _ => ?_⟩
  (conv => whnf)
  rw [show IntKind.i64.wrap (1 + 1) = 2 from by decide]
  refine ⟨fun _ => ?_, fun h => absurd h (by decide)⟩
  (conv => whnf)
  refine ⟨⟨by decide, by decide⟩, ?_⟩
  (conv => whnf)
  refine ⟨fun h => absurd h (by decide), fun _ => ?_⟩
  (conv => whnf)
  rw [show IntKind.i64.wrap (2 + 1) = 3 from by decide]
  refine ⟨fun _ => ?_, fun h => absurd h (by decide)⟩
  (conv => whnf)
  refine ⟨⟨by decide, by decide⟩, ?_⟩
  (conv => whnf)
  refine ⟨fun h => absurd h (by decide), fun _ => ?_⟩
  (conv => whnf)
  rw [show IntKind.i64.wrap (3 + 1) = 4 from by decide]
  refine ⟨fun h => absurd h (by decide), fun _ => ?_⟩
  (conv => whnf)
  refine Or.inl ⟨5, ?_⟩
  (conv => whnf)
  refine ⟨fun _ => ?_, fun h => absurd h (by decide)⟩
  (conv => whnf)
  refine ⟨by kernel_rfl, ?_⟩
  (conv => whnf)
  refine ⟨⟨by decide, by decide⟩, ?_⟩
  (conv => whnf)
  refine ⟨_, l0, ?_⟩
  (conv => whnf)
  refine ⟨⟨by decide, by decide⟩, ?_⟩
  (conv => whnf)
  refine ⟨_, g0, ?_⟩
  (conv => whnf)
  refine ⟨by kernel_rfl, ?_⟩
  (conv => whnf)
  rw [show IntKind.i64.wrap (0 + 1) = 1 from by decide]
  refine ⟨fun _ => ?_, fun h => absurd h (by decide)⟩
  (conv => whnf)
  refine ⟨by kernel_rfl, ?_⟩
  (conv => whnf)
  refine ⟨⟨by decide, by decide⟩, ?_⟩
  (conv => whnf)
  refine ⟨_, l1, ?_⟩
  (conv => whnf)
  refine ⟨⟨by decide, by decide⟩, ?_⟩
  (conv => whnf)
  refine ⟨_, g1, ?_⟩
  (conv => whnf)
  refine ⟨by kernel_rfl, ?_⟩
  (conv => whnf)
  rw [show IntKind.i64.wrap (1 + 1) = 2 from by decide]
  refine ⟨fun _ => ?_, fun h => absurd h (by decide)⟩
  (conv => whnf)
  refine ⟨by kernel_rfl, ?_⟩
  (conv => whnf)
  refine ⟨⟨by decide, by decide⟩, ?_⟩
  (conv => whnf)
  refine ⟨_, l2, ?_⟩
  (conv => whnf)
  refine ⟨⟨by decide, by decide⟩, ?_⟩
  (conv => whnf)
  refine ⟨_, g2, ?_⟩
  (conv => whnf)
  refine ⟨by kernel_rfl, ?_⟩
  (conv => whnf)
  rw [show IntKind.i64.wrap (2 + 1) = 3 from by decide]
  refine ⟨fun _ => ?_, fun h => absurd h (by decide)⟩
  (conv => whnf)
  refine ⟨by kernel_rfl, ?_⟩
  (conv => whnf)
  refine ⟨⟨by decide, by decide⟩, ?_⟩
  (conv => whnf)
  refine ⟨_, l3, ?_⟩
  (conv => whnf)
  refine ⟨⟨by decide, by decide⟩, ?_⟩
  (conv => whnf)
  refine ⟨_, g3, ?_⟩
  (conv => whnf)
  refine ⟨by kernel_rfl, ?_⟩
  (conv => whnf)
  rw [show IntKind.i64.wrap (3 + 1) = 4 from by decide]
  refine ⟨fun h => absurd h (by decide), fun _ => ?_⟩
  (conv => whnf)
theorem pc_four (a b c d : (Int × Int) × Int) (ha : a.2 = 0 → validB a.1 = true) (hb : b.2 = 0 → validB b.1 = true) (hc : c.2 = 0 → validB c.1 = true) (hd : d.2 = 0 → validB d.1 = true) :
    PC Tryz.prog 264 [.agg [i64 a.1.1, i64 a.1.2, i64 b.1.1, i64 b.1.2, i64 c.1.1, i64 c.1.2, i64 d.1.1, i64 d.1.2], .agg [.bool (decide (a.2 = 0)), .bool (decide (b.2 = 0)), .bool (decide (c.2 = 0)), .bool (decide (d.2 = 0))]] (.tup [sp (fourF a b c d).1, i64 (fourF a b c d).2]) := by
  obtain ⟨⟨a1, a2⟩, ae⟩ := a
  obtain ⟨⟨b1, b2⟩, be⟩ := b
  obtain ⟨⟨c1, c2⟩, ce⟩ := c
  obtain ⟨⟨d1, d2⟩, de⟩ := d
  simp only [] at *
  unfold fourF
  by_cases za : ae = 0
  rotate_left
  · rw [if_neg (fun h => za h.1), decide_eq_false za]
    exact pc_four_bad0 a1 a2 b1 b2 c1 c2 d1 d2 _ _ _
  by_cases zb : be = 0
  rotate_left
  · rw [if_neg (fun h => zb h.2.1), decide_eq_true za, decide_eq_false zb]
    exact pc_four_bad1 a1 a2 b1 b2 c1 c2 d1 d2 _ _
  by_cases zc : ce = 0
  rotate_left
  · rw [if_neg (fun h => zc h.2.2.1), decide_eq_true za, decide_eq_true zb, decide_eq_false zc]
    exact pc_four_bad2 a1 a2 b1 b2 c1 c2 d1 d2 _
  by_cases zd : de = 0
  rotate_left
  · rw [if_neg (fun h => zd h.2.2.2), decide_eq_true za, decide_eq_true zb, decide_eq_true zc, decide_eq_false zd]
    exact pc_four_bad3 a1 a2 b1 b2 c1 c2 d1 d2
  rw [if_pos ⟨za, zb, zc, zd⟩, decide_eq_true za, decide_eq_true zb, decide_eq_true zc, decide_eq_true zd]
  have va := ha za
  have vb := hb zb
  have vc := hc zc
  have vd := hd zd
  have l0 := pc_rLeast (a1, a2) (a1, a2) va va
  have g0 := pc_rMost (a1, a2) (a1, a2) va va
  rw [les_self] at l0
  rw [gre_self] at g0
  have vl1 := lesF_valid va vb
  have vg1 := greF_valid va vb
  have vl2 := lesF_valid vl1 vc
  have vg2 := greF_valid vg1 vc
  exact pc_four_ok a1 a2 b1 b2 c1 c2 d1 d2 _ _ _ _ _ _ l0 g0 (pc_rLeast _ _ va vb) (pc_rMost _ _ va vb) (pc_rLeast _ _ vl1 vc) (pc_rMost _ _ vg1 vc) (pc_rLeast _ _ vl2 vd) (pc_rMost _ _ vg2 vd)
end Go.Proofs.Tryz.My
set_option maxRecDepth 100000
set_option maxHeartbeats 0
set_option linter.unusedVariables false
set_option linter.unusedSimpArgs false
namespace Go.Proofs.Tryz.My
open Go Go.Ev
theorem mulS_eq {a b : SpT} (ha : spanB a = true) (hb : spanB b = true) : mulS a b = fourF (mulF a.1 b.1) (mulF a.1 b.2) (mulF a.2 b.1) (mulF a.2 b.2) := by
  obtain ⟨a1, a2, a3⟩ := spanB_iff.1 ha
  obtain ⟨b1, b2, b3⟩ := spanB_iff.1 hb
  have h := ends_four (op := mulF) (p := (a.1, b.1)) (q := (a.1, b.2)) (r := (a.2, b.1)) (s := (a.2, b.2)) ⟨_, mulF_fits a1 b1⟩ ⟨_, mulF_fits a1 b2⟩ ⟨_, mulF_fits a2 b1⟩ ⟨_, mulF_fits a2 b2⟩
  unfold mulS
  rw [ha, hb]
  exact h
theorem pc_rMulSpans (a b : SpT) (h1 : I64 a.1.1) (h2 : I64 a.1.2) (h3 : I64 a.2.1) (h4 : I64 a.2.2) (k1 : I64 b.1.1) (k2 : I64 b.1.2) (k3 : I64 b.2.1) (k4 : I64 b.2.2) : PC Tryz.prog 214 [sp a, sp b] (.tup [sp (mulS a b).1, i64 (mulS a b).2]) := by
  have c1 := pc_rValidSpan a h1 h2 h3 h4
  have c2 := pc_rValidSpan b k1 k2 k3 k4
  have no : spanB a = false ∨ spanB b = false → mulS a b = (zS, 8) := fun h => by unfold mulS; rcases h with h | h <;> simp [h]
  cases ha : spanB a
  · rw [no (.inl ha)]
    rw [ha] at c1
    refine pc_of_bodyF hm Tryz.func214 (by kernel_rfl) ?_
    conv => whnf
    (repeat' (first | (refine ansS (fun hh => ?_) (fun hh => ?_) <;> (first | simp only [ansX] at hh | skip) <;> (first | (exfalso; omega) | (exfalso; simp [*] at hh; done) | (exfalso; revert hh; decide) | exact absurd (by assumption) hh | (conv => whnf))) | ((first | refine ⟨by kernel_rfl, ?_⟩ | refine ansB (by omega) (by omega) ?_ | refine ansB (by decide) (by decide) ?_ | refine And.intro (a := _ ≤ _) (by omega) ?_ | refine And.intro (a := _ ≠ _) (by omega) ?_ | ((try (refine Or.inl ?_; (conv => whnf))); (try (refine ⟨false, ?_⟩; (conv => whnf))); refine ⟨_, by exact c1, ?_⟩) | fail); (conv => whnf))))
    all_goals simp
  cases hb : spanB b
  · rw [no (.inr hb)]
    rw [ha] at c1
    rw [hb] at c2
    refine pc_of_bodyF hm Tryz.func214 (by kernel_rfl) ?_
    conv => whnf
    (repeat' (first | (refine ansS (fun hh => ?_) (fun hh => ?_) <;> (first | simp only [ansX] at hh | skip) <;> (first | (exfalso; omega) | (exfalso; simp [*] at hh; done) | (exfalso; revert hh; decide) | exact absurd (by assumption) hh | (conv => whnf))) | ((first | refine ⟨by kernel_rfl, ?_⟩ | refine ansB (by omega) (by omega) ?_ | refine ansB (by decide) (by decide) ?_ | refine And.intro (a := _ ≤ _) (by omega) ?_ | refine And.intro (a := _ ≠ _) (by omega) ?_ | ((try (refine Or.inl ?_; (conv => whnf))); (try (refine ⟨false, ?_⟩; (conv => whnf))); refine ⟨_, by first | exact c1 | exact c2, ?_⟩) | fail); (conv => whnf))))
    all_goals simp
  rw [ha] at c1
  rw [hb] at c2
  obtain ⟨a1, a2, a3⟩ := spanB_iff.1 ha
  obtain ⟨b1, b2, b3⟩ := spanB_iff.1 hb
  rw [mulS_eq ha hb]
  have o1 := pc_rTimes a.1 b.1 a1 b1
  have o2 := pc_rTimes a.1 b.2 a1 b2
  have o3 := pc_rTimes a.2 b.1 a2 b1
  have o4 := pc_rTimes a.2 b.2 a2 b2
  have cf := pc_four (mulF a.1 b.1) (mulF a.1 b.2) (mulF a.2 b.1) (mulF a.2 b.2) (mulF_ok2 _ _ a1 b1) (mulF_ok2 _ _ a1 b2) (mulF_ok2 _ _ a2 b1) (mulF_ok2 _ _ a2 b2)
  generalize mulF a.1 b.1 = r1 at *
  generalize mulF a.1 b.2 = r2 at *
  generalize mulF a.2 b.1 = r3 at *
  generalize mulF a.2 b.2 = r4 at *
  refine pc_of_bodyF hm Tryz.func214 (by kernel_rfl) ?_
  conv => whnf
  (repeat' (first | (refine ansS (fun hh => ?_) (fun hh => ?_) <;> (first | simp only [ansX] at hh | skip) <;> (first | (exfalso; omega) | (exfalso; simp [*] at hh; done) | (exfalso; revert hh; decide) | exact absurd (by assumption) hh | (conv => whnf))) | ((first | refine ⟨by kernel_rfl, ?_⟩ | refine ansB (by omega) (by omega) ?_ | refine ansB (by decide) (by decide) ?_ | refine And.intro (a := _ ≤ _) (by omega) ?_ | refine And.intro (a := _ ≠ _) (by omega) ?_ | ((try (refine Or.inl ?_; (conv => whnf))); (try (refine ⟨false, ?_⟩; (conv => whnf))); refine ⟨_, by first | exact c1 | exact c2 | exact o1 | exact o2 | exact o3 | exact o4 | exact cf, ?_⟩) | fail); (conv => whnf))))
abbrev I4 (s : SpT) : Prop := I64 s.1.1 ∧ I64 s.1.2 ∧ I64 s.2.1 ∧ I64 s.2.2
theorem pc_rMul4 (a b : SpT) (ha : I4 a) (hb : I4 b) : PC Tryz.prog 214 [sp a, sp b] (.tup [sp (mulS a b).1, i64 (mulS a b).2]) := pc_rMulSpans a b ha.1 ha.2.1 ha.2.2.1 ha.2.2.2 hb.1 hb.2.1 hb.2.2.1 hb.2.2.2
end Go.Proofs.Tryz.My
