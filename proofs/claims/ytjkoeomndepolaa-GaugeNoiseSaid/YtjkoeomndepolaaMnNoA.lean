/- A helper text: contracts of functions of the program, and plain lemmas. -/
import Derived.Test.YtjkoeomndepolaaMnGd4
import Derived.Test.YtjkoeomndepolaaMnGn0
set_option maxRecDepth 100000
set_option maxHeartbeats 0
set_option linter.unusedVariables false
set_option linter.unusedSimpArgs false
namespace Go.Proofs.Try.My
open Go Go.Ev

theorem pc_frac (n d : Int) (h1 : I64 n) (h2 : I64 d) : PC Try.prog 43 [i64 n, i64 d] (fr (makeF n d).1) := by
  have c := pc_Make n d h1 h2
  generalize makeF n d = r at *
  refine pc_of_body hm Try.func43 (by kernel_rfl) ?_
  conv => whnf
  (repeat' (first | (refine ⟨_, by first | with_reducible exact c, ?_⟩; (conv => whnf)) | (refine Or.inl ?_; (conv => whnf); refine ⟨_, by first | with_reducible exact c, ?_⟩; (conv => whnf)) | (refine Or.inl ?_; (conv => whnf); refine ⟨false, ?_⟩; (conv => whnf); refine ⟨_, by first | with_reducible exact c, ?_⟩; (conv => whnf)) | (refine ⟨by kernel_rfl, ?_⟩; (conv => whnf)) | fail))
theorem fr_lit (n d x y : Int) (h1 : I64 n) (h2 : I64 d) (h : (makeF n d).1 = (x, y)) : PC Try.prog 43 [i64 n, i64 d] (fr (x, y)) := by
  have := pc_frac n d h1 h2
  rw [h] at this
  exact this
theorem twL (n : Int) (h1 : 0 ≤ n) (h2 : n < 100) : PC Try.prog 43 [i64 n, i64 1] (fr (n, 1)) :=
  fr_lit n 1 n 1 (by unfold I64; omega) (by unfold I64; omega) (by rw [makeF_one (by omega) (by omega)])
theorem pc_twice (lo hi : Int) (f1 : PC Try.prog 43 [i64 2, i64 1] (fr (2, 1))) (f2 : PC Try.prog 43 [i64 lo, i64 1] (fr (lo, 1))) (f3 : PC Try.prog 43 [i64 hi, i64 1] (fr (hi, 1))) : PC Try.prog 89 [i64 lo, i64 hi] (.agg [i64 60, i64 10, i64 2, i64 1, i64 2, i64 1, i64 lo, i64 1, i64 hi, i64 1]) := by
  refine pc_of_body hm Try.func89 (by kernel_rfl) ?_
  conv => whnf
  (repeat' (first | (refine ⟨_, by first | with_reducible exact f1 | with_reducible exact f2 | with_reducible exact f3, ?_⟩; (conv => whnf)) | (refine Or.inl ?_; (conv => whnf); refine ⟨_, by first | with_reducible exact f1 | with_reducible exact f2 | with_reducible exact f3, ?_⟩; (conv => whnf)) | (refine Or.inl ?_; (conv => whnf); refine ⟨false, ?_⟩; (conv => whnf); refine ⟨_, by first | with_reducible exact f1 | with_reducible exact f2 | with_reducible exact f3, ?_⟩; (conv => whnf)) | (refine ⟨by kernel_rfl, ?_⟩; (conv => whnf)) | fail))
theorem pc_inside (s t : SpT) : PC Try.prog 41 [sp s, sp t] (.bool (insB s t)) := by
  have c := pc_Meet s t
  unfold insB
  generalize meetF s t = m at *
  obtain ⟨⟨⟨m1, m2⟩, ⟨m3, m4⟩⟩, me⟩ := m
  obtain ⟨⟨s1, s2⟩, ⟨s3, s4⟩⟩ := s
  by_cases h0 : me = 0
  · subst h0
    refine pc_of_body hm Try.func41 (by kernel_rfl) ?_
    conv => whnf
    (repeat' (first | (refine And.intro (a := _ = true → _) (b := _ = false → _) (fun hh => ?_) (fun hh => ?_) <;> (first | simp only [decide_eq_true_eq, decide_eq_false_iff_not, Bool.or_eq_true, Bool.and_eq_true, Bool.or_eq_false_iff, Bool.and_eq_false_iff, Bool.not_eq_true', Bool.not_eq_false', ge_iff_le, gt_iff_lt] at hh | skip) <;> (first | (exfalso; omega) | (exfalso; simp [*] at hh; done) | (exfalso; revert hh; decide) | exact absurd (by assumption) hh | (conv => whnf))) | (refine ⟨by kernel_rfl, ?_⟩; (conv => whnf)) | (refine And.intro (a := _ ∧ _) ⟨by omega, by omega⟩ ?_; (conv => whnf)) | (refine And.intro (a := _ ∧ _) ⟨by decide, by decide⟩ ?_; (conv => whnf)) | (refine And.intro (a := _ ≤ _) (by omega) ?_; (conv => whnf)) | (refine And.intro (a := _ ≠ _) (by omega) ?_; (conv => whnf)) | (refine Or.inl ?_; (conv => whnf); first | (refine ⟨_, by first | exact c, ?_⟩; (conv => whnf)) | (refine ⟨false, ?_⟩; (conv => whnf); refine ⟨_, by first | exact c, ?_⟩; (conv => whnf))) | (refine ⟨_, by first | exact c, ?_⟩; (conv => whnf))))
    all_goals simp [and_assoc]
  · refine pc_of_body hm Try.func41 (by kernel_rfl) ?_
    conv => whnf
    (repeat' (first | (refine And.intro (a := _ = true → _) (b := _ = false → _) (fun hh => ?_) (fun hh => ?_) <;> (first | simp only [decide_eq_true_eq, decide_eq_false_iff_not, Bool.or_eq_true, Bool.and_eq_true, Bool.or_eq_false_iff, Bool.and_eq_false_iff, Bool.not_eq_true', Bool.not_eq_false', ge_iff_le, gt_iff_lt] at hh | skip) <;> (first | (exfalso; omega) | (exfalso; simp [*] at hh; done) | (exfalso; revert hh; decide) | exact absurd (by assumption) hh | (conv => whnf))) | (refine ⟨by kernel_rfl, ?_⟩; (conv => whnf)) | (refine And.intro (a := _ ∧ _) ⟨by omega, by omega⟩ ?_; (conv => whnf)) | (refine And.intro (a := _ ∧ _) ⟨by decide, by decide⟩ ?_; (conv => whnf)) | (refine And.intro (a := _ ≤ _) (by omega) ?_; (conv => whnf)) | (refine And.intro (a := _ ≠ _) (by omega) ?_; (conv => whnf)) | (refine Or.inl ?_; (conv => whnf); first | (refine ⟨_, by first | exact c, ?_⟩; (conv => whnf)) | (refine ⟨false, ?_⟩; (conv => whnf); refine ⟨_, by first | exact c, ?_⟩; (conv => whnf))) | (refine ⟨_, by first | exact c, ?_⟩; (conv => whnf))))
    all_goals simp [h0]
-- the values of the examples
theorem v1 : firF [10, 10, 60, 110, 110, 30] 85 0 1 = ((5, 2), 0) := by kernel_rfl
theorem v2 : firF [10, 10, 60, 110, 110, 30] 60 5 (-1) = ((37, 8), 0) := by kernel_rfl
theorem v3 : edgF [10, 10, 60, 110, 110, 30] 60 0 10 1 = (((9, 5), (11, 5)), 0) := by kernel_rfl
theorem v4 : widE [10, 10, 60, 110, 110, 30] 60 10 = (((23, 10), (59, 20)), 0) := by kernel_rfl
abbrev twG (lo hi : Int) : GauT := ((((60, 10), ((2, 1), (2, 1))), (lo, 1)), (hi, 1))
theorem v5 : meaF (twG 4 6) [10, 10, 60, 110, 110, 30] = (((23, 5), (59, 10)), 1, 0) := by kernel_rfl
theorem v6 : meaF (twG 5 6) [10, 10, 60, 110, 110, 30] = (((23, 5), (59, 10)), 3, 0) := by kernel_rfl
theorem v7 : meaF (twG 6 7) [10, 10, 60, 110, 110, 30] = (((23, 5), (59, 10)), 2, 0) := by kernel_rfl
end Go.Proofs.Try.My
set_option maxRecDepth 100000
set_option maxHeartbeats 0
set_option linter.unusedVariables false
set_option linter.unusedSimpArgs false
namespace Go.Proofs.Try.My
open Go Go.Ev

abbrev samL : List Int := [10, 10, 60, 110, 110, 30]
theorem pc_sample0 : PC Try.prog 88 [] (.slc 1 [[i64 10], [i64 10], [i64 60], [i64 110], [i64 110], [i64 30]]) := by
  refine pc_of_body hm Try.func88 (by kernel_rfl) ?_
  conv => whnf
  rfl
theorem pc_sample : PC Try.prog 88 [] (ints samL) := pc_sample0.sub rfl (fun i hi => absurd hi (Nat.not_lt_zero i)) (.slc 1 0 eI samL)
theorem pc_alive : PC Try.prog 40 [] (.bool true) := by
  have s0 := pc_sample
  have a1 := pc_gFirst samL 85 0 (by decide)
  rw [v1] at a1
  have a2 := pc_gLast samL 60 5 (by decide)
  rw [v2] at a2
  have a3 := pc_gRise samL 60 0 10 (by decide)
  rw [v3] at a3
  have a4 := pc_gWidth samL 60 10 (by decide)
  rw [v4] at a4
  have m1 := pc_Measure (twG 4 6) samL (by decide)
  rw [v5] at m1
  have m2 := pc_Measure (twG 5 6) samL (by decide)
  rw [v6] at m2
  have m3 := pc_Measure (twG 6 7) samL (by decide)
  rw [v7] at m3
  have t1 := pc_twice 4 6 (twL 2 (by decide) (by decide)) (twL 4 (by decide) (by decide)) (twL 6 (by decide) (by decide))
  have t2 := pc_twice 5 6 (twL 2 (by decide) (by decide)) (twL 5 (by decide) (by decide)) (twL 6 (by decide) (by decide))
  have t3 := pc_twice 6 7 (twL 2 (by decide) (by decide)) (twL 6 (by decide) (by decide)) (twL 7 (by decide) (by decide))
  have f1 := fr_lit 5 2 5 2 (by unfold I64; omega) (by unfold I64; omega) (by kernel_rfl)
  have f2 := fr_lit 37 8 37 8 (by unfold I64; omega) (by unfold I64; omega) (by kernel_rfl)
  have f3 := fr_lit 9 5 9 5 (by unfold I64; omega) (by unfold I64; omega) (by kernel_rfl)
  have f4 := fr_lit 11 5 11 5 (by unfold I64; omega) (by unfold I64; omega) (by kernel_rfl)
  have f5 := fr_lit 23 10 23 10 (by unfold I64; omega) (by unfold I64; omega) (by kernel_rfl)
  have f6 := fr_lit 59 20 59 20 (by unfold I64; omega) (by unfold I64; omega) (by kernel_rfl)
  have f7 := fr_lit 23 5 23 5 (by unfold I64; omega) (by unfold I64; omega) (by kernel_rfl)
  have f8 := fr_lit 59 10 59 10 (by unfold I64; omega) (by unfold I64; omega) (by kernel_rfl)
  dsimp only at a1 a2 a3 a4 m1 m2 m3
  refine pc_of_body hm Try.func40 (by kernel_rfl) ?_
  conv => whnf
  (repeat' (first | (refine ⟨_, by first | with_reducible exact s0 | with_reducible exact a1 | with_reducible exact a2 | with_reducible exact a3 | with_reducible exact a4 | with_reducible exact f1 | with_reducible exact f2 | with_reducible exact f3 | with_reducible exact f4 | with_reducible exact f5 | with_reducible exact f6 | with_reducible exact t1 | with_reducible exact m1 | with_reducible exact t2 | with_reducible exact m2 | with_reducible exact t3 | with_reducible exact m3 | with_reducible exact f7 | with_reducible exact f8, ?_⟩; (conv => whnf)) | (refine Or.inl ?_; (conv => whnf); refine ⟨_, by first | with_reducible exact s0 | with_reducible exact a1 | with_reducible exact a2 | with_reducible exact a3 | with_reducible exact a4 | with_reducible exact f1 | with_reducible exact f2 | with_reducible exact f3 | with_reducible exact f4 | with_reducible exact f5 | with_reducible exact f6 | with_reducible exact t1 | with_reducible exact m1 | with_reducible exact t2 | with_reducible exact m2 | with_reducible exact t3 | with_reducible exact m3 | with_reducible exact f7 | with_reducible exact f8, ?_⟩; (conv => whnf)) | (refine Or.inl ?_; (conv => whnf); refine ⟨false, ?_⟩; (conv => whnf); refine ⟨_, by first | with_reducible exact s0 | with_reducible exact a1 | with_reducible exact a2 | with_reducible exact a3 | with_reducible exact a4 | with_reducible exact f1 | with_reducible exact f2 | with_reducible exact f3 | with_reducible exact f4 | with_reducible exact f5 | with_reducible exact f6 | with_reducible exact t1 | with_reducible exact m1 | with_reducible exact t2 | with_reducible exact m2 | with_reducible exact t3 | with_reducible exact m3 | with_reducible exact f7 | with_reducible exact f8, ?_⟩; (conv => whnf)) | (refine ⟨by kernel_rfl, ?_⟩; (conv => whnf)) | (refine ⟨fun _ => ?_, fun h => absurd h (by first | decide | (simp; done) | fail)⟩; (conv => whnf)) | (refine ⟨fun h => absurd h (by first | decide | (simp; done) | fail), fun _ => ?_⟩; (conv => whnf)) | fail))
  all_goals (first | rfl | simp)
end Go.Proofs.Try.My
set_option maxRecDepth 100000
set_option maxHeartbeats 0
set_option linter.unusedVariables false
set_option linter.unusedSimpArgs false
namespace Go.Proofs.Try.My
open Go Go.Ev

theorem noiseOut (p : List Int) (thr a less more : Int) (h : ¬ (p.length ≤ 64 ∧ 0 ≤ less ∧ less ≤ more)) : PC Try.prog 7 [ints p, i64 thr, i64 a, i64 less, i64 more] (.bool true) := by
  have al := pc_alive
  by_cases h1 : p.length ≤ 64
  · by_cases h2 : 0 ≤ less
    · have h3 : more < less := by omega
      refine pc_of_body hm Try.func7 (by kernel_rfl) ?_
      conv => whnf
      (repeat' (first | (refine ⟨_, by first | with_reducible exact al, ?_⟩; (conv => whnf)) | (refine Or.inl ?_; (conv => whnf); refine ⟨_, by first | with_reducible exact al, ?_⟩; (conv => whnf)) | (refine Or.inl ?_; (conv => whnf); refine ⟨false, ?_⟩; (conv => whnf); refine ⟨_, by first | with_reducible exact al, ?_⟩; (conv => whnf)) | (refine ⟨by kernel_rfl, ?_⟩; (conv => whnf)) | fail))
      refine ⟨fun h => absurd (of_decide_eq_true h) (by omega), fun _ => ?_⟩
      (conv => whnf)
      refine ⟨fun h => absurd (of_decide_eq_true h) (by omega), fun _ => ?_⟩
      (conv => whnf)
      refine ⟨fun _ => ?_, fun h => absurd (of_decide_eq_false h) (by omega)⟩
      (conv => whnf)
    · refine pc_of_body hm Try.func7 (by kernel_rfl) ?_
      conv => whnf
      (repeat' (first | (refine ⟨_, by first | with_reducible exact al, ?_⟩; (conv => whnf)) | (refine Or.inl ?_; (conv => whnf); refine ⟨_, by first | with_reducible exact al, ?_⟩; (conv => whnf)) | (refine Or.inl ?_; (conv => whnf); refine ⟨false, ?_⟩; (conv => whnf); refine ⟨_, by first | with_reducible exact al, ?_⟩; (conv => whnf)) | (refine ⟨by kernel_rfl, ?_⟩; (conv => whnf)) | fail))
      refine ⟨fun h => absurd (of_decide_eq_true h) (by omega), fun _ => ?_⟩
      (conv => whnf)
      refine ⟨fun _ => ?_, fun h => absurd (of_decide_eq_false h) (by omega)⟩
      (conv => whnf)
  · refine pc_of_body hm Try.func7 (by kernel_rfl) ?_
    conv => whnf
    (repeat' (first | (refine ⟨_, by first | with_reducible exact al, ?_⟩; (conv => whnf)) | (refine Or.inl ?_; (conv => whnf); refine ⟨_, by first | with_reducible exact al, ?_⟩; (conv => whnf)) | (refine Or.inl ?_; (conv => whnf); refine ⟨false, ?_⟩; (conv => whnf); refine ⟨_, by first | with_reducible exact al, ?_⟩; (conv => whnf)) | (refine ⟨by kernel_rfl, ?_⟩; (conv => whnf)) | fail))
    refine ⟨fun _ => ?_, fun h => absurd (of_decide_eq_false h) (by omega)⟩
    (conv => whnf)
theorem noiseWalk (p : List Int) (thr a less more : Int) (h1 : p.length ≤ 64) (h2 : 0 ≤ less) (h3 : less ≤ more) (A B C D X Y : SpT × Int)
    (a1 : PC Try.prog 28 [ints p, i64 thr, i64 a, i64 more] (.tup [sp A.1, i64 A.2])) (a2 : PC Try.prog 28 [ints p, i64 thr, i64 a, i64 less] (.tup [sp B.1, i64 B.2]))
    (a3 : PC Try.prog 30 [ints p, i64 thr, i64 a, i64 more] (.tup [sp C.1, i64 C.2])) (a4 : PC Try.prog 30 [ints p, i64 thr, i64 a, i64 less] (.tup [sp D.1, i64 D.2]))
    (a5 : PC Try.prog 32 [ints p, i64 thr, i64 more] (.tup [sp X.1, i64 X.2])) (a6 : PC Try.prog 32 [ints p, i64 thr, i64 less] (.tup [sp Y.1, i64 Y.2]))
    (k1 : PC Try.prog 41 [sp B.1, sp A.1] (.bool (insB B.1 A.1))) (k2 : PC Try.prog 41 [sp D.1, sp C.1] (.bool (insB D.1 C.1))) (k3 : PC Try.prog 41 [sp Y.1, sp X.1] (.bool (insB Y.1 X.1)))
    (e1 : A.2 = 0 → B.2 = 0 ∧ insB B.1 A.1 = true) (e2 : C.2 = 0 → D.2 = 0 ∧ insB D.1 C.1 = true) (e3 : X.2 = 0 → Y.2 = 0 ∧ insB Y.1 X.1 = true) :
    PC Try.prog 7 [ints p, i64 thr, i64 a, i64 less, i64 more] (.bool true) := by
  have al := pc_alive
  obtain ⟨A, Ae⟩ := A
  obtain ⟨B, Be⟩ := B
  obtain ⟨C, Ce⟩ := C
  obtain ⟨D, De⟩ := D
  obtain ⟨X, Xe⟩ := X
  obtain ⟨Y, Ye⟩ := Y
  dsimp only at *
  refine pc_of_body hm Try.func7 (by kernel_rfl) ?_
  conv => whnf
  (repeat' (first | (refine ⟨_, by first | with_reducible exact al, ?_⟩; (conv => whnf)) | (refine Or.inl ?_; (conv => whnf); refine ⟨_, by first | with_reducible exact al, ?_⟩; (conv => whnf)) | (refine Or.inl ?_; (conv => whnf); refine ⟨false, ?_⟩; (conv => whnf); refine ⟨_, by first | with_reducible exact al, ?_⟩; (conv => whnf)) | (refine ⟨by kernel_rfl, ?_⟩; (conv => whnf)) | fail))
  refine ⟨fun h => absurd (of_decide_eq_true h) (by omega), fun _ => ?_⟩
  (conv => whnf)
  refine ⟨fun h => absurd (of_decide_eq_true h) (by omega), fun _ => ?_⟩
  (conv => whnf)
  refine ⟨fun h => absurd (of_decide_eq_true h) (by omega), fun _ => ?_⟩
  (conv => whnf)
  (repeat' (first | (refine ⟨_, by first | with_reducible exact a1 | with_reducible exact a2 | with_reducible exact a3 | with_reducible exact a4 | with_reducible exact a5 | with_reducible exact a6, ?_⟩; (conv => whnf)) | (refine Or.inl ?_; (conv => whnf); refine ⟨_, by first | with_reducible exact a1 | with_reducible exact a2 | with_reducible exact a3 | with_reducible exact a4 | with_reducible exact a5 | with_reducible exact a6, ?_⟩; (conv => whnf)) | (refine Or.inl ?_; (conv => whnf); refine ⟨false, ?_⟩; (conv => whnf); refine ⟨_, by first | with_reducible exact a1 | with_reducible exact a2 | with_reducible exact a3 | with_reducible exact a4 | with_reducible exact a5 | with_reducible exact a6, ?_⟩; (conv => whnf)) | (refine ⟨by kernel_rfl, ?_⟩; (conv => whnf)) | (refine ⟨fun _ => ?_, fun h => absurd h (by first | decide | (simp; done) | fail)⟩; (conv => whnf)) | (refine ⟨fun h => absurd h (by first | decide | (simp; done) | fail), fun _ => ?_⟩; (conv => whnf)) | fail))
  refine ⟨fun hh => ?_, fun hh => ?_⟩
  · (conv => whnf)
    (repeat' (first | (refine ⟨by kernel_rfl, ?_⟩; (conv => whnf)) | (refine ⟨fun _ => ?_, fun h => absurd h (by first | decide | (simp; done) | fail)⟩; (conv => whnf)) | (refine ⟨fun h => absurd h (by first | decide | (simp; done) | fail), fun _ => ?_⟩; (conv => whnf)) | fail))
    refine ⟨fun hh => ?_, fun hh => ?_⟩
    · (conv => whnf)
      (repeat' (first | (refine ⟨by kernel_rfl, ?_⟩; (conv => whnf)) | (refine ⟨fun _ => ?_, fun h => absurd h (by first | decide | (simp; done) | fail)⟩; (conv => whnf)) | (refine ⟨fun h => absurd h (by first | decide | (simp; done) | fail), fun _ => ?_⟩; (conv => whnf)) | fail))
      refine ⟨fun hh => ?_, fun hh => ?_⟩
      · (conv => whnf)
        (repeat' (first | (refine ⟨by kernel_rfl, ?_⟩; (conv => whnf)) | (refine ⟨fun _ => ?_, fun h => absurd h (by first | decide | (simp; done) | fail)⟩; (conv => whnf)) | (refine ⟨fun h => absurd h (by first | decide | (simp; done) | fail), fun _ => ?_⟩; (conv => whnf)) | fail))
        all_goals (first | rfl | simp)
      · obtain ⟨hB, hi⟩ := e3 (by simpa using hh)
        subst hB
        rw [hi] at k3
        (conv => whnf)
        (repeat' (first | (refine ⟨_, by first | with_reducible exact k3, ?_⟩; (conv => whnf)) | (refine Or.inl ?_; (conv => whnf); refine ⟨_, by first | with_reducible exact k3, ?_⟩; (conv => whnf)) | (refine Or.inl ?_; (conv => whnf); refine ⟨false, ?_⟩; (conv => whnf); refine ⟨_, by first | with_reducible exact k3, ?_⟩; (conv => whnf)) | (refine ⟨by kernel_rfl, ?_⟩; (conv => whnf)) | (refine ⟨fun _ => ?_, fun h => absurd h (by first | decide | (simp; done) | fail)⟩; (conv => whnf)) | (refine ⟨fun h => absurd h (by first | decide | (simp; done) | fail), fun _ => ?_⟩; (conv => whnf)) | fail))
        all_goals (first | rfl | simp)
    · obtain ⟨hB, hi⟩ := e2 (by simpa using hh)
      subst hB
      rw [hi] at k2
      (conv => whnf)
      (repeat' (first | (refine ⟨_, by first | with_reducible exact k2, ?_⟩; (conv => whnf)) | (refine Or.inl ?_; (conv => whnf); refine ⟨_, by first | with_reducible exact k2, ?_⟩; (conv => whnf)) | (refine Or.inl ?_; (conv => whnf); refine ⟨false, ?_⟩; (conv => whnf); refine ⟨_, by first | with_reducible exact k2, ?_⟩; (conv => whnf)) | (refine ⟨by kernel_rfl, ?_⟩; (conv => whnf)) | (refine ⟨fun _ => ?_, fun h => absurd h (by first | decide | (simp; done) | fail)⟩; (conv => whnf)) | (refine ⟨fun h => absurd h (by first | decide | (simp; done) | fail), fun _ => ?_⟩; (conv => whnf)) | fail))
      refine ⟨fun hh => ?_, fun hh => ?_⟩
      · (conv => whnf)
        (repeat' (first | (refine ⟨by kernel_rfl, ?_⟩; (conv => whnf)) | (refine ⟨fun _ => ?_, fun h => absurd h (by first | decide | (simp; done) | fail)⟩; (conv => whnf)) | (refine ⟨fun h => absurd h (by first | decide | (simp; done) | fail), fun _ => ?_⟩; (conv => whnf)) | fail))
        all_goals (first | rfl | simp)
      · obtain ⟨hB, hi⟩ := e3 (by simpa using hh)
        subst hB
        rw [hi] at k3
        (conv => whnf)
        (repeat' (first | (refine ⟨_, by first | with_reducible exact k3, ?_⟩; (conv => whnf)) | (refine Or.inl ?_; (conv => whnf); refine ⟨_, by first | with_reducible exact k3, ?_⟩; (conv => whnf)) | (refine Or.inl ?_; (conv => whnf); refine ⟨false, ?_⟩; (conv => whnf); refine ⟨_, by first | with_reducible exact k3, ?_⟩; (conv => whnf)) | (refine ⟨by kernel_rfl, ?_⟩; (conv => whnf)) | (refine ⟨fun _ => ?_, fun h => absurd h (by first | decide | (simp; done) | fail)⟩; (conv => whnf)) | (refine ⟨fun h => absurd h (by first | decide | (simp; done) | fail), fun _ => ?_⟩; (conv => whnf)) | fail))
        all_goals (first | rfl | simp)
  · obtain ⟨hB, hi⟩ := e1 (by simpa using hh)
    subst hB
    rw [hi] at k1
    (conv => whnf)
    (repeat' (first | (refine ⟨_, by first | with_reducible exact k1, ?_⟩; (conv => whnf)) | (refine Or.inl ?_; (conv => whnf); refine ⟨_, by first | with_reducible exact k1, ?_⟩; (conv => whnf)) | (refine Or.inl ?_; (conv => whnf); refine ⟨false, ?_⟩; (conv => whnf); refine ⟨_, by first | with_reducible exact k1, ?_⟩; (conv => whnf)) | (refine ⟨by kernel_rfl, ?_⟩; (conv => whnf)) | (refine ⟨fun _ => ?_, fun h => absurd h (by first | decide | (simp; done) | fail)⟩; (conv => whnf)) | (refine ⟨fun h => absurd h (by first | decide | (simp; done) | fail), fun _ => ?_⟩; (conv => whnf)) | fail))
    refine ⟨fun hh => ?_, fun hh => ?_⟩
    · (conv => whnf)
      (repeat' (first | (refine ⟨by kernel_rfl, ?_⟩; (conv => whnf)) | (refine ⟨fun _ => ?_, fun h => absurd h (by first | decide | (simp; done) | fail)⟩; (conv => whnf)) | (refine ⟨fun h => absurd h (by first | decide | (simp; done) | fail), fun _ => ?_⟩; (conv => whnf)) | fail))
      refine ⟨fun hh => ?_, fun hh => ?_⟩
      · (conv => whnf)
        (repeat' (first | (refine ⟨by kernel_rfl, ?_⟩; (conv => whnf)) | (refine ⟨fun _ => ?_, fun h => absurd h (by first | decide | (simp; done) | fail)⟩; (conv => whnf)) | (refine ⟨fun h => absurd h (by first | decide | (simp; done) | fail), fun _ => ?_⟩; (conv => whnf)) | fail))
        all_goals (first | rfl | simp)
      · obtain ⟨hB, hi⟩ := e3 (by simpa using hh)
        subst hB
        rw [hi] at k3
        (conv => whnf)
        (repeat' (first | (refine ⟨_, by first | with_reducible exact k3, ?_⟩; (conv => whnf)) | (refine Or.inl ?_; (conv => whnf); refine ⟨_, by first | with_reducible exact k3, ?_⟩; (conv => whnf)) | (refine Or.inl ?_; (conv => whnf); refine ⟨false, ?_⟩; (conv => whnf); refine ⟨_, by first | with_reducible exact k3, ?_⟩; (conv => whnf)) | (refine ⟨by kernel_rfl, ?_⟩; (conv => whnf)) | (refine ⟨fun _ => ?_, fun h => absurd h (by first | decide | (simp; done) | fail)⟩; (conv => whnf)) | (refine ⟨fun h => absurd h (by first | decide | (simp; done) | fail), fun _ => ?_⟩; (conv => whnf)) | fail))
        all_goals (first | rfl | simp)
    · obtain ⟨hB, hi⟩ := e2 (by simpa using hh)
      subst hB
      rw [hi] at k2
      (conv => whnf)
      (repeat' (first | (refine ⟨_, by first | with_reducible exact k2, ?_⟩; (conv => whnf)) | (refine Or.inl ?_; (conv => whnf); refine ⟨_, by first | with_reducible exact k2, ?_⟩; (conv => whnf)) | (refine Or.inl ?_; (conv => whnf); refine ⟨false, ?_⟩; (conv => whnf); refine ⟨_, by first | with_reducible exact k2, ?_⟩; (conv => whnf)) | (refine ⟨by kernel_rfl, ?_⟩; (conv => whnf)) | (refine ⟨fun _ => ?_, fun h => absurd h (by first | decide | (simp; done) | fail)⟩; (conv => whnf)) | (refine ⟨fun h => absurd h (by first | decide | (simp; done) | fail), fun _ => ?_⟩; (conv => whnf)) | fail))
      refine ⟨fun hh => ?_, fun hh => ?_⟩
      · (conv => whnf)
        (repeat' (first | (refine ⟨by kernel_rfl, ?_⟩; (conv => whnf)) | (refine ⟨fun _ => ?_, fun h => absurd h (by first | decide | (simp; done) | fail)⟩; (conv => whnf)) | (refine ⟨fun h => absurd h (by first | decide | (simp; done) | fail), fun _ => ?_⟩; (conv => whnf)) | fail))
        all_goals (first | rfl | simp)
      · obtain ⟨hB, hi⟩ := e3 (by simpa using hh)
        subst hB
        rw [hi] at k3
        (conv => whnf)
        (repeat' (first | (refine ⟨_, by first | with_reducible exact k3, ?_⟩; (conv => whnf)) | (refine Or.inl ?_; (conv => whnf); refine ⟨_, by first | with_reducible exact k3, ?_⟩; (conv => whnf)) | (refine Or.inl ?_; (conv => whnf); refine ⟨false, ?_⟩; (conv => whnf); refine ⟨_, by first | with_reducible exact k3, ?_⟩; (conv => whnf)) | (refine ⟨by kernel_rfl, ?_⟩; (conv => whnf)) | (refine ⟨fun _ => ?_, fun h => absurd h (by first | decide | (simp; done) | fail)⟩; (conv => whnf)) | (refine ⟨fun h => absurd h (by first | decide | (simp; done) | fail), fun _ => ?_⟩; (conv => whnf)) | fail))
        all_goals (first | rfl | simp)
theorem pc_GaugeNoise (p : List Int) (thr a less more : Int) : PC Try.prog 7 [ints p, i64 thr, i64 a, i64 less, i64 more] (.bool true) := by
  by_cases h : p.length ≤ 64 ∧ 0 ≤ less ∧ less ≤ more
  rotate_left
  · exact noiseOut p thr a less more h
  obtain ⟨h1, h2, h3⟩ := h
  have hl : p.length < 2 ^ 40 := by omega
  exact noiseWalk p thr a less more h1 h2 h3 _ _ _ _ _ _ (pc_gRise p thr a more hl) (pc_gRise p thr a less hl) (pc_gFall p thr a more hl) (pc_gFall p thr a less hl) (pc_gWidth p thr more hl) (pc_gWidth p thr less hl) (pc_inside _ _) (pc_inside _ _) (pc_inside _ _)
    (fun h => by obtain ⟨x1, x2, x3, x4, x5⟩ := edge_noise (.inl rfl) h2 h3 h; exact ⟨x1, insB_true x2 x3 x4 x5⟩)
    (fun h => by obtain ⟨x1, x2, x3, x4, x5⟩ := edge_noise (.inr rfl) h2 h3 h; exact ⟨x1, insB_true x2 x3 x4 x5⟩)
    (fun h => by obtain ⟨x1, x2, x3, x4, x5⟩ := wid_noise h2 h3 h; exact ⟨x1, insB_true x2 x3 x4 x5⟩)
end Go.Proofs.Try.My
