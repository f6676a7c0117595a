/- A helper text: contracts of functions of the program, and plain lemmas. -/
import Derived.Test.YtiimhccemdcnpaaEvSix
import Derived.Test.YtiimhccemdcnpaaMyGd4
import Derived.Test.YtiimhccemdcnpaaMyGn0
set_option maxRecDepth 100000
set_option maxHeartbeats 0
set_option linter.unusedVariables false
set_option linter.unusedSimpArgs false
namespace Go.Proofs.Try.My
open Go Go.Ev

theorem pc_frac (n d : Int) (h1 : I64 n) (h2 : I64 d) : PC Try.prog 15 [i64 n, i64 d] (fr (makeF n d).1) := by
  have c := pc_Make n d h1 h2
  generalize makeF n d = r at *
  refine pc_of_bodyF hm Try.func15 (by kernel_rfl) ?_
  conv => whnf
  (repeat' (first | (refine ⟨_, by first | with_reducible exact c, ?_⟩; (conv => whnf)) | (refine Or.inl ?_; (conv => whnf); refine ⟨_, by first | with_reducible exact c, ?_⟩; (conv => whnf)) | (refine Or.inl ?_; (conv => whnf); refine ⟨false, ?_⟩; (conv => whnf); refine ⟨_, by first | with_reducible exact c, ?_⟩; (conv => whnf)) | (refine ⟨by kernel_rfl, ?_⟩; (conv => whnf)) | fail))
theorem fr_lit (n d x y : Int) (h1 : I64 n) (h2 : I64 d) (h : (makeF n d).1 = (x, y)) : PC Try.prog 15 [i64 n, i64 d] (fr (x, y)) := by
  have := pc_frac n d h1 h2
  rw [h] at this
  exact this
theorem twL (n : Int) (h1 : 0 ≤ n) (h2 : n < 100) : PC Try.prog 15 [i64 n, i64 1] (fr (n, 1)) :=
  fr_lit n 1 n 1 (by unfold I64; omega) (by unfold I64; omega) (by rw [makeF_one (by omega) (by omega)])
theorem pc_twice (lo hi : Int) (f1 : PC Try.prog 15 [i64 2, i64 1] (fr (2, 1))) (f2 : PC Try.prog 15 [i64 lo, i64 1] (fr (lo, 1))) (f3 : PC Try.prog 15 [i64 hi, i64 1] (fr (hi, 1))) : PC Try.prog 17 [i64 lo, i64 hi] (.agg [i64 60, i64 10, i64 2, i64 1, i64 2, i64 1, i64 lo, i64 1, i64 hi, i64 1]) := by
  refine pc_of_bodyF hm Try.func17 (by kernel_rfl) ?_
  conv => whnf
  (repeat' (first | (refine ⟨_, by first | with_reducible exact f1 | with_reducible exact f2 | with_reducible exact f3, ?_⟩; (conv => whnf)) | (refine Or.inl ?_; (conv => whnf); refine ⟨_, by first | with_reducible exact f1 | with_reducible exact f2 | with_reducible exact f3, ?_⟩; (conv => whnf)) | (refine Or.inl ?_; (conv => whnf); refine ⟨false, ?_⟩; (conv => whnf); refine ⟨_, by first | with_reducible exact f1 | with_reducible exact f2 | with_reducible exact f3, ?_⟩; (conv => whnf)) | (refine ⟨by kernel_rfl, ?_⟩; (conv => whnf)) | fail))
theorem v1 : firF [10, 10, 60, 110, 110, 30] 85 0 1 = ((5, 2), 0) := by kernel_rfl
theorem v2 : firF [10, 10, 60, 110, 110, 30] 60 5 (-1) = ((37, 8), 0) := by kernel_rfl
theorem v3 : edgF [10, 10, 60, 110, 110, 30] 60 0 10 1 = (((9, 5), (11, 5)), 0) := by kernel_rfl
theorem v4 : widE [10, 10, 60, 110, 110, 30] 60 10 = (((23, 10), (59, 20)), 0) := by kernel_rfl
abbrev twG (lo hi : Int) : GauT := ((((60, 10), ((2, 1), (2, 1))), (lo, 1)), (hi, 1))
theorem v5 : meaF (twG 4 6) [10, 10, 60, 110, 110, 30] = (((23, 5), (59, 10)), 1, 0) := by kernel_rfl
theorem v6 : meaF (twG 5 6) [10, 10, 60, 110, 110, 30] = (((23, 5), (59, 10)), 3, 0) := by kernel_rfl
theorem v7 : meaF (twG 6 7) [10, 10, 60, 110, 110, 30] = (((23, 5), (59, 10)), 2, 0) := by kernel_rfl
end Go.Proofs.Try.My
set_option maxRecDepth 100000
set_option maxHeartbeats 0
set_option linter.unusedVariables false
set_option linter.unusedSimpArgs false
namespace Go.Proofs.Try.My
open Go Go.Ev

abbrev samL : List Int := [10, 10, 60, 110, 110, 30]
theorem pc_sample0 : PC Try.prog 11 [] (.slc 1 [[i64 10], [i64 10], [i64 60], [i64 110], [i64 110], [i64 30]]) := by
  refine pc_of_bodyF hm Try.func11 (by kernel_rfl) ?_
  conv => whnf
  rfl
theorem pc_sample : PC Try.prog 11 [] (ints samL) := pc_sample0.sub rfl (fun i hi => absurd hi (Nat.not_lt_zero i)) (.slc 1 0 eI samL)
theorem pc_alive : PC Try.prog 4 [] (.bool true) := by
  have s0 := pc_sample
  have a1 := pc_gFirst samL 85 0 (by decide)
  rw [v1] at a1
  have a2 := pc_gLast samL 60 5 (by decide)
  rw [v2] at a2
  have a3 := pc_gRise samL 60 0 10 (by decide)
  rw [v3] at a3
  have a4 := pc_gWidth samL 60 10 (by decide)
  rw [v4] at a4
  have m1 := pc_Measure (twG 4 6) samL (by decide)
  rw [v5] at m1
  have m2 := pc_Measure (twG 5 6) samL (by decide)
  rw [v6] at m2
  have m3 := pc_Measure (twG 6 7) samL (by decide)
  rw [v7] at m3
  have t1 := pc_twice 4 6 (twL 2 (by decide) (by decide)) (twL 4 (by decide) (by decide)) (twL 6 (by decide) (by decide))
  have t2 := pc_twice 5 6 (twL 2 (by decide) (by decide)) (twL 5 (by decide) (by decide)) (twL 6 (by decide) (by decide))
  have t3 := pc_twice 6 7 (twL 2 (by decide) (by decide)) (twL 6 (by decide) (by decide)) (twL 7 (by decide) (by decide))
  have f1 := fr_lit 5 2 5 2 (by unfold I64; omega) (by unfold I64; omega) (by kernel_rfl)
  have f2 := fr_lit 37 8 37 8 (by unfold I64; omega) (by unfold I64; omega) (by kernel_rfl)
  have f3 := fr_lit 9 5 9 5 (by unfold I64; omega) (by unfold I64; omega) (by kernel_rfl)
  have f4 := fr_lit 11 5 11 5 (by unfold I64; omega) (by unfold I64; omega) (by kernel_rfl)
  have f5 := fr_lit 23 10 23 10 (by unfold I64; omega) (by unfold I64; omega) (by kernel_rfl)
  have f6 := fr_lit 59 20 59 20 (by unfold I64; omega) (by unfold I64; omega) (by kernel_rfl)
  have f7 := fr_lit 23 5 23 5 (by unfold I64; omega) (by unfold I64; omega) (by kernel_rfl)
  have f8 := fr_lit 59 10 59 10 (by unfold I64; omega) (by unfold I64; omega) (by kernel_rfl)
  dsimp only at a1 a2 a3 a4 m1 m2 m3
  refine pc_of_bodyF hm Try.func4 (by kernel_rfl) ?_
  conv => whnf
  (repeat' (first | (refine ⟨_, by first | with_reducible exact s0 | with_reducible exact a1 | with_reducible exact a2 | with_reducible exact a3 | with_reducible exact a4 | with_reducible exact f1 | with_reducible exact f2 | with_reducible exact f3 | with_reducible exact f4 | with_reducible exact f5 | with_reducible exact f6 | with_reducible exact t1 | with_reducible exact m1 | with_reducible exact t2 | with_reducible exact m2 | with_reducible exact t3 | with_reducible exact m3 | with_reducible exact f7 | with_reducible exact f8, ?_⟩; (conv => whnf)) | (refine Or.inl ?_; (conv => whnf); refine ⟨_, by first | with_reducible exact s0 | with_reducible exact a1 | with_reducible exact a2 | with_reducible exact a3 | with_reducible exact a4 | with_reducible exact f1 | with_reducible exact f2 | with_reducible exact f3 | with_reducible exact f4 | with_reducible exact f5 | with_reducible exact f6 | with_reducible exact t1 | with_reducible exact m1 | with_reducible exact t2 | with_reducible exact m2 | with_reducible exact t3 | with_reducible exact m3 | with_reducible exact f7 | with_reducible exact f8, ?_⟩; (conv => whnf)) | (refine Or.inl ?_; (conv => whnf); refine ⟨false, ?_⟩; (conv => whnf); refine ⟨_, by first | with_reducible exact s0 | with_reducible exact a1 | with_reducible exact a2 | with_reducible exact a3 | with_reducible exact a4 | with_reducible exact f1 | with_reducible exact f2 | with_reducible exact f3 | with_reducible exact f4 | with_reducible exact f5 | with_reducible exact f6 | with_reducible exact t1 | with_reducible exact m1 | with_reducible exact t2 | with_reducible exact m2 | with_reducible exact t3 | with_reducible exact m3 | with_reducible exact f7 | with_reducible exact f8, ?_⟩; (conv => whnf)) | (refine ⟨by kernel_rfl, ?_⟩; (conv => whnf)) | (refine ⟨fun _ => ?_, fun h => absurd h (by first | decide | (simp; done) | fail)⟩; (conv => whnf)) | (refine ⟨fun h => absurd h (by first | decide | (simp; done) | fail), fun _ => ?_⟩; (conv => whnf)) | fail))
  all_goals (first | rfl | simp)
end Go.Proofs.Try.My
