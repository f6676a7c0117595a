/- A helper text: contracts of functions of the program, and plain lemmas. -/
import Derived.Test.YtblmmhmdnnnidaaEvSix
import Derived.Test.YtblmmhmdnnnidaaMyLvB
import Derived.Test.YtblmmhmdnnnidaaMyLu1
import Derived.Test.YtblmmhmdnnnidaaMyLtA
import Derived.Test.YtblmmhmdnnnidaaMySpA
import Derived.Test.YtblmmhmdnnnidaaMyDe1
set_option maxRecDepth 100000
set_option maxHeartbeats 0
set_option linter.unusedVariables false
set_option linter.unusedSimpArgs false
namespace Go.Proofs.Try.My
open Go Go.Ev

abbrev tabL : List (Int × Int) := [(0, 0), (16, 32), (48, 40)]
abbrev twoV : List SpT := [((0, 10), (100, 104)), ((10, 10), (196, 200))]
abbrev triV : List SpT := [((0, 10), (100, 104)), ((10, 10), (196, 200)), ((20, 10), (301, 310))]
theorem pc_whole4 (n : Int) : PC Try.prog 23 [i64 n] (fr (n, 1)) := by
  refine pc_of_bodyF hm Try.func23 (by kernel_rfl) ?_
  conv => whnf
theorem pc_span4 (lo hi : Int) : PC Try.prog 27 [i64 lo, i64 hi] (sp ((lo, 1), (hi, 1))) := by
  have c1 := pc_whole4 lo
  have c2 := pc_whole4 hi
  refine pc_of_bodyF hm Try.func27 (by kernel_rfl) ?_
  conv => whnf
  (repeat' (first | (refine ⟨_, by first | with_reducible exact c1 | with_reducible exact c2, ?_⟩; (conv => whnf)) | (refine Or.inl ?_; (conv => whnf); refine ⟨_, by first | with_reducible exact c1 | with_reducible exact c2, ?_⟩; (conv => whnf)) | (refine Or.inl ?_; (conv => whnf); refine ⟨false, ?_⟩; (conv => whnf); refine ⟨_, by first | with_reducible exact c1 | with_reducible exact c2, ?_⟩; (conv => whnf)) | (refine ⟨by kernel_rfl, ?_⟩; (conv => whnf)) | (refine ⟨fun _ => ?_, fun h => absurd h (by first | decide | (simp; done) | fail)⟩; (conv => whnf)) | (refine ⟨fun h => absurd h (by first | decide | (simp; done) | fail), fun _ => ?_⟩; (conv => whnf)) | ((with_reducible refine And.intro (a := _ = true → _) (b := _ = false → _) (fun hh => ?_) (fun hh => ?_)) <;> (try simp only [decide_eq_true_eq, decide_eq_false_iff_not, Bool.or_eq_true, Bool.and_eq_true, Bool.or_eq_false_iff, Bool.and_eq_false_iff, Bool.not_eq_true', Bool.not_eq_false', ge_iff_le, gt_iff_lt] at hh) <;> (first | (exfalso; omega) | (conv => whnf))) | fail))
theorem pc_table0 : PC Try.prog 22 [] (.slc 2 [[i64 0, i64 0], [i64 16, i64 32], [i64 48, i64 40]]) := by
  refine pc_of_bodyF hm Try.func22 (by kernel_rfl) ?_
  conv => whnf
  rfl
theorem pc_table : PC Try.prog 22 [] (frs tabL) := pc_table0.sub rfl (fun i hi => absurd hi (Nat.not_lt_zero i)) (.slc 2 ((0 : Int), (0 : Int)) eF tabL)
theorem pc_two0 : PC Try.prog 25 [] (.slc 4 [[i64 0, i64 10, i64 100, i64 104], [i64 10, i64 10, i64 196, i64 200]]) := by
  refine pc_of_bodyF hm Try.func25 (by kernel_rfl) ?_
  conv => whnf
  rfl
theorem pc_two : PC Try.prog 25 [] (vws twoV) := pc_two0.sub rfl (fun i hi => absurd hi (Nat.not_lt_zero i)) (.slc 4 (((0 : Int), (0 : Int)), ((0 : Int), (0 : Int))) eS twoV)
theorem w1 : corF Prod.fst Prod.snd tabL (32, 1) = ((36, 1), 0) := by kernel_rfl
theorem w2 : corF Prod.snd Prod.fst tabL (36, 1) = ((32, 1), 0) := by kernel_rfl
theorem w3 : valF 64 10 2 100 = (35, 0) := by kernel_rfl
theorem w4 : calF twoV = ((((92, 1), (100, 1)), ((100, 1), (104, 1))), 0) := by kernel_rfl
theorem w5 : ranF twoV 2 1 = (((288, 1), (300, 1)), 0) := by kernel_rfl
theorem w6 : badF triV = (2, 0) := by kernel_rfl
abbrev kCam : CamT := (((96, 1), (96, 1)), ((100, 1), (100, 1)))
theorem w7 : depF kCam kCam 10 ((148, 1), (148, 1)) ((124, 1), (124, 1)) = (((40, 1), (40, 1)), 0) := by kernel_rfl
theorem w8 : outF [90, 50, 20] [10, 48, 70] 5 8 = [4, 7] := by kernel_rfl
theorem pc_radiances : PC Try.prog 90 [lig 64 10 2, i64 35] (.tup [i64 92, i64 111, i64 0]) := by
  have c := pc_lit 64 10 2 35 255
  have e : litE 64 10 2 35 255 = 0 := by kernel_rfl
  rw [e] at c
  have s1 := pc_SearchN 149 64 10 2 35 4096 (fun i => decide ((35 : Int) - 2 ≤ idl 64 10 i)) (by decide) (fun i hi => pc_rad1 64 10 2 35 i (by omega) (by omega) (by omega) (by omega) (by omega)) 92 (by omega)
    (fun j hj => by simp only [decide_eq_false_iff_not]; unfold idl; split <;> omega) (fun j h1 h2 => by simp only [decide_eq_true_eq]; unfold idl; split <;> omega)
  have s2 := pc_SearchN 150 64 10 2 35 4096 (fun i => decide ((35 : Int) + 2 < idl 64 10 i)) (by decide) (fun i hi => pc_rad2 64 10 2 35 i (by omega) (by omega) (by omega) (by omega) (by omega)) 112 (by omega)
    (fun j hj => by simp only [decide_eq_false_iff_not]; unfold idl; split <;> omega) (fun j h1 h2 => by simp only [decide_eq_true_eq]; unfold idl; split <;> omega)
  exact pc_radOk 64 10 2 35 92 112 (by omega) (by omega) c s1 s2
theorem pc_stripes3 : PC Try.prog 91 [ints [90, 50, 20], ints [10, 48, 70], i64 5] (.tup [ints [4, 7], i64 0]) := by
  have h := pc_lensStripes [90, 50, 20] [10, 48, 70] 5 (by decide) (by decide) ⟨by decide, by decide, by decide, by decide, by decide, by decide⟩
  have e : outF [90, 50, 20] [10, 48, 70] 5 (2 ^ [(90 : Int), 50, 20].length) = [4, 7] := w8
  rw [e] at h
  exact h
theorem pc_stripesC : PC Try.prog 91 [.slc 1 [[i64 90], [i64 50], [i64 20]], .slc 1 [[i64 10], [i64 48], [i64 70]], i64 5] (.tup [ints [4, 7], i64 0]) :=
  pc_stripes3.sub rfl (fun i hi => match i, hi with
    | 0, _ => Sub.slc 1 (0 : Int) eI [90, 50, 20]
    | 1, _ => Sub.slc 1 (0 : Int) eI [10, 48, 70]
    | 2, _ => .refl _) (.refl _)
theorem pc_same47 : PC Try.prog 41 [ints [4, 7], .slc 1 [[i64 4], [i64 7]]] (.bool true) :=
  PC.last (args := [ints [4, 7]]) (pc_Same [4, 7] (by decide)) (Sub.slc 1 (0 : Int) eI [4, 7])
theorem pw_two : PW Try.prog 25 [] [] (.own 0) [.lit 43 4 [[i64 0, i64 10, i64 100, i64 104], [i64 10, i64 10, i64 196, i64 200]]] := by
  refine pw_of_bodyF hm Try.func25 (by kernel_rfl) ⟨by kernel_rfl, ?_⟩
  conv => whnf
  refine ⟨[3], by kernel_rfl, ?_⟩
  (conv => whnf)
  refine ⟨rfl, ?_⟩
  rfl
end Go.Proofs.Try.My
