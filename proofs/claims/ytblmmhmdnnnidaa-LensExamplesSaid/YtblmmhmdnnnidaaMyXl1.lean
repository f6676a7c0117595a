/- A helper text: contracts of functions of the program, and plain lemmas. -/
import Derived.Test.YtblmmhmdnnnidaaEvSix
import Derived.Test.YtblmmhmdnnnidaaMyAm2
import Derived.Test.YtblmmhmdnnnidaaMyXp1
set_option maxRecDepth 100000
set_option maxHeartbeats 0
set_option linter.unusedVariables false
set_option linter.unusedSimpArgs false
namespace Go.Proofs.Try.My
open Go Go.Ev

theorem q1 : corF Prod.fst Prod.snd tabL (1, 2) = ((1, 1), 0) := by kernel_rfl
theorem q2 : corF Prod.fst Prod.snd tabL (49, 1) = ((0, 0), 2) := by kernel_rfl
theorem q3 : corF Prod.fst Prod.snd tabL (1, 2097152) = ((0, 0), 2) := by kernel_rfl
theorem q4 : ranF twoV 1 2 = (((148, 1), (152, 1)), 0) := by kernel_rfl
theorem q5 : calF [((0, 10), (100, 104))] = ((z4, z4), 43) := by kernel_rfl
theorem q6 : calF [] = ((z4, z4), 43) := by kernel_rfl
theorem q7 : calF triV = ((z4, z4), 6) := by kernel_rfl
theorem q8 : badF twoV = (-1, 0) := by kernel_rfl
abbrev uCam : CamT := (((1, 1), (1, 1)), ((0, 1), (0, 1)))
theorem q9 : depF uCam uCam 1 ((1, 1), (1, 1)) ((1, 1), (1, 1)) = (((0, 0), (0, 0)), 6) := by kernel_rfl
theorem qa : tanF (((0, 1), (1, 1)), ((0, 1), (0, 1))) ((1, 1), (1, 1)) = (((0, 0), (0, 0)), 8) := by kernel_rfl
theorem qb : viewsE [z4] = 42 := by kernel_rfl
theorem qc : viewsE (List.replicate 13 z4) = 4 := by kernel_rfl
theorem pc_LensExamples : PC Try.prog 4 [] (.bool true) := by
  have tb := pc_table
  have tw := pc_two
  have al := pc_alive4
  have h49 := pc_whole4 49
  have h1 := pc_whole4 1
  have k1 := pc_Correct tabL (1, 2) (by decide) (by unfold I64; omega) (by unfold I64; omega)
  rw [q1] at k1
  have k2 := pc_Correct tabL (49, 1) (by decide) (by unfold I64; omega) (by unfold I64; omega)
  rw [q2] at k2
  have k3 := pc_Correct tabL (1, 2097152) (by decide) (by unfold I64; omega) (by unfold I64; omega)
  rw [q3] at k3
  have xp := pc_expose
  have rg := pc_Range twoV 1 2 (by decide)
  rw [q4] at rg
  have c1 : PC Try.prog 15 [vws ((twoV.drop (Int.toNat 0)).take (Int.toNat (1 - 0)))] (.tup [cam (z4, z4), i64 43]) := by
    have h := pc_Calibrate [((0, 10), (100, 104))] (by decide)
    rw [q5] at h
    exact h
  have c2 : PC Try.prog 15 [.nils] (.tup [cam (z4, z4), i64 43]) := by
    have h := pc_Calibrate [] (by decide)
    rw [q6] at h
    exact PC.last (args := []) h (Sub.nils 4 z4 eS)
  have c3 : PC Try.prog 15 [vws (twoV ++ [((20, 10), (301, 310))])] (.tup [cam (z4, z4), i64 6]) := by
    have h := pc_Calibrate triV (by decide)
    rw [q7] at h
    exact h
  have fb := pc_FirstBad twoV (by decide)
  rw [q8] at fb
  have s1 := pc_span4 148 152
  have s2 := pc_span4 1 1
  have s3 := pc_span4 0 0
  have s4 := pc_span4 0 1
  have g : ∀ k : Int, 0 ≤ k → k ≤ 5 → PC Try.prog 28 [i64 k] (.tup [i64 (grayF k), i64 0]) := fun k a b => by
    have h := pc_lensGray k
    have e : outB 0 255 k = false := by unfold outB; rw [Bool.or_eq_false_iff, decide_eq_false_iff_not, decide_eq_false_iff_not]; omega
    rw [e] at h
    exact h
  have g0 := g 0 (by decide) (by decide)
  have g1 := g 1 (by decide) (by decide)
  have g2 := g 2 (by decide) (by decide)
  have g3 := g 3 (by decide) (by decide)
  have g4 := g 4 (by decide) (by decide)
  have g5 := g 5 (by decide) (by decide)
  rw [show grayF 0 = 0 from by decide] at g0
  rw [show grayF 1 = 1 from by decide] at g1
  rw [show grayF 2 = 3 from by decide] at g2
  rw [show grayF 3 = 2 from by decide] at g3
  rw [show grayF 4 = 6 from by decide] at g4
  rw [show grayF 5 = 7 from by decide] at g5
  have g256 := pc_lensGray 256
  rw [show outB 0 255 256 = true from by decide] at g256
  have de := pc_Depth uCam uCam 1 ((1, 1), (1, 1)) ((1, 1), (1, 1))
  rw [q9] at de
  have ta := pc_Tangent (((0, 1), (1, 1)), ((0, 1), (0, 1))) ((1, 1), (1, 1))
  rw [qa] at ta
  have ck : PC Try.prog 31 [frs ((tabL.drop (Int.toNat 0)).take (Int.toNat (1 - 0)))] (i64 40) := by
    have h := pc_CheckKnots [(0, 0)] (by decide)
    rw [show knotsB [(0, 0)] = false from by decide] at h
    exact h
  have cl := pc_CheckLight 0 0 0
  rw [show lightB 0 0 0 = false from by decide] at cl
  have cv1 : PC Try.prog 19 [.slc 4 [[i64 0, i64 0, i64 0, i64 0]]] (i64 42) := by
    have h := pc_CheckViews [z4] (by decide)
    rw [qb] at h
    exact PC.last (args := []) h (.slc 4 z4 eS [z4])
  have cv2 : PC Try.prog 19 [vws (List.replicate 13 z4)] (i64 4) := by
    have h := pc_CheckViews (List.replicate 13 z4) (by decide)
    rw [qc] at h
    exact h
  clear g
  dsimp only at k1 k2 k3 rg fb de ta g256
  refine pc_of_bodyF hm Try.func4 (by kernel_rfl) ?_
  conv => whnf
  (repeat' (first | (refine ⟨_, by first | exact tb | exact k1 | exact h49 | exact k2 | exact k3 | exact xp, ?_⟩; (conv => whnf)) | (refine Or.inl ?_; (conv => whnf); refine ⟨_, by first | exact tb | exact k1 | exact h49 | exact k2 | exact k3 | exact xp, ?_⟩; (conv => whnf)) | (refine Or.inl ?_; (conv => whnf); refine ⟨false, ?_⟩; (conv => whnf); refine ⟨_, by first | exact tb | exact k1 | exact h49 | exact k2 | exact k3 | exact xp, ?_⟩; (conv => whnf)) | (refine ⟨by kernel_rfl, ?_⟩; (conv => whnf)) | (refine ⟨fun _ => ?_, fun h => absurd h (by first | decide | (simp; done) | fail)⟩; (conv => whnf)) | (refine ⟨fun h => absurd h (by first | decide | (simp; done) | fail), fun _ => ?_⟩; (conv => whnf)) | fail))
  (repeat' (first | (refine ⟨_, by first | exact tw | exact rg, ?_⟩; (conv => whnf)) | (refine Or.inl ?_; (conv => whnf); refine ⟨_, by first | exact tw | exact rg, ?_⟩; (conv => whnf)) | (refine Or.inl ?_; (conv => whnf); refine ⟨false, ?_⟩; (conv => whnf); refine ⟨_, by first | exact tw | exact rg, ?_⟩; (conv => whnf)) | (refine ⟨by kernel_rfl, ?_⟩; (conv => whnf)) | (refine ⟨fun _ => ?_, fun h => absurd h (by first | decide | (simp; done) | fail)⟩; (conv => whnf)) | (refine ⟨fun h => absurd h (by first | decide | (simp; done) | fail), fun _ => ?_⟩; (conv => whnf)) | fail))
  refine ⟨⟨by decide, by decide, by decide⟩, ?_⟩
  (conv => whnf)
  (repeat' (first | (refine ⟨_, by first | exact c1 | exact c2, ?_⟩; (conv => whnf)) | (refine Or.inl ?_; (conv => whnf); refine ⟨_, by first | exact c1 | exact c2, ?_⟩; (conv => whnf)) | (refine Or.inl ?_; (conv => whnf); refine ⟨false, ?_⟩; (conv => whnf); refine ⟨_, by first | exact c1 | exact c2, ?_⟩; (conv => whnf)) | (refine ⟨by kernel_rfl, ?_⟩; (conv => whnf)) | (refine ⟨fun _ => ?_, fun h => absurd h (by first | decide | (simp; done) | fail)⟩; (conv => whnf)) | (refine ⟨fun h => absurd h (by first | decide | (simp; done) | fail), fun _ => ?_⟩; (conv => whnf)) | fail))
  (refine Or.inr ⟨[ ], [ 62 ], by kernel_rfl, ?_⟩; (conv => whnf); refine ⟨[ ], _, _, _, _, ⟨ pw_two, rfl, rfl, by kernel_rfl⟩, ?_⟩)
  (conv => whnf)
  (repeat' (first | (refine ⟨by kernel_rfl, ?_⟩; (conv => whnf)) | fail))
  refine ⟨⟨SpT, 4, z4, eS, twoV⟩, [((20, 10), (301, 310))], rfl, ⟨rfl, rfl⟩, ⟨rfl, rfl⟩, ?_, ?_, fun y _ => ⟨rfl, rfl, rfl⟩, ?_⟩
  · decide
  · decide
  (conv => whnf)
  refine Or.inl ?_
  (conv => whnf)
  refine ⟨false, ?_⟩
  (conv => whnf)
  refine ⟨_, c3, ?_⟩
  (conv => whnf)
  (repeat' (first | (refine ⟨_, by first | exact tw | exact fb, ?_⟩; (conv => whnf)) | (refine Or.inl ?_; (conv => whnf); refine ⟨_, by first | exact tw | exact fb, ?_⟩; (conv => whnf)) | (refine Or.inl ?_; (conv => whnf); refine ⟨false, ?_⟩; (conv => whnf); refine ⟨_, by first | exact tw | exact fb, ?_⟩; (conv => whnf)) | (refine ⟨by kernel_rfl, ?_⟩; (conv => whnf)) | (refine ⟨fun _ => ?_, fun h => absurd h (by first | decide | (simp; done) | fail)⟩; (conv => whnf)) | (refine ⟨fun h => absurd h (by first | decide | (simp; done) | fail), fun _ => ?_⟩; (conv => whnf)) | fail))
  (repeat' (first | (refine ⟨_, by first | exact al | exact h1 | exact s1, ?_⟩; (conv => whnf)) | (refine Or.inl ?_; (conv => whnf); refine ⟨_, by first | exact al | exact h1 | exact s1, ?_⟩; (conv => whnf)) | (refine Or.inl ?_; (conv => whnf); refine ⟨false, ?_⟩; (conv => whnf); refine ⟨_, by first | exact al | exact h1 | exact s1, ?_⟩; (conv => whnf)) | (refine ⟨by kernel_rfl, ?_⟩; (conv => whnf)) | (refine ⟨fun _ => ?_, fun h => absurd h (by first | decide | (simp; done) | fail)⟩; (conv => whnf)) | (refine ⟨fun h => absurd h (by first | decide | (simp; done) | fail), fun _ => ?_⟩; (conv => whnf)) | fail))
  refine Or.inl ⟨7, ?_⟩
  (conv => whnf)
  (repeat' (first | (refine ⟨by kernel_rfl, ?_⟩; (conv => whnf)) | (refine ⟨fun _ => ?_, fun h => absurd h (by first | decide | (simp; done) | fail)⟩; (conv => whnf)) | (refine ⟨fun h => absurd h (by first | decide | (simp; done) | fail), fun _ => ?_⟩; (conv => whnf)) | fail))
  refine ⟨⟨by decide, by decide⟩, ?_⟩
  (conv => whnf)
  (repeat' (first | (refine ⟨_, by first | exact g0, ?_⟩; (conv => whnf)) | (refine Or.inl ?_; (conv => whnf); refine ⟨_, by first | exact g0, ?_⟩; (conv => whnf)) | (refine Or.inl ?_; (conv => whnf); refine ⟨false, ?_⟩; (conv => whnf); refine ⟨_, by first | exact g0, ?_⟩; (conv => whnf)) | (refine ⟨by kernel_rfl, ?_⟩; (conv => whnf)) | (refine ⟨fun _ => ?_, fun h => absurd h (by first | decide | (simp; done) | fail)⟩; (conv => whnf)) | (refine ⟨fun h => absurd h (by first | decide | (simp; done) | fail), fun _ => ?_⟩; (conv => whnf)) | fail))
  rw [show IntKind.i64.wrap (0 + 1) = 1 from by decide]
  (repeat' (first | (refine ⟨by kernel_rfl, ?_⟩; (conv => whnf)) | (refine ⟨fun _ => ?_, fun h => absurd h (by first | decide | (simp; done) | fail)⟩; (conv => whnf)) | (refine ⟨fun h => absurd h (by first | decide | (simp; done) | fail), fun _ => ?_⟩; (conv => whnf)) | fail))
  refine ⟨⟨by decide, by decide⟩, ?_⟩
  (conv => whnf)
  (repeat' (first | (refine ⟨_, by first | exact g1, ?_⟩; (conv => whnf)) | (refine Or.inl ?_; (conv => whnf); refine ⟨_, by first | exact g1, ?_⟩; (conv => whnf)) | (refine Or.inl ?_; (conv => whnf); refine ⟨false, ?_⟩; (conv => whnf); refine ⟨_, by first | exact g1, ?_⟩; (conv => whnf)) | (refine ⟨by kernel_rfl, ?_⟩; (conv => whnf)) | (refine ⟨fun _ => ?_, fun h => absurd h (by first | decide | (simp; done) | fail)⟩; (conv => whnf)) | (refine ⟨fun h => absurd h (by first | decide | (simp; done) | fail), fun _ => ?_⟩; (conv => whnf)) | fail))
  rw [show IntKind.i64.wrap (1 + 1) = 2 from by decide]
  (repeat' (first | (refine ⟨by kernel_rfl, ?_⟩; (conv => whnf)) | (refine ⟨fun _ => ?_, fun h => absurd h (by first | decide | (simp; done) | fail)⟩; (conv => whnf)) | (refine ⟨fun h => absurd h (by first | decide | (simp; done) | fail), fun _ => ?_⟩; (conv => whnf)) | fail))
  refine ⟨⟨by decide, by decide⟩, ?_⟩
  (conv => whnf)
  (repeat' (first | (refine ⟨_, by first | exact g2, ?_⟩; (conv => whnf)) | (refine Or.inl ?_; (conv => whnf); refine ⟨_, by first | exact g2, ?_⟩; (conv => whnf)) | (refine Or.inl ?_; (conv => whnf); refine ⟨false, ?_⟩; (conv => whnf); refine ⟨_, by first | exact g2, ?_⟩; (conv => whnf)) | (refine ⟨by kernel_rfl, ?_⟩; (conv => whnf)) | (refine ⟨fun _ => ?_, fun h => absurd h (by first | decide | (simp; done) | fail)⟩; (conv => whnf)) | (refine ⟨fun h => absurd h (by first | decide | (simp; done) | fail), fun _ => ?_⟩; (conv => whnf)) | fail))
  rw [show IntKind.i64.wrap (2 + 1) = 3 from by decide]
  (repeat' (first | (refine ⟨by kernel_rfl, ?_⟩; (conv => whnf)) | (refine ⟨fun _ => ?_, fun h => absurd h (by first | decide | (simp; done) | fail)⟩; (conv => whnf)) | (refine ⟨fun h => absurd h (by first | decide | (simp; done) | fail), fun _ => ?_⟩; (conv => whnf)) | fail))
  refine ⟨⟨by decide, by decide⟩, ?_⟩
  (conv => whnf)
  (repeat' (first | (refine ⟨_, by first | exact g3, ?_⟩; (conv => whnf)) | (refine Or.inl ?_; (conv => whnf); refine ⟨_, by first | exact g3, ?_⟩; (conv => whnf)) | (refine Or.inl ?_; (conv => whnf); refine ⟨false, ?_⟩; (conv => whnf); refine ⟨_, by first | exact g3, ?_⟩; (conv => whnf)) | (refine ⟨by kernel_rfl, ?_⟩; (conv => whnf)) | (refine ⟨fun _ => ?_, fun h => absurd h (by first | decide | (simp; done) | fail)⟩; (conv => whnf)) | (refine ⟨fun h => absurd h (by first | decide | (simp; done) | fail), fun _ => ?_⟩; (conv => whnf)) | fail))
  rw [show IntKind.i64.wrap (3 + 1) = 4 from by decide]
  (repeat' (first | (refine ⟨by kernel_rfl, ?_⟩; (conv => whnf)) | (refine ⟨fun _ => ?_, fun h => absurd h (by first | decide | (simp; done) | fail)⟩; (conv => whnf)) | (refine ⟨fun h => absurd h (by first | decide | (simp; done) | fail), fun _ => ?_⟩; (conv => whnf)) | fail))
  refine ⟨⟨by decide, by decide⟩, ?_⟩
  (conv => whnf)
  (repeat' (first | (refine ⟨_, by first | exact g4, ?_⟩; (conv => whnf)) | (refine Or.inl ?_; (conv => whnf); refine ⟨_, by first | exact g4, ?_⟩; (conv => whnf)) | (refine Or.inl ?_; (conv => whnf); refine ⟨false, ?_⟩; (conv => whnf); refine ⟨_, by first | exact g4, ?_⟩; (conv => whnf)) | (refine ⟨by kernel_rfl, ?_⟩; (conv => whnf)) | (refine ⟨fun _ => ?_, fun h => absurd h (by first | decide | (simp; done) | fail)⟩; (conv => whnf)) | (refine ⟨fun h => absurd h (by first | decide | (simp; done) | fail), fun _ => ?_⟩; (conv => whnf)) | fail))
  rw [show IntKind.i64.wrap (4 + 1) = 5 from by decide]
  (repeat' (first | (refine ⟨by kernel_rfl, ?_⟩; (conv => whnf)) | (refine ⟨fun _ => ?_, fun h => absurd h (by first | decide | (simp; done) | fail)⟩; (conv => whnf)) | (refine ⟨fun h => absurd h (by first | decide | (simp; done) | fail), fun _ => ?_⟩; (conv => whnf)) | fail))
  refine ⟨⟨by decide, by decide⟩, ?_⟩
  (conv => whnf)
  (repeat' (first | (refine ⟨_, by first | exact g5, ?_⟩; (conv => whnf)) | (refine Or.inl ?_; (conv => whnf); refine ⟨_, by first | exact g5, ?_⟩; (conv => whnf)) | (refine Or.inl ?_; (conv => whnf); refine ⟨false, ?_⟩; (conv => whnf); refine ⟨_, by first | exact g5, ?_⟩; (conv => whnf)) | (refine ⟨by kernel_rfl, ?_⟩; (conv => whnf)) | (refine ⟨fun _ => ?_, fun h => absurd h (by first | decide | (simp; done) | fail)⟩; (conv => whnf)) | (refine ⟨fun h => absurd h (by first | decide | (simp; done) | fail), fun _ => ?_⟩; (conv => whnf)) | fail))
  (repeat' (first | (refine ⟨_, by first | exact g256 | exact s2 | exact s3 | exact s4 | exact de | exact ta, ?_⟩; (conv => whnf)) | (refine Or.inl ?_; (conv => whnf); refine ⟨_, by first | exact g256 | exact s2 | exact s3 | exact s4 | exact de | exact ta, ?_⟩; (conv => whnf)) | (refine Or.inl ?_; (conv => whnf); refine ⟨false, ?_⟩; (conv => whnf); refine ⟨_, by first | exact g256 | exact s2 | exact s3 | exact s4 | exact de | exact ta, ?_⟩; (conv => whnf)) | (refine ⟨by kernel_rfl, ?_⟩; (conv => whnf)) | (refine ⟨fun _ => ?_, fun h => absurd h (by first | decide | (simp; done) | fail)⟩; (conv => whnf)) | (refine ⟨fun h => absurd h (by first | decide | (simp; done) | fail), fun _ => ?_⟩; (conv => whnf)) | fail))
  (repeat' (first | (refine ⟨_, by first | exact tb, ?_⟩; (conv => whnf)) | (refine Or.inl ?_; (conv => whnf); refine ⟨_, by first | exact tb, ?_⟩; (conv => whnf)) | (refine Or.inl ?_; (conv => whnf); refine ⟨false, ?_⟩; (conv => whnf); refine ⟨_, by first | exact tb, ?_⟩; (conv => whnf)) | (refine ⟨by kernel_rfl, ?_⟩; (conv => whnf)) | (refine ⟨fun _ => ?_, fun h => absurd h (by first | decide | (simp; done) | fail)⟩; (conv => whnf)) | (refine ⟨fun h => absurd h (by first | decide | (simp; done) | fail), fun _ => ?_⟩; (conv => whnf)) | fail))
  refine ⟨⟨by decide, by decide, by decide⟩, ?_⟩
  (conv => whnf)
  (repeat' (first | (refine ⟨_, by first | exact ck | exact cl | exact cv1, ?_⟩; (conv => whnf)) | (refine Or.inl ?_; (conv => whnf); refine ⟨_, by first | exact ck | exact cl | exact cv1, ?_⟩; (conv => whnf)) | (refine Or.inl ?_; (conv => whnf); refine ⟨false, ?_⟩; (conv => whnf); refine ⟨_, by first | exact ck | exact cl | exact cv1, ?_⟩; (conv => whnf)) | (refine ⟨by kernel_rfl, ?_⟩; (conv => whnf)) | (refine ⟨fun _ => ?_, fun h => absurd h (by first | decide | (simp; done) | fail)⟩; (conv => whnf)) | (refine ⟨fun h => absurd h (by first | decide | (simp; done) | fail), fun _ => ?_⟩; (conv => whnf)) | fail))
  refine ⟨SpT, z4, eS, rfl, rfl, by decide, by decide, by decide, ?_⟩
  (conv => whnf)
  (repeat' (first | (refine ⟨_, by first | exact cv2, ?_⟩; (conv => whnf)) | (refine Or.inl ?_; (conv => whnf); refine ⟨_, by first | exact cv2, ?_⟩; (conv => whnf)) | (refine Or.inl ?_; (conv => whnf); refine ⟨false, ?_⟩; (conv => whnf); refine ⟨_, by first | exact cv2, ?_⟩; (conv => whnf)) | (refine ⟨by kernel_rfl, ?_⟩; (conv => whnf)) | (refine ⟨fun _ => ?_, fun h => absurd h (by first | decide | (simp; done) | fail)⟩; (conv => whnf)) | (refine ⟨fun h => absurd h (by first | decide | (simp; done) | fail), fun _ => ?_⟩; (conv => whnf)) | fail))
  first | rfl | set_option pp.maxSteps 300 in trace_state
end Go.Proofs.Try.My
