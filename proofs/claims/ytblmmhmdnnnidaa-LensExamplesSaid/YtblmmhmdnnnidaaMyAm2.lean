/- A helper text: contracts of functions of the program, and plain lemmas. -/
import Derived.Test.YtblmmhmdnnnidaaEvSix
import Derived.Test.YtblmmhmdnnnidaaMyAm1
set_option maxRecDepth 100000
set_option maxHeartbeats 0
set_option linter.unusedVariables false
set_option linter.unusedSimpArgs false
namespace Go.Proofs.Try.My
open Go Go.Ev

theorem pc_alive4 : PC Try.prog 26 [] (.bool true) := by
  have tb := pc_table
  have tw := pc_two
  have h32 := pc_whole4 32
  have h36 := pc_whole4 36
  have co := pc_Correct tabL (32, 1) (by decide) (by unfold I64; omega) (by unfold I64; omega)
  rw [w1] at co
  have di := pc_Distort tabL (36, 1) (by decide) (by unfold I64; omega) (by unfold I64; omega)
  rw [w2] at di
  have va := pc_Value 64 10 2 100
  rw [w3] at va
  have ra := pc_radiances
  have ca := pc_Calibrate twoV (by decide)
  rw [w4] at ca
  have rg := pc_Range twoV 2 1 (by decide)
  rw [w5] at rg
  have fb : PC Try.prog 13 [vws (twoV ++ [((20, 10), (301, 310))])] (.tup [i64 2, i64 0]) := by
    have h := pc_FirstBad triV (by decide)
    rw [w6] at h
    exact h
  have s1 := pc_span4 96 96
  have s2 := pc_span4 100 100
  have s3 := pc_span4 148 148
  have s4 := pc_span4 124 124
  have s5 := pc_span4 92 100
  have s6 := pc_span4 100 104
  have s7 := pc_span4 288 300
  have s8 := pc_span4 40 40
  have de := pc_Depth kCam kCam 10 ((148, 1), (148, 1)) ((124, 1), (124, 1))
  rw [w7] at de
  have st := pc_stripesC
  have sa := pc_same47
  dsimp only at co di va ca rg de
  refine pc_of_bodyF hm Try.func26 (by kernel_rfl) ?_
  conv => whnf
  (repeat' (first | (refine ⟨_, by first | with_reducible exact tb | with_reducible exact h32 | with_reducible exact co | with_reducible exact h36 | with_reducible exact di | with_reducible exact va | with_reducible exact ra, ?_⟩; (conv => whnf)) | (refine Or.inl ?_; (conv => whnf); refine ⟨_, by first | with_reducible exact tb | with_reducible exact h32 | with_reducible exact co | with_reducible exact h36 | with_reducible exact di | with_reducible exact va | with_reducible exact ra, ?_⟩; (conv => whnf)) | (refine Or.inl ?_; (conv => whnf); refine ⟨false, ?_⟩; (conv => whnf); refine ⟨_, by first | with_reducible exact tb | with_reducible exact h32 | with_reducible exact co | with_reducible exact h36 | with_reducible exact di | with_reducible exact va | with_reducible exact ra, ?_⟩; (conv => whnf)) | (refine ⟨by kernel_rfl, ?_⟩; (conv => whnf)) | (refine ⟨fun _ => ?_, fun h => absurd h (by first | decide | (simp; done) | fail)⟩; (conv => whnf)) | (refine ⟨fun h => absurd h (by first | decide | (simp; done) | fail), fun _ => ?_⟩; (conv => whnf)) | fail))
  (first | (refine Or.inl ?_; (conv => whnf); refine ⟨_, tw, ?_⟩) | refine ⟨_, tw, ?_⟩)
  (conv => whnf)
  (repeat' (first | (refine ⟨_, by first | with_reducible exact ca, ?_⟩; (conv => whnf)) | (refine Or.inl ?_; (conv => whnf); refine ⟨_, by first | with_reducible exact ca, ?_⟩; (conv => whnf)) | (refine Or.inl ?_; (conv => whnf); refine ⟨false, ?_⟩; (conv => whnf); refine ⟨_, by first | with_reducible exact ca, ?_⟩; (conv => whnf)) | (refine ⟨by kernel_rfl, ?_⟩; (conv => whnf)) | (refine ⟨fun _ => ?_, fun h => absurd h (by first | decide | (simp; done) | fail)⟩; (conv => whnf)) | (refine ⟨fun h => absurd h (by first | decide | (simp; done) | fail), fun _ => ?_⟩; (conv => whnf)) | fail))
  (first | (refine Or.inl ?_; (conv => whnf); refine ⟨_, tw, ?_⟩) | refine ⟨_, tw, ?_⟩)
  (conv => whnf)
  (repeat' (first | (refine ⟨_, by first | with_reducible exact rg, ?_⟩; (conv => whnf)) | (refine Or.inl ?_; (conv => whnf); refine ⟨_, by first | with_reducible exact rg, ?_⟩; (conv => whnf)) | (refine Or.inl ?_; (conv => whnf); refine ⟨false, ?_⟩; (conv => whnf); refine ⟨_, by first | with_reducible exact rg, ?_⟩; (conv => whnf)) | (refine ⟨by kernel_rfl, ?_⟩; (conv => whnf)) | (refine ⟨fun _ => ?_, fun h => absurd h (by first | decide | (simp; done) | fail)⟩; (conv => whnf)) | (refine ⟨fun h => absurd h (by first | decide | (simp; done) | fail), fun _ => ?_⟩; (conv => whnf)) | fail))
  (refine Or.inr ⟨[ ], [ 87 ], by kernel_rfl, ?_⟩; (conv => whnf); refine ⟨[ ], _, _, _, _, ⟨ pw_two, rfl, rfl, by kernel_rfl⟩, ?_⟩)
  (conv => whnf)
  (repeat' (first | (refine ⟨by kernel_rfl, ?_⟩; (conv => whnf)) | fail))
  refine ⟨⟨SpT, 4, z4, eS, twoV⟩, [((20, 10), (301, 310))], rfl, ⟨rfl, rfl⟩, ⟨rfl, rfl⟩, ?_, ?_, fun y _ => ⟨rfl, rfl, rfl⟩, ?_⟩
  · decide
  · decide
  (conv => whnf)
  refine Or.inl ?_
  (conv => whnf)
  refine ⟨false, ?_⟩
  (conv => whnf)
  refine ⟨_, fb, ?_⟩
  (conv => whnf)
  (repeat' (first | (refine ⟨_, by first | with_reducible exact s1 | with_reducible exact s2 | with_reducible exact s3 | with_reducible exact s4 | with_reducible exact de, ?_⟩; (conv => whnf)) | (refine Or.inl ?_; (conv => whnf); refine ⟨_, by first | with_reducible exact s1 | with_reducible exact s2 | with_reducible exact s3 | with_reducible exact s4 | with_reducible exact de, ?_⟩; (conv => whnf)) | (refine Or.inl ?_; (conv => whnf); refine ⟨false, ?_⟩; (conv => whnf); refine ⟨_, by first | with_reducible exact s1 | with_reducible exact s2 | with_reducible exact s3 | with_reducible exact s4 | with_reducible exact de, ?_⟩; (conv => whnf)) | (refine ⟨by kernel_rfl, ?_⟩; (conv => whnf)) | (refine ⟨fun _ => ?_, fun h => absurd h (by first | decide | (simp; done) | fail)⟩; (conv => whnf)) | (refine ⟨fun h => absurd h (by first | decide | (simp; done) | fail), fun _ => ?_⟩; (conv => whnf)) | fail))
  refine Or.inl ?_
  (conv => whnf)
  refine ⟨true, ?_⟩
  (conv => whnf)
  refine ⟨_, st, ?_⟩
  (conv => whnf)
  (repeat' (first | (refine ⟨_, by first | with_reducible exact s5 | with_reducible exact s6 | with_reducible exact s7 | with_reducible exact s8, ?_⟩; (conv => whnf)) | (refine Or.inl ?_; (conv => whnf); refine ⟨_, by first | with_reducible exact s5 | with_reducible exact s6 | with_reducible exact s7 | with_reducible exact s8, ?_⟩; (conv => whnf)) | (refine Or.inl ?_; (conv => whnf); refine ⟨false, ?_⟩; (conv => whnf); refine ⟨_, by first | with_reducible exact s5 | with_reducible exact s6 | with_reducible exact s7 | with_reducible exact s8, ?_⟩; (conv => whnf)) | (refine ⟨by kernel_rfl, ?_⟩; (conv => whnf)) | (refine ⟨fun _ => ?_, fun h => absurd h (by first | decide | (simp; done) | fail)⟩; (conv => whnf)) | (refine ⟨fun h => absurd h (by first | decide | (simp; done) | fail), fun _ => ?_⟩; (conv => whnf)) | fail))
  (repeat' (first | (refine ⟨_, by first | exact sa, ?_⟩; (conv => whnf)) | (refine Or.inl ?_; (conv => whnf); refine ⟨_, by first | exact sa, ?_⟩; (conv => whnf)) | (refine Or.inl ?_; (conv => whnf); refine ⟨false, ?_⟩; (conv => whnf); refine ⟨_, by first | exact sa, ?_⟩; (conv => whnf)) | (refine ⟨by kernel_rfl, ?_⟩; (conv => whnf)) | (refine ⟨fun _ => ?_, fun h => absurd h (by first | decide | (simp; done) | fail)⟩; (conv => whnf)) | (refine ⟨fun h => absurd h (by first | decide | (simp; done) | fail), fun _ => ?_⟩; (conv => whnf)) | ((with_reducible refine And.intro (a := _ = true → _) (b := _ = false → _) (fun hh => ?_) (fun hh => ?_)) <;> (try simp only [decide_eq_true_eq, decide_eq_false_iff_not, Bool.or_eq_true, Bool.and_eq_true, Bool.or_eq_false_iff, Bool.and_eq_false_iff, Bool.not_eq_true', Bool.not_eq_false', ge_iff_le, gt_iff_lt] at hh) <;> (first | (exfalso; omega) | (conv => whnf))) | fail))
  all_goals (first | rfl | simp)
end Go.Proofs.Try.My
