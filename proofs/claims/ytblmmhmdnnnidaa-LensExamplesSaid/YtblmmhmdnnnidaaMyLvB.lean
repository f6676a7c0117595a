/- A helper text: contracts of functions of the program, and plain lemmas. -/
import Derived.Test.YtblmmhmdnnnidaaEvSix
import Derived.Test.YtblmmhmdnnnidaaMyLv3
import Derived.Test.YtblmmhmdnnnidaaMyLv4
import Derived.Test.YtblmmhmdnnnidaaMyLv7
import Derived.Test.YtblmmhmdnnnidaaMyLvA
set_option maxRecDepth 100000
set_option maxHeartbeats 0
set_option linter.unusedVariables false
set_option linter.unusedSimpArgs false
namespace Go.Proofs.Try.My
open Go Go.Ev

theorem pc_nFocal (l : List SpT) (hl : l.length ≤ 12) (hv : ∀ i, i < l.length → viewB (l.getD i z4) = true) : PC Try.prog 74 [.fn (.func 177) [] [.pt [vws l] 0]] (.tup [sp (narF (focL l)).1, .bool (narF (focL l)).2.1, .bool (narF (focL l)).2.2]) :=
  pc_narrowed3 177 l (focL l) (mem_okB (focL_ok (views_mem hv))) (sq_focal l hl hv)
theorem pc_nSeen (l : List SpT) (x z : Int) (hx : -1000 ≤ x ∧ x ≤ 1000) (hz : 1 ≤ z ∧ z ≤ 1000) (hl : l.length ≤ 12) (hv : ∀ i, i < l.length → viewB (l.getD i z4) = true) :
    PC Try.prog 74 [.fn (.func 139) [] [.pt [vws l] 0, .pt [i64 z] 0, .pt [i64 x] 0]] (.tup [sp (narF (seeL l x z)).1, .bool (narF (seeL l x z)).2.1, .bool (narF (seeL l x z)).2.2]) :=
  pc_narrowed4 139 l x z (seeL l x z) (mem_okB (seeL_ok hx hz (views_mem hv))) (sq_seen l x z hx hz hl hv)
theorem pc_agree (l : List SpT) (hl : l.length ≤ 12) (hv : ∀ i, i < l.length → viewB (l.getD i z4) = true) : PC Try.prog 71 [vws l] (.bool (agrF l)) := by
  have c1 := pc_focal l
  have c2 := pc_nFocal l hl hv
  have c3 := pc_seen l 0 1
  have c4 := pc_nSeen l 0 1 (by omega) (by omega) hl hv
  unfold agrF
  generalize narF (focL l) = F at *
  generalize narF (seeL l 0 1) = U at *
  obtain ⟨⟨⟨F1, F2⟩, ⟨F3, F4⟩⟩, f1, f2⟩ := F
  obtain ⟨⟨⟨U1, U2⟩, ⟨U3, U4⟩⟩, u1, u2⟩ := U
  refine pc_of_bodyF hm Try.func71 (by kernel_rfl) ?_
  conv => whnf
  (repeat' (first | (refine ⟨_, by first | with_reducible exact c1 | with_reducible exact c2 | with_reducible exact c3 | with_reducible exact c4, ?_⟩; (conv => whnf)) | (refine Or.inl ?_; (conv => whnf); refine ⟨_, by first | with_reducible exact c1 | with_reducible exact c2 | with_reducible exact c3 | with_reducible exact c4, ?_⟩; (conv => whnf)) | (refine Or.inl ?_; (conv => whnf); refine ⟨false, ?_⟩; (conv => whnf); refine ⟨_, by first | with_reducible exact c1 | with_reducible exact c2 | with_reducible exact c3 | with_reducible exact c4, ?_⟩; (conv => whnf)) | (refine ⟨by kernel_rfl, ?_⟩; (conv => whnf)) | (refine ⟨fun _ => ?_, fun h => absurd h (by first | decide | (simp; done) | fail)⟩; (conv => whnf)) | (refine ⟨fun h => absurd h (by first | decide | (simp; done) | fail), fun _ => ?_⟩; (conv => whnf)) | ((with_reducible refine And.intro (a := _ = true → _) (b := _ = false → _) (fun hh => ?_) (fun hh => ?_)) <;> (try simp only [decide_eq_true_eq, decide_eq_false_iff_not, Bool.or_eq_true, Bool.and_eq_true, Bool.or_eq_false_iff, Bool.and_eq_false_iff, Bool.not_eq_true', Bool.not_eq_false', ge_iff_le, gt_iff_lt] at hh) <;> (first | (exfalso; omega) | (conv => whnf))) | fail))
  all_goals (first | rfl | (simp [*]; done))
theorem pc_fixed (l : List SpT) (hl : l.length ≤ 12) (hv : ∀ i, i < l.length → viewB (l.getD i z4) = true) : PC Try.prog 73 [vws l] (.tup [sp (fixF l).1, i64 (fixF l).2]) := by
  have c0 := pc_agree l hl hv
  have c1 := pc_focal l
  have c2 := pc_nFocal l hl hv
  unfold fixF
  generalize narF (focL l) = F at *
  generalize agrF l = A at *
  obtain ⟨⟨⟨F1, F2⟩, ⟨F3, F4⟩⟩, f1, f2⟩ := F
  cases A
  · refine pc_of_bodyF hm Try.func73 (by kernel_rfl) ?_
    conv => whnf
    (repeat' (first | (refine ⟨_, by first | with_reducible exact c0, ?_⟩; (conv => whnf)) | (refine Or.inl ?_; (conv => whnf); refine ⟨_, by first | with_reducible exact c0, ?_⟩; (conv => whnf)) | (refine Or.inl ?_; (conv => whnf); refine ⟨false, ?_⟩; (conv => whnf); refine ⟨_, by first | with_reducible exact c0, ?_⟩; (conv => whnf)) | (refine ⟨by kernel_rfl, ?_⟩; (conv => whnf)) | (refine ⟨fun _ => ?_, fun h => absurd h (by first | decide | (simp; done) | fail)⟩; (conv => whnf)) | (refine ⟨fun h => absurd h (by first | decide | (simp; done) | fail), fun _ => ?_⟩; (conv => whnf)) | ((with_reducible refine And.intro (a := _ = true → _) (b := _ = false → _) (fun hh => ?_) (fun hh => ?_)) <;> (try simp only [decide_eq_true_eq, decide_eq_false_iff_not, Bool.or_eq_true, Bool.and_eq_true, Bool.or_eq_false_iff, Bool.and_eq_false_iff, Bool.not_eq_true', Bool.not_eq_false', ge_iff_le, gt_iff_lt] at hh) <;> (first | (exfalso; omega) | (conv => whnf))) | fail))
    all_goals rfl
  cases f2
  · refine pc_of_bodyF hm Try.func73 (by kernel_rfl) ?_
    conv => whnf
    (repeat' (first | (refine ⟨_, by first | with_reducible exact c0 | with_reducible exact c1 | with_reducible exact c2, ?_⟩; (conv => whnf)) | (refine Or.inl ?_; (conv => whnf); refine ⟨_, by first | with_reducible exact c0 | with_reducible exact c1 | with_reducible exact c2, ?_⟩; (conv => whnf)) | (refine Or.inl ?_; (conv => whnf); refine ⟨false, ?_⟩; (conv => whnf); refine ⟨_, by first | with_reducible exact c0 | with_reducible exact c1 | with_reducible exact c2, ?_⟩; (conv => whnf)) | (refine ⟨by kernel_rfl, ?_⟩; (conv => whnf)) | (refine ⟨fun _ => ?_, fun h => absurd h (by first | decide | (simp; done) | fail)⟩; (conv => whnf)) | (refine ⟨fun h => absurd h (by first | decide | (simp; done) | fail), fun _ => ?_⟩; (conv => whnf)) | ((with_reducible refine And.intro (a := _ = true → _) (b := _ = false → _) (fun hh => ?_) (fun hh => ?_)) <;> (try simp only [decide_eq_true_eq, decide_eq_false_iff_not, Bool.or_eq_true, Bool.and_eq_true, Bool.or_eq_false_iff, Bool.and_eq_false_iff, Bool.not_eq_true', Bool.not_eq_false', ge_iff_le, gt_iff_lt] at hh) <;> (first | (exfalso; omega) | (conv => whnf))) | fail))
    all_goals rfl
  · refine pc_of_bodyF hm Try.func73 (by kernel_rfl) ?_
    conv => whnf
    (repeat' (first | (refine ⟨_, by first | with_reducible exact c0 | with_reducible exact c1 | with_reducible exact c2, ?_⟩; (conv => whnf)) | (refine Or.inl ?_; (conv => whnf); refine ⟨_, by first | with_reducible exact c0 | with_reducible exact c1 | with_reducible exact c2, ?_⟩; (conv => whnf)) | (refine Or.inl ?_; (conv => whnf); refine ⟨false, ?_⟩; (conv => whnf); refine ⟨_, by first | with_reducible exact c0 | with_reducible exact c1 | with_reducible exact c2, ?_⟩; (conv => whnf)) | (refine ⟨by kernel_rfl, ?_⟩; (conv => whnf)) | (refine ⟨fun _ => ?_, fun h => absurd h (by first | decide | (simp; done) | fail)⟩; (conv => whnf)) | (refine ⟨fun h => absurd h (by first | decide | (simp; done) | fail), fun _ => ?_⟩; (conv => whnf)) | ((with_reducible refine And.intro (a := _ = true → _) (b := _ = false → _) (fun hh => ?_) (fun hh => ?_)) <;> (try simp only [decide_eq_true_eq, decide_eq_false_iff_not, Bool.or_eq_true, Bool.and_eq_true, Bool.or_eq_false_iff, Bool.and_eq_false_iff, Bool.not_eq_true', Bool.not_eq_false', ge_iff_le, gt_iff_lt] at hh) <;> (first | (exfalso; omega) | (conv => whnf))) | fail))
    all_goals rfl
theorem pc_calBad (l : List SpT) (E : Int) (hE : E ≠ 0) (c0 : PC Try.prog 19 [vws l] (i64 E)) : PC Try.prog 15 [vws l] (.tup [cam (z4, z4), i64 E]) := by
  refine pc_of_bodyF hm Try.func15 (by kernel_rfl) ?_
  conv => whnf
  (repeat' (first | (refine ⟨_, by first | with_reducible exact c0, ?_⟩; (conv => whnf)) | (refine Or.inl ?_; (conv => whnf); refine ⟨_, by first | with_reducible exact c0, ?_⟩; (conv => whnf)) | (refine Or.inl ?_; (conv => whnf); refine ⟨false, ?_⟩; (conv => whnf); refine ⟨_, by first | with_reducible exact c0, ?_⟩; (conv => whnf)) | (refine ⟨by kernel_rfl, ?_⟩; (conv => whnf)) | (refine ⟨fun _ => ?_, fun h => absurd h (by first | decide | (simp; done) | fail)⟩; (conv => whnf)) | (refine ⟨fun h => absurd h (by first | decide | (simp; done) | fail), fun _ => ?_⟩; (conv => whnf)) | ((with_reducible refine And.intro (a := _ = true → _) (b := _ = false → _) (fun hh => ?_) (fun hh => ?_)) <;> (try simp only [decide_eq_true_eq, decide_eq_false_iff_not, Bool.or_eq_true, Bool.and_eq_true, Bool.or_eq_false_iff, Bool.and_eq_false_iff, Bool.not_eq_true', Bool.not_eq_false', ge_iff_le, gt_iff_lt] at hh) <;> (first | (exfalso; omega) | (conv => whnf))) | fail))
theorem pc_calFix (l : List SpT) (S : SpT) (E : Int) (hE : E ≠ 0) (c0 : PC Try.prog 19 [vws l] (i64 0)) (c1 : PC Try.prog 73 [vws l] (.tup [sp S, i64 E])) : PC Try.prog 15 [vws l] (.tup [cam (z4, z4), i64 E]) := by
  refine pc_of_bodyF hm Try.func15 (by kernel_rfl) ?_
  conv => whnf
  (repeat' (first | (refine ⟨_, by first | with_reducible exact c0 | with_reducible exact c1, ?_⟩; (conv => whnf)) | (refine Or.inl ?_; (conv => whnf); refine ⟨_, by first | with_reducible exact c0 | with_reducible exact c1, ?_⟩; (conv => whnf)) | (refine Or.inl ?_; (conv => whnf); refine ⟨false, ?_⟩; (conv => whnf); refine ⟨_, by first | with_reducible exact c0 | with_reducible exact c1, ?_⟩; (conv => whnf)) | (refine ⟨by kernel_rfl, ?_⟩; (conv => whnf)) | (refine ⟨fun _ => ?_, fun h => absurd h (by first | decide | (simp; done) | fail)⟩; (conv => whnf)) | (refine ⟨fun h => absurd h (by first | decide | (simp; done) | fail), fun _ => ?_⟩; (conv => whnf)) | ((with_reducible refine And.intro (a := _ = true → _) (b := _ = false → _) (fun hh => ?_) (fun hh => ?_)) <;> (try simp only [decide_eq_true_eq, decide_eq_false_iff_not, Bool.or_eq_true, Bool.and_eq_true, Bool.or_eq_false_iff, Bool.and_eq_false_iff, Bool.not_eq_true', Bool.not_eq_false', ge_iff_le, gt_iff_lt] at hh) <;> (first | (exfalso; omega) | (conv => whnf))) | fail))
theorem pc_calOk (l : List SpT) (S1 S2 S3 S4 U1 U2 U3 U4 : Int) (u1 u2 : Bool) (c0 : PC Try.prog 19 [vws l] (i64 0)) (c1 : PC Try.prog 73 [vws l] (.tup [sp ((S1, S2), (S3, S4)), i64 0]))
    (c2 : PC Try.prog 75 [vws l, i64 0, i64 1] (.fn (.func 139) [] [.pt [vws l] 0, .pt [i64 1] 0, .pt [i64 0] 0]))
    (c3 : PC Try.prog 74 [.fn (.func 139) [] [.pt [vws l] 0, .pt [i64 1] 0, .pt [i64 0] 0]] (.tup [sp ((U1, U2), (U3, U4)), .bool u1, .bool u2])) :
    PC Try.prog 15 [vws l] (.tup [cam (((S1, S2), (S3, S4)), ((U1, U2), (U3, U4))), i64 0]) := by
  refine pc_of_bodyF hm Try.func15 (by kernel_rfl) ?_
  conv => whnf
  (repeat' (first | (refine ⟨_, by first | with_reducible exact c0 | with_reducible exact c1 | with_reducible exact c2 | with_reducible exact c3, ?_⟩; (conv => whnf)) | (refine Or.inl ?_; (conv => whnf); refine ⟨_, by first | with_reducible exact c0 | with_reducible exact c1 | with_reducible exact c2 | with_reducible exact c3, ?_⟩; (conv => whnf)) | (refine Or.inl ?_; (conv => whnf); refine ⟨false, ?_⟩; (conv => whnf); refine ⟨_, by first | with_reducible exact c0 | with_reducible exact c1 | with_reducible exact c2 | with_reducible exact c3, ?_⟩; (conv => whnf)) | (refine ⟨by kernel_rfl, ?_⟩; (conv => whnf)) | (refine ⟨fun _ => ?_, fun h => absurd h (by first | decide | (simp; done) | fail)⟩; (conv => whnf)) | (refine ⟨fun h => absurd h (by first | decide | (simp; done) | fail), fun _ => ?_⟩; (conv => whnf)) | ((with_reducible refine And.intro (a := _ = true → _) (b := _ = false → _) (fun hh => ?_) (fun hh => ?_)) <;> (try simp only [decide_eq_true_eq, decide_eq_false_iff_not, Bool.or_eq_true, Bool.and_eq_true, Bool.or_eq_false_iff, Bool.and_eq_false_iff, Bool.not_eq_true', Bool.not_eq_false', ge_iff_le, gt_iff_lt] at hh) <;> (first | (exfalso; omega) | (conv => whnf))) | fail))
theorem pc_Calibrate (l : List SpT) (hl : l.length < 2 ^ 39) : PC Try.prog 15 [vws l] (.tup [cam (calF l).1, i64 (calF l).2]) := by
  have c0 := pc_CheckViews l hl
  unfold calF
  by_cases hE : viewsE l = 0
  · obtain ⟨h1, h2⟩ := viewsE_ok hE
    rw [if_pos hE]
    rw [hE] at c0
    have c1 := pc_fixed l h1 h2
    by_cases hF : (fixF l).2 = 0
    · rw [if_pos hF]
      rw [hF] at c1
      exact pc_calOk l _ _ _ _ _ _ _ _ _ _ c0 c1 (pc_seen l 0 1) (pc_nSeen l 0 1 (by omega) (by omega) h1 h2)
    · rw [if_neg hF]
      exact pc_calFix l _ _ hF c0 c1
  · rw [if_neg hE]
    exact pc_calBad l _ hE c0
theorem pc_ranBad (l : List SpT) (x z E : Int) (hE : E ≠ 0) (c0 : PC Try.prog 19 [vws l] (i64 E)) : PC Try.prog 17 [vws l, i64 x, i64 z] (.tup [sp z4, i64 E]) := by
  refine pc_of_bodyF hm Try.func17 (by kernel_rfl) ?_
  conv => whnf
  (repeat' (first | (refine ⟨_, by first | with_reducible exact c0, ?_⟩; (conv => whnf)) | (refine Or.inl ?_; (conv => whnf); refine ⟨_, by first | with_reducible exact c0, ?_⟩; (conv => whnf)) | (refine Or.inl ?_; (conv => whnf); refine ⟨false, ?_⟩; (conv => whnf); refine ⟨_, by first | with_reducible exact c0, ?_⟩; (conv => whnf)) | (refine ⟨by kernel_rfl, ?_⟩; (conv => whnf)) | (refine ⟨fun _ => ?_, fun h => absurd h (by first | decide | (simp; done) | fail)⟩; (conv => whnf)) | (refine ⟨fun h => absurd h (by first | decide | (simp; done) | fail), fun _ => ?_⟩; (conv => whnf)) | ((with_reducible refine And.intro (a := _ = true → _) (b := _ = false → _) (fun hh => ?_) (fun hh => ?_)) <;> (try simp only [decide_eq_true_eq, decide_eq_false_iff_not, Bool.or_eq_true, Bool.and_eq_true, Bool.or_eq_false_iff, Bool.and_eq_false_iff, Bool.not_eq_true', Bool.not_eq_false', ge_iff_le, gt_iff_lt] at hh) <;> (first | (exfalso; omega) | (conv => whnf))) | fail))
theorem pc_ranArg (l : List SpT) (x z : Int) (b1 b2 : Bool) (hb : b1 = false ∨ b2 = false) (c0 : PC Try.prog 19 [vws l] (i64 0)) (c1 : PC Try.prog 79 [i64 (-1000), i64 1000, .slc 1 [[i64 x]]] (.bool b1)) (c2 : PC Try.prog 79 [i64 1, i64 1000, .slc 1 [[i64 z]]] (.bool b2)) :
    PC Try.prog 17 [vws l, i64 x, i64 z] (.tup [sp z4, i64 2]) := by
  cases b1
  · refine pc_of_bodyF hm Try.func17 (by kernel_rfl) ?_
    conv => whnf
    (repeat' (first | (refine ⟨_, by first | exact c0 | exact c1, ?_⟩; (conv => whnf)) | (refine Or.inl ?_; (conv => whnf); refine ⟨_, by first | exact c0 | exact c1, ?_⟩; (conv => whnf)) | (refine Or.inl ?_; (conv => whnf); refine ⟨false, ?_⟩; (conv => whnf); refine ⟨_, by first | exact c0 | exact c1, ?_⟩; (conv => whnf)) | (refine ⟨by kernel_rfl, ?_⟩; (conv => whnf)) | (refine ⟨fun _ => ?_, fun h => absurd h (by first | decide | (simp; done) | fail)⟩; (conv => whnf)) | (refine ⟨fun h => absurd h (by first | decide | (simp; done) | fail), fun _ => ?_⟩; (conv => whnf)) | ((with_reducible refine And.intro (a := _ = true → _) (b := _ = false → _) (fun hh => ?_) (fun hh => ?_)) <;> (try simp only [decide_eq_true_eq, decide_eq_false_iff_not, Bool.or_eq_true, Bool.and_eq_true, Bool.or_eq_false_iff, Bool.and_eq_false_iff, Bool.not_eq_true', Bool.not_eq_false', ge_iff_le, gt_iff_lt] at hh) <;> (first | (exfalso; omega) | (conv => whnf))) | fail))
  cases b2
  · refine pc_of_bodyF hm Try.func17 (by kernel_rfl) ?_
    conv => whnf
    (repeat' (first | (refine ⟨_, by first | exact c0 | exact c1 | exact c2, ?_⟩; (conv => whnf)) | (refine Or.inl ?_; (conv => whnf); refine ⟨_, by first | exact c0 | exact c1 | exact c2, ?_⟩; (conv => whnf)) | (refine Or.inl ?_; (conv => whnf); refine ⟨false, ?_⟩; (conv => whnf); refine ⟨_, by first | exact c0 | exact c1 | exact c2, ?_⟩; (conv => whnf)) | (refine ⟨by kernel_rfl, ?_⟩; (conv => whnf)) | (refine ⟨fun _ => ?_, fun h => absurd h (by first | decide | (simp; done) | fail)⟩; (conv => whnf)) | (refine ⟨fun h => absurd h (by first | decide | (simp; done) | fail), fun _ => ?_⟩; (conv => whnf)) | ((with_reducible refine And.intro (a := _ = true → _) (b := _ = false → _) (fun hh => ?_) (fun hh => ?_)) <;> (try simp only [decide_eq_true_eq, decide_eq_false_iff_not, Bool.or_eq_true, Bool.and_eq_true, Bool.or_eq_false_iff, Bool.and_eq_false_iff, Bool.not_eq_true', Bool.not_eq_false', ge_iff_le, gt_iff_lt] at hh) <;> (first | (exfalso; omega) | (conv => whnf))) | fail))
  · simp at hb
theorem pc_ranFix (l : List SpT) (x z : Int) (S : SpT) (E : Int) (hE : E ≠ 0) (c0 : PC Try.prog 19 [vws l] (i64 0)) (c1 : PC Try.prog 79 [i64 (-1000), i64 1000, .slc 1 [[i64 x]]] (.bool true)) (c2 : PC Try.prog 79 [i64 1, i64 1000, .slc 1 [[i64 z]]] (.bool true))
    (c3 : PC Try.prog 73 [vws l] (.tup [sp S, i64 E])) : PC Try.prog 17 [vws l, i64 x, i64 z] (.tup [sp z4, i64 E]) := by
  refine pc_of_bodyF hm Try.func17 (by kernel_rfl) ?_
  conv => whnf
  (repeat' (first | (refine ⟨_, by first | exact c0 | exact c1 | exact c2 | exact c3, ?_⟩; (conv => whnf)) | (refine Or.inl ?_; (conv => whnf); refine ⟨_, by first | exact c0 | exact c1 | exact c2 | exact c3, ?_⟩; (conv => whnf)) | (refine Or.inl ?_; (conv => whnf); refine ⟨false, ?_⟩; (conv => whnf); refine ⟨_, by first | exact c0 | exact c1 | exact c2 | exact c3, ?_⟩; (conv => whnf)) | (refine ⟨by kernel_rfl, ?_⟩; (conv => whnf)) | (refine ⟨fun _ => ?_, fun h => absurd h (by first | decide | (simp; done) | fail)⟩; (conv => whnf)) | (refine ⟨fun h => absurd h (by first | decide | (simp; done) | fail), fun _ => ?_⟩; (conv => whnf)) | ((with_reducible refine And.intro (a := _ = true → _) (b := _ = false → _) (fun hh => ?_) (fun hh => ?_)) <;> (try simp only [decide_eq_true_eq, decide_eq_false_iff_not, Bool.or_eq_true, Bool.and_eq_true, Bool.or_eq_false_iff, Bool.and_eq_false_iff, Bool.not_eq_true', Bool.not_eq_false', ge_iff_le, gt_iff_lt] at hh) <;> (first | (exfalso; omega) | (conv => whnf))) | fail))
theorem pc_ranOk (l : List SpT) (x z : Int) (S : SpT) (U1 U2 U3 U4 : Int) (u1 u2 : Bool) (c0 : PC Try.prog 19 [vws l] (i64 0)) (c1 : PC Try.prog 79 [i64 (-1000), i64 1000, .slc 1 [[i64 x]]] (.bool true)) (c2 : PC Try.prog 79 [i64 1, i64 1000, .slc 1 [[i64 z]]] (.bool true))
    (c3 : PC Try.prog 73 [vws l] (.tup [sp S, i64 0])) (c4 : PC Try.prog 75 [vws l, i64 x, i64 z] (.fn (.func 139) [] [.pt [vws l] 0, .pt [i64 z] 0, .pt [i64 x] 0]))
    (c5 : PC Try.prog 74 [.fn (.func 139) [] [.pt [vws l] 0, .pt [i64 z] 0, .pt [i64 x] 0]] (.tup [sp ((U1, U2), (U3, U4)), .bool u1, .bool u2])) : PC Try.prog 17 [vws l, i64 x, i64 z] (.tup [sp ((U1, U2), (U3, U4)), i64 0]) := by
  refine pc_of_bodyF hm Try.func17 (by kernel_rfl) ?_
  conv => whnf
  (repeat' (first | (refine ⟨_, by first | exact c0 | exact c1 | exact c2 | exact c3 | exact c4 | exact c5, ?_⟩; (conv => whnf)) | (refine Or.inl ?_; (conv => whnf); refine ⟨_, by first | exact c0 | exact c1 | exact c2 | exact c3 | exact c4 | exact c5, ?_⟩; (conv => whnf)) | (refine Or.inl ?_; (conv => whnf); refine ⟨false, ?_⟩; (conv => whnf); refine ⟨_, by first | exact c0 | exact c1 | exact c2 | exact c3 | exact c4 | exact c5, ?_⟩; (conv => whnf)) | (refine ⟨by kernel_rfl, ?_⟩; (conv => whnf)) | (refine ⟨fun _ => ?_, fun h => absurd h (by first | decide | (simp; done) | fail)⟩; (conv => whnf)) | (refine ⟨fun h => absurd h (by first | decide | (simp; done) | fail), fun _ => ?_⟩; (conv => whnf)) | ((with_reducible refine And.intro (a := _ = true → _) (b := _ = false → _) (fun hh => ?_) (fun hh => ?_)) <;> (try simp only [decide_eq_true_eq, decide_eq_false_iff_not, Bool.or_eq_true, Bool.and_eq_true, Bool.or_eq_false_iff, Bool.and_eq_false_iff, Bool.not_eq_true', Bool.not_eq_false', ge_iff_le, gt_iff_lt] at hh) <;> (first | (exfalso; omega) | (conv => whnf))) | fail))
theorem pc_Range (l : List SpT) (x z : Int) (hl : l.length < 2 ^ 39) : PC Try.prog 17 [vws l, i64 x, i64 z] (.tup [sp (ranF l x z).1, i64 (ranF l x z).2]) := by
  have c0 := pc_CheckViews l hl
  have c1 := pc_fromN (-1000) 1000 x
  have c2 := pc_fromN 1 1000 z
  unfold ranF
  by_cases hE : viewsE l = 0
  · obtain ⟨h1, h2⟩ := viewsE_ok hE
    rw [if_pos hE]
    rw [hE] at c0
    by_cases hb : withB x (-1000) 1000 = false ∨ withB z 1 1000 = false
    · rw [if_neg (by rcases hb with hb | hb <;> simp [hb])]
      exact pc_ranArg l x z _ _ hb c0 c1 c2
    · have b1 : withB x (-1000) 1000 = true := by
        cases h : withB x (-1000) 1000
        · exact absurd (.inl h) hb
        · rfl
      have b2 : withB z 1 1000 = true := by
        cases h : withB z 1 1000
        · exact absurd (.inr h) hb
        · rfl
      rw [b1] at c1 ⊢
      rw [b2] at c2 ⊢
      simp only [withB, Bool.and_eq_true, decide_eq_true_eq] at b1 b2
      have c3 := pc_fixed l h1 h2
      rw [if_pos (by rfl)]
      by_cases hF : (fixF l).2 = 0
      · rw [if_pos hF]
        rw [hF] at c3
        exact pc_ranOk l x z _ _ _ _ _ _ _ c0 c1 c2 c3 (pc_seen l x z) (pc_nSeen l x z b1 b2 h1 h2)
      · rw [if_neg hF]
        exact pc_ranFix l x z _ _ hF c0 c1 c2 c3
  · rw [if_neg hE]
    exact pc_ranBad l x z _ hE c0
end Go.Proofs.Try.My
set_option maxRecDepth 100000
set_option maxHeartbeats 0
set_option linter.unusedVariables false
set_option linter.unusedSimpArgs false
namespace Go.Proofs.Try.My
open Go Go.Ev

theorem cut_take {α : Type} (l : List α) (k : Nat) (h : k < 2 ^ 40) : (l.drop (Int.toNat 0)).take (IntKind.i64.wrap ((k : Int) + 1) - 0).toNat = l.take (k + 1) := by
  rw [w64 _ (by omega) (by omega)]
  show List.take _ (List.drop 0 l) = _
  rw [List.drop_zero]
  congr 1
theorem pc_badBad (l : List SpT) (E : Int) (hE : E ≠ 0) (c0 : PC Try.prog 19 [vws l] (i64 E)) : PC Try.prog 13 [vws l] (.tup [i64 0, i64 E]) := by
  refine pc_of_bodyF hm Try.func13 (by kernel_rfl) ?_
  conv => whnf
  (repeat' (first | (refine ⟨_, by first | with_reducible exact c0, ?_⟩; (conv => whnf)) | (refine Or.inl ?_; (conv => whnf); refine ⟨_, by first | with_reducible exact c0, ?_⟩; (conv => whnf)) | (refine Or.inl ?_; (conv => whnf); refine ⟨false, ?_⟩; (conv => whnf); refine ⟨_, by first | with_reducible exact c0, ?_⟩; (conv => whnf)) | (refine ⟨by kernel_rfl, ?_⟩; (conv => whnf)) | (refine ⟨fun _ => ?_, fun h => absurd h (by first | decide | (simp; done) | fail)⟩; (conv => whnf)) | (refine ⟨fun h => absurd h (by first | decide | (simp; done) | fail), fun _ => ?_⟩; (conv => whnf)) | ((with_reducible refine And.intro (a := _ = true → _) (b := _ = false → _) (fun hh => ?_) (fun hh => ?_)) <;> (try simp only [decide_eq_true_eq, decide_eq_false_iff_not, Bool.or_eq_true, Bool.and_eq_true, Bool.or_eq_false_iff, Bool.and_eq_false_iff, Bool.not_eq_true', Bool.not_eq_false', ge_iff_le, gt_iff_lt] at hh) <;> (first | (exfalso; omega) | (conv => whnf))) | fail))
theorem pc_badOk (l : List SpT) (hl : l.length ≤ 12) (hv : ∀ i, i < l.length → viewB (l.getD i z4) = true) (c0 : PC Try.prog 19 [vws l] (i64 0)) : PC Try.prog 13 [vws l] (.tup [i64 (badI l), i64 0]) := by
  refine pc_of_bodyF hm Try.func13 (by kernel_rfl) ?_
  conv => whnf
  (repeat' (first | (refine ⟨_, by first | with_reducible exact c0, ?_⟩; (conv => whnf)) | (refine Or.inl ?_; (conv => whnf); refine ⟨_, by first | with_reducible exact c0, ?_⟩; (conv => whnf)) | (refine Or.inl ?_; (conv => whnf); refine ⟨false, ?_⟩; (conv => whnf); refine ⟨_, by first | with_reducible exact c0, ?_⟩; (conv => whnf)) | (refine ⟨by kernel_rfl, ?_⟩; (conv => whnf)) | (refine ⟨fun _ => ?_, fun h => absurd h (by first | decide | (simp; done) | fail)⟩; (conv => whnf)) | (refine ⟨fun h => absurd h (by first | decide | (simp; done) | fail), fun _ => ?_⟩; (conv => whnf)) | ((with_reducible refine And.intro (a := _ = true → _) (b := _ = false → _) (fun hh => ?_) (fun hh => ?_)) <;> (try simp only [decide_eq_true_eq, decide_eq_false_iff_not, Bool.or_eq_true, Bool.and_eq_true, Bool.or_eq_false_iff, Bool.and_eq_false_iff, Bool.not_eq_true', Bool.not_eq_false', ge_iff_le, gt_iff_lt] at hh) <;> (first | (exfalso; omega) | (conv => whnf))) | fail))
  refine Or.inr ⟨Nat, [13], [], [], fun i => [i64 i], fun _ => [], fun _ => [], fun i => l.length - i, fun i => i ≤ l.length ∧ ∀ j, j < i → agrF (l.take (j + 1)) = true, ?_⟩
  (conv => whnf)
  refine ⟨⟨0, ?_⟩, ?_⟩
  · (conv => whnf)
    exact ⟨⟨⟨Nat.zero_le _, fun j hj => absurd hj (Nat.not_lt_zero j)⟩, rfl, rfl, rfl⟩, by kernel_rfl, by kernel_rfl⟩
  · intro i hi
    (conv => whnf)
    refine ⟨fun h => ?_, fun h => ?_⟩
    · have h := of_decide_eq_true h
      have h' : i < l.length := Int.ofNat_lt.1 h
      have ca := pc_agree (l.take (i + 1)) (by rw [List.length_take]; omega) (take_views hv (i + 1))
      have w1 : IntKind.i64.wrap ((i : Int) + 1) = ((i + 1 : Nat) : Int) := by rw [w64 _ (by omega) (by omega)]; rfl
      generalize hA : agrF (l.take (i + 1)) = A at ca
      rw [← cut_take l i (by omega)] at ca
      (conv => whnf)
      (repeat' (first | (refine ⟨by kernel_rfl, ?_⟩; (conv => whnf)) | fail))
      refine ⟨⟨by omega, by rw [w1]; omega, by rw [w1]; omega⟩, ?_⟩
      (conv => whnf)
      (repeat' (first | (refine ⟨_, by first | with_reducible exact ca, ?_⟩; (conv => whnf)) | (refine Or.inl ?_; (conv => whnf); refine ⟨_, by first | with_reducible exact ca, ?_⟩; (conv => whnf)) | (refine Or.inl ?_; (conv => whnf); refine ⟨false, ?_⟩; (conv => whnf); refine ⟨_, by first | with_reducible exact ca, ?_⟩; (conv => whnf)) | (refine ⟨by kernel_rfl, ?_⟩; (conv => whnf)) | fail))
      cases A
      · have e := badI_hit h' hA hi.2
        (repeat' (first | (refine ⟨by kernel_rfl, ?_⟩; (conv => whnf)) | (refine ⟨fun _ => ?_, fun h => absurd h (by first | decide | (simp; done) | fail)⟩; (conv => whnf)) | (refine ⟨fun h => absurd h (by first | decide | (simp; done) | fail), fun _ => ?_⟩; (conv => whnf)) | fail))
        rw [e]
      · (repeat' (first | (refine ⟨by kernel_rfl, ?_⟩; (conv => whnf)) | (refine ⟨fun _ => ?_, fun h => absurd h (by first | decide | (simp; done) | fail)⟩; (conv => whnf)) | (refine ⟨fun h => absurd h (by first | decide | (simp; done) | fail), fun _ => ?_⟩; (conv => whnf)) | fail))
        refine ⟨i + 1, ?_⟩
        (conv => whnf)
        refine ⟨⟨⟨Nat.sub_lt_sub_left (by omega) (Nat.lt_succ_self i), by omega, fun j hj => ?_⟩, ?_, rfl, rfl⟩, by kernel_rfl, by kernel_rfl⟩
        · by_cases e : j = i
          · subst e; exact hA
          · exact hi.2 j (by omega)
        · rw [w64 _ (by omega) (by omega)]; rfl
    · have h := of_decide_eq_false h
      obtain rfl : i = l.length := by omega
      have e := badI_none hi.2
      (conv => whnf)
      rw [e]
theorem pc_FirstBad (l : List SpT) (hl : l.length < 2 ^ 39) : PC Try.prog 13 [vws l] (.tup [i64 (badF l).1, i64 (badF l).2]) := by
  have c0 := pc_CheckViews l hl
  unfold badF
  by_cases hE : viewsE l = 0
  · obtain ⟨h1, h2⟩ := viewsE_ok hE
    rw [if_pos hE]
    rw [hE] at c0
    exact pc_badOk l h1 h2 c0
  · rw [if_neg hE]
    exact pc_badBad l _ hE c0
end Go.Proofs.Try.My
