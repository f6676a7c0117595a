/- A helper text: contracts of functions of the program, and plain lemmas. -/
import Derived.Test.YtiimhccemdcnpaaEvSix
import Derived.Test.YtiimhccemdcnpaaMyLvC
import Derived.Test.YtiimhccemdcnpaaMyLvD
import Derived.Test.YtiimhccemdcnpaaMyLvA
set_option maxRecDepth 100000
set_option maxHeartbeats 0
set_option linter.unusedVariables false
set_option linter.unusedSimpArgs false
namespace Go.Proofs.Try.My
open Go Go.Ev

theorem pc_nFocal (l : List SpT) (hl : l.length ≤ 12) (hv : ∀ i, i < l.length → viewB (l.getD i z4) = true) : PC Try.prog 50 [.fn (.func 84) [] [.pt [vws l] 0]] (.tup [sp (narF (focL l)).1, .bool (narF (focL l)).2.1, .bool (narF (focL l)).2.2]) :=
  pc_narrowed3 84 l (focL l) (mem_okB (focL_ok (views_mem hv))) (sq_focal l hl hv)
theorem pc_nSeen (l : List SpT) (x z : Int) (hx : -1000 ≤ x ∧ x ≤ 1000) (hz : 1 ≤ z ∧ z ≤ 1000) (hl : l.length ≤ 12) (hv : ∀ i, i < l.length → viewB (l.getD i z4) = true) :
    PC Try.prog 50 [.fn (.func 73) [] [.pt [vws l] 0, .pt [i64 z] 0, .pt [i64 x] 0]] (.tup [sp (narF (seeL l x z)).1, .bool (narF (seeL l x z)).2.1, .bool (narF (seeL l x z)).2.2]) :=
  pc_narrowed4 73 l x z (seeL l x z) (mem_okB (seeL_ok hx hz (views_mem hv))) (sq_seen l x z hx hz hl hv)
theorem pc_agree (l : List SpT) (hl : l.length ≤ 12) (hv : ∀ i, i < l.length → viewB (l.getD i z4) = true) : PC Try.prog 69 [vws l] (.bool (agrF l)) := by
  have c1 := pc_focal l
  have c2 := pc_nFocal l hl hv
  have c3 := pc_seen l 0 1
  have c4 := pc_nSeen l 0 1 (by omega) (by omega) hl hv
  unfold agrF
  generalize narF (focL l) = F at *
  generalize narF (seeL l 0 1) = U at *
  obtain ⟨⟨⟨F1, F2⟩, ⟨F3, F4⟩⟩, f1, f2⟩ := F
  obtain ⟨⟨⟨U1, U2⟩, ⟨U3, U4⟩⟩, u1, u2⟩ := U
  refine pc_of_bodyF hm Try.func69 (by kernel_rfl) ?_
  conv => whnf
  (repeat' (first | (refine ⟨_, by first | with_reducible exact c1 | with_reducible exact c2 | with_reducible exact c3 | with_reducible exact c4, ?_⟩; (conv => whnf)) | (refine Or.inl ?_; (conv => whnf); refine ⟨_, by first | with_reducible exact c1 | with_reducible exact c2 | with_reducible exact c3 | with_reducible exact c4, ?_⟩; (conv => whnf)) | (refine Or.inl ?_; (conv => whnf); refine ⟨false, ?_⟩; (conv => whnf); refine ⟨_, by first | with_reducible exact c1 | with_reducible exact c2 | with_reducible exact c3 | with_reducible exact c4, ?_⟩; (conv => whnf)) | (refine ⟨by kernel_rfl, ?_⟩; (conv => whnf)) | (refine ⟨fun _ => ?_, fun h => absurd h (by first | decide | (simp; done) | fail)⟩; (conv => whnf)) | (refine ⟨fun h => absurd h (by first | decide | (simp; done) | fail), fun _ => ?_⟩; (conv => whnf)) | ((with_reducible refine And.intro (a := _ = true → _) (b := _ = false → _) (fun hh => ?_) (fun hh => ?_)) <;> (try simp only [decide_eq_true_eq, decide_eq_false_iff_not, Bool.or_eq_true, Bool.and_eq_true, Bool.or_eq_false_iff, Bool.and_eq_false_iff, Bool.not_eq_true', Bool.not_eq_false', ge_iff_le, gt_iff_lt] at hh) <;> (first | (exfalso; omega) | (conv => whnf))) | fail))
  all_goals (first | rfl | (simp [*]; done))
theorem pc_fixed (l : List SpT) (hl : l.length ≤ 12) (hv : ∀ i, i < l.length → viewB (l.getD i z4) = true) : PC Try.prog 49 [vws l] (.tup [sp (fixF l).1, i64 (fixF l).2]) := by
  have c0 := pc_agree l hl hv
  have c1 := pc_focal l
  have c2 := pc_nFocal l hl hv
  unfold fixF
  generalize narF (focL l) = F at *
  generalize agrF l = A at *
  obtain ⟨⟨⟨F1, F2⟩, ⟨F3, F4⟩⟩, f1, f2⟩ := F
  cases A
  · refine pc_of_bodyF hm Try.func49 (by kernel_rfl) ?_
    conv => whnf
    (repeat' (first | (refine ⟨_, by first | with_reducible exact c0, ?_⟩; (conv => whnf)) | (refine Or.inl ?_; (conv => whnf); refine ⟨_, by first | with_reducible exact c0, ?_⟩; (conv => whnf)) | (refine Or.inl ?_; (conv => whnf); refine ⟨false, ?_⟩; (conv => whnf); refine ⟨_, by first | with_reducible exact c0, ?_⟩; (conv => whnf)) | (refine ⟨by kernel_rfl, ?_⟩; (conv => whnf)) | (refine ⟨fun _ => ?_, fun h => absurd h (by first | decide | (simp; done) | fail)⟩; (conv => whnf)) | (refine ⟨fun h => absurd h (by first | decide | (simp; done) | fail), fun _ => ?_⟩; (conv => whnf)) | ((with_reducible refine And.intro (a := _ = true → _) (b := _ = false → _) (fun hh => ?_) (fun hh => ?_)) <;> (try simp only [decide_eq_true_eq, decide_eq_false_iff_not, Bool.or_eq_true, Bool.and_eq_true, Bool.or_eq_false_iff, Bool.and_eq_false_iff, Bool.not_eq_true', Bool.not_eq_false', ge_iff_le, gt_iff_lt] at hh) <;> (first | (exfalso; omega) | (conv => whnf))) | fail))
    all_goals rfl
  cases f2
  · refine pc_of_bodyF hm Try.func49 (by kernel_rfl) ?_
    conv => whnf
    (repeat' (first | (refine ⟨_, by first | with_reducible exact c0 | with_reducible exact c1 | with_reducible exact c2, ?_⟩; (conv => whnf)) | (refine Or.inl ?_; (conv => whnf); refine ⟨_, by first | with_reducible exact c0 | with_reducible exact c1 | with_reducible exact c2, ?_⟩; (conv => whnf)) | (refine Or.inl ?_; (conv => whnf); refine ⟨false, ?_⟩; (conv => whnf); refine ⟨_, by first | with_reducible exact c0 | with_reducible exact c1 | with_reducible exact c2, ?_⟩; (conv => whnf)) | (refine ⟨by kernel_rfl, ?_⟩; (conv => whnf)) | (refine ⟨fun _ => ?_, fun h => absurd h (by first | decide | (simp; done) | fail)⟩; (conv => whnf)) | (refine ⟨fun h => absurd h (by first | decide | (simp; done) | fail), fun _ => ?_⟩; (conv => whnf)) | ((with_reducible refine And.intro (a := _ = true → _) (b := _ = false → _) (fun hh => ?_) (fun hh => ?_)) <;> (try simp only [decide_eq_true_eq, decide_eq_false_iff_not, Bool.or_eq_true, Bool.and_eq_true, Bool.or_eq_false_iff, Bool.and_eq_false_iff, Bool.not_eq_true', Bool.not_eq_false', ge_iff_le, gt_iff_lt] at hh) <;> (first | (exfalso; omega) | (conv => whnf))) | fail))
    all_goals rfl
  · refine pc_of_bodyF hm Try.func49 (by kernel_rfl) ?_
    conv => whnf
    (repeat' (first | (refine ⟨_, by first | with_reducible exact c0 | with_reducible exact c1 | with_reducible exact c2, ?_⟩; (conv => whnf)) | (refine Or.inl ?_; (conv => whnf); refine ⟨_, by first | with_reducible exact c0 | with_reducible exact c1 | with_reducible exact c2, ?_⟩; (conv => whnf)) | (refine Or.inl ?_; (conv => whnf); refine ⟨false, ?_⟩; (conv => whnf); refine ⟨_, by first | with_reducible exact c0 | with_reducible exact c1 | with_reducible exact c2, ?_⟩; (conv => whnf)) | (refine ⟨by kernel_rfl, ?_⟩; (conv => whnf)) | (refine ⟨fun _ => ?_, fun h => absurd h (by first | decide | (simp; done) | fail)⟩; (conv => whnf)) | (refine ⟨fun h => absurd h (by first | decide | (simp; done) | fail), fun _ => ?_⟩; (conv => whnf)) | ((with_reducible refine And.intro (a := _ = true → _) (b := _ = false → _) (fun hh => ?_) (fun hh => ?_)) <;> (try simp only [decide_eq_true_eq, decide_eq_false_iff_not, Bool.or_eq_true, Bool.and_eq_true, Bool.or_eq_false_iff, Bool.and_eq_false_iff, Bool.not_eq_true', Bool.not_eq_false', ge_iff_le, gt_iff_lt] at hh) <;> (first | (exfalso; omega) | (conv => whnf))) | fail))
    all_goals rfl
theorem pc_calBad (l : List SpT) (E : Int) (hE : E ≠ 0) (c0 : PC Try.prog 48 [vws l] (i64 E)) : PC Try.prog 26 [vws l] (.tup [cam (z4, z4), i64 E]) := by
  refine pc_of_bodyF hm Try.func26 (by kernel_rfl) ?_
  conv => whnf
  (repeat' (first | (refine ⟨_, by first | with_reducible exact c0, ?_⟩; (conv => whnf)) | (refine Or.inl ?_; (conv => whnf); refine ⟨_, by first | with_reducible exact c0, ?_⟩; (conv => whnf)) | (refine Or.inl ?_; (conv => whnf); refine ⟨false, ?_⟩; (conv => whnf); refine ⟨_, by first | with_reducible exact c0, ?_⟩; (conv => whnf)) | (refine ⟨by kernel_rfl, ?_⟩; (conv => whnf)) | (refine ⟨fun _ => ?_, fun h => absurd h (by first | decide | (simp; done) | fail)⟩; (conv => whnf)) | (refine ⟨fun h => absurd h (by first | decide | (simp; done) | fail), fun _ => ?_⟩; (conv => whnf)) | ((with_reducible refine And.intro (a := _ = true → _) (b := _ = false → _) (fun hh => ?_) (fun hh => ?_)) <;> (try simp only [decide_eq_true_eq, decide_eq_false_iff_not, Bool.or_eq_true, Bool.and_eq_true, Bool.or_eq_false_iff, Bool.and_eq_false_iff, Bool.not_eq_true', Bool.not_eq_false', ge_iff_le, gt_iff_lt] at hh) <;> (first | (exfalso; omega) | (conv => whnf))) | fail))
theorem pc_calFix (l : List SpT) (S : SpT) (E : Int) (hE : E ≠ 0) (c0 : PC Try.prog 48 [vws l] (i64 0)) (c1 : PC Try.prog 49 [vws l] (.tup [sp S, i64 E])) : PC Try.prog 26 [vws l] (.tup [cam (z4, z4), i64 E]) := by
  refine pc_of_bodyF hm Try.func26 (by kernel_rfl) ?_
  conv => whnf
  (repeat' (first | (refine ⟨_, by first | with_reducible exact c0 | with_reducible exact c1, ?_⟩; (conv => whnf)) | (refine Or.inl ?_; (conv => whnf); refine ⟨_, by first | with_reducible exact c0 | with_reducible exact c1, ?_⟩; (conv => whnf)) | (refine Or.inl ?_; (conv => whnf); refine ⟨false, ?_⟩; (conv => whnf); refine ⟨_, by first | with_reducible exact c0 | with_reducible exact c1, ?_⟩; (conv => whnf)) | (refine ⟨by kernel_rfl, ?_⟩; (conv => whnf)) | (refine ⟨fun _ => ?_, fun h => absurd h (by first | decide | (simp; done) | fail)⟩; (conv => whnf)) | (refine ⟨fun h => absurd h (by first | decide | (simp; done) | fail), fun _ => ?_⟩; (conv => whnf)) | ((with_reducible refine And.intro (a := _ = true → _) (b := _ = false → _) (fun hh => ?_) (fun hh => ?_)) <;> (try simp only [decide_eq_true_eq, decide_eq_false_iff_not, Bool.or_eq_true, Bool.and_eq_true, Bool.or_eq_false_iff, Bool.and_eq_false_iff, Bool.not_eq_true', Bool.not_eq_false', ge_iff_le, gt_iff_lt] at hh) <;> (first | (exfalso; omega) | (conv => whnf))) | fail))
theorem pc_calOk (l : List SpT) (S1 S2 S3 S4 U1 U2 U3 U4 : Int) (u1 u2 : Bool) (c0 : PC Try.prog 48 [vws l] (i64 0)) (c1 : PC Try.prog 49 [vws l] (.tup [sp ((S1, S2), (S3, S4)), i64 0]))
    (c2 : PC Try.prog 51 [vws l, i64 0, i64 1] (.fn (.func 73) [] [.pt [vws l] 0, .pt [i64 1] 0, .pt [i64 0] 0]))
    (c3 : PC Try.prog 50 [.fn (.func 73) [] [.pt [vws l] 0, .pt [i64 1] 0, .pt [i64 0] 0]] (.tup [sp ((U1, U2), (U3, U4)), .bool u1, .bool u2])) :
    PC Try.prog 26 [vws l] (.tup [cam (((S1, S2), (S3, S4)), ((U1, U2), (U3, U4))), i64 0]) := by
  refine pc_of_bodyF hm Try.func26 (by kernel_rfl) ?_
  conv => whnf
  (repeat' (first | (refine ⟨_, by first | with_reducible exact c0 | with_reducible exact c1 | with_reducible exact c2 | with_reducible exact c3, ?_⟩; (conv => whnf)) | (refine Or.inl ?_; (conv => whnf); refine ⟨_, by first | with_reducible exact c0 | with_reducible exact c1 | with_reducible exact c2 | with_reducible exact c3, ?_⟩; (conv => whnf)) | (refine Or.inl ?_; (conv => whnf); refine ⟨false, ?_⟩; (conv => whnf); refine ⟨_, by first | with_reducible exact c0 | with_reducible exact c1 | with_reducible exact c2 | with_reducible exact c3, ?_⟩; (conv => whnf)) | (refine ⟨by kernel_rfl, ?_⟩; (conv => whnf)) | (refine ⟨fun _ => ?_, fun h => absurd h (by first | decide | (simp; done) | fail)⟩; (conv => whnf)) | (refine ⟨fun h => absurd h (by first | decide | (simp; done) | fail), fun _ => ?_⟩; (conv => whnf)) | ((with_reducible refine And.intro (a := _ = true → _) (b := _ = false → _) (fun hh => ?_) (fun hh => ?_)) <;> (try simp only [decide_eq_true_eq, decide_eq_false_iff_not, Bool.or_eq_true, Bool.and_eq_true, Bool.or_eq_false_iff, Bool.and_eq_false_iff, Bool.not_eq_true', Bool.not_eq_false', ge_iff_le, gt_iff_lt] at hh) <;> (first | (exfalso; omega) | (conv => whnf))) | fail))
theorem pc_Calibrate (l : List SpT) (hl : l.length < 2 ^ 39) : PC Try.prog 26 [vws l] (.tup [cam (calF l).1, i64 (calF l).2]) := by
  have c0 := pc_CheckViews l hl
  unfold calF
  by_cases hE : viewsE l = 0
  · obtain ⟨h1, h2⟩ := viewsE_ok hE
    rw [if_pos hE]
    rw [hE] at c0
    have c1 := pc_fixed l h1 h2
    by_cases hF : (fixF l).2 = 0
    · rw [if_pos hF]
      rw [hF] at c1
      exact pc_calOk l _ _ _ _ _ _ _ _ _ _ c0 c1 (pc_seen l 0 1) (pc_nSeen l 0 1 (by omega) (by omega) h1 h2)
    · rw [if_neg hF]
      exact pc_calFix l _ _ hF c0 c1
  · rw [if_neg hE]
    exact pc_calBad l _ hE c0
end Go.Proofs.Try.My
set_option maxRecDepth 100000
set_option maxHeartbeats 0
set_option linter.unusedVariables false
set_option linter.unusedSimpArgs false
namespace Go.Proofs.Try.My
open Go Go.Ev

theorem cut_take {α : Type} (l : List α) (k : Nat) (h : k < 2 ^ 40) : (l.drop (Int.toNat 0)).take (IntKind.i64.wrap ((k : Int) + 1) - 0).toNat = l.take (k + 1) := by
  rw [w64 _ (by omega) (by omega)]
  show List.take _ (List.drop 0 l) = _
  rw [List.drop_zero]
  congr 1
end Go.Proofs.Try.My
