/- A helper text: contracts of functions of the program, and plain lemmas. -/
import Derived.Test.YtnoahgjfeablgaaGreatEvSix
import Derived.Test.YtnoahgjfeablgaaGreatMzBp8
set_option maxRecDepth 100000
set_option maxHeartbeats 0
set_option linter.unusedVariables false
set_option linter.unusedSimpArgs false
namespace Go.Proofs.Tryz.My
open Go Go.Ev
def tY (is : Bool) : EntT := ⟨1, 0, 2, [0, 0], 2, is⟩
def tRet : BooksT := ⟨2, [2, 2, 3, 1], [⟨0, plainG 1 3, [1, 2], 4⟩], 2, [tX 0 1 true, tY true]⟩
theorem pc_RecipeExamples : PC Tryz.prog 9 [] (.bool true) := by
  have t := pc_team
  have al := pc_alive
  have d := pc_dark
  have n0 : PC Tryz.prog 45 [i64 0] (.tup [newB 0, i64 2]) := pc_New 0
  have n33 : PC Tryz.prog 45 [i64 33] (.tup [newB 0, i64 2]) := pc_New 33
  have g0 : PC Tryz.prog 25 [bks tB7, i64 2, i64 0] (.tup [newB 0, i64 100]) := pc_ActivateBad tB7 (okS (by kernel_rfl)) 2 0 (by decide +kernel)
  have h0 : PC Tryz.prog 25 [bks tB7, i64 4, i64 0] (.tup [newB 0, i64 6]) := pc_ActivateBad tB7 (okS (by kernel_rfl)) 4 0 (by decide +kernel)
  have i0 : PC Tryz.prog 25 [bks tB7, i64 0, i64 0] (.tup [bks (tL 0 []), i64 0]) := pc_ActivateOk tB7 (okS (by kernel_rfl)) 0 0 (by kernel_rfl)
  have j0 : PC Tryz.prog 29 [bks (tL 0 [])] (.tup [i64 0, i64 0]) := pc_Active (tL 0 []) (okS (by kernel_rfl))
  have k0 : PC Tryz.prog 25 [bks (tL 0 []), i64 0, i64 0] (.tup [newB 0, i64 101]) := pc_ActivateBad (tL 0 []) (okS (by kernel_rfl)) 0 0 (by decide +kernel)
  have l0 : PC Tryz.prog 23 [bks (tL 0 []), i64 2, i64 0] (.tup [newB 0, i64 100]) := pc_ApproveBad (tL 0 []) (okS (by kernel_rfl)) 2 0 (by decide +kernel)
  have r1 : PC Tryz.prog 31 [bks (tL 0 []), i64 1, ints darkL] (.tup [bks (tL 1 [tX 0 1 false]), ent (tX 0 1 false), i64 0]) := pc_RecordOk (tL 0 []) (okS (by kernel_rfl)) 1 darkL (by decide) (by kernel_rfl)
  have r2' : PC Tryz.prog 31 [bks (tL 1 [tX 0 1 false]), i64 2, ints [0, 0]] (.tup [bks (tL 2 [tX 0 1 false, tY false]), ent (tY false), i64 0]) := pc_RecordOk (tL 1 [tX 0 1 false]) (okS (by kernel_rfl)) 2 [0, 0] (by decide) (by kernel_rfl)
  have r2 : PC Tryz.prog 31 [bks (tL 1 [tX 0 1 false]), i64 2, .slc 1 [[i64 0], [i64 0]]] (.tup [bks (tL 2 [tX 0 1 false, tY false]), ent (tY false), i64 0]) := by
    refine r2'.sub rfl (fun i hi => ?_) (.refl _)
    match i with
    | 0 => exact .refl _
    | 1 => exact .refl _
    | 2 => exact .slc 1 0 eI [0, 0]
    | (n + 3) => exact .refl _
  have d1 : PC Tryz.prog 34 [bks (tL 2 [tX 0 1 false, tY false]), i64 3, i64 0] (.tup [bks (tL 2 [tX 0 1 true, tY false]), i64 0]) := pc_DisputeOk (tL 2 [tX 0 1 false, tY false]) (okS (by kernel_rfl)) 3 0 (by kernel_rfl)
  have d2 : PC Tryz.prog 34 [bks (tL 2 [tX 0 1 true, tY false]), i64 0, i64 1] (.tup [bks (tL 2 [tX 0 1 true, tY true]), i64 0]) := pc_DisputeOk (tL 2 [tX 0 1 true, tY false]) (okS (by kernel_rfl)) 0 1 (by kernel_rfl)
  have r3 : PC Tryz.prog 31 [bks (tL 2 [tX 0 1 true, tY true]), i64 3, ints darkL] (.tup [newB 0, entZ, i64 9]) := pc_RecordBad (tL 2 [tX 0 1 true, tY true]) (okS (by kernel_rfl)) 3 darkL (by decide) (by decide +kernel)
  have s1 : PC Tryz.prog 36 [bks (tL 2 [tX 0 1 true, tY true]), i64 0, i64 1] (.tup [newB 0, i64 100]) := pc_SettleBad (tL 2 [tX 0 1 true, tY true]) (okS (by kernel_rfl)) 0 1 (by decide +kernel)
  have s2 : PC Tryz.prog 36 [bks (tL 2 [tX 0 1 true, tY true]), i64 2, i64 1] (.tup [bks (tL 2 [tX 0 1 true, tY false]), i64 0]) := pc_SettleOk (tL 2 [tX 0 1 true, tY true]) (okS (by kernel_rfl)) 2 1 (by kernel_rfl)
  have r4 : PC Tryz.prog 31 [bks (tL 2 [tX 0 1 true, tY false]), i64 3, ints darkL] (.tup [bks (tL 3 [tX 0 1 true, tX 2 3 false]), ent (tX 2 3 false), i64 0]) := pc_RecordOk (tL 2 [tX 0 1 true, tY false]) (okS (by kernel_rfl)) 3 darkL (by decide) (by kernel_rfl)
  have p1 : PC Tryz.prog 38 [bks (tL 2 [tX 0 1 true, tY true]), i64 1] (.tup [u8 2, i64 0]) := pc_Replay (tL 2 [tX 0 1 true, tY true]) (okS (by kernel_rfl)) 1
  have q1 : PC Tryz.prog 27 [bks (tL 2 [tX 0 1 true, tY true]), i64 1] (.tup [newB 0, i64 100]) := pc_RetireBad (tL 2 [tX 0 1 true, tY true]) (okS (by kernel_rfl)) 1 (by decide +kernel)
  have q2 : PC Tryz.prog 27 [bks (tL 2 [tX 0 1 true, tY true]), i64 2] (.tup [bks tRet, i64 0]) := pc_RetireOk (tL 2 [tX 0 1 true, tY true]) (okS (by kernel_rfl)) 2 (by kernel_rfl)
  have q3 : PC Tryz.prog 29 [bks tRet] (.tup [i64 0, i64 102]) := pc_Active tRet (okS (by kernel_rfl))
  have sq := pc_seqs2 3 (tX 0 1 true) (tX 2 3 false)
  refine pc_of_bodyF hm Tryz.func9 (by kernel_rfl) ?_
  conv => whnf
  (repeat' ((first | refine ansT ?_ | refine ansF ?_ | ((try (refine Or.inl ?_; (conv => whnf))); (try (refine ⟨false, ?_⟩; (conv => whnf))); refine ⟨_, by first | exact t | exact n0 | exact n33 | exact g0 | exact h0 | exact i0 | exact j0 | exact k0 | exact l0, ?_⟩) | refine ansD (by first | (simp [*]; done) | omega) ?_ | refine ansN (by first | (simp [*]; done) | omega) ?_ | refine ⟨by kernel_rfl, ?_⟩ | refine ansB (by decide) (by first | decide | (simp; done) | (simp only [List.length_cons, List.length_nil]; decide)) ?_ | fail); (conv => whnf)))
  (repeat' ((first | refine ansT ?_ | refine ansF ?_ | ((try (refine Or.inl ?_; (conv => whnf))); (try (refine ⟨false, ?_⟩; (conv => whnf))); refine ⟨_, by exact al, ?_⟩) | refine ansD (by first | (simp [*]; done) | omega) ?_ | refine ansN (by first | (simp [*]; done) | omega) ?_ | refine ⟨by kernel_rfl, ?_⟩ | refine ansB (by decide) (by first | decide | (simp; done) | (simp only [List.length_cons, List.length_nil]; decide)) ?_ | fail); (conv => whnf)))
  (repeat' ((first | refine ansT ?_ | refine ansF ?_ | ((try (refine Or.inl ?_; (conv => whnf))); (try (refine ⟨false, ?_⟩; (conv => whnf))); refine ⟨_, by first | exact d | exact r1, ?_⟩) | refine ansD (by first | (simp [*]; done) | omega) ?_ | refine ansN (by first | (simp [*]; done) | omega) ?_ | refine ⟨by kernel_rfl, ?_⟩ | refine ansB (by decide) (by first | decide | (simp; done) | (simp only [List.length_cons, List.length_nil]; decide)) ?_ | fail); (conv => whnf)))
  set_option pp.maxSteps 300 in trace_state
  ((first | refine Or.inl ?_ | skip); (conv => whnf); refine ⟨true, ?_⟩; (conv => whnf); refine ⟨_, r2, ?_⟩; (conv => whnf))
  (repeat' ((first | refine ansT ?_ | refine ansF ?_ | ((try (refine Or.inl ?_; (conv => whnf))); (try (refine ⟨false, ?_⟩; (conv => whnf))); refine ⟨_, by first | exact d1 | exact d2 | exact d | exact r3 | exact s1 | exact s2, ?_⟩) | refine ansD (by first | (simp [*]; done) | omega) ?_ | refine ansN (by first | (simp [*]; done) | omega) ?_ | refine ⟨by kernel_rfl, ?_⟩ | refine ansB (by decide) (by first | decide | (simp; done) | (simp only [List.length_cons, List.length_nil]; decide)) ?_ | fail); (conv => whnf)))
  (repeat' ((first | refine ansT ?_ | refine ansF ?_ | ((try (refine Or.inl ?_; (conv => whnf))); (try (refine ⟨false, ?_⟩; (conv => whnf))); refine ⟨_, by first | exact d | exact r4 | exact p1 | exact q1 | exact q2 | exact q3, ?_⟩) | refine ansD (by first | (simp [*]; done) | omega) ?_ | refine ansN (by first | (simp [*]; done) | omega) ?_ | refine ⟨by kernel_rfl, ?_⟩ | refine ansB (by decide) (by first | decide | (simp; done) | (simp only [List.length_cons, List.length_nil]; decide)) ?_ | fail); (conv => whnf)))
  (repeat' ((first | refine ansT ?_ | refine ansF ?_ | ((try (refine Or.inl ?_; (conv => whnf))); (try (refine ⟨false, ?_⟩; (conv => whnf))); refine ⟨_, by exact sq, ?_⟩) | refine ansD (by first | (simp [*]; done) | omega) ?_ | refine ansN (by first | (simp [*]; done) | omega) ?_ | refine ⟨by kernel_rfl, ?_⟩ | refine ansB (by decide) (by first | decide | (simp; done) | (simp only [List.length_cons, List.length_nil]; decide)) ?_ | fail); (conv => whnf)))
  all_goals (first | rfl | set_option pp.maxSteps 300 in trace_state)
end Go.Proofs.Tryz.My
