/- A helper text: contracts of functions of the program, and plain lemmas. -/
import Derived.Test.YtnoahgjfeablgaaGreatEvSix
import Derived.Test.YtnoahgjfeablgaaGreatMzBpC
set_option maxRecDepth 100000
set_option maxHeartbeats 0
set_option linter.unusedVariables false
set_option linter.unusedSimpArgs false
namespace Go.Proofs.Tryz.My
open Go Go.Ev
def darkL : List Int := [0, 0, 100, 100, 0]
def plainG (lo hi : Int) : GauT := ((((50, 0), ((1, 1), (1, 1))), (lo, 1)), (hi, 1))
def tB0 : BooksT := ⟨2, [], [], 0, []⟩
def tB1 : BooksT := ⟨2, [2], [], 0, []⟩
def tB2 : BooksT := ⟨2, [2, 2], [], 0, []⟩
def tB3 : BooksT := ⟨2, [2, 2, 3], [], 0, []⟩
def tB4 : BooksT := ⟨2, [2, 2, 3, 1], [], 0, []⟩
def tB5 : BooksT := ⟨2, [2, 2, 3, 1], [⟨0, plainG 1 3, [], 1⟩], 0, []⟩
def tB6 : BooksT := ⟨2, [2, 2, 3, 1], [⟨0, plainG 1 3, [1], 1⟩], 0, []⟩
def tB7 : BooksT := ⟨2, [2, 2, 3, 1], [⟨0, plainG 1 3, [1, 2], 2⟩], 0, []⟩
def tB8 : BooksT := ⟨2, [2, 2, 3, 1], [⟨0, plainG 1 3, [1, 2], 3⟩], 0, []⟩
def tX (q part : Int) (is : Bool) : EntT := ⟨q, 0, part, darkL, 1, is⟩
def tL (next : Int) (l : List EntT) : BooksT := ⟨2, [2, 2, 3, 1], [⟨0, plainG 1 3, [1, 2], 3⟩], next, l⟩
theorem sub_new (k : Int) : Sub (newB k) (bks ⟨k, [], [], 0, []⟩) := by
  refine (sub_list (xs := [i64 k, .nils, .nils, i64 0, .nils]) (ys := eB ⟨k, [], [], 0, []⟩) rfl fun i hi => ?_).1
  match i with
  | 0 => exact .refl _
  | 1 => exact .nils _ _ _
  | 2 => exact .nils _ _ _
  | 3 => exact .refl _
  | 4 => exact .nils _ _ _
  | (n + 5) => exact .refl _
theorem pc_dark : PC Tryz.prog 46 [] (ints darkL) := by
  have c : PC Tryz.prog 46 [] (.slc 1 [[i64 0], [i64 0], [i64 100], [i64 100], [i64 0]]) := by
    refine pc_of_bodyF hm Tryz.func46 (by kernel_rfl) ?_
    conv => whnf
    first | rfl | set_option pp.maxSteps 300 in trace_state
  exact c.sub rfl (fun i hi => absurd hi (Nat.not_lt_zero i)) (.slc 1 0 eI darkL)
theorem pc_plain (lo hi : Int) : PC Tryz.prog 93 [i64 lo, i64 hi] (gau (plainG lo hi)) := by
  refine pc_of_bodyF hm Tryz.func93 (by kernel_rfl) ?_
  conv => whnf
  first | rfl | set_option pp.maxSteps 300 in trace_state
theorem pc_New2 : PC Tryz.prog 45 [i64 2] (.tup [bks tB0, i64 0]) := by
  have c := pc_New 2
  refine c.sub rfl (fun i hi => .refl _) (sub_list (xs := [newB 2, i64 0]) (ys := [bks tB0, i64 0]) rfl fun i hi => ?_).2
  match i with
  | 0 => exact sub_new 2
  | 1 => exact .refl _
  | (n + 2) => exact .refl _
theorem okS {b : BooksT} (h : smallB b = true) : Okay b := by
  obtain ⟨h1, h2, h3, h4, h5⟩ := small_known h
  exact ⟨by omega, by omega, by omega, fun i => by have := h4 i; omega, fun i => by have := h5 i; omega⟩
theorem pc_team : PC Tryz.prog 44 [] (.tup [bks tB7, .bool true]) := by
  have a0 := pc_New2
  have a1 : PC Tryz.prog 17 [bks tB0, u8 2] (.tup [bks tB1, i64 0, i64 0]) := pc_AddUserOk tB0 (okS (by kernel_rfl)) 2 (by kernel_rfl)
  have a2 : PC Tryz.prog 17 [bks tB1, u8 2] (.tup [bks tB2, i64 1, i64 0]) := pc_AddUserOk tB1 (okS (by kernel_rfl)) 2 (by kernel_rfl)
  have a3 : PC Tryz.prog 17 [bks tB2, u8 3] (.tup [bks tB3, i64 2, i64 0]) := pc_AddUserOk tB2 (okS (by kernel_rfl)) 3 (by kernel_rfl)
  have a4 : PC Tryz.prog 17 [bks tB3, u8 1] (.tup [bks tB4, i64 3, i64 0]) := pc_AddUserOk tB3 (okS (by kernel_rfl)) 1 (by kernel_rfl)
  have d := pc_plain 1 3
  have a5 : PC Tryz.prog 19 [bks tB4, i64 0, gau (plainG 1 3)] (.tup [bks tB5, i64 0, i64 0]) := pc_DraftOk tB4 (okS (by kernel_rfl)) 0 (plainG 1 3) (by kernel_rfl)
  have b1 : PC Tryz.prog 23 [bks tB5, i64 0, i64 0] (.tup [newB 0, i64 100]) := pc_ApproveBad tB5 (okS (by kernel_rfl)) 0 0 (by decide +kernel)
  have b2 : PC Tryz.prog 23 [bks tB5, i64 3, i64 0] (.tup [newB 0, i64 100]) := pc_ApproveBad tB5 (okS (by kernel_rfl)) 3 0 (by decide +kernel)
  have b3 : PC Tryz.prog 23 [bks tB5, i64 1, i64 0] (.tup [bks tB6, i64 0]) := pc_ApproveOk tB5 (okS (by kernel_rfl)) 1 0 (by kernel_rfl)
  have b4 : PC Tryz.prog 23 [bks tB6, i64 2, i64 0] (.tup [bks tB7, i64 0]) := pc_ApproveOk tB6 (okS (by kernel_rfl)) 2 0 (by kernel_rfl)
  refine pc_of_bodyF hm Tryz.func44 (by kernel_rfl) ?_
  conv => whnf
  (repeat' ((first | refine ansT ?_ | refine ansF ?_ | ((try (refine Or.inl ?_; (conv => whnf))); (try (refine ⟨false, ?_⟩; (conv => whnf))); refine ⟨_, by exact a0, ?_⟩) | refine ansD (by first | (simp [*]; done) | omega) ?_ | refine ansN (by first | (simp [*]; done) | omega) ?_ | refine ⟨by kernel_rfl, ?_⟩ | refine ansB (by decide) (by first | decide | (simp; done) | (simp only [List.length_cons, List.length_nil]; decide)) ?_ | fail); (conv => whnf)))
  refine Or.inl ⟨5, ?_⟩
  (conv => whnf)
  (repeat' ((first | refine ansT ?_ | refine ansF ?_ | ((try (refine Or.inl ?_; (conv => whnf))); (try (refine ⟨false, ?_⟩; (conv => whnf))); refine ⟨_, by first | exact a1 | exact a2 | exact a3 | exact a4, ?_⟩) | refine ansD (by first | (simp [*]; done) | omega) ?_ | refine ansN (by first | (simp [*]; done) | omega) ?_ | refine ⟨by kernel_rfl, ?_⟩ | refine ansB (by decide) (by first | decide | (simp; done) | (simp only [List.length_cons, List.length_nil]; decide)) ?_ | fail); (conv => whnf)))
  (repeat' ((first | refine ansT ?_ | refine ansF ?_ | ((try (refine Or.inl ?_; (conv => whnf))); (try (refine ⟨false, ?_⟩; (conv => whnf))); refine ⟨_, by first | exact d | exact a5 | exact b1 | exact b2 | exact b3 | exact b4, ?_⟩) | refine ansD (by first | (simp [*]; done) | omega) ?_ | refine ansN (by first | (simp [*]; done) | omega) ?_ | refine ⟨by kernel_rfl, ?_⟩ | refine ansB (by decide) (by first | decide | (simp; done) | (simp only [List.length_cons, List.length_nil]; decide)) ?_ | fail); (conv => whnf)))
  all_goals (first | rfl | set_option pp.maxSteps 300 in trace_state)
theorem ansM {p A B : Prop} [Decidable p] (h : p) (b : B) : ((!decide p) = true → A) ∧ ((!decide p) = false → B) := ⟨fun q => (by rw [decide_eq_true h] at q; cases q), fun _ => b⟩
theorem pc_seqs2 (n : Int) (x y : EntT) : PC Tryz.prog 47 [bks (tL n [x, y]), .slc 1 [[i64 x.seq], [i64 y.seq]]] (.bool true) := by
  show PC Tryz.prog 47 [bks ⟨2, [2, 2, 3, 1], [⟨0, plainG 1 3, [1, 2], 3⟩], n, [x, y]⟩, .slc 1 [[i64 x.seq], [i64 y.seq]]] (.bool true)
  refine pc_of_bodyF hm Tryz.func47 (by kernel_rfl) ?_
  conv => whnf
  (repeat' ((first | refine ansT ?_ | refine ansF ?_ | refine ansD (by first | (simp [*]; done) | omega) ?_ | refine ansN (by first | (simp [*]; done) | omega) ?_ | refine ⟨by kernel_rfl, ?_⟩ | refine ansB (by decide) (by first | decide | (simp; done) | (simp only [List.length_cons, List.length_nil]; decide)) ?_ | fail); (conv => whnf)))
  refine Or.inl ⟨3, ?_⟩
  (conv => whnf)
  (repeat' ((first | refine ansT ?_ | refine ansF ?_ | refine ansD (by first | (simp [*]; done) | omega) ?_ | refine ansN (by first | (simp [*]; done) | omega) ?_ | refine ⟨by kernel_rfl, ?_⟩ | refine ansB (by decide) (by first | decide | (simp; done) | (simp only [List.length_cons, List.length_nil]; decide)) ?_ | fail); (conv => whnf)))
  refine ansM rfl ?_
  (conv => whnf)
  (repeat' ((first | refine ansT ?_ | refine ansF ?_ | refine ansD (by first | (simp [*]; done) | omega) ?_ | refine ansN (by first | (simp [*]; done) | omega) ?_ | refine ⟨by kernel_rfl, ?_⟩ | refine ansB (by decide) (by first | decide | (simp; done) | (simp only [List.length_cons, List.length_nil]; decide)) ?_ | fail); (conv => whnf)))
  refine ansM rfl ?_
  (conv => whnf)
  (repeat' ((first | refine ansT ?_ | refine ansF ?_ | refine ansD (by first | (simp [*]; done) | omega) ?_ | refine ansN (by first | (simp [*]; done) | omega) ?_ | refine ⟨by kernel_rfl, ?_⟩ | refine ansB (by decide) (by first | decide | (simp; done) | (simp only [List.length_cons, List.length_nil]; decide)) ?_ | fail); (conv => whnf)))
  all_goals (first | rfl | set_option pp.maxSteps 300 in trace_state)
theorem pc_alive : PC Tryz.prog 40 [] (.bool true) := by
  have t := pc_team
  have d := pc_dark
  have a0 : PC Tryz.prog 31 [bks tB7, i64 7, ints darkL] (.tup [newB 0, entZ, i64 102]) := pc_RecordBad tB7 (okS (by kernel_rfl)) 7 darkL (by decide) (by decide +kernel)
  have a1 : PC Tryz.prog 25 [bks tB7, i64 1, i64 0] (.tup [bks (tL 0 []), i64 0]) := pc_ActivateOk tB7 (okS (by kernel_rfl)) 1 0 (by kernel_rfl)
  have r7 : PC Tryz.prog 31 [bks (tL 0 []), i64 7, ints darkL] (.tup [bks (tL 1 [tX 0 7 false]), ent (tX 0 7 false), i64 0]) := pc_RecordOk (tL 0 []) (okS (by kernel_rfl)) 7 darkL (by decide) (by kernel_rfl)
  have r8 : PC Tryz.prog 31 [bks (tL 1 [tX 0 7 false]), i64 8, ints darkL] (.tup [bks (tL 2 [tX 0 7 false, tX 1 8 false]), ent (tX 1 8 false), i64 0]) := pc_RecordOk (tL 1 [tX 0 7 false]) (okS (by kernel_rfl)) 8 darkL (by decide) (by kernel_rfl)
  have r9 : PC Tryz.prog 31 [bks (tL 2 [tX 0 7 false, tX 1 8 false]), i64 9, ints darkL] (.tup [bks (tL 3 [tX 1 8 false, tX 2 9 false]), ent (tX 2 9 false), i64 0]) := pc_RecordOk (tL 2 [tX 0 7 false, tX 1 8 false]) (okS (by kernel_rfl)) 9 darkL (by decide) (by kernel_rfl)
  have p1 : PC Tryz.prog 34 [bks (tL 3 [tX 1 8 false, tX 2 9 false]), i64 3, i64 1] (.tup [bks (tL 3 [tX 1 8 true, tX 2 9 false]), i64 0]) := pc_DisputeOk (tL 3 [tX 1 8 false, tX 2 9 false]) (okS (by kernel_rfl)) 3 1 (by kernel_rfl)
  have r10 : PC Tryz.prog 31 [bks (tL 3 [tX 1 8 true, tX 2 9 false]), i64 10, ints darkL] (.tup [bks (tL 4 [tX 1 8 true, tX 3 10 false]), ent (tX 3 10 false), i64 0]) := pc_RecordOk (tL 3 [tX 1 8 true, tX 2 9 false]) (okS (by kernel_rfl)) 10 darkL (by decide) (by kernel_rfl)
  have q1 : PC Tryz.prog 38 [bks (tL 4 [tX 1 8 true, tX 3 10 false]), i64 3] (.tup [u8 1, i64 0]) := pc_Replay (tL 4 [tX 1 8 true, tX 3 10 false]) (okS (by kernel_rfl)) 3
  have s1 := pc_seqs2 3 (tX 1 8 false) (tX 2 9 false)
  have s2 := pc_seqs2 4 (tX 1 8 true) (tX 3 10 false)
  refine pc_of_bodyF hm Tryz.func40 (by kernel_rfl) ?_
  conv => whnf
  (repeat' ((first | refine ansT ?_ | refine ansF ?_ | ((try (refine Or.inl ?_; (conv => whnf))); (try (refine ⟨false, ?_⟩; (conv => whnf))); refine ⟨_, by first | exact t | exact d | exact a0 | exact a1, ?_⟩) | refine ansD (by first | (simp [*]; done) | omega) ?_ | refine ansN (by first | (simp [*]; done) | omega) ?_ | refine ⟨by kernel_rfl, ?_⟩ | refine ansB (by decide) (by first | decide | (simp; done) | (simp only [List.length_cons, List.length_nil]; decide)) ?_ | fail); (conv => whnf)))
  refine Or.inl ⟨4, ?_⟩
  (conv => whnf)
  (repeat' ((first | refine ansT ?_ | refine ansF ?_ | ((try (refine Or.inl ?_; (conv => whnf))); (try (refine ⟨false, ?_⟩; (conv => whnf))); refine ⟨_, by first | exact d | exact r7 | exact r8 | exact r9, ?_⟩) | refine ansD (by first | (simp [*]; done) | omega) ?_ | refine ansN (by first | (simp [*]; done) | omega) ?_ | refine ⟨by kernel_rfl, ?_⟩ | refine ansB (by decide) (by first | decide | (simp; done) | (simp only [List.length_cons, List.length_nil]; decide)) ?_ | fail); (conv => whnf)))
  (repeat' ((first | refine ansT ?_ | refine ansF ?_ | ((try (refine Or.inl ?_; (conv => whnf))); (try (refine ⟨false, ?_⟩; (conv => whnf))); refine ⟨_, by first | exact d | exact p1 | exact r10 | exact q1, ?_⟩) | refine ansD (by first | (simp [*]; done) | omega) ?_ | refine ansN (by first | (simp [*]; done) | omega) ?_ | refine ⟨by kernel_rfl, ?_⟩ | refine ansB (by decide) (by first | decide | (simp; done) | (simp only [List.length_cons, List.length_nil]; decide)) ?_ | fail); (conv => whnf)))
  (repeat' ((first | refine ansT ?_ | refine ansF ?_ | ((try (refine Or.inl ?_; (conv => whnf))); (try (refine ⟨false, ?_⟩; (conv => whnf))); refine ⟨_, by first | exact s1 | exact s2, ?_⟩) | refine ansD (by first | (simp [*]; done) | omega) ?_ | refine ansN (by first | (simp [*]; done) | omega) ?_ | refine ⟨by kernel_rfl, ?_⟩ | refine ansB (by decide) (by first | decide | (simp; done) | (simp only [List.length_cons, List.length_nil]; decide)) ?_ | fail); (conv => whnf)))
  all_goals (first | rfl | set_option pp.maxSteps 300 in trace_state)
end Go.Proofs.Tryz.My
