/- A helper text: contracts of functions of the program, and plain lemmas. -/
import Derived.Test.YtnoahgjfeablgaaGreatEvSix
import Derived.Test.YtnoahgjfeablgaaGreatMzBt1
import Derived.Test.YtnoahgjfeablgaaGreatMzBoA
import Derived.Test.YtnoahgjfeablgaaGreatMzBqA
set_option maxRecDepth 100000
set_option maxHeartbeats 0
set_option linter.unusedVariables false
set_option linter.unusedSimpArgs false
namespace Go.Proofs.Tryz.My
open Go Go.Ev
theorem pw_r10Twin (b : BooksT) (o : Okay b) : PW Tryz.prog 16 [bks b] [] (ownB b) [.vec 5 1 0 e8 b.users, .vec 76 13 rec0 eRec b.recipes, .vec 58 6 ent0 eEnt b.log] := by
  have hu := o.u
  have hr := o.r
  have hl := o.l
  have ha := o.a
  have hp := o.p
  obtain ⟨k, us, rs, n, lg⟩ := b
  simp only at hu hr hl ha hp
  refine pw_of_bodyF hm Tryz.func16 (by kernel_rfl) ⟨by kernel_rfl, ?_⟩
  conv => whnf
  refine ⟨⟨Int, 1, 0, e8, []⟩, us, rfl, ⟨rfl, rfl⟩, rfl, ?_, ?_, fun y _ => ⟨rfl, rfl, rfl⟩, ?_⟩
  · show (0 + us.length) * 1 ≤ _; omega
  · show 0 + us.length ≤ _; omega
  (conv => whnf)
  refine ⟨⟨RecT, 13, rec0, eRec, []⟩, rs, rfl, ⟨rfl, rfl⟩, rfl, ?_, ?_, fun y _ => ⟨rfl, rfl, rfl⟩, ?_⟩
  · show (0 + rs.length) * 120 ≤ _; omega
  · show 0 + rs.length ≤ _; omega
  (conv => whnf)
  refine Or.inr ⟨Nat, [3], [13], [], fun k => [i64 k], fun _ => [.vec 76 13 rec0 eRec rs], fun _ => [], fun k => rs.length - k, fun k => k ≤ rs.length, ?_⟩
  (conv => whnf)
  refine ⟨⟨0, ?_⟩, ?_⟩
  · (conv => whnf)
    exact ⟨⟨Nat.zero_le _, rfl, rfl, rfl⟩, by kernel_rfl, by kernel_rfl⟩
  · intro j hj
    (conv => whnf)
    refine ⟨fun h => ?_, fun h => ?_⟩
    · have h := of_decide_eq_true h
      have hjj : j < rs.length := by omega
      have hx1 := ha j
      (repeat' (first | (refine And.intro (a := _ = true → _) (b := _ = false → _) (fun hh => ?_) (fun hh => ?_) <;> (first | simp only [decide_eq_true_eq, decide_eq_false_iff_not, Bool.or_eq_true, Bool.and_eq_true, Bool.or_eq_false_iff, Bool.and_eq_false_iff, Bool.not_eq_true', Bool.not_eq_false', ge_iff_le, gt_iff_lt] at hh | skip) <;> (first | (exfalso; omega) | (exfalso; simp [*] at hh; done) | (exfalso; revert hh; decide) | exact absurd (by assumption) hh | (conv => whnf))) | (refine ⟨by kernel_rfl, ?_⟩; (conv => whnf)) | (refine And.intro (a := _ ∧ _) ⟨by omega, by omega⟩ ?_; (conv => whnf)) | (refine And.intro (a := _ ∧ _) ⟨by decide, by decide⟩ ?_; (conv => whnf)) | (refine And.intro (a := _ ≤ _) (by omega) ?_; (conv => whnf)) | (refine And.intro (a := _ ≠ _) (by omega) ?_; (conv => whnf))))
      refine ⟨hjj, ?_⟩
      (conv => whnf)
      rw [show Int.toNat (j : Int) = j from rfl]
      refine ⟨⟨Int, 1, 0, eI, []⟩, (rs.getD j rec0).appr, rfl, ⟨rfl, rfl⟩, rfl, ?_, ?_, fun y _ => ⟨rfl, rfl, rfl⟩, ?_⟩
      · show (0 + (rs.getD j rec0).appr.length) * 8 ≤ _; omega
      · show 0 + (rs.getD j rec0).appr.length ≤ _; omega
      (conv => whnf)
      refine ⟨⟨by omega, by omega⟩, ?_⟩
      (conv => whnf)
      refine ⟨rs.getD j rec0, ⟨rfl, hjj⟩, ?_⟩
      (conv => whnf)
      refine ⟨by kernel_rfl, ?_⟩
      (conv => whnf)
      refine ⟨j + 1, ?_⟩
      (conv => whnf)
      refine ⟨⟨⟨?_, ?_⟩, ?_, ?_, rfl⟩, by kernel_rfl, by kernel_rfl⟩
      · show rs.length - (j + 1) < rs.length - j; omega
      · show j + 1 ≤ rs.length; omega
      · rw [w64 _ (by omega) (by omega)]; rfl
      · rw [show Int.toNat (j : Int) = j from rfl, set_getD_same]
    · have h := of_decide_eq_false h
      (conv => whnf)
      refine ⟨⟨EntT, 6, ent0, eEnt, []⟩, lg, rfl, ⟨rfl, rfl⟩, rfl, ?_, ?_, fun y _ => ⟨rfl, rfl, rfl⟩, ?_⟩
      · show (0 + lg.length) * 56 ≤ _; omega
      · show 0 + lg.length ≤ _; omega
      (conv => whnf)
      refine Or.inr ⟨Nat, [4], [38], [], fun k => [i64 k], fun _ => [.vec 58 6 ent0 eEnt lg], fun _ => [], fun k => lg.length - k, fun k => k ≤ lg.length, ?_⟩
      (conv => whnf)
      refine ⟨⟨0, ?_⟩, ?_⟩
      · (conv => whnf)
        exact ⟨⟨Nat.zero_le _, rfl, rfl, rfl⟩, by kernel_rfl, by kernel_rfl⟩
      · intro j hj
        (conv => whnf)
        refine ⟨fun h => ?_, fun h => ?_⟩
        · have h := of_decide_eq_true h
          have hjj : j < lg.length := by omega
          have hx1 := hp j
          (repeat' (first | (refine And.intro (a := _ = true → _) (b := _ = false → _) (fun hh => ?_) (fun hh => ?_) <;> (first | simp only [decide_eq_true_eq, decide_eq_false_iff_not, Bool.or_eq_true, Bool.and_eq_true, Bool.or_eq_false_iff, Bool.and_eq_false_iff, Bool.not_eq_true', Bool.not_eq_false', ge_iff_le, gt_iff_lt] at hh | skip) <;> (first | (exfalso; omega) | (exfalso; simp [*] at hh; done) | (exfalso; revert hh; decide) | exact absurd (by assumption) hh | (conv => whnf))) | (refine ⟨by kernel_rfl, ?_⟩; (conv => whnf)) | (refine And.intro (a := _ ∧ _) ⟨by omega, by omega⟩ ?_; (conv => whnf)) | (refine And.intro (a := _ ∧ _) ⟨by decide, by decide⟩ ?_; (conv => whnf)) | (refine And.intro (a := _ ≤ _) (by omega) ?_; (conv => whnf)) | (refine And.intro (a := _ ≠ _) (by omega) ?_; (conv => whnf))))
          refine ⟨hjj, ?_⟩
          (conv => whnf)
          rw [show Int.toNat (j : Int) = j from rfl]
          refine ⟨⟨Int, 1, 0, eI, []⟩, (lg.getD j ent0).profile, rfl, ⟨rfl, rfl⟩, rfl, ?_, ?_, fun y _ => ⟨rfl, rfl, rfl⟩, ?_⟩
          · show (0 + (lg.getD j ent0).profile.length) * 8 ≤ _; omega
          · show 0 + (lg.getD j ent0).profile.length ≤ _; omega
          (conv => whnf)
          refine ⟨⟨by omega, by omega⟩, ?_⟩
          (conv => whnf)
          refine ⟨lg.getD j ent0, ⟨rfl, hjj⟩, ?_⟩
          (conv => whnf)
          refine ⟨by kernel_rfl, ?_⟩
          (conv => whnf)
          refine ⟨j + 1, ?_⟩
          (conv => whnf)
          refine ⟨⟨⟨?_, ?_⟩, ?_, ?_, rfl⟩, by kernel_rfl, by kernel_rfl⟩
          · show lg.length - (j + 1) < lg.length - j; omega
          · show j + 1 ≤ lg.length; omega
          · rw [w64 _ (by omega) (by omega)]; rfl
          · rw [show Int.toNat (j : Int) = j from rfl, set_getD_same]
        · have h := of_decide_eq_false h
          (conv => whnf)
          refine ⟨[8, 13, 38], by kernel_rfl, ?_⟩
          (conv => whnf)
          exact ⟨rfl, rfl⟩
end Go.Proofs.Tryz.My
set_option maxRecDepth 100000
set_option maxHeartbeats 0
set_option linter.unusedVariables false
set_option linter.unusedSimpArgs false
namespace Go.Proofs.Tryz.My
open Go Go.Ev
theorem pc_r10AddUserOk (b : BooksT) (o : Okay b) (hI : ∀ i, IG (b.recipes.getD i rec0).gauge) (role : Int) (h : addE b role = 0) : PC Tryz.prog 18 [bks b, u8 role] (.tup [bks (addU b role), i64 b.users.length, i64 0]) := by
  have hc : chkB b = true := by
    unfold addE at h
    split at h
    · assumption
    · cases h
  have hr : ¬(role < 1 ∨ 3 < role) := fun q => by
    unfold addE at h
    rw [if_pos hc, if_pos q] at h
    cases h
  have hu : ¬(b.users.length : Int) = 16 := fun q => by
    unfold addE at h
    rw [if_pos hc, if_neg hr, if_pos q] at h
    cases h
  have s := chk_small hc
  have w1 : IntKind.i64.wrap (((b.users ++ [role]).length : Int) - 1) = b.users.length := by
    have hl : ((b.users ++ [role]).length : Int) = b.users.length + 1 := by simp
    rw [hl, w64 _ (by omega) (by omega)]
    omega
  have c := pc_Valid b o hI
  rw [hc] at c
  refine pc_of_bodyF hm Tryz.func18 (by kernel_rfl) ?_
  conv => whnf
  (repeat' (first | (refine And.intro (a := true = true → _) (b := true = false → _) (fun _ => ?_) (fun h => Bool.noConfusion h); (conv => whnf)) | (refine And.intro (a := false = true → _) (b := false = false → _) (fun h => Bool.noConfusion h) (fun _ => ?_); (conv => whnf)) | (refine ⟨_, by first | exact c, ?_⟩; (conv => whnf)) | (refine Or.inl ?_; (conv => whnf); refine ⟨_, by first | exact c, ?_⟩; (conv => whnf)) | (refine Or.inl ?_; (conv => whnf); refine ⟨false, ?_⟩; (conv => whnf); refine ⟨_, by first | exact c, ?_⟩; (conv => whnf)) | (refine And.intro (a := decide _ = true → _) (b := decide _ = false → _) (fun _ => ?_) (fun h => absurd (of_decide_eq_false h) (by first | (simp [*]; done) | omega)); (conv => whnf)) | (refine And.intro (a := decide _ = true → _) (b := decide _ = false → _) (fun h => absurd (of_decide_eq_true h) (by first | (simp [*]; done) | omega)) (fun _ => ?_); (conv => whnf)) | (refine ⟨by kernel_rfl, ?_⟩; (conv => whnf)) | (refine And.intro (a := _ ∧ _) ⟨by decide, by first | decide | (simp; done) | (simp only [List.length_cons, List.length_nil]; decide)⟩ ?_; (conv => whnf))))
  (repeat' (first | (refine And.intro (a := _ = true → _) (b := _ = false → _) (fun hh => ?_) (fun hh => ?_) <;> (first | simp only [decide_eq_true_eq, decide_eq_false_iff_not, Bool.or_eq_true, Bool.and_eq_true, Bool.or_eq_false_iff, Bool.and_eq_false_iff, Bool.not_eq_true', Bool.not_eq_false', ge_iff_le, gt_iff_lt] at hh | skip) <;> (first | (exfalso; omega) | (exfalso; simp [*] at hh; done) | (exfalso; revert hh; decide) | exact absurd (by assumption) hh | (conv => whnf))) | (refine ⟨by kernel_rfl, ?_⟩; (conv => whnf)) | (refine And.intro (a := _ ∧ _) ⟨by omega, by omega⟩ ?_; (conv => whnf)) | (refine And.intro (a := _ ∧ _) ⟨by decide, by decide⟩ ?_; (conv => whnf)) | (refine And.intro (a := _ ≤ _) (by omega) ?_; (conv => whnf)) | (refine And.intro (a := _ ≠ _) (by omega) ?_; (conv => whnf))))
  (refine Or.inr ⟨[ ], [ 24, 22, 23 ], by kernel_rfl, ?_⟩; (conv => whnf); refine ⟨[ ], _, _, _, _, ⟨ pw_r10Twin b o, rfl, rfl, by kernel_rfl⟩, ?_⟩)
  (conv => whnf)
  refine ⟨⟨Int, 1, 0, e8, b.users⟩, [role], rfl, rfl, ⟨rfl, rfl⟩, ?_, ?_, fun y _ => ⟨rfl, rfl, rfl⟩, ?_⟩
  · show (b.users.length + 1) * 1 ≤ _; omega
  · show b.users.length + 1 ≤ _; omega
  (conv => whnf)
  (repeat' (first | (refine And.intro (a := _ = true → _) (b := _ = false → _) (fun hh => ?_) (fun hh => ?_) <;> (first | simp only [decide_eq_true_eq, decide_eq_false_iff_not, Bool.or_eq_true, Bool.and_eq_true, Bool.or_eq_false_iff, Bool.and_eq_false_iff, Bool.not_eq_true', Bool.not_eq_false', ge_iff_le, gt_iff_lt] at hh | skip) <;> (first | (exfalso; omega) | (exfalso; simp [*] at hh; done) | (exfalso; revert hh; decide) | exact absurd (by assumption) hh | (conv => whnf))) | (refine ⟨by kernel_rfl, ?_⟩; (conv => whnf)) | (refine And.intro (a := _ ∧ _) ⟨by omega, by omega⟩ ?_; (conv => whnf)) | (refine And.intro (a := _ ∧ _) ⟨by decide, by decide⟩ ?_; (conv => whnf)) | (refine And.intro (a := _ ≤ _) (by omega) ?_; (conv => whnf)) | (refine And.intro (a := _ ≠ _) (by omega) ?_; (conv => whnf))))
  rw [w1]
  rfl
theorem pc_r10AddUserBad (b : BooksT) (o : Okay b) (hI : ∀ i, IG (b.recipes.getD i rec0).gauge) (role : Int) (h : ¬addE b role = 0) : PC Tryz.prog 18 [bks b, u8 role] (.tup [newB 0, i64 0, i64 (addE b role)]) := by
  have c := pc_Valid b o hI
  by_cases hc : chkB b = true
  · have s := chk_small hc
    unfold addE at h ⊢
    rw [if_pos hc] at h ⊢
    rw [hc] at c
    refine pc_of_bodyF hm Tryz.func18 (by kernel_rfl) ?_
    conv => whnf
    (repeat' (first | (refine And.intro (a := true = true → _) (b := true = false → _) (fun _ => ?_) (fun h => Bool.noConfusion h); (conv => whnf)) | (refine And.intro (a := false = true → _) (b := false = false → _) (fun h => Bool.noConfusion h) (fun _ => ?_); (conv => whnf)) | (refine ⟨_, by first | exact c, ?_⟩; (conv => whnf)) | (refine Or.inl ?_; (conv => whnf); refine ⟨_, by first | exact c, ?_⟩; (conv => whnf)) | (refine Or.inl ?_; (conv => whnf); refine ⟨false, ?_⟩; (conv => whnf); refine ⟨_, by first | exact c, ?_⟩; (conv => whnf)) | (refine And.intro (a := decide _ = true → _) (b := decide _ = false → _) (fun _ => ?_) (fun h => absurd (of_decide_eq_false h) (by first | (simp [*]; done) | omega)); (conv => whnf)) | (refine And.intro (a := decide _ = true → _) (b := decide _ = false → _) (fun h => absurd (of_decide_eq_true h) (by first | (simp [*]; done) | omega)) (fun _ => ?_); (conv => whnf)) | (refine ⟨by kernel_rfl, ?_⟩; (conv => whnf)) | (refine And.intro (a := _ ∧ _) ⟨by decide, by first | decide | (simp; done) | (simp only [List.length_cons, List.length_nil]; decide)⟩ ?_; (conv => whnf))))
    (repeat' (first | (refine And.intro (a := _ = true → _) (b := _ = false → _) (fun hh => ?_) (fun hh => ?_) <;> (first | simp only [decide_eq_true_eq, decide_eq_false_iff_not, Bool.or_eq_true, Bool.and_eq_true, Bool.or_eq_false_iff, Bool.and_eq_false_iff, Bool.not_eq_true', Bool.not_eq_false', ge_iff_le, gt_iff_lt] at hh | skip) <;> (first | (exfalso; omega) | (exfalso; simp [*] at hh; done) | (exfalso; revert hh; decide) | exact absurd (by assumption) hh | (conv => whnf))) | (refine ⟨by kernel_rfl, ?_⟩; (conv => whnf)) | (refine And.intro (a := _ ∧ _) ⟨by omega, by omega⟩ ?_; (conv => whnf)) | (refine And.intro (a := _ ∧ _) ⟨by decide, by decide⟩ ?_; (conv => whnf)) | (refine And.intro (a := _ ≤ _) (by omega) ?_; (conv => whnf)) | (refine And.intro (a := _ ≠ _) (by omega) ?_; (conv => whnf))))
    all_goals first
      | (exfalso; apply h; rw [if_neg (by omega), if_neg (by omega)]; done)
      | (rw [if_pos (by omega)]; done)
      | (rw [if_neg (by omega), if_pos (by omega)]; done)
      | set_option pp.maxSteps 300 in trace_state
  · have hc : chkB b = false := by simpa using hc
    unfold addE
    rw [if_neg (by rw [hc]; decide)]
    rw [hc] at c
    refine pc_of_bodyF hm Tryz.func18 (by kernel_rfl) ?_
    conv => whnf
    (repeat' (first | (refine And.intro (a := true = true → _) (b := true = false → _) (fun _ => ?_) (fun h => Bool.noConfusion h); (conv => whnf)) | (refine And.intro (a := false = true → _) (b := false = false → _) (fun h => Bool.noConfusion h) (fun _ => ?_); (conv => whnf)) | (refine ⟨_, by first | exact c, ?_⟩; (conv => whnf)) | (refine Or.inl ?_; (conv => whnf); refine ⟨_, by first | exact c, ?_⟩; (conv => whnf)) | (refine Or.inl ?_; (conv => whnf); refine ⟨false, ?_⟩; (conv => whnf); refine ⟨_, by first | exact c, ?_⟩; (conv => whnf)) | (refine And.intro (a := decide _ = true → _) (b := decide _ = false → _) (fun _ => ?_) (fun h => absurd (of_decide_eq_false h) (by first | (simp [*]; done) | omega)); (conv => whnf)) | (refine And.intro (a := decide _ = true → _) (b := decide _ = false → _) (fun h => absurd (of_decide_eq_true h) (by first | (simp [*]; done) | omega)) (fun _ => ?_); (conv => whnf)) | (refine ⟨by kernel_rfl, ?_⟩; (conv => whnf)) | (refine And.intro (a := _ ∧ _) ⟨by decide, by first | decide | (simp; done) | (simp only [List.length_cons, List.length_nil]; decide)⟩ ?_; (conv => whnf))))
    first | rfl | set_option pp.maxSteps 300 in trace_state
theorem pc_isUser (b : BooksT) (o : Okay b) (u : Int) : PC Tryz.prog 58 [bks b, i64 u] (.bool (decide (0 ≤ u) && decide (u ≤ (b.users.length : Int) - 1))) := by
  have hu := o.u
  have w0 : IntKind.i64.wrap ((b.users.length : Int) - 1) = (b.users.length : Int) - 1 := w64 _ (by omega) (by omega)
  have c : PC Tryz.prog 65 [i64 u, i64 0, i64 (IntKind.i64.wrap ((b.users.length : Int) - 1))] (.bool (decide (0 ≤ u) && decide (u ≤ (b.users.length : Int) - 1))) := by rw [w0]; exact pc_r10within _ _ _
  refine pc_of_bodyF hm Tryz.func58 (by kernel_rfl) ?_
  conv => whnf
  (repeat' (first | (refine ⟨_, by first | exact c, ?_⟩; (conv => whnf)) | (refine Or.inl ?_; (conv => whnf); refine ⟨_, by first | exact c, ?_⟩; (conv => whnf)) | (refine Or.inl ?_; (conv => whnf); refine ⟨false, ?_⟩; (conv => whnf); refine ⟨_, by first | exact c, ?_⟩; (conv => whnf)) | (refine ⟨by kernel_rfl, ?_⟩; (conv => whnf)) | fail))
  first | rfl | set_option pp.maxSteps 300 in trace_state
theorem pc_r10DraftOk (b : BooksT) (o : Okay b) (hI : ∀ i, IG (b.recipes.getD i rec0).gauge) (user : Int) (g : GauT) (hG : IG g) (h : drfE b user g = 0) : PC Tryz.prog 20 [bks b, i64 user, gau g] (.tup [bks (drfB b user g), i64 b.recipes.length, i64 0]) := by
  have hc : chkB b = true := by
    unfold drfE at h
    split at h
    · assumption
    · cases h
  unfold drfE at h
  rw [if_pos hc] at h
  have hu : 0 ≤ user ∧ user ≤ (b.users.length : Int) - 1 := Decidable.byContradiction fun q => by rw [if_pos q] at h; cases h
  rw [if_neg (show ¬¬(0 ≤ user ∧ user ≤ (b.users.length : Int) - 1) from fun q => q hu)] at h
  have hmy : mayB [2] b.users user = true := by
    cases e : mayB [2] b.users user with
    | true => rfl
    | false => rw [if_pos e] at h; cases h
  rw [if_neg (show ¬mayB [2] b.users user = false by rw [hmy]; decide)] at h
  have hg : gauB g = true := Decidable.byContradiction fun q => by rw [if_pos q] at h; cases h
  rw [if_neg (show ¬¬gauB g = true from fun q => q hg)] at h
  have hl : ¬(b.recipes.length : Int) = 16 := fun q => by rw [if_pos q] at h; cases h
  clear h
  have hm2 := (may2_in hu.1 (by omega)).1 hmy
  have s := chk_small hc
  have c := pc_Valid b o hI
  rw [hc] at c
  have w1 : IntKind.i64.wrap (((b.recipes ++ [newRec user g]).length : Int) - 1) = b.recipes.length := by
    have hl : ((b.recipes ++ [newRec user g]).length : Int) = b.recipes.length + 1 := by simp
    rw [hl, w64 _ (by omega) (by omega)]
    omega
  refine pc_of_bodyF hm Tryz.func20 (by kernel_rfl) ?_
  conv => whnf
  (repeat' (first | (refine And.intro (a := true = true → _) (b := true = false → _) (fun _ => ?_) (fun h => Bool.noConfusion h); (conv => whnf)) | (refine And.intro (a := false = true → _) (b := false = false → _) (fun h => Bool.noConfusion h) (fun _ => ?_); (conv => whnf)) | (refine ⟨_, by first | exact c, ?_⟩; (conv => whnf)) | (refine Or.inl ?_; (conv => whnf); refine ⟨_, by first | exact c, ?_⟩; (conv => whnf)) | (refine Or.inl ?_; (conv => whnf); refine ⟨false, ?_⟩; (conv => whnf); refine ⟨_, by first | exact c, ?_⟩; (conv => whnf)) | (refine And.intro (a := decide _ = true → _) (b := decide _ = false → _) (fun _ => ?_) (fun h => absurd (of_decide_eq_false h) (by first | (simp [*]; done) | omega)); (conv => whnf)) | (refine And.intro (a := decide _ = true → _) (b := decide _ = false → _) (fun h => absurd (of_decide_eq_true h) (by first | (simp [*]; done) | omega)) (fun _ => ?_); (conv => whnf)) | (refine ⟨by kernel_rfl, ?_⟩; (conv => whnf)) | (refine And.intro (a := _ ∧ _) ⟨by decide, by first | decide | (simp; done) | (simp only [List.length_cons, List.length_nil]; decide)⟩ ?_; (conv => whnf))))
  (repeat' (first | (refine And.intro (a := _ = true → _) (b := _ = false → _) (fun hh => ?_) (fun hh => ?_) <;> (first | simp only [decide_eq_true_eq, decide_eq_false_iff_not, Bool.or_eq_true, Bool.and_eq_true, Bool.or_eq_false_iff, Bool.and_eq_false_iff, Bool.not_eq_true', Bool.not_eq_false', ge_iff_le, gt_iff_lt] at hh | skip) <;> (first | (exfalso; omega) | (exfalso; simp [*] at hh; done) | (exfalso; revert hh; decide) | exact absurd (by assumption) hh | (conv => whnf))) | (refine ⟨by kernel_rfl, ?_⟩; (conv => whnf)) | (refine And.intro (a := _ ∧ _) ⟨by omega, by omega⟩ ?_; (conv => whnf)) | (refine And.intro (a := _ ∧ _) ⟨by decide, by decide⟩ ?_; (conv => whnf)) | (refine And.intro (a := _ ≤ _) (by omega) ?_; (conv => whnf)) | (refine And.intro (a := _ ≠ _) (by omega) ?_; (conv => whnf)) | (refine Or.inl ?_; (conv => whnf); first | (refine ⟨_, by first | exact pc_isUser b o _ | exact pc_rCheckGauge g hG, ?_⟩; (conv => whnf)) | (refine ⟨false, ?_⟩; (conv => whnf); refine ⟨_, by first | exact pc_isUser b o _ | exact pc_rCheckGauge g hG, ?_⟩; (conv => whnf))) | (refine ⟨_, by first | exact pc_isUser b o _ | exact pc_rCheckGauge g hG, ?_⟩; (conv => whnf))))
  (refine Or.inr ⟨[ ], [ 38, 36, 37 ], by kernel_rfl, ?_⟩; (conv => whnf); refine ⟨[ ], _, _, _, _, ⟨ pw_r10Twin b o, rfl, rfl, by kernel_rfl⟩, ?_⟩)
  (conv => whnf)
  refine ⟨⟨RecT, 13, rec0, eRec, b.recipes⟩, [newRec user g], rfl, rfl, ⟨rfl, rfl⟩, ?_, ?_, fun y _ => ⟨rfl, rfl, rfl⟩, ?_⟩
  · show (b.recipes.length + 1) * 120 ≤ _; omega
  · show b.recipes.length + 1 ≤ _; omega
  (conv => whnf)
  (repeat' (first | (refine And.intro (a := _ = true → _) (b := _ = false → _) (fun hh => ?_) (fun hh => ?_) <;> (first | simp only [decide_eq_true_eq, decide_eq_false_iff_not, Bool.or_eq_true, Bool.and_eq_true, Bool.or_eq_false_iff, Bool.and_eq_false_iff, Bool.not_eq_true', Bool.not_eq_false', ge_iff_le, gt_iff_lt] at hh | skip) <;> (first | (exfalso; omega) | (exfalso; simp [*] at hh; done) | (exfalso; revert hh; decide) | exact absurd (by assumption) hh | (conv => whnf))) | (refine ⟨by kernel_rfl, ?_⟩; (conv => whnf)) | (refine And.intro (a := _ ∧ _) ⟨by omega, by omega⟩ ?_; (conv => whnf)) | (refine And.intro (a := _ ∧ _) ⟨by decide, by decide⟩ ?_; (conv => whnf)) | (refine And.intro (a := _ ≤ _) (by omega) ?_; (conv => whnf)) | (refine And.intro (a := _ ≠ _) (by omega) ?_; (conv => whnf))))
  rw [w1]
  rfl
theorem pc_r10DraftBad (b : BooksT) (o : Okay b) (hI : ∀ i, IG (b.recipes.getD i rec0).gauge) (user : Int) (g : GauT) (hG : IG g) (h : ¬drfE b user g = 0) : PC Tryz.prog 20 [bks b, i64 user, gau g] (.tup [newB 0, i64 0, i64 (drfE b user g)]) := by
  have c := pc_Valid b o hI
  by_cases hc : chkB b = true
  · have s := chk_small hc
    unfold drfE at h ⊢
    rw [if_pos hc] at h ⊢
    rw [hc] at c
    by_cases hu : 0 ≤ user ∧ user ≤ (b.users.length : Int) - 1
    · rw [if_neg (show ¬¬(0 ≤ user ∧ user ≤ (b.users.length : Int) - 1) from fun q => q hu)] at h ⊢
      have hm2 := may2_in (us := b.users) hu.1 (show user < b.users.length by omega)
      by_cases hmy : mayB [2] b.users user = true
      · rw [if_neg (show ¬mayB [2] b.users user = false by rw [hmy]; decide)] at h ⊢
        have hm3 := hm2.1 hmy
        refine pc_of_bodyF hm Tryz.func20 (by kernel_rfl) ?_
        conv => whnf
        (repeat' (first | (refine And.intro (a := true = true → _) (b := true = false → _) (fun _ => ?_) (fun h => Bool.noConfusion h); (conv => whnf)) | (refine And.intro (a := false = true → _) (b := false = false → _) (fun h => Bool.noConfusion h) (fun _ => ?_); (conv => whnf)) | (refine ⟨_, by first | exact c, ?_⟩; (conv => whnf)) | (refine Or.inl ?_; (conv => whnf); refine ⟨_, by first | exact c, ?_⟩; (conv => whnf)) | (refine Or.inl ?_; (conv => whnf); refine ⟨false, ?_⟩; (conv => whnf); refine ⟨_, by first | exact c, ?_⟩; (conv => whnf)) | (refine And.intro (a := decide _ = true → _) (b := decide _ = false → _) (fun _ => ?_) (fun h => absurd (of_decide_eq_false h) (by first | (simp [*]; done) | omega)); (conv => whnf)) | (refine And.intro (a := decide _ = true → _) (b := decide _ = false → _) (fun h => absurd (of_decide_eq_true h) (by first | (simp [*]; done) | omega)) (fun _ => ?_); (conv => whnf)) | (refine ⟨by kernel_rfl, ?_⟩; (conv => whnf)) | (refine And.intro (a := _ ∧ _) ⟨by decide, by first | decide | (simp; done) | (simp only [List.length_cons, List.length_nil]; decide)⟩ ?_; (conv => whnf))))
        (repeat' (first | (refine And.intro (a := _ = true → _) (b := _ = false → _) (fun hh => ?_) (fun hh => ?_) <;> (first | simp only [decide_eq_true_eq, decide_eq_false_iff_not, Bool.or_eq_true, Bool.and_eq_true, Bool.or_eq_false_iff, Bool.and_eq_false_iff, Bool.not_eq_true', Bool.not_eq_false', ge_iff_le, gt_iff_lt] at hh | skip) <;> (first | (exfalso; omega) | (exfalso; simp [*] at hh; done) | (exfalso; revert hh; decide) | exact absurd (by assumption) hh | (conv => whnf))) | (refine ⟨by kernel_rfl, ?_⟩; (conv => whnf)) | (refine And.intro (a := _ ∧ _) ⟨by omega, by omega⟩ ?_; (conv => whnf)) | (refine And.intro (a := _ ∧ _) ⟨by decide, by decide⟩ ?_; (conv => whnf)) | (refine And.intro (a := _ ≤ _) (by omega) ?_; (conv => whnf)) | (refine And.intro (a := _ ≠ _) (by omega) ?_; (conv => whnf)) | (refine Or.inl ?_; (conv => whnf); first | (refine ⟨_, by first | exact pc_isUser b o _ | exact pc_rCheckGauge g hG, ?_⟩; (conv => whnf)) | (refine ⟨false, ?_⟩; (conv => whnf); refine ⟨_, by first | exact pc_isUser b o _ | exact pc_rCheckGauge g hG, ?_⟩; (conv => whnf))) | (refine ⟨_, by first | exact pc_isUser b o _ | exact pc_rCheckGauge g hG, ?_⟩; (conv => whnf))))
        all_goals first
          | (exfalso; apply h; simp_all; done)
          | (simp_all; done)
          | set_option pp.maxSteps 300 in trace_state
      · have hm3 : ¬b.users.getD user.toNat 0 = 2 := fun e => hmy (hm2.2 e)
        rw [if_pos (show mayB [2] b.users user = false by simpa using hmy)]
        refine pc_of_bodyF hm Tryz.func20 (by kernel_rfl) ?_
        conv => whnf
        (repeat' (first | (refine And.intro (a := true = true → _) (b := true = false → _) (fun _ => ?_) (fun h => Bool.noConfusion h); (conv => whnf)) | (refine And.intro (a := false = true → _) (b := false = false → _) (fun h => Bool.noConfusion h) (fun _ => ?_); (conv => whnf)) | (refine ⟨_, by first | exact c, ?_⟩; (conv => whnf)) | (refine Or.inl ?_; (conv => whnf); refine ⟨_, by first | exact c, ?_⟩; (conv => whnf)) | (refine Or.inl ?_; (conv => whnf); refine ⟨false, ?_⟩; (conv => whnf); refine ⟨_, by first | exact c, ?_⟩; (conv => whnf)) | (refine And.intro (a := decide _ = true → _) (b := decide _ = false → _) (fun _ => ?_) (fun h => absurd (of_decide_eq_false h) (by first | (simp [*]; done) | omega)); (conv => whnf)) | (refine And.intro (a := decide _ = true → _) (b := decide _ = false → _) (fun h => absurd (of_decide_eq_true h) (by first | (simp [*]; done) | omega)) (fun _ => ?_); (conv => whnf)) | (refine ⟨by kernel_rfl, ?_⟩; (conv => whnf)) | (refine And.intro (a := _ ∧ _) ⟨by decide, by first | decide | (simp; done) | (simp only [List.length_cons, List.length_nil]; decide)⟩ ?_; (conv => whnf))))
        (repeat' (first | (refine And.intro (a := _ = true → _) (b := _ = false → _) (fun hh => ?_) (fun hh => ?_) <;> (first | simp only [decide_eq_true_eq, decide_eq_false_iff_not, Bool.or_eq_true, Bool.and_eq_true, Bool.or_eq_false_iff, Bool.and_eq_false_iff, Bool.not_eq_true', Bool.not_eq_false', ge_iff_le, gt_iff_lt] at hh | skip) <;> (first | (exfalso; omega) | (exfalso; simp [*] at hh; done) | (exfalso; revert hh; decide) | exact absurd (by assumption) hh | (conv => whnf))) | (refine ⟨by kernel_rfl, ?_⟩; (conv => whnf)) | (refine And.intro (a := _ ∧ _) ⟨by omega, by omega⟩ ?_; (conv => whnf)) | (refine And.intro (a := _ ∧ _) ⟨by decide, by decide⟩ ?_; (conv => whnf)) | (refine And.intro (a := _ ≤ _) (by omega) ?_; (conv => whnf)) | (refine And.intro (a := _ ≠ _) (by omega) ?_; (conv => whnf)) | (refine Or.inl ?_; (conv => whnf); first | (refine ⟨_, by first | exact pc_isUser b o _, ?_⟩; (conv => whnf)) | (refine ⟨false, ?_⟩; (conv => whnf); refine ⟨_, by first | exact pc_isUser b o _, ?_⟩; (conv => whnf))) | (refine ⟨_, by first | exact pc_isUser b o _, ?_⟩; (conv => whnf))))
        all_goals (first | rfl | set_option pp.maxSteps 300 in trace_state)
    · rw [if_pos hu]
      refine pc_of_bodyF hm Tryz.func20 (by kernel_rfl) ?_
      conv => whnf
      (repeat' (first | (refine And.intro (a := true = true → _) (b := true = false → _) (fun _ => ?_) (fun h => Bool.noConfusion h); (conv => whnf)) | (refine And.intro (a := false = true → _) (b := false = false → _) (fun h => Bool.noConfusion h) (fun _ => ?_); (conv => whnf)) | (refine ⟨_, by first | exact c, ?_⟩; (conv => whnf)) | (refine Or.inl ?_; (conv => whnf); refine ⟨_, by first | exact c, ?_⟩; (conv => whnf)) | (refine Or.inl ?_; (conv => whnf); refine ⟨false, ?_⟩; (conv => whnf); refine ⟨_, by first | exact c, ?_⟩; (conv => whnf)) | (refine And.intro (a := decide _ = true → _) (b := decide _ = false → _) (fun _ => ?_) (fun h => absurd (of_decide_eq_false h) (by first | (simp [*]; done) | omega)); (conv => whnf)) | (refine And.intro (a := decide _ = true → _) (b := decide _ = false → _) (fun h => absurd (of_decide_eq_true h) (by first | (simp [*]; done) | omega)) (fun _ => ?_); (conv => whnf)) | (refine ⟨by kernel_rfl, ?_⟩; (conv => whnf)) | (refine And.intro (a := _ ∧ _) ⟨by decide, by first | decide | (simp; done) | (simp only [List.length_cons, List.length_nil]; decide)⟩ ?_; (conv => whnf))))
      (repeat' (first | (refine And.intro (a := _ = true → _) (b := _ = false → _) (fun hh => ?_) (fun hh => ?_) <;> (first | simp only [decide_eq_true_eq, decide_eq_false_iff_not, Bool.or_eq_true, Bool.and_eq_true, Bool.or_eq_false_iff, Bool.and_eq_false_iff, Bool.not_eq_true', Bool.not_eq_false', ge_iff_le, gt_iff_lt] at hh | skip) <;> (first | (exfalso; omega) | (exfalso; simp [*] at hh; done) | (exfalso; revert hh; decide) | exact absurd (by assumption) hh | (conv => whnf))) | (refine ⟨by kernel_rfl, ?_⟩; (conv => whnf)) | (refine And.intro (a := _ ∧ _) ⟨by omega, by omega⟩ ?_; (conv => whnf)) | (refine And.intro (a := _ ∧ _) ⟨by decide, by decide⟩ ?_; (conv => whnf)) | (refine And.intro (a := _ ≤ _) (by omega) ?_; (conv => whnf)) | (refine And.intro (a := _ ≠ _) (by omega) ?_; (conv => whnf)) | (refine Or.inl ?_; (conv => whnf); first | (refine ⟨_, by first | exact pc_isUser b o _, ?_⟩; (conv => whnf)) | (refine ⟨false, ?_⟩; (conv => whnf); refine ⟨_, by first | exact pc_isUser b o _, ?_⟩; (conv => whnf))) | (refine ⟨_, by first | exact pc_isUser b o _, ?_⟩; (conv => whnf))))
      all_goals (first | rfl | set_option pp.maxSteps 300 in trace_state)
  · have hc : chkB b = false := by simpa using hc
    unfold drfE
    rw [if_neg (by rw [hc]; decide)]
    rw [hc] at c
    refine pc_of_bodyF hm Tryz.func20 (by kernel_rfl) ?_
    conv => whnf
    (repeat' (first | (refine And.intro (a := true = true → _) (b := true = false → _) (fun _ => ?_) (fun h => Bool.noConfusion h); (conv => whnf)) | (refine And.intro (a := false = true → _) (b := false = false → _) (fun h => Bool.noConfusion h) (fun _ => ?_); (conv => whnf)) | (refine ⟨_, by first | exact c, ?_⟩; (conv => whnf)) | (refine Or.inl ?_; (conv => whnf); refine ⟨_, by first | exact c, ?_⟩; (conv => whnf)) | (refine Or.inl ?_; (conv => whnf); refine ⟨false, ?_⟩; (conv => whnf); refine ⟨_, by first | exact c, ?_⟩; (conv => whnf)) | (refine And.intro (a := decide _ = true → _) (b := decide _ = false → _) (fun _ => ?_) (fun h => absurd (of_decide_eq_false h) (by first | (simp [*]; done) | omega)); (conv => whnf)) | (refine And.intro (a := decide _ = true → _) (b := decide _ = false → _) (fun h => absurd (of_decide_eq_true h) (by first | (simp [*]; done) | omega)) (fun _ => ?_); (conv => whnf)) | (refine ⟨by kernel_rfl, ?_⟩; (conv => whnf)) | (refine And.intro (a := _ ∧ _) ⟨by decide, by first | decide | (simp; done) | (simp only [List.length_cons, List.length_nil]; decide)⟩ ?_; (conv => whnf))))
    first | rfl | set_option pp.maxSteps 300 in trace_state
end Go.Proofs.Tryz.My
