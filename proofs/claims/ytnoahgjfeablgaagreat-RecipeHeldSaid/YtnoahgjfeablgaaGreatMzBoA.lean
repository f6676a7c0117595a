/- A helper text: contracts of functions of the program, and plain lemmas. -/
import Derived.Test.YtnoahgjfeablgaaGreatEvSix
import Derived.Test.YtnoahgjfeablgaaGreatMzBsA
import Derived.Test.YtnoahgjfeablgaaGreatMzBkA
import Derived.Test.YtnoahgjfeablgaaGreatEvFn
import Derived.Test.YtnoahgjfeablgaaGreatMzBq4
import Derived.Test.YtnoahgjfeablgaaGreatMzGdB
import Derived.Test.YtnoahgjfeablgaaGreatMzBt1
set_option maxRecDepth 100000
set_option maxHeartbeats 0
set_option linter.unusedVariables false
set_option linter.unusedSimpArgs false
namespace Go.Proofs.Tryz.My
open Go Go.Ev
theorem pw_CloneI (l : List Int) (hl : l.length < 2 ^ 20) : PW Tryz.prog 76 [ints l] [] (.own 0) [.vec 3 1 0 eI l] := by
  refine pw_of_bodyFN hm Tryz.func76 (by kernel_rfl) ⟨by kernel_rfl, ?_⟩
  conv => whnf
  refine Or.inl ?_
  (conv => whnf)
  intro b hb
  (conv => whnf)
  refine ⟨fun h => ?_, fun h => ?_⟩
  · (conv => whnf)
    refine Or.inr ⟨by kernel_rfl, .vec 3 1 0 eI [], rfl, ?_⟩
    (conv => whnf)
    refine ⟨[2], by kernel_rfl, ?_⟩
    (conv => whnf)
    rw [hb h]
    exact ⟨rfl, rfl⟩
  (conv => whnf)
  refine ⟨⟨Int, 1, 0, eI, []⟩, l, rfl, ⟨rfl, rfl⟩, rfl, ?_, ?_, fun y _ => ⟨rfl, rfl, rfl⟩, ?_⟩
  · show (0 + l.length) * 8 ≤ _; omega
  · show 0 + l.length ≤ _; omega
  (conv => whnf)
  refine ⟨[7], by kernel_rfl, ?_⟩
  (conv => whnf)
  exact ⟨rfl, rfl⟩
theorem pw_CloneU (l : List Int) (hl : l.length < 2 ^ 20) : PW Tryz.prog 94 [u8l l] [] (.own 0) [.vec 5 1 0 e8 l] := by
  refine pw_of_bodyFN hm Tryz.func94 (by kernel_rfl) ⟨by kernel_rfl, ?_⟩
  conv => whnf
  refine Or.inl ?_
  (conv => whnf)
  intro b hb
  (conv => whnf)
  refine ⟨fun h => ?_, fun h => ?_⟩
  · (conv => whnf)
    refine Or.inr ⟨by kernel_rfl, .vec 5 1 0 e8 [], rfl, ?_⟩
    (conv => whnf)
    refine ⟨[2], by kernel_rfl, ?_⟩
    (conv => whnf)
    rw [hb h]
    exact ⟨rfl, rfl⟩
  (conv => whnf)
  refine ⟨⟨Int, 1, 0, e8, []⟩, l, rfl, ⟨rfl, rfl⟩, rfl, ?_, ?_, fun y _ => ⟨rfl, rfl, rfl⟩, ?_⟩
  · show (0 + l.length) * 1 ≤ _; omega
  · show 0 + l.length ≤ _; omega
  (conv => whnf)
  refine ⟨[7], by kernel_rfl, ?_⟩
  (conv => whnf)
  exact ⟨rfl, rfl⟩
theorem pw_open1 (x : RecT) (hx : x.appr.length < 2 ^ 20) : PW Tryz.prog 96 [rcp x] [] (.agg ((eRec x).set 11 (.own 0))) [.vec 3 1 0 eI x.appr] := by
  refine pw_of_bodyF hm Tryz.func96 (by kernel_rfl) ⟨by kernel_rfl, ?_⟩
  conv => whnf
  (refine Or.inr ⟨[ ], [ 5 ], by kernel_rfl, ?_⟩; (conv => whnf); refine ⟨[ ], _, _, _, _, ⟨ pw_CloneI x.appr hx, rfl, rfl, by kernel_rfl⟩, ?_⟩)
  (conv => whnf)
  refine ⟨[5], by kernel_rfl, ?_⟩
  (conv => whnf)
  exact ⟨rfl, rfl⟩
theorem pw_open2 (x : EntT) (hx : x.profile.length < 2 ^ 20) : PW Tryz.prog 98 [ent x] [] (.agg ((eEnt x).set 3 (.own 0))) [.vec 3 1 0 eI x.profile] := by
  refine pw_of_bodyF hm Tryz.func98 (by kernel_rfl) ⟨by kernel_rfl, ?_⟩
  conv => whnf
  (refine Or.inr ⟨[ ], [ 5 ], by kernel_rfl, ?_⟩; (conv => whnf); refine ⟨[ ], _, _, _, _, ⟨ pw_CloneI x.profile hx, rfl, rfl, by kernel_rfl⟩, ?_⟩)
  (conv => whnf)
  refine ⟨[5], by kernel_rfl, ?_⟩
  (conv => whnf)
  exact ⟨rfl, rfl⟩
theorem pw_chRec (l : List RecT) (hl : l.length < 2 ^ 16) (ha : ∀ i, (l.getD i rec0).appr.length < 2 ^ 20) : PW Tryz.prog 95 [recs l, .fn (.func 96) [] []] [] (.own 0) [.nest 76 13 11 3 rec0 eRec RecT.appr none l] := by
  have w1 : IntKind.i64.wrap ((l.length : Int) + 1) = (l.length : Int) + 1 := w64 _ (by omega) (by omega)
  refine pw_of_bodyF hm Tryz.func95 (by kernel_rfl) ⟨by kernel_rfl, ?_⟩
  conv => whnf
  refine ⟨.nest 76 13 11 3 rec0 eRec RecT.appr none [], ⟨⟨rfl, by kernel_rfl, rfl, rfl⟩, by omega, by omega, of_decide_eq_true (by kernel_rfl)⟩, ?_⟩
  (conv => whnf)
  refine Or.inr ⟨Nat, [14], [], [(5, ⟨RecT, 76, 13, rec0, eRec⟩)], fun i => [i64 i], fun _ => [], fun i => [.nest 76 13 11 3 rec0 eRec RecT.appr none (l.take i)], fun i => l.length - i, fun i => i ≤ l.length, ?_⟩
  (conv => whnf)
  refine ⟨⟨0, ?_⟩, ?_⟩
  · (conv => whnf)
    exact ⟨⟨Nat.zero_le _, rfl, rfl, rfl⟩, by kernel_rfl, by kernel_rfl⟩
  · intro j hj
    (conv => whnf)
    refine ⟨fun h => ?_, fun h => ?_⟩
    · have h := of_decide_eq_true h
      have hjj : j < l.length := by omega
      have hk : (l.take j).length = j := by rw [List.length_take]; omega
      (conv => whnf)
      refine ⟨⟨by omega, by omega⟩, ?_⟩
      (conv => whnf)
      (refine Or.inr ⟨[ ], [ 21 ], by kernel_rfl, ?_⟩; (conv => whnf); refine ⟨[ ], _, _, _, _, ⟨ pw_open1 _ (ha _), rfl, rfl, by kernel_rfl⟩, ?_⟩)
      (conv => whnf)
      refine ⟨_, l.getD j rec0, ⟨rfl, rfl, rfl, ?_, ?_⟩, ?_⟩
      · show ((l.take j).length + 1) * 120 ≤ _; rw [hk]; omega
      · rw [hk]; omega
      (conv => whnf)
      refine ⟨j + 1, ?_⟩
      (conv => whnf)
      refine ⟨⟨⟨?_, ?_⟩, ?_, rfl, ?_⟩, by kernel_rfl, by kernel_rfl⟩
      · show l.length - (j + 1) < l.length - j; omega
      · show j + 1 ≤ l.length; omega
      · rw [w64 _ (by omega) (by omega)]; rfl
      · show [Row.nest 76 13 11 3 rec0 eRec RecT.appr none (l.take j ++ [l.getD j rec0])] = [Row.nest 76 13 11 3 rec0 eRec RecT.appr none (l.take (j + 1))]
        rw [List.take_add_one, List.getElem?_eq_getElem hjj]
        simp [List.getD, hjj]
    · have h := of_decide_eq_false h
      have ej : l.take j = l := List.take_of_length_le (by omega)
      rw [ej]
      (conv => whnf)
      refine ⟨[5], by kernel_rfl, ?_⟩
      (conv => whnf)
      exact ⟨rfl, rfl⟩
theorem pw_chEnt (l : List EntT) (hl : l.length < 2 ^ 16) (ha : ∀ i, (l.getD i ent0).profile.length < 2 ^ 20) : PW Tryz.prog 97 [ents l, .fn (.func 98) [] []] [] (.own 0) [.nest 58 6 3 3 ent0 eEnt EntT.profile none l] := by
  have w1 : IntKind.i64.wrap ((l.length : Int) + 1) = (l.length : Int) + 1 := w64 _ (by omega) (by omega)
  refine pw_of_bodyF hm Tryz.func97 (by kernel_rfl) ⟨by kernel_rfl, ?_⟩
  conv => whnf
  refine ⟨.nest 58 6 3 3 ent0 eEnt EntT.profile none [], ⟨⟨rfl, by kernel_rfl, rfl, rfl⟩, by omega, by omega, of_decide_eq_true (by kernel_rfl)⟩, ?_⟩
  (conv => whnf)
  refine Or.inr ⟨Nat, [14], [], [(5, ⟨EntT, 58, 6, ent0, eEnt⟩)], fun i => [i64 i], fun _ => [], fun i => [.nest 58 6 3 3 ent0 eEnt EntT.profile none (l.take i)], fun i => l.length - i, fun i => i ≤ l.length, ?_⟩
  (conv => whnf)
  refine ⟨⟨0, ?_⟩, ?_⟩
  · (conv => whnf)
    exact ⟨⟨Nat.zero_le _, rfl, rfl, rfl⟩, by kernel_rfl, by kernel_rfl⟩
  · intro j hj
    (conv => whnf)
    refine ⟨fun h => ?_, fun h => ?_⟩
    · have h := of_decide_eq_true h
      have hjj : j < l.length := by omega
      have hk : (l.take j).length = j := by rw [List.length_take]; omega
      (conv => whnf)
      refine ⟨⟨by omega, by omega⟩, ?_⟩
      (conv => whnf)
      (refine Or.inr ⟨[ ], [ 21 ], by kernel_rfl, ?_⟩; (conv => whnf); refine ⟨[ ], _, _, _, _, ⟨ pw_open2 _ (ha _), rfl, rfl, by kernel_rfl⟩, ?_⟩)
      (conv => whnf)
      refine ⟨_, l.getD j ent0, ⟨rfl, rfl, rfl, ?_, ?_⟩, ?_⟩
      · show ((l.take j).length + 1) * 56 ≤ _; rw [hk]; omega
      · rw [hk]; omega
      (conv => whnf)
      refine ⟨j + 1, ?_⟩
      (conv => whnf)
      refine ⟨⟨⟨?_, ?_⟩, ?_, rfl, ?_⟩, by kernel_rfl, by kernel_rfl⟩
      · show l.length - (j + 1) < l.length - j; omega
      · show j + 1 ≤ l.length; omega
      · rw [w64 _ (by omega) (by omega)]; rfl
      · show [Row.nest 58 6 3 3 ent0 eEnt EntT.profile none (l.take j ++ [l.getD j ent0])] = [Row.nest 58 6 3 3 ent0 eEnt EntT.profile none (l.take (j + 1))]
        rw [List.take_add_one, List.getElem?_eq_getElem hjj]
        simp [List.getD, hjj]
    · have h := of_decide_eq_false h
      have ej : l.take j = l := List.take_of_length_le (by omega)
      rw [ej]
      (conv => whnf)
      refine ⟨[5], by kernel_rfl, ?_⟩
      (conv => whnf)
      exact ⟨rfl, rfl⟩
end Go.Proofs.Tryz.My
set_option maxRecDepth 100000
set_option maxHeartbeats 0
set_option linter.unusedVariables false
set_option linter.unusedSimpArgs false
namespace Go.Proofs.Tryz.My
open Go Go.Ev
theorem pc_openBad (b : BooksT) (o : Okay b) (h : chkB b = false) : PC Tryz.prog 53 [bks b] (.tup [.nilp, i64 8]) := by
  have c : PC Tryz.prog 41 [bks b] (i64 8) := by have c := pc_BCheck b o; rwa [if_neg (by rw [h]; decide)] at c
  refine pc_of_bodyF hm Tryz.func53 (by kernel_rfl) ?_
  conv => whnf
  (repeat' ((first | refine ansT ?_ | refine ansF ?_ | ((try (refine Or.inl ?_; (conv => whnf))); (try (refine ⟨false, ?_⟩; (conv => whnf))); refine ⟨_, by exact c, ?_⟩) | refine ansD (by first | (simp [*]; done) | omega) ?_ | refine ansN (by first | (simp [*]; done) | omega) ?_ | refine ⟨by kernel_rfl, ?_⟩ | refine ansB (by decide) (by first | decide | (simp; done) | (simp only [List.length_cons, List.length_nil]; decide)) ?_ | fail); (conv => whnf)))
  first | rfl | set_option pp.maxSteps 300 in trace_state
theorem chk_small {b : BooksT} (h : chkB b = true) : b.users.length ≤ 16 ∧ b.recipes.length ≤ 16 ∧ b.log.length ≤ 32 := by
  simp only [chkB, sizedB, withB, Bool.and_eq_true, decide_eq_true_eq] at h
  omega
def dskR (b : BooksT) : List Row := [.cells 103 [i64 b.keep, .own 1, .own 2, i64 b.next, .own 3], .vec 5 1 0 e8 b.users, .nest 76 13 11 3 rec0 eRec RecT.appr none b.recipes, .nest 58 6 3 3 ent0 eEnt EntT.profile none b.log]
theorem pw_open (b : BooksT) (o : Okay b) (h : chkB b = true) : PW Tryz.prog 53 [bks b] [] (.tup [.ptr 0 0 0 0, i64 0]) (dskR b) := by
  have c : PC Tryz.prog 41 [bks b] (i64 0) := by have c := pc_BCheck b o; rwa [if_pos h] at c
  have s := chk_small h
  refine pw_of_bodyF hm Tryz.func53 (by kernel_rfl) ⟨by kernel_rfl, ?_⟩
  conv => whnf
  (repeat' ((first | refine ansT ?_ | refine ansF ?_ | ((try (refine Or.inl ?_; (conv => whnf))); (try (refine ⟨false, ?_⟩; (conv => whnf))); refine ⟨_, by exact c, ?_⟩) | refine ansD (by first | (simp [*]; done) | omega) ?_ | refine ansN (by first | (simp [*]; done) | omega) ?_ | refine ⟨by kernel_rfl, ?_⟩ | refine ansB (by decide) (by first | decide | (simp; done) | (simp only [List.length_cons, List.length_nil]; decide)) ?_ | fail); (conv => whnf)))
  (refine Or.inr ⟨[ ], [ 12 ], by kernel_rfl, ?_⟩; (conv => whnf); refine ⟨[ ], _, _, _, _, ⟨ pw_CloneU b.users o.u, rfl, rfl, by kernel_rfl⟩, ?_⟩)
  (conv => whnf)
  (refine Or.inr ⟨[ ], [ 16 ], by kernel_rfl, ?_⟩; (conv => whnf); refine ⟨[ ], _, _, _, _, ⟨ pw_chRec b.recipes (by omega) o.a, rfl, rfl, by kernel_rfl⟩, ?_⟩)
  (conv => whnf)
  (refine Or.inr ⟨[ ], [ 20 ], by kernel_rfl, ?_⟩; (conv => whnf); refine ⟨[ ], _, _, _, _, ⟨ pw_chEnt b.log (by omega) o.p, rfl, rfl, by kernel_rfl⟩, ?_⟩)
  (conv => whnf)
  refine ⟨[24, 12, 16, 20], by kernel_rfl, ?_⟩
  (conv => whnf)
  exact ⟨rfl, rfl⟩
end Go.Proofs.Tryz.My
set_option maxRecDepth 100000
set_option maxHeartbeats 0
set_option linter.unusedVariables false
set_option linter.unusedSimpArgs false
namespace Go.Proofs.Tryz.My
open Go Go.Ev
def addU (b : BooksT) (role : Int) : BooksT := ⟨b.keep, b.users ++ [role], b.recipes, b.next, b.log⟩
def addE (b : BooksT) (role : Int) : Int := if chkB b then (if role < 1 ∨ 3 < role then 2 else if (b.users.length : Int) = 16 then 9 else 0) else 8
abbrev ownB (b : BooksT) : AV := .agg [i64 b.keep, .own 0, .own 1, i64 b.next, .own 2]
def ownR (b : BooksT) : List Row := [.vec 5 1 0 e8 b.users, .nest 76 13 11 3 rec0 eRec RecT.appr none b.recipes, .nest 58 6 3 3 ent0 eEnt EntT.profile none b.log]
theorem pw_AddUserOk (b : BooksT) (o : Okay b) (role : Int) (h : addE b role = 0) : PW Tryz.prog 17 [bks b, u8 role] [] (.tup [ownB (addU b role), i64 b.users.length, i64 0]) (ownR (addU b role)) := by
  have hc : chkB b = true := by
    unfold addE at h
    split at h
    · assumption
    · cases h
  have hr : ¬(role < 1 ∨ 3 < role) := fun q => by
    unfold addE at h
    rw [if_pos hc, if_pos q] at h
    cases h
  have hu : ¬(b.users.length : Int) = 16 := fun q => by
    unfold addE at h
    rw [if_pos hc, if_neg hr, if_pos q] at h
    cases h
  have s := chk_small hc
  have w1 : IntKind.i64.wrap (((b.users ++ [role]).length : Int) - 1) = b.users.length := by
    have hl : ((b.users ++ [role]).length : Int) = b.users.length + 1 := by simp
    rw [hl, w64 _ (by omega) (by omega)]
    omega
  refine pw_of_bodyF hm Tryz.func17 (by kernel_rfl) ⟨by kernel_rfl, ?_⟩
  conv => whnf
  (refine Or.inr ⟨[ ], [ 11, 9, 12, 13 ], by kernel_rfl, ?_⟩; (conv => whnf); refine ⟨[ ], _, _, _, _, ⟨ pw_open b o hc, rfl, rfl, by kernel_rfl⟩, ?_⟩)
  (conv => whnf)
  (repeat' ((first | refine ansT ?_ | refine ansF ?_ | refine ansD (by first | (simp [*]; done) | omega) ?_ | refine ansN (by first | (simp [*]; done) | omega) ?_ | refine ⟨by kernel_rfl, ?_⟩ | refine ansB (by decide) (by first | decide | (simp; done) | (simp only [List.length_cons, List.length_nil]; decide)) ?_ | fail); (conv => whnf)))
  (repeat' (first | (refine ansS (fun hh => ?_) (fun hh => ?_) <;> (first | simp only [ansX] at hh | skip) <;> (first | (exfalso; omega) | (exfalso; simp [*] at hh; done) | (exfalso; revert hh; decide) | exact absurd (by assumption) hh | (conv => whnf))) | ((first | refine ⟨by kernel_rfl, ?_⟩ | refine ansB (by omega) (by omega) ?_ | refine ansB (by decide) (by decide) ?_ | refine And.intro (a := _ ≤ _) (by omega) ?_ | refine And.intro (a := _ ≠ _) (by omega) ?_ | fail); (conv => whnf))))
  refine ⟨⟨Int, 1, 0, e8, b.users⟩, [role], rfl, rfl, ⟨rfl, rfl⟩, ?_, ?_, fun y _ => ⟨rfl, rfl, rfl⟩, ?_⟩
  · show (b.users.length + 1) * 1 ≤ _; omega
  · show b.users.length + 1 ≤ _; omega
  (conv => whnf)
  (repeat' (first | (refine ansS (fun hh => ?_) (fun hh => ?_) <;> (first | simp only [ansX] at hh | skip) <;> (first | (exfalso; omega) | (exfalso; simp [*] at hh; done) | (exfalso; revert hh; decide) | exact absurd (by assumption) hh | (conv => whnf))) | ((first | refine ⟨by kernel_rfl, ?_⟩ | refine ansB (by omega) (by omega) ?_ | refine ansB (by decide) (by decide) ?_ | refine And.intro (a := _ ≤ _) (by omega) ?_ | refine And.intro (a := _ ≠ _) (by omega) ?_ | fail); (conv => whnf))))
  refine ⟨[44, 12, 13], by kernel_rfl, ?_⟩
  (conv => whnf)
  refine ⟨?_, rfl⟩
  rw [w1]
  rfl
theorem pc_AddUserBad (b : BooksT) (o : Okay b) (role : Int) (h : ¬addE b role = 0) : PC Tryz.prog 17 [bks b, u8 role] (.tup [newB 0, i64 0, i64 (addE b role)]) := by
  by_cases hc : chkB b = true
  · have s := chk_small hc
    unfold addE at h ⊢
    rw [if_pos hc] at h ⊢
    refine pc_of_bodyF hm Tryz.func17 (by kernel_rfl) ?_
    conv => whnf
    (refine Or.inr ⟨[ ], [ 11, 9, 12, 13 ], by kernel_rfl, ?_⟩; (conv => whnf); refine ⟨[ ], _, _, _, _, ⟨ pw_open b o hc, rfl, rfl, by kernel_rfl⟩, ?_⟩)
    (conv => whnf)
    (repeat' ((first | refine ansT ?_ | refine ansF ?_ | refine ansD (by first | (simp [*]; done) | omega) ?_ | refine ansN (by first | (simp [*]; done) | omega) ?_ | refine ⟨by kernel_rfl, ?_⟩ | refine ansB (by decide) (by first | decide | (simp; done) | (simp only [List.length_cons, List.length_nil]; decide)) ?_ | fail); (conv => whnf)))
    (repeat' (first | (refine ansS (fun hh => ?_) (fun hh => ?_) <;> (first | simp only [ansX] at hh | skip) <;> (first | (exfalso; omega) | (exfalso; simp [*] at hh; done) | (exfalso; revert hh; decide) | exact absurd (by assumption) hh | (conv => whnf))) | ((first | refine ⟨by kernel_rfl, ?_⟩ | refine ansB (by omega) (by omega) ?_ | refine ansB (by decide) (by decide) ?_ | refine And.intro (a := _ ≤ _) (by omega) ?_ | refine And.intro (a := _ ≠ _) (by omega) ?_ | fail); (conv => whnf))))
    all_goals first
      | (exfalso; apply h; rw [if_neg (by omega), if_neg (by omega)]; done)
      | (rw [if_pos (by omega)]; done)
      | (rw [if_neg (by omega), if_pos (by omega)]; done)
      | set_option pp.maxSteps 300 in trace_state
  · have hc : chkB b = false := by simpa using hc
    have c := pc_openBad b o hc
    unfold addE
    rw [if_neg (by rw [hc]; decide)]
    refine pc_of_bodyF hm Tryz.func17 (by kernel_rfl) ?_
    conv => whnf
    (repeat' ((first | refine ansT ?_ | refine ansF ?_ | ((try (refine Or.inl ?_; (conv => whnf))); (try (refine ⟨false, ?_⟩; (conv => whnf))); refine ⟨_, by exact c, ?_⟩) | refine ansD (by first | (simp [*]; done) | omega) ?_ | refine ansN (by first | (simp [*]; done) | omega) ?_ | refine ⟨by kernel_rfl, ?_⟩ | refine ansB (by decide) (by first | decide | (simp; done) | (simp only [List.length_cons, List.length_nil]; decide)) ?_ | fail); (conv => whnf)))
    first | rfl | set_option pp.maxSteps 300 in trace_state
end Go.Proofs.Tryz.My
set_option maxRecDepth 100000
set_option maxHeartbeats 0
set_option linter.unusedVariables false
set_option linter.unusedSimpArgs false
namespace Go.Proofs.Tryz.My
open Go Go.Ev
theorem pw_may1 (b : BooksT) (a : Int) : PW Tryz.prog 56 [.ptr 0 0 0 0, .own 4] (dskR b ++ [.lit 5 1 [[u8 a]]]) (.fn (.func 101) [] [.ptr 5 0 0 0, .ptr 6 0 0 0]) (dskR b ++ [.lit 5 1 [[u8 a]], .cells 99 [.ptr 0 0 0 0], .cells 22 [.own 4]]) := by
  refine pw_of_bodyFN hm Tryz.func56 (by kernel_rfl) ⟨by kernel_rfl, ?_⟩
  conv => whnf
  refine ⟨[2, 3], by kernel_rfl, ?_⟩
  (conv => whnf)
  exact ⟨rfl, rfl⟩
def newRec (user : Int) (g : GauT) : RecT := ⟨user, g, [], 1⟩
def drfB (b : BooksT) (user : Int) (g : GauT) : BooksT := ⟨b.keep, b.users, b.recipes ++ [newRec user g], b.next, b.log⟩
def drfE (b : BooksT) (user : Int) (g : GauT) : Int :=
  if chkB b then (if ¬(0 ≤ user ∧ user ≤ (b.users.length : Int) - 1) then 6 else if mayB [2] b.users user = false then 100 else if ¬gauB g = true then 8 else if (b.recipes.length : Int) = 16 then 9 else 0) else 8
theorem pw_DraftOk (b : BooksT) (o : Okay b) (user : Int) (g : GauT) (h : drfE b user g = 0) : PW Tryz.prog 19 [bks b, i64 user, gau g] [] (.tup [ownB (drfB b user g), i64 b.recipes.length, i64 0]) (ownR (drfB b user g)) := by
  have hc : chkB b = true := by
    unfold drfE at h
    split at h
    · assumption
    · cases h
  unfold drfE at h
  rw [if_pos hc] at h
  have hu : 0 ≤ user ∧ user ≤ (b.users.length : Int) - 1 := Decidable.byContradiction fun q => by rw [if_pos q] at h; cases h
  rw [if_neg (show ¬¬(0 ≤ user ∧ user ≤ (b.users.length : Int) - 1) from fun q => q hu)] at h
  have hmy : mayB [2] b.users user = true := by
    cases e : mayB [2] b.users user with
    | true => rfl
    | false => rw [if_pos e] at h; cases h
  rw [if_neg (show ¬mayB [2] b.users user = false by rw [hmy]; decide)] at h
  have hg : gauB g = true := Decidable.byContradiction fun q => by rw [if_pos q] at h; cases h
  rw [if_neg (show ¬¬gauB g = true from fun q => q hg)] at h
  have hl : ¬(b.recipes.length : Int) = 16 := fun q => by rw [if_pos q] at h; cases h
  clear h
  have s := chk_small hc
  have c1 := fun u => pc_may1c b.keep b.next u b.users b.recipes b.log 2 (lt40 o.u)
  have w0 : IntKind.i64.wrap ((b.users.length : Int) - 1) = (b.users.length : Int) - 1 := w64 _ (by omega) (by omega)
  have c2 : ∀ u, PC Tryz.prog 55 [i64 0, i64 (IntKind.i64.wrap ((b.users.length : Int) - 1)), i64 u] (.bool (decide (0 ≤ u) && decide (u ≤ (b.users.length : Int) - 1))) := fun u => by rw [w0]; exact pc_rfrom 0 _ u
  refine pw_of_bodyF hm Tryz.func19 (by kernel_rfl) ⟨by kernel_rfl, ?_⟩
  conv => whnf
  (refine Or.inr ⟨[ ], [ 14, 9, 12, 15 ], by kernel_rfl, ?_⟩; (conv => whnf); refine ⟨[ ], _, _, _, _, ⟨ pw_open b o hc, rfl, rfl, by kernel_rfl⟩, ?_⟩)
  (conv => whnf)
  (repeat' ((first | refine ansT ?_ | refine ansF ?_ | ((try (refine Or.inl ?_; (conv => whnf))); (try (refine ⟨false, ?_⟩; (conv => whnf))); refine ⟨_, by exact c2 _, ?_⟩) | refine ansD (by first | (simp [*]; done) | omega) ?_ | refine ansN (by first | (simp [*]; done) | omega) ?_ | refine ⟨by kernel_rfl, ?_⟩ | refine ansB (by decide) (by first | decide | (simp; done) | (simp only [List.length_cons, List.length_nil]; decide)) ?_ | fail); (conv => whnf)))
  (repeat' (first | (refine ansS (fun hh => ?_) (fun hh => ?_) <;> (first | simp only [ansX] at hh | skip) <;> (first | (exfalso; omega) | (exfalso; simp [*] at hh; done) | (exfalso; revert hh; decide) | exact absurd (by assumption) hh | (conv => whnf))) | ((first | refine ⟨by kernel_rfl, ?_⟩ | refine ansB (by omega) (by omega) ?_ | refine ansB (by decide) (by decide) ?_ | refine And.intro (a := _ ≤ _) (by omega) ?_ | refine And.intro (a := _ ≠ _) (by omega) ?_ | fail); (conv => whnf))))
  (refine Or.inr ⟨[ ], [ 37, 35 ], by kernel_rfl, ?_⟩; (conv => whnf); refine ⟨[ 14, 9, 12, 15, 36 ], _, _, _, _, ⟨ pw_may1 b 2, rfl, rfl, by kernel_rfl⟩, ?_⟩)
  (conv => whnf)
  (repeat' (first | (refine ansS (fun hh => ?_) (fun hh => ?_) <;> (first | simp only [ansX] at hh | skip) <;> (first | (exfalso; omega) | (exfalso; simp [*] at hh; done) | (exfalso; revert hh; decide) | exact absurd (by assumption) hh | (conv => whnf))) | ((first | refine ⟨by kernel_rfl, ?_⟩ | refine ansB (by omega) (by omega) ?_ | refine ansB (by decide) (by decide) ?_ | refine And.intro (a := _ ≤ _) (by omega) ?_ | refine And.intro (a := _ ≠ _) (by omega) ?_ | ((try (refine Or.inl ?_; (conv => whnf))); (try (refine ⟨false, ?_⟩; (conv => whnf))); refine ⟨_, by first | exact c1 _ | exact pc_CheckGauge g, ?_⟩) | fail); (conv => whnf))))
  refine ⟨newRec user g, ⟨rfl, rfl, ?_, ?_⟩, ?_⟩
  · show (b.recipes.length + 1) * 120 ≤ _; omega
  · omega
  have w1 : IntKind.i64.wrap (((b.recipes ++ [newRec user g]).length : Int) - 1) = b.recipes.length := by
    have hl : ((b.recipes ++ [newRec user g]).length : Int) = b.recipes.length + 1 := by simp
    rw [hl, w64 _ (by omega) (by omega)]
    omega
  (conv => whnf)
  (repeat' (first | (refine ansS (fun hh => ?_) (fun hh => ?_) <;> (first | simp only [ansX] at hh | skip) <;> (first | (exfalso; omega) | (exfalso; simp [*] at hh; done) | (exfalso; revert hh; decide) | exact absurd (by assumption) hh | (conv => whnf))) | ((first | refine ⟨by kernel_rfl, ?_⟩ | refine ansB (by omega) (by omega) ?_ | refine ansB (by decide) (by decide) ?_ | refine And.intro (a := _ ≤ _) (by omega) ?_ | refine And.intro (a := _ ≠ _) (by omega) ?_ | fail); (conv => whnf))))
  refine ⟨[9, 66, 15], by kernel_rfl, ?_⟩
  (conv => whnf)
  refine ⟨?_, rfl⟩
  rw [w1]
  rfl
theorem pc_DraftBad (b : BooksT) (o : Okay b) (user : Int) (g : GauT) (h : ¬drfE b user g = 0) : PC Tryz.prog 19 [bks b, i64 user, gau g] (.tup [newB 0, i64 0, i64 (drfE b user g)]) := by
  by_cases hc : chkB b = true
  · unfold drfE at h ⊢
    rw [if_pos hc] at h ⊢
    have s := chk_small hc
    have c1 := fun u => pc_may1c b.keep b.next u b.users b.recipes b.log 2 (lt40 o.u)
    have w0 : IntKind.i64.wrap ((b.users.length : Int) - 1) = (b.users.length : Int) - 1 := w64 _ (by omega) (by omega)
    have c2 : ∀ u, PC Tryz.prog 55 [i64 0, i64 (IntKind.i64.wrap ((b.users.length : Int) - 1)), i64 u] (.bool (decide (0 ≤ u) && decide (u ≤ (b.users.length : Int) - 1))) := fun u => by rw [w0]; exact pc_rfrom 0 _ u
    by_cases hu : 0 ≤ user ∧ user ≤ (b.users.length : Int) - 1
    · rw [if_neg (show ¬¬(0 ≤ user ∧ user ≤ (b.users.length : Int) - 1) from fun q => q hu)] at h ⊢
      refine pc_of_bodyF hm Tryz.func19 (by kernel_rfl) ?_
      conv => whnf
      (refine Or.inr ⟨[ ], [ 14, 9, 12, 15 ], by kernel_rfl, ?_⟩; (conv => whnf); refine ⟨[ ], _, _, _, _, ⟨ pw_open b o hc, rfl, rfl, by kernel_rfl⟩, ?_⟩)
      (conv => whnf)
      (repeat' ((first | refine ansT ?_ | refine ansF ?_ | ((try (refine Or.inl ?_; (conv => whnf))); (try (refine ⟨false, ?_⟩; (conv => whnf))); refine ⟨_, by exact c2 _, ?_⟩) | refine ansD (by first | (simp [*]; done) | omega) ?_ | refine ansN (by first | (simp [*]; done) | omega) ?_ | refine ⟨by kernel_rfl, ?_⟩ | refine ansB (by decide) (by first | decide | (simp; done) | (simp only [List.length_cons, List.length_nil]; decide)) ?_ | fail); (conv => whnf)))
      (repeat' (first | (refine ansS (fun hh => ?_) (fun hh => ?_) <;> (first | simp only [ansX] at hh | skip) <;> (first | (exfalso; omega) | (exfalso; simp [*] at hh; done) | (exfalso; revert hh; decide) | exact absurd (by assumption) hh | (conv => whnf))) | ((first | refine ⟨by kernel_rfl, ?_⟩ | refine ansB (by omega) (by omega) ?_ | refine ansB (by decide) (by decide) ?_ | refine And.intro (a := _ ≤ _) (by omega) ?_ | refine And.intro (a := _ ≠ _) (by omega) ?_ | fail); (conv => whnf))))
      (refine Or.inr ⟨[ ], [ 37, 35 ], by kernel_rfl, ?_⟩; (conv => whnf); refine ⟨[ 14, 9, 12, 15, 36 ], _, _, _, _, ⟨ pw_may1 b 2, rfl, rfl, by kernel_rfl⟩, ?_⟩)
      (conv => whnf)
      (repeat' (first | (refine ansS (fun hh => ?_) (fun hh => ?_) <;> (first | simp only [ansX] at hh | skip) <;> (first | (exfalso; omega) | (exfalso; simp [*] at hh; done) | (exfalso; revert hh; decide) | exact absurd (by assumption) hh | (conv => whnf))) | ((first | refine ⟨by kernel_rfl, ?_⟩ | refine ansB (by omega) (by omega) ?_ | refine ansB (by decide) (by decide) ?_ | refine And.intro (a := _ ≤ _) (by omega) ?_ | refine And.intro (a := _ ≠ _) (by omega) ?_ | ((try (refine Or.inl ?_; (conv => whnf))); (try (refine ⟨false, ?_⟩; (conv => whnf))); refine ⟨_, by first | exact c1 _ | exact pc_CheckGauge g, ?_⟩) | fail); (conv => whnf))))
      all_goals first
        | (exfalso; apply h; simp_all; done)
        | (simp_all; done)
        | (exfalso; omega)
        | set_option pp.maxSteps 300 in trace_state
    · rw [if_pos hu]
      refine pc_of_bodyF hm Tryz.func19 (by kernel_rfl) ?_
      conv => whnf
      (refine Or.inr ⟨[ ], [ 14, 9, 12, 15 ], by kernel_rfl, ?_⟩; (conv => whnf); refine ⟨[ ], _, _, _, _, ⟨ pw_open b o hc, rfl, rfl, by kernel_rfl⟩, ?_⟩)
      (conv => whnf)
      (repeat' ((first | refine ansT ?_ | refine ansF ?_ | ((try (refine Or.inl ?_; (conv => whnf))); (try (refine ⟨false, ?_⟩; (conv => whnf))); refine ⟨_, by exact c2 _, ?_⟩) | refine ansD (by first | (simp [*]; done) | omega) ?_ | refine ansN (by first | (simp [*]; done) | omega) ?_ | refine ⟨by kernel_rfl, ?_⟩ | refine ansB (by decide) (by first | decide | (simp; done) | (simp only [List.length_cons, List.length_nil]; decide)) ?_ | fail); (conv => whnf)))
      (repeat' (first | (refine ansS (fun hh => ?_) (fun hh => ?_) <;> (first | simp only [ansX] at hh | skip) <;> (first | (exfalso; omega) | (exfalso; simp [*] at hh; done) | (exfalso; revert hh; decide) | exact absurd (by assumption) hh | (conv => whnf))) | ((first | refine ⟨by kernel_rfl, ?_⟩ | refine ansB (by omega) (by omega) ?_ | refine ansB (by decide) (by decide) ?_ | refine And.intro (a := _ ≤ _) (by omega) ?_ | refine And.intro (a := _ ≠ _) (by omega) ?_ | fail); (conv => whnf))))
      all_goals first
        | (exfalso; apply h; simp_all; done)
        | (simp_all; done)
        | (exfalso; omega)
        | set_option pp.maxSteps 300 in trace_state
  · have hc : chkB b = false := by simpa using hc
    have c := pc_openBad b o hc
    unfold drfE
    rw [if_neg (by rw [hc]; decide)]
    refine pc_of_bodyF hm Tryz.func19 (by kernel_rfl) ?_
    conv => whnf
    (repeat' ((first | refine ansT ?_ | refine ansF ?_ | ((try (refine Or.inl ?_; (conv => whnf))); (try (refine ⟨false, ?_⟩; (conv => whnf))); refine ⟨_, by exact c, ?_⟩) | refine ansD (by first | (simp [*]; done) | omega) ?_ | refine ansN (by first | (simp [*]; done) | omega) ?_ | refine ⟨by kernel_rfl, ?_⟩ | refine ansB (by decide) (by first | decide | (simp; done) | (simp only [List.length_cons, List.length_nil]; decide)) ?_ | fail); (conv => whnf)))
    first | rfl | set_option pp.maxSteps 300 in trace_state
end Go.Proofs.Tryz.My
set_option maxRecDepth 100000
set_option maxHeartbeats 0
set_option linter.unusedVariables false
set_option linter.unusedSimpArgs false
namespace Go.Proofs.Tryz.My
open Go Go.Ev
def upK {α : Type} (f : α → α) (d : α) (l : List α) : Nat → List α
  | 0 => l
  | k + 1 => (upK f d l k).set k (f ((upK f d l k).getD k d))
theorem getD_set_at {α : Type} {d y : α} {l : List α} {j : Nat} (h : j < l.length) : (l.set j y).getD j d = y := by
  rw [List.getD, List.getElem?_set_self h]; rfl
def spI (l : List Int) (m : Nat) : List Int := upK (fun _ => -7) 0 l m
def inR (x : RecT) (m : Nat) : RecT := ⟨x.author, x.gauge, spI x.appr m, x.state⟩
def spR (x : RecT) : RecT := ⟨-7, x.gauge, spI x.appr x.appr.length, x.state⟩
def inE (x : EntT) (m : Nat) : EntT := ⟨x.seq, x.recipe, x.part, spI x.profile m, x.verdict, x.disputed⟩
def spE (x : EntT) : EntT := ⟨-7, x.recipe, x.part, spI x.profile x.profile.length, x.verdict, x.disputed⟩
end Go.Proofs.Tryz.My
