/- A helper text: contracts of functions of the program, and plain lemmas. -/
import Derived.Test.YtnoahgjfeablgaaGreatEvSix
import Derived.Test.YtnoahgjfeablgaaGreatMzBsA
import Derived.Test.YtnoahgjfeablgaaGreatMzBkA
import Derived.Test.YtnoahgjfeablgaaGreatEvFn
import Derived.Test.YtnoahgjfeablgaaGreatMzBq4
import Derived.Test.YtnoahgjfeablgaaGreatMzGdB
import Derived.Test.YtnoahgjfeablgaaGreatMzBt1
set_option maxRecDepth 100000
set_option maxHeartbeats 0
set_option linter.unusedVariables false
set_option linter.unusedSimpArgs false
namespace Go.Proofs.Tryz.My
open Go Go.Ev
theorem pw_CloneI (l : List Int) (hl : l.length < 2 ^ 20) : PW Tryz.prog 76 [ints l] [] (.own 0) [.vec 3 1 0 eI l] := by
  refine pw_of_bodyFN hm Tryz.func76 (by kernel_rfl) ⟨by kernel_rfl, ?_⟩
  conv => whnf
  refine Or.inl ?_
  (conv => whnf)
  intro b hb
  (conv => whnf)
  refine ⟨fun h => ?_, fun h => ?_⟩
  · (conv => whnf)
    refine Or.inr ⟨by kernel_rfl, .vec 3 1 0 eI [], rfl, ?_⟩
    (conv => whnf)
    refine ⟨[2], by kernel_rfl, ?_⟩
    (conv => whnf)
    rw [hb h]
    exact ⟨rfl, rfl⟩
  (conv => whnf)
  refine ⟨⟨Int, 1, 0, eI, []⟩, l, rfl, ⟨rfl, rfl⟩, rfl, ?_, ?_, fun y _ => ⟨rfl, rfl, rfl⟩, ?_⟩
  · show (0 + l.length) * 8 ≤ _; omega
  · show 0 + l.length ≤ _; omega
  (conv => whnf)
  refine ⟨[7], by kernel_rfl, ?_⟩
  (conv => whnf)
  exact ⟨rfl, rfl⟩
theorem pw_CloneU (l : List Int) (hl : l.length < 2 ^ 20) : PW Tryz.prog 94 [u8l l] [] (.own 0) [.vec 5 1 0 e8 l] := by
  refine pw_of_bodyFN hm Tryz.func94 (by kernel_rfl) ⟨by kernel_rfl, ?_⟩
  conv => whnf
  refine Or.inl ?_
  (conv => whnf)
  intro b hb
  (conv => whnf)
  refine ⟨fun h => ?_, fun h => ?_⟩
  · (conv => whnf)
    refine Or.inr ⟨by kernel_rfl, .vec 5 1 0 e8 [], rfl, ?_⟩
    (conv => whnf)
    refine ⟨[2], by kernel_rfl, ?_⟩
    (conv => whnf)
    rw [hb h]
    exact ⟨rfl, rfl⟩
  (conv => whnf)
  refine ⟨⟨Int, 1, 0, e8, []⟩, l, rfl, ⟨rfl, rfl⟩, rfl, ?_, ?_, fun y _ => ⟨rfl, rfl, rfl⟩, ?_⟩
  · show (0 + l.length) * 1 ≤ _; omega
  · show 0 + l.length ≤ _; omega
  (conv => whnf)
  refine ⟨[7], by kernel_rfl, ?_⟩
  (conv => whnf)
  exact ⟨rfl, rfl⟩
theorem pw_open1 (x : RecT) (hx : x.appr.length < 2 ^ 20) : PW Tryz.prog 96 [rcp x] [] (.agg ((eRec x).set 11 (.own 0))) [.vec 3 1 0 eI x.appr] := by
  refine pw_of_bodyF hm Tryz.func96 (by kernel_rfl) ⟨by kernel_rfl, ?_⟩
  conv => whnf
  (refine Or.inr ⟨[ ], [ 5 ], by kernel_rfl, ?_⟩; (conv => whnf); refine ⟨[ ], _, _, _, _, ⟨ pw_CloneI x.appr hx, rfl, rfl, by kernel_rfl⟩, ?_⟩)
  (conv => whnf)
  refine ⟨[5], by kernel_rfl, ?_⟩
  (conv => whnf)
  exact ⟨rfl, rfl⟩
theorem pw_open2 (x : EntT) (hx : x.profile.length < 2 ^ 20) : PW Tryz.prog 98 [ent x] [] (.agg ((eEnt x).set 3 (.own 0))) [.vec 3 1 0 eI x.profile] := by
  refine pw_of_bodyF hm Tryz.func98 (by kernel_rfl) ⟨by kernel_rfl, ?_⟩
  conv => whnf
  (refine Or.inr ⟨[ ], [ 5 ], by kernel_rfl, ?_⟩; (conv => whnf); refine ⟨[ ], _, _, _, _, ⟨ pw_CloneI x.profile hx, rfl, rfl, by kernel_rfl⟩, ?_⟩)
  (conv => whnf)
  refine ⟨[5], by kernel_rfl, ?_⟩
  (conv => whnf)
  exact ⟨rfl, rfl⟩
theorem pw_chRec (l : List RecT) (hl : l.length < 2 ^ 16) (ha : ∀ i, (l.getD i rec0).appr.length < 2 ^ 20) : PW Tryz.prog 95 [recs l, .fn (.func 96) [] []] [] (.own 0) [.nest 76 13 11 3 rec0 eRec RecT.appr none l] := by
  have w1 : IntKind.i64.wrap ((l.length : Int) + 1) = (l.length : Int) + 1 := w64 _ (by omega) (by omega)
  refine pw_of_bodyF hm Tryz.func95 (by kernel_rfl) ⟨by kernel_rfl, ?_⟩
  conv => whnf
  refine ⟨.nest 76 13 11 3 rec0 eRec RecT.appr none [], ⟨⟨rfl, by kernel_rfl, rfl, rfl⟩, by omega, by omega, of_decide_eq_true (by kernel_rfl)⟩, ?_⟩
  (conv => whnf)
  refine Or.inr ⟨Nat, [14], [], [(5, ⟨RecT, 76, 13, rec0, eRec⟩)], fun i => [i64 i], fun _ => [], fun i => [.nest 76 13 11 3 rec0 eRec RecT.appr none (l.take i)], fun i => l.length - i, fun i => i ≤ l.length, ?_⟩
  (conv => whnf)
  refine ⟨⟨0, ?_⟩, ?_⟩
  · (conv => whnf)
    exact ⟨⟨Nat.zero_le _, rfl, rfl, rfl⟩, by kernel_rfl, by kernel_rfl⟩
  · intro j hj
    (conv => whnf)
    refine ⟨fun h => ?_, fun h => ?_⟩
    · have h := of_decide_eq_true h
      have hjj : j < l.length := by omega
      have hk : (l.take j).length = j := by rw [List.length_take]; omega
      (conv => whnf)
      refine ⟨⟨by omega, by omega⟩, ?_⟩
      (conv => whnf)
      (refine Or.inr ⟨[ ], [ 21 ], by kernel_rfl, ?_⟩; (conv => whnf); refine ⟨[ ], _, _, _, _, ⟨ pw_open1 _ (ha _), rfl, rfl, by kernel_rfl⟩, ?_⟩)
      (conv => whnf)
      refine ⟨_, l.getD j rec0, ⟨rfl, rfl, rfl, ?_, ?_⟩, ?_⟩
      · show ((l.take j).length + 1) * 120 ≤ _; rw [hk]; omega
      · rw [hk]; omega
      (conv => whnf)
      refine ⟨j + 1, ?_⟩
      (conv => whnf)
      refine ⟨⟨⟨?_, ?_⟩, ?_, rfl, ?_⟩, by kernel_rfl, by kernel_rfl⟩
      · show l.length - (j + 1) < l.length - j; omega
      · show j + 1 ≤ l.length; omega
      · rw [w64 _ (by omega) (by omega)]; rfl
      · show [Row.nest 76 13 11 3 rec0 eRec RecT.appr none (l.take j ++ [l.getD j rec0])] = [Row.nest 76 13 11 3 rec0 eRec RecT.appr none (l.take (j + 1))]
        rw [List.take_add_one, List.getElem?_eq_getElem hjj]
        simp [List.getD, hjj]
    · have h := of_decide_eq_false h
      have ej : l.take j = l := List.take_of_length_le (by omega)
      rw [ej]
      (conv => whnf)
      refine ⟨[5], by kernel_rfl, ?_⟩
      (conv => whnf)
      exact ⟨rfl, rfl⟩
theorem pw_chEnt (l : List EntT) (hl : l.length < 2 ^ 16) (ha : ∀ i, (l.getD i ent0).profile.length < 2 ^ 20) : PW Tryz.prog 97 [ents l, .fn (.func 98) [] []] [] (.own 0) [.nest 58 6 3 3 ent0 eEnt EntT.profile none l] := by
  have w1 : IntKind.i64.wrap ((l.length : Int) + 1) = (l.length : Int) + 1 := w64 _ (by omega) (by omega)
  refine pw_of_bodyF hm Tryz.func97 (by kernel_rfl) ⟨by kernel_rfl, ?_⟩
  conv => whnf
  refine ⟨.nest 58 6 3 3 ent0 eEnt EntT.profile none [], ⟨⟨rfl, by kernel_rfl, rfl, rfl⟩, by omega, by omega, of_decide_eq_true (by kernel_rfl)⟩, ?_⟩
  (conv => whnf)
  refine Or.inr ⟨Nat, [14], [], [(5, ⟨EntT, 58, 6, ent0, eEnt⟩)], fun i => [i64 i], fun _ => [], fun i => [.nest 58 6 3 3 ent0 eEnt EntT.profile none (l.take i)], fun i => l.length - i, fun i => i ≤ l.length, ?_⟩
  (conv => whnf)
  refine ⟨⟨0, ?_⟩, ?_⟩
  · (conv => whnf)
    exact ⟨⟨Nat.zero_le _, rfl, rfl, rfl⟩, by kernel_rfl, by kernel_rfl⟩
  · intro j hj
    (conv => whnf)
    refine ⟨fun h => ?_, fun h => ?_⟩
    · have h := of_decide_eq_true h
      have hjj : j < l.length := by omega
      have hk : (l.take j).length = j := by rw [List.length_take]; omega
      (conv => whnf)
      refine ⟨⟨by omega, by omega⟩, ?_⟩
      (conv => whnf)
      (refine Or.inr ⟨[ ], [ 21 ], by kernel_rfl, ?_⟩; (conv => whnf); refine ⟨[ ], _, _, _, _, ⟨ pw_open2 _ (ha _), rfl, rfl, by kernel_rfl⟩, ?_⟩)
      (conv => whnf)
      refine ⟨_, l.getD j ent0, ⟨rfl, rfl, rfl, ?_, ?_⟩, ?_⟩
      · show ((l.take j).length + 1) * 56 ≤ _; rw [hk]; omega
      · rw [hk]; omega
      (conv => whnf)
      refine ⟨j + 1, ?_⟩
      (conv => whnf)
      refine ⟨⟨⟨?_, ?_⟩, ?_, rfl, ?_⟩, by kernel_rfl, by kernel_rfl⟩
      · show l.length - (j + 1) < l.length - j; omega
      · show j + 1 ≤ l.length; omega
      · rw [w64 _ (by omega) (by omega)]; rfl
      · show [Row.nest 58 6 3 3 ent0 eEnt EntT.profile none (l.take j ++ [l.getD j ent0])] = [Row.nest 58 6 3 3 ent0 eEnt EntT.profile none (l.take (j + 1))]
        rw [List.take_add_one, List.getElem?_eq_getElem hjj]
        simp [List.getD, hjj]
    · have h := of_decide_eq_false h
      have ej : l.take j = l := List.take_of_length_le (by omega)
      rw [ej]
      (conv => whnf)
      refine ⟨[5], by kernel_rfl, ?_⟩
      (conv => whnf)
      exact ⟨rfl, rfl⟩
end Go.Proofs.Tryz.My
set_option maxRecDepth 100000
set_option maxHeartbeats 0
set_option linter.unusedVariables false
set_option linter.unusedSimpArgs false
namespace Go.Proofs.Tryz.My
open Go Go.Ev
theorem pc_openBad (b : BooksT) (o : Okay b) (h : chkB b = false) : PC Tryz.prog 53 [bks b] (.tup [.nilp, i64 8]) := by
  have c : PC Tryz.prog 41 [bks b] (i64 8) := by have c := pc_BCheck b o; rwa [if_neg (by rw [h]; decide)] at c
  refine pc_of_bodyF hm Tryz.func53 (by kernel_rfl) ?_
  conv => whnf
  (repeat' ((first | refine ansT ?_ | refine ansF ?_ | ((try (refine Or.inl ?_; (conv => whnf))); (try (refine ⟨false, ?_⟩; (conv => whnf))); refine ⟨_, by exact c, ?_⟩) | refine ansD (by first | (simp [*]; done) | omega) ?_ | refine ansN (by first | (simp [*]; done) | omega) ?_ | refine ⟨by kernel_rfl, ?_⟩ | refine ansB (by decide) (by first | decide | (simp; done) | (simp only [List.length_cons, List.length_nil]; decide)) ?_ | fail); (conv => whnf)))
  first | rfl | set_option pp.maxSteps 300 in trace_state
theorem chk_small {b : BooksT} (h : chkB b = true) : b.users.length ≤ 16 ∧ b.recipes.length ≤ 16 ∧ b.log.length ≤ 32 := by
  simp only [chkB, sizedB, withB, Bool.and_eq_true, decide_eq_true_eq] at h
  omega
def dskR (b : BooksT) : List Row := [.cells 103 [i64 b.keep, .own 1, .own 2, i64 b.next, .own 3], .vec 5 1 0 e8 b.users, .nest 76 13 11 3 rec0 eRec RecT.appr none b.recipes, .nest 58 6 3 3 ent0 eEnt EntT.profile none b.log]
theorem pw_open (b : BooksT) (o : Okay b) (h : chkB b = true) : PW Tryz.prog 53 [bks b] [] (.tup [.ptr 0 0 0 0, i64 0]) (dskR b) := by
  have c : PC Tryz.prog 41 [bks b] (i64 0) := by have c := pc_BCheck b o; rwa [if_pos h] at c
  have s := chk_small h
  refine pw_of_bodyF hm Tryz.func53 (by kernel_rfl) ⟨by kernel_rfl, ?_⟩
  conv => whnf
  (repeat' ((first | refine ansT ?_ | refine ansF ?_ | ((try (refine Or.inl ?_; (conv => whnf))); (try (refine ⟨false, ?_⟩; (conv => whnf))); refine ⟨_, by exact c, ?_⟩) | refine ansD (by first | (simp [*]; done) | omega) ?_ | refine ansN (by first | (simp [*]; done) | omega) ?_ | refine ⟨by kernel_rfl, ?_⟩ | refine ansB (by decide) (by first | decide | (simp; done) | (simp only [List.length_cons, List.length_nil]; decide)) ?_ | fail); (conv => whnf)))
  (refine Or.inr ⟨[ ], [ 12 ], by kernel_rfl, ?_⟩; (conv => whnf); refine ⟨[ ], _, _, _, _, ⟨ pw_CloneU b.users o.u, rfl, rfl, by kernel_rfl⟩, ?_⟩)
  (conv => whnf)
  (refine Or.inr ⟨[ ], [ 16 ], by kernel_rfl, ?_⟩; (conv => whnf); refine ⟨[ ], _, _, _, _, ⟨ pw_chRec b.recipes (by omega) o.a, rfl, rfl, by kernel_rfl⟩, ?_⟩)
  (conv => whnf)
  (refine Or.inr ⟨[ ], [ 20 ], by kernel_rfl, ?_⟩; (conv => whnf); refine ⟨[ ], _, _, _, _, ⟨ pw_chEnt b.log (by omega) o.p, rfl, rfl, by kernel_rfl⟩, ?_⟩)
  (conv => whnf)
  refine ⟨[24, 12, 16, 20], by kernel_rfl, ?_⟩
  (conv => whnf)
  exact ⟨rfl, rfl⟩
end Go.Proofs.Tryz.My
set_option maxRecDepth 100000
set_option maxHeartbeats 0
set_option linter.unusedVariables false
set_option linter.unusedSimpArgs false
namespace Go.Proofs.Tryz.My
open Go Go.Ev
def addU (b : BooksT) (role : Int) : BooksT := ⟨b.keep, b.users ++ [role], b.recipes, b.next, b.log⟩
def addE (b : BooksT) (role : Int) : Int := if chkB b then (if role < 1 ∨ 3 < role then 2 else if (b.users.length : Int) = 16 then 9 else 0) else 8
abbrev ownB (b : BooksT) : AV := .agg [i64 b.keep, .own 0, .own 1, i64 b.next, .own 2]
def ownR (b : BooksT) : List Row := [.vec 5 1 0 e8 b.users, .nest 76 13 11 3 rec0 eRec RecT.appr none b.recipes, .nest 58 6 3 3 ent0 eEnt EntT.profile none b.log]
end Go.Proofs.Tryz.My
set_option maxRecDepth 100000
set_option maxHeartbeats 0
set_option linter.unusedVariables false
set_option linter.unusedSimpArgs false
namespace Go.Proofs.Tryz.My
open Go Go.Ev
def newRec (user : Int) (g : GauT) : RecT := ⟨user, g, [], 1⟩
def drfB (b : BooksT) (user : Int) (g : GauT) : BooksT := ⟨b.keep, b.users, b.recipes ++ [newRec user g], b.next, b.log⟩
def drfE (b : BooksT) (user : Int) (g : GauT) : Int :=
  if chkB b then (if ¬(0 ≤ user ∧ user ≤ (b.users.length : Int) - 1) then 6 else if mayB [2] b.users user = false then 100 else if ¬gauB g = true then 8 else if (b.recipes.length : Int) = 16 then 9 else 0) else 8
end Go.Proofs.Tryz.My
set_option maxRecDepth 100000
set_option maxHeartbeats 0
set_option linter.unusedVariables false
set_option linter.unusedSimpArgs false
namespace Go.Proofs.Tryz.My
open Go Go.Ev
def upK {α : Type} (f : α → α) (d : α) (l : List α) : Nat → List α
  | 0 => l
  | k + 1 => (upK f d l k).set k (f ((upK f d l k).getD k d))
theorem upK_len {α : Type} (f : α → α) (d : α) (l : List α) : ∀ k, (upK f d l k).length = l.length
  | 0 => rfl
  | k + 1 => by
    show ((upK f d l k).set k _).length = _
    rw [List.length_set, upK_len f d l k]
theorem getD_set_at {α : Type} {d y : α} {l : List α} {j : Nat} (h : j < l.length) : (l.set j y).getD j d = y := by
  rw [List.getD, List.getElem?_set_self h]; rfl
theorem upK_at {α : Type} (f : α → α) (d : α) (l : List α) : ∀ k i, k ≤ i → (upK f d l k).getD i d = l.getD i d
  | 0, _, _ => rfl
  | k + 1, i, h => by
    show ((upK f d l k).set k _).getD i d = _
    rw [List.getD, List.getElem?_set_ne (by omega)]
    exact upK_at f d l k i (by omega)
def spI (l : List Int) (m : Nat) : List Int := upK (fun _ => -7) 0 l m
def inR (x : RecT) (m : Nat) : RecT := ⟨x.author, x.gauge, spI x.appr m, x.state⟩
def spR (x : RecT) : RecT := ⟨-7, x.gauge, spI x.appr x.appr.length, x.state⟩
def inE (x : EntT) (m : Nat) : EntT := ⟨x.seq, x.recipe, x.part, spI x.profile m, x.verdict, x.disputed⟩
def spE (x : EntT) : EntT := ⟨-7, x.recipe, x.part, spI x.profile x.profile.length, x.verdict, x.disputed⟩
theorem pw_spoil (b : BooksT) (o : Okay b) : PW Tryz.prog 22 [ownB b] (ownR b) (.tup []) [.vec 5 1 0 e8 (upK (fun _ => 9) 0 b.users b.users.length), .nest 76 13 11 3 rec0 eRec RecT.appr none (upK spR rec0 b.recipes b.recipes.length), .nest 58 6 3 3 ent0 eEnt EntT.profile none (upK spE ent0 b.log b.log.length)] := by
  have hu := o.u
  have hr := o.r
  have hl := o.l
  have ha := o.a
  have hp := o.p
  refine pw_of_bodyF hm Tryz.func22 (by kernel_rfl) ⟨by kernel_rfl, ?_⟩
  conv => whnf
  refine Or.inr ⟨Nat, [10], [80], [], fun k => [i64 k], fun k => [.vec 5 1 0 e8 (upK (fun _ => 9) 0 b.users k)], fun _ => [], fun k => b.users.length - k, fun k => k ≤ b.users.length, ?_⟩
  (conv => whnf)
  refine ⟨⟨0, ?_⟩, ?_⟩
  · (conv => whnf)
    exact ⟨⟨Nat.zero_le _, rfl, rfl, rfl⟩, by kernel_rfl, by kernel_rfl⟩
  intro k hk
  have hL := upK_len (fun _ : Int => (9 : Int)) 0 b.users k
  (conv => whnf)
  refine ⟨fun h => ?_, fun h => ?_⟩
  · have h := of_decide_eq_true h
    (conv => whnf)
    refine ⟨⟨by omega, by omega⟩, ?_⟩
    (conv => whnf)
    refine ⟨9, rfl, by show k < (upK (fun _ : Int => (9 : Int)) 0 b.users k).length; omega, ?_⟩
    (conv => whnf)
    refine ⟨k + 1, ?_⟩
    (conv => whnf)
    refine ⟨⟨⟨?_, ?_⟩, ?_, rfl, rfl⟩, by kernel_rfl, by kernel_rfl⟩
    · show b.users.length - (k + 1) < b.users.length - k; omega
    · show k + 1 ≤ b.users.length; omega
    · rw [w64 _ (by omega) (by omega)]; rfl
  have h := of_decide_eq_false h
  have ek : k = b.users.length := by omega
  subst ek
  clear h hk hL
  (conv => whnf)
  refine Or.inr ⟨Nat, [21], [81], [], fun k => [i64 k], fun k => [.nest 76 13 11 3 rec0 eRec RecT.appr none (upK spR rec0 b.recipes k)], fun _ => [], fun k => b.recipes.length - k, fun k => k ≤ b.recipes.length, ?_⟩
  (conv => whnf)
  refine ⟨⟨0, ?_⟩, ?_⟩
  · (conv => whnf)
    exact ⟨⟨Nat.zero_le _, rfl, rfl, rfl⟩, by kernel_rfl, by kernel_rfl⟩
  intro j hj
  have hL := upK_len spR rec0 b.recipes j
  (conv => whnf)
  refine ⟨fun h => ?_, fun h => ?_⟩
  · have h := of_decide_eq_true h
    have hjj : j < b.recipes.length := by omega
    have hj2 : j < (upK spR rec0 b.recipes j).length := by omega
    (conv => whnf)
    refine ⟨⟨by omega, by omega⟩, ?_⟩
    (conv => whnf)
    refine ⟨hj2, ?_⟩
    (conv => whnf)
    have hx1 : ((upK spR rec0 b.recipes j).getD j rec0).appr.length < 2 ^ 20 := by rw [upK_at _ _ _ j j (Nat.le_refl j)]; exact ha j
    rw [show Int.toNat (j : Int) = j from rfl]
    have hE : upK spR rec0 b.recipes (j + 1) = (upK spR rec0 b.recipes j).set j (spR ((upK spR rec0 b.recipes j).getD j rec0)) := rfl
    generalize upK spR rec0 b.recipes j = L at hx1 hE hL hj2
    generalize hx : L.getD j rec0 = x at hx1 hE
    refine Or.inr ⟨Nat, [31], [81], [], fun m => [i64 m], fun m => [.nest 76 13 11 3 rec0 eRec RecT.appr none (L.set j (inR x m))], fun _ => [], fun m => x.appr.length - m, fun m => m ≤ x.appr.length, ?_⟩
    (conv => whnf)
    refine ⟨⟨0, ?_⟩, ?_⟩
    · (conv => whnf)
      refine ⟨⟨Nat.zero_le _, rfl, ?_, rfl⟩, by kernel_rfl, by kernel_rfl⟩
      have e0 : inR x 0 = x := rfl
      show _ = [Row.nest 76 13 11 3 rec0 eRec RecT.appr none (L.set j (inR x 0))]
      rw [e0, ← hx, set_getD_same]
    intro m hm
    have hy : (L.set j (inR x m)).getD j rec0 = inR x m := getD_set_at hj2
    have hy2 : (inR x m).appr.length = x.appr.length := upK_len _ _ _ _
    have hj3 : j < (L.set j (inR x m)).length := by rw [List.length_set]; exact hj2
    (conv => whnf)
    refine ⟨fun q => ?_, fun q => ?_⟩
    · have q := of_decide_eq_true q
      (conv => whnf)
      refine ⟨⟨by omega, by omega⟩, ?_⟩
      (conv => whnf)
      refine ⟨hj3, ?_⟩
      (conv => whnf)
      rw [show Int.toNat (j : Int) = j from rfl, hy]
      refine ⟨⟨by omega, by omega⟩, ?_⟩
      (conv => whnf)
      rw [show Int.toNat (m : Int) = m from rfl, hy]
      refine ⟨inR x (m + 1), ⟨rfl, rfl⟩, ?_⟩
      (conv => whnf)
      refine ⟨m + 1, ?_⟩
      (conv => whnf)
      refine ⟨⟨⟨?_, ?_⟩, ?_, ?_, rfl⟩, by kernel_rfl, by kernel_rfl⟩
      · show x.appr.length - (m + 1) < x.appr.length - m; omega
      · show m + 1 ≤ x.appr.length; omega
      · rw [w64 _ (by omega) (by omega)]; rfl
      · rw [List.set_set]
    have q := of_decide_eq_false q
    have em : m = x.appr.length := by omega
    subst em
    (conv => whnf)
    refine ⟨⟨by omega, by omega⟩, ?_⟩
    (conv => whnf)
    rw [show Int.toNat (j : Int) = j from rfl, hy]
    refine ⟨spR x, ⟨rfl, rfl, hj3⟩, ?_⟩
    (conv => whnf)
    refine ⟨j + 1, ?_⟩
    (conv => whnf)
    refine ⟨⟨⟨?_, ?_⟩, ?_, ?_, rfl⟩, by kernel_rfl, by kernel_rfl⟩
    · show b.recipes.length - (j + 1) < b.recipes.length - j; omega
    · show j + 1 ≤ b.recipes.length; omega
    · rw [w64 _ (by omega) (by omega)]; rfl
    · show _ = [Row.nest 76 13 11 3 rec0 eRec RecT.appr none (upK spR rec0 b.recipes (j + 1))]
      rw [hE, List.set_set]
  have h := of_decide_eq_false h
  have ej : j = b.recipes.length := by omega
  subst ej
  clear h hj
  (conv => whnf)
  refine Or.inr ⟨Nat, [52], [82], [], fun k => [i64 k], fun k => [.nest 58 6 3 3 ent0 eEnt EntT.profile none (upK spE ent0 b.log k)], fun _ => [], fun k => b.log.length - k, fun k => k ≤ b.log.length, ?_⟩
  (conv => whnf)
  refine ⟨⟨0, ?_⟩, ?_⟩
  · (conv => whnf)
    exact ⟨⟨Nat.zero_le _, rfl, rfl, rfl⟩, by kernel_rfl, by kernel_rfl⟩
  intro j hj
  have hL := upK_len spE ent0 b.log j
  (conv => whnf)
  refine ⟨fun h => ?_, fun h => ?_⟩
  · have h := of_decide_eq_true h
    have hjj : j < b.log.length := by omega
    have hj2 : j < (upK spE ent0 b.log j).length := by omega
    (conv => whnf)
    refine ⟨⟨by omega, by omega⟩, ?_⟩
    (conv => whnf)
    refine ⟨hj2, ?_⟩
    (conv => whnf)
    have hx1 : ((upK spE ent0 b.log j).getD j ent0).profile.length < 2 ^ 20 := by rw [upK_at _ _ _ j j (Nat.le_refl j)]; exact hp j
    rw [show Int.toNat (j : Int) = j from rfl]
    have hE : upK spE ent0 b.log (j + 1) = (upK spE ent0 b.log j).set j (spE ((upK spE ent0 b.log j).getD j ent0)) := rfl
    generalize upK spE ent0 b.log j = L at hx1 hE hL hj2
    generalize hx : L.getD j ent0 = x at hx1 hE
    refine Or.inr ⟨Nat, [62], [82], [], fun m => [i64 m], fun m => [.nest 58 6 3 3 ent0 eEnt EntT.profile none (L.set j (inE x m))], fun _ => [], fun m => x.profile.length - m, fun m => m ≤ x.profile.length, ?_⟩
    (conv => whnf)
    refine ⟨⟨0, ?_⟩, ?_⟩
    · (conv => whnf)
      refine ⟨⟨Nat.zero_le _, rfl, ?_, rfl⟩, by kernel_rfl, by kernel_rfl⟩
      have e0 : inE x 0 = x := rfl
      show _ = [Row.nest 58 6 3 3 ent0 eEnt EntT.profile none (L.set j (inE x 0))]
      rw [e0, ← hx, set_getD_same]
    intro m hm
    have hy : (L.set j (inE x m)).getD j ent0 = inE x m := getD_set_at hj2
    have hy2 : (inE x m).profile.length = x.profile.length := upK_len _ _ _ _
    have hj3 : j < (L.set j (inE x m)).length := by rw [List.length_set]; exact hj2
    (conv => whnf)
    refine ⟨fun q => ?_, fun q => ?_⟩
    · have q := of_decide_eq_true q
      (conv => whnf)
      refine ⟨⟨by omega, by omega⟩, ?_⟩
      (conv => whnf)
      refine ⟨hj3, ?_⟩
      (conv => whnf)
      rw [show Int.toNat (j : Int) = j from rfl, hy]
      refine ⟨⟨by omega, by omega⟩, ?_⟩
      (conv => whnf)
      rw [show Int.toNat (m : Int) = m from rfl, hy]
      refine ⟨inE x (m + 1), ⟨rfl, rfl⟩, ?_⟩
      (conv => whnf)
      refine ⟨m + 1, ?_⟩
      (conv => whnf)
      refine ⟨⟨⟨?_, ?_⟩, ?_, ?_, rfl⟩, by kernel_rfl, by kernel_rfl⟩
      · show x.profile.length - (m + 1) < x.profile.length - m; omega
      · show m + 1 ≤ x.profile.length; omega
      · rw [w64 _ (by omega) (by omega)]; rfl
      · rw [List.set_set]
    have q := of_decide_eq_false q
    have em : m = x.profile.length := by omega
    subst em
    (conv => whnf)
    refine ⟨⟨by omega, by omega⟩, ?_⟩
    (conv => whnf)
    rw [show Int.toNat (j : Int) = j from rfl, hy]
    refine ⟨spE x, ⟨rfl, rfl, hj3⟩, ?_⟩
    (conv => whnf)
    refine ⟨j + 1, ?_⟩
    (conv => whnf)
    refine ⟨⟨⟨?_, ?_⟩, ?_, ?_, rfl⟩, by kernel_rfl, by kernel_rfl⟩
    · show b.log.length - (j + 1) < b.log.length - j; omega
    · show j + 1 ≤ b.log.length; omega
    · rw [w64 _ (by omega) (by omega)]; rfl
    · show _ = [Row.nest 58 6 3 3 ent0 eEnt EntT.profile none (upK spE ent0 b.log (j + 1))]
      rw [hE, List.set_set]
  have h := of_decide_eq_false h
  have ej : j = b.log.length := by omega
  subst ej
  clear h hj
  (conv => whnf)
  refine ⟨[], by kernel_rfl, ?_⟩
  (conv => whnf)
  exact ⟨rfl, rfl⟩
end Go.Proofs.Tryz.My
