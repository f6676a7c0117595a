/- A helper text: contracts of functions of the program, and plain lemmas. -/
import Derived.Test.YtnoahgjfeablgaaGreatEvSix
import Derived.Test.YtnoahgjfeablgaaGreatMzBp5
import Derived.Test.YtnoahgjfeablgaaGreatEvZh
set_option maxRecDepth 100000
set_option maxHeartbeats 0
set_option linter.unusedVariables false
set_option linter.unusedSimpArgs false
namespace Go.Proofs.Tryz.My
open Go Go.Ev
def renD : Go.Shelf.Ren := ⟨fun n => match n with | 45 => 75 | n => n, fun t => match t with | 22 => 24 | 23 => 58 | t => t, fun n => n⟩
theorem laidD : Go.Proofs.SlLaysE0.n45 Tryz.prog renD where
  mixed := hm
  f45 := ⟨"slices.Delete[[]sightbench/api.Entry,sightbench/api.Entry]", by kernel_rfl, by kernel_rfl⟩
  t0 := by kernel_rfl
  a0 := fun w => by kernel_rfl
  z0 := fun w => by kernel_rfl
  v0 := fun w => by kernel_rfl
  t3 := by kernel_rfl
  a3 := fun w => by kernel_rfl
  z3 := fun w => by kernel_rfl
  v3 := fun w => by kernel_rfl
  t4 := by kernel_rfl
  a4 := fun w => by kernel_rfl
  z4 := fun w => by kernel_rfl
  v4 := fun w => by kernel_rfl
  t22 := by kernel_rfl
  a22 := fun w => by kernel_rfl
  z22 := fun w => by kernel_rfl
  v22 := fun w => by kernel_rfl
def dropE (l : List EntT) (i : Nat) : List EntT := l.take i ++ l.drop (i + 1)
theorem pw_DelV (l : List EntT) (i : Nat) (hi : i < l.length) : PW Tryz.prog 75 [.own 0, i64 i, i64 ((i : Int) + 1)] [.vec 58 6 ent0 eEnt l] (.own 1) [.none, .vec 58 6 ent0 eEnt (dropE l i)] :=
  pw_deleteV laidD Tryz.func75 (by kernel_rfl) rfl (fun w => by kernel_rfl) ((Tryz.prog.info? 58).get (by kernel_rfl)) (by kernel_rfl) (by kernel_rfl) (.agg #[.int .i64 0, .int .i64 0, .int .i64 0, .slice none 0 0, .int .u8 0, .bool false]) (fun w => by kernel_rfl) (by kernel_rfl) (fun v hv => by
    have h : v ∈ [Value.int .i64 0, .int .i64 0, .int .i64 0, .slice none 0 0, .int .u8 0, .bool false] := hv
    simp only [List.mem_cons, List.not_mem_nil, or_false] at h
    rcases h with h | h | h | h | h | h <;> rw [h] <;> rfl) 58 ent0 eEnt (fun y j hj => by
    match j, hj with
    | 0, _ => rfl
    | 1, _ => rfl
    | 2, _ => rfl
    | 3, _ => rfl
    | 4, _ => rfl
    | 5, _ => rfl) l i hi
theorem pc_open2 (x : EntT) (hx : x.profile.length < 2 ^ 20) : PC Tryz.prog 98 [ent x] (ent x) := (pw_open2 x hx).toPC 6 (by kernel_rfl)
theorem pw_chEntV (l : List EntT) (hl : l.length < 2 ^ 16) (ha : ∀ i, (l.getD i ent0).profile.length < 2 ^ 20) : PW Tryz.prog 97 [ents l, .fn (.func 98) [] []] [] (.own 0) [.vec 58 6 ent0 eEnt l] := by
  have w1 : IntKind.i64.wrap ((l.length : Int) + 1) = (l.length : Int) + 1 := w64 _ (by omega) (by omega)
  refine pw_of_bodyF hm Tryz.func97 (by kernel_rfl) ⟨by kernel_rfl, ?_⟩
  conv => whnf
  refine ⟨.vec 58 6 ent0 eEnt [], ⟨⟨rfl, rfl, rfl⟩, by omega, by omega, of_decide_eq_true (by kernel_rfl)⟩, ?_⟩
  (conv => whnf)
  refine Or.inr ⟨Nat, [14], [], [(5, ⟨EntT, 58, 6, ent0, eEnt⟩)], fun i => [i64 i], fun _ => [], fun i => [.vec 58 6 ent0 eEnt (l.take i)], fun i => l.length - i, fun i => i ≤ l.length, ?_⟩
  (conv => whnf)
  refine ⟨⟨0, ?_⟩, ?_⟩
  · (conv => whnf)
    exact ⟨⟨Nat.zero_le _, rfl, rfl, rfl⟩, by kernel_rfl, by kernel_rfl⟩
  · intro j hj
    (conv => whnf)
    refine ⟨fun h => ?_, fun h => ?_⟩
    · have h := of_decide_eq_true h
      have hjj : j < l.length := by omega
      have hk : (l.take j).length = j := by rw [List.length_take]; omega
      (conv => whnf)
      refine ⟨⟨by omega, by omega⟩, ?_⟩
      (conv => whnf)
      (repeat' ((first | refine ansT ?_ | refine ansF ?_ | ((try (refine Or.inl ?_; (conv => whnf))); (try (refine ⟨false, ?_⟩; (conv => whnf))); refine ⟨_, by exact pc_open2 _ (ha _), ?_⟩) | refine ansD (by first | (simp [*]; done) | omega) ?_ | refine ansN (by first | (simp [*]; done) | omega) ?_ | refine ⟨by kernel_rfl, ?_⟩ | refine ansB (by decide) (by first | decide | (simp; done) | (simp only [List.length_cons, List.length_nil]; decide)) ?_ | fail); (conv => whnf)))
      refine ⟨⟨EntT, 6, ent0, eEnt, l.take j⟩, [l.getD j ent0], rfl, rfl, ⟨rfl, rfl⟩, ?_, ?_, fun y _ => ⟨rfl, rfl, rfl⟩, ?_⟩
      · show ((l.take j).length + 1) * 56 ≤ _; rw [hk]; omega
      · show (l.take j).length + 1 ≤ _; rw [hk]; omega
      (conv => whnf)
      refine ⟨j + 1, ?_⟩
      (conv => whnf)
      refine ⟨⟨⟨?_, ?_⟩, ?_, rfl, ?_⟩, by kernel_rfl, by kernel_rfl⟩
      · show l.length - (j + 1) < l.length - j; omega
      · show j + 1 ≤ l.length; omega
      · rw [w64 _ (by omega) (by omega)]; rfl
      · show [Row.vec 58 6 ent0 eEnt (l.take j ++ [l.getD j ent0])] = [Row.vec 58 6 ent0 eEnt (l.take (j + 1))]
        rw [List.take_add_one, List.getElem?_eq_getElem hjj]
        simp [List.getD, hjj]
    · have h := of_decide_eq_false h
      have ej : l.take j = l := List.take_of_length_le (by omega)
      rw [ej]
      (conv => whnf)
      refine ⟨[5], by kernel_rfl, ?_⟩
      (conv => whnf)
      exact ⟨rfl, rfl⟩
def dskV (b : BooksT) : List Row := [.cells 103 [i64 b.keep, .own 1, .own 2, i64 b.next, .own 3], .vec 5 1 0 e8 b.users, .nest 76 13 11 3 rec0 eRec RecT.appr none b.recipes, .vec 58 6 ent0 eEnt b.log]
theorem pw_openV (b : BooksT) (o : Okay b) (h : chkB b = true) : PW Tryz.prog 53 [bks b] [] (.tup [.ptr 0 0 0 0, i64 0]) (dskV b) := by
  have c : PC Tryz.prog 41 [bks b] (i64 0) := by have c := pc_BCheck b o; rwa [if_pos h] at c
  have s := chk_small h
  refine pw_of_bodyF hm Tryz.func53 (by kernel_rfl) ⟨by kernel_rfl, ?_⟩
  conv => whnf
  (repeat' ((first | refine ansT ?_ | refine ansF ?_ | ((try (refine Or.inl ?_; (conv => whnf))); (try (refine ⟨false, ?_⟩; (conv => whnf))); refine ⟨_, by exact c, ?_⟩) | refine ansD (by first | (simp [*]; done) | omega) ?_ | refine ansN (by first | (simp [*]; done) | omega) ?_ | refine ⟨by kernel_rfl, ?_⟩ | refine ansB (by decide) (by first | decide | (simp; done) | (simp only [List.length_cons, List.length_nil]; decide)) ?_ | fail); (conv => whnf)))
  (refine Or.inr ⟨[ ], [ 12 ], by kernel_rfl, ?_⟩; (conv => whnf); refine ⟨[ ], _, _, _, _, ⟨ pw_CloneU b.users o.u, rfl, rfl, by kernel_rfl⟩, ?_⟩)
  (conv => whnf)
  (refine Or.inr ⟨[ ], [ 16 ], by kernel_rfl, ?_⟩; (conv => whnf); refine ⟨[ ], _, _, _, _, ⟨ pw_chRec b.recipes (by omega) o.a, rfl, rfl, by kernel_rfl⟩, ?_⟩)
  (conv => whnf)
  (refine Or.inr ⟨[ ], [ 20 ], by kernel_rfl, ?_⟩; (conv => whnf); refine ⟨[ ], _, _, _, _, ⟨ pw_chEntV b.log (by omega) o.p, rfl, rfl, by kernel_rfl⟩, ?_⟩)
  (conv => whnf)
  refine ⟨[24, 12, 16, 20], by kernel_rfl, ?_⟩
  (conv => whnf)
  exact ⟨rfl, rfl⟩
end Go.Proofs.Tryz.My
