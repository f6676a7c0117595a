/- A helper text: contracts of functions of the program, and plain lemmas. -/
import Derived.Test.YtnoahgjfeablgaaGreatMzBp4
import Derived.Test.YtnoahgjfeablgaaGreatMzBoB
import Derived.Test.YtnoahgjfeablgaaGreatEvTen
import Derived.Test.YtnoahgjfeablgaaGreatEvSix
import Derived.Test.YtnoahgjfeablgaaGreatEvZh
set_option maxRecDepth 100000
set_option maxHeartbeats 0
set_option linter.unusedVariables false
set_option linter.unusedSimpArgs false
namespace Go.Proofs.Tryz.My
open Go Go.Ev
end Go.Proofs.Tryz.My
set_option maxRecDepth 100000
set_option maxHeartbeats 0
set_option linter.unusedVariables false
set_option linter.unusedSimpArgs false
namespace Go.Proofs.Tryz.My
open Go Go.Ev
def renD : Go.Shelf.Ren := ⟨fun n => match n with | 45 => 75 | n => n, fun t => match t with | 22 => 24 | 23 => 58 | t => t, fun n => n⟩
theorem laidD : Go.Proofs.SlLaysE0.n45 Tryz.prog renD where
  mixed := hm
  f45 := ⟨"slices.Delete[[]sightbench/api.Entry,sightbench/api.Entry]", by kernel_rfl, by kernel_rfl⟩
  t0 := by kernel_rfl
  a0 := fun w => by kernel_rfl
  z0 := fun w => by kernel_rfl
  v0 := fun w => by kernel_rfl
  t3 := by kernel_rfl
  a3 := fun w => by kernel_rfl
  z3 := fun w => by kernel_rfl
  v3 := fun w => by kernel_rfl
  t4 := by kernel_rfl
  a4 := fun w => by kernel_rfl
  z4 := fun w => by kernel_rfl
  v4 := fun w => by kernel_rfl
  t22 := by kernel_rfl
  a22 := fun w => by kernel_rfl
  z22 := fun w => by kernel_rfl
  v22 := fun w => by kernel_rfl
def dropE (l : List EntT) (i : Nat) : List EntT := l.take i ++ l.drop (i + 1)
theorem pw_Del (l : List EntT) (i : Nat) (hi : i < l.length) : PW Tryz.prog 75 [.own 0, i64 i, i64 ((i : Int) + 1)] [.nest 58 6 3 3 ent0 eEnt EntT.profile none l] (.own 1) [.none, .nest 58 6 3 3 ent0 eEnt EntT.profile none (dropE l i)] :=
  pw_delete laidD Tryz.func75 (by kernel_rfl) rfl (fun w => by kernel_rfl) ((Tryz.prog.info? 58).get (by kernel_rfl)) (by kernel_rfl) (by kernel_rfl) (.agg #[.int .i64 0, .int .i64 0, .int .i64 0, .slice none 0 0, .int .u8 0, .bool false]) (fun w => by kernel_rfl) (by kernel_rfl) (fun v hv => by
    have h : v ∈ [Value.int .i64 0, .int .i64 0, .int .i64 0, .slice none 0 0, .int .u8 0, .bool false] := hv
    simp only [List.mem_cons, List.not_mem_nil, or_false] at h
    rcases h with h | h | h | h | h | h <;> rw [h] <;> rfl) 58 3 3 (by decide) ent0 eEnt EntT.profile (fun y j hj hne => by
    match j, hj, hne with
    | 0, _, _ => rfl
    | 1, _, _ => rfl
    | 2, _, _ => rfl
    | 4, _, _ => rfl
    | 5, _, _ => rfl) l i hi
theorem pw_DelV (l : List EntT) (i : Nat) (hi : i < l.length) : PW Tryz.prog 75 [.own 0, i64 i, i64 ((i : Int) + 1)] [.vec 58 6 ent0 eEnt l] (.own 1) [.none, .vec 58 6 ent0 eEnt (dropE l i)] :=
  pw_deleteV laidD Tryz.func75 (by kernel_rfl) rfl (fun w => by kernel_rfl) ((Tryz.prog.info? 58).get (by kernel_rfl)) (by kernel_rfl) (by kernel_rfl) (.agg #[.int .i64 0, .int .i64 0, .int .i64 0, .slice none 0 0, .int .u8 0, .bool false]) (fun w => by kernel_rfl) (by kernel_rfl) (fun v hv => by
    have h : v ∈ [Value.int .i64 0, .int .i64 0, .int .i64 0, .slice none 0 0, .int .u8 0, .bool false] := hv
    simp only [List.mem_cons, List.not_mem_nil, or_false] at h
    rcases h with h | h | h | h | h | h <;> rw [h] <;> rfl) 58 ent0 eEnt (fun y j hj => by
    match j, hj with
    | 0, _ => rfl
    | 1, _ => rfl
    | 2, _ => rfl
    | 3, _ => rfl
    | 4, _ => rfl
    | 5, _ => rfl) l i hi
theorem pc_open2 (x : EntT) (hx : x.profile.length < 2 ^ 20) : PC Tryz.prog 98 [ent x] (ent x) := (pw_open2 x hx).toPC 6 (by kernel_rfl)
theorem pw_chEntV (l : List EntT) (hl : l.length < 2 ^ 16) (ha : ∀ i, (l.getD i ent0).profile.length < 2 ^ 20) : PW Tryz.prog 97 [ents l, .fn (.func 98) [] []] [] (.own 0) [.vec 58 6 ent0 eEnt l] := by
  have w1 : IntKind.i64.wrap ((l.length : Int) + 1) = (l.length : Int) + 1 := w64 _ (by omega) (by omega)
  refine pw_of_bodyF hm Tryz.func97 (by kernel_rfl) ⟨by kernel_rfl, ?_⟩
  conv => whnf
  refine ⟨.vec 58 6 ent0 eEnt [], ⟨⟨rfl, rfl, rfl⟩, by omega, by omega, of_decide_eq_true (by kernel_rfl)⟩, ?_⟩
  (conv => whnf)
  refine Or.inr ⟨Nat, [14], [], [(5, ⟨EntT, 58, 6, ent0, eEnt⟩)], fun i => [i64 i], fun _ => [], fun i => [.vec 58 6 ent0 eEnt (l.take i)], fun i => l.length - i, fun i => i ≤ l.length, ?_⟩
  (conv => whnf)
  refine ⟨⟨0, ?_⟩, ?_⟩
  · (conv => whnf)
    exact ⟨⟨Nat.zero_le _, rfl, rfl, rfl⟩, by kernel_rfl, by kernel_rfl⟩
  · intro j hj
    (conv => whnf)
    refine ⟨fun h => ?_, fun h => ?_⟩
    · have h := of_decide_eq_true h
      have hjj : j < l.length := by omega
      have hk : (l.take j).length = j := by rw [List.length_take]; omega
      (conv => whnf)
      refine ⟨⟨by omega, by omega⟩, ?_⟩
      (conv => whnf)
      (repeat' ((first | refine ansT ?_ | refine ansF ?_ | ((try (refine Or.inl ?_; (conv => whnf))); (try (refine ⟨false, ?_⟩; (conv => whnf))); refine ⟨_, by exact pc_open2 _ (ha _), ?_⟩) | refine ansD (by first | (simp [*]; done) | omega) ?_ | refine ansN (by first | (simp [*]; done) | omega) ?_ | refine ⟨by kernel_rfl, ?_⟩ | refine ansB (by decide) (by first | decide | (simp; done) | (simp only [List.length_cons, List.length_nil]; decide)) ?_ | fail); (conv => whnf)))
      refine ⟨⟨EntT, 6, ent0, eEnt, l.take j⟩, [l.getD j ent0], rfl, rfl, ⟨rfl, rfl⟩, ?_, ?_, fun y _ => ⟨rfl, rfl, rfl⟩, ?_⟩
      · show ((l.take j).length + 1) * 56 ≤ _; rw [hk]; omega
      · show (l.take j).length + 1 ≤ _; rw [hk]; omega
      (conv => whnf)
      refine ⟨j + 1, ?_⟩
      (conv => whnf)
      refine ⟨⟨⟨?_, ?_⟩, ?_, rfl, ?_⟩, by kernel_rfl, by kernel_rfl⟩
      · show l.length - (j + 1) < l.length - j; omega
      · show j + 1 ≤ l.length; omega
      · rw [w64 _ (by omega) (by omega)]; rfl
      · show [Row.vec 58 6 ent0 eEnt (l.take j ++ [l.getD j ent0])] = [Row.vec 58 6 ent0 eEnt (l.take (j + 1))]
        rw [List.take_add_one, List.getElem?_eq_getElem hjj]
        simp [List.getD, hjj]
    · have h := of_decide_eq_false h
      have ej : l.take j = l := List.take_of_length_le (by omega)
      rw [ej]
      (conv => whnf)
      refine ⟨[5], by kernel_rfl, ?_⟩
      (conv => whnf)
      exact ⟨rfl, rfl⟩
def dskV (b : BooksT) : List Row := [.cells 103 [i64 b.keep, .own 1, .own 2, i64 b.next, .own 3], .vec 5 1 0 e8 b.users, .nest 76 13 11 3 rec0 eRec RecT.appr none b.recipes, .vec 58 6 ent0 eEnt b.log]
theorem pw_openV (b : BooksT) (o : Okay b) (h : chkB b = true) : PW Tryz.prog 53 [bks b] [] (.tup [.ptr 0 0 0 0, i64 0]) (dskV b) := by
  have c : PC Tryz.prog 41 [bks b] (i64 0) := by have c := pc_BCheck b o; rwa [if_pos h] at c
  have s := chk_small h
  refine pw_of_bodyF hm Tryz.func53 (by kernel_rfl) ⟨by kernel_rfl, ?_⟩
  conv => whnf
  (repeat' ((first | refine ansT ?_ | refine ansF ?_ | ((try (refine Or.inl ?_; (conv => whnf))); (try (refine ⟨false, ?_⟩; (conv => whnf))); refine ⟨_, by exact c, ?_⟩) | refine ansD (by first | (simp [*]; done) | omega) ?_ | refine ansN (by first | (simp [*]; done) | omega) ?_ | refine ⟨by kernel_rfl, ?_⟩ | refine ansB (by decide) (by first | decide | (simp; done) | (simp only [List.length_cons, List.length_nil]; decide)) ?_ | fail); (conv => whnf)))
  (refine Or.inr ⟨[ ], [ 12 ], by kernel_rfl, ?_⟩; (conv => whnf); refine ⟨[ ], _, _, _, _, ⟨ pw_CloneU b.users o.u, rfl, rfl, by kernel_rfl⟩, ?_⟩)
  (conv => whnf)
  (refine Or.inr ⟨[ ], [ 16 ], by kernel_rfl, ?_⟩; (conv => whnf); refine ⟨[ ], _, _, _, _, ⟨ pw_chRec b.recipes (by omega) o.a, rfl, rfl, by kernel_rfl⟩, ?_⟩)
  (conv => whnf)
  (refine Or.inr ⟨[ ], [ 20 ], by kernel_rfl, ?_⟩; (conv => whnf); refine ⟨[ ], _, _, _, _, ⟨ pw_chEntV b.log (by omega) o.p, rfl, rfl, by kernel_rfl⟩, ?_⟩)
  (conv => whnf)
  refine ⟨[24, 12, 16, 20], by kernel_rfl, ?_⟩
  (conv => whnf)
  exact ⟨rfl, rfl⟩
end Go.Proofs.Tryz.My
set_option maxRecDepth 100000
set_option maxHeartbeats 0
set_option linter.unusedVariables false
set_option linter.unusedSimpArgs false
namespace Go.Proofs.Tryz.My
open Go Go.Ev
def isFree (x : EntT) : Bool := !x.disputed
theorem pc_isFree (x : EntT) : PC Tryz.prog 74 [ent x] (.bool (isFree x)) := by
  refine pc_of_bodyF hm Tryz.func74 (by kernel_rfl) ?_
  conv => whnf
  first | rfl | set_option pp.maxSteps 300 in trace_state
theorem pc_IxFree (l : List EntT) (hl : l.length < 2 ^ 40) : PC Tryz.prog 73 [ents l, .fn (.func 74) [] []] (i64 (ixE isFree l)) := by
  refine pc_of_bodyF hm Tryz.func73 (by kernel_rfl) ?_
  conv => whnf
  refine Or.inr ⟨Nat, [8], [], [], fun k => [i64 k], fun _ => [], fun _ => [], fun k => l.length - k, fun k => k ≤ l.length ∧ ∀ m, m < k → isFree (l.getD m ent0) = false, ?_⟩
  (conv => whnf)
  refine ⟨⟨0, ?_⟩, ?_⟩
  · (conv => whnf)
    exact ⟨⟨⟨Nat.zero_le _, fun i hi => absurd hi (Nat.not_lt_zero i)⟩, rfl, rfl, rfl⟩, by kernel_rfl, by kernel_rfl⟩
  intro k hk
  (conv => whnf)
  refine ⟨fun h => ?_, fun h => ?_⟩
  · have h := of_decide_eq_true h
    have hkk : k < l.length := by omega
    (conv => whnf)
    refine ⟨⟨by omega, by omega⟩, ?_⟩
    (conv => whnf)
    rw [show Int.toNat (k : Int) = k from rfl]
    (repeat' (first | (refine ⟨_, by first | exact pc_isFree _, ?_⟩; (conv => whnf)) | (refine Or.inl ?_; (conv => whnf); refine ⟨_, by first | exact pc_isFree _, ?_⟩; (conv => whnf)) | (refine Or.inl ?_; (conv => whnf); refine ⟨false, ?_⟩; (conv => whnf); refine ⟨_, by first | exact pc_isFree _, ?_⟩; (conv => whnf)) | (refine ⟨by kernel_rfl, ?_⟩; (conv => whnf)) | fail))
    refine ⟨fun q1 => ?_, fun q1 => ?_⟩
    · (conv => whnf)
      exact congrArg i64 (ixE_hit hkk q1 hk.2).symm
    · refine ⟨k + 1, ?_⟩
      (conv => whnf)
      refine ⟨⟨⟨?_, ?_, ?_⟩, ?_, rfl, rfl⟩, by kernel_rfl, by kernel_rfl⟩
      · show l.length - (k + 1) < l.length - k; omega
      · omega
      · intro m h2
        by_cases e : m = k
        · subst e; exact q1
        · exact hk.2 m (by omega)
      · rw [w64 _ (by omega) (by omega)]; rfl
  · have h := of_decide_eq_false h
    (conv => whnf)
    exact congrArg i64 (ixE_none fun m h2 => hk.2 m (by omega)).symm
def rcdG (b : BooksT) : GauT := (b.recipes.getD (firstA b.recipes) rec0).gauge
def rcdX (b : BooksT) (part : Int) (profile : List Int) : EntT := ⟨b.next, firstA b.recipes, part, profile, (meaF (rcdG b) profile).2.1, false⟩
def rcdL (b : BooksT) : List EntT := if (b.log.length : Int) = b.keep then dropE b.log (b.log.findIdx isFree) else b.log
def rcdB (b : BooksT) (part : Int) (profile : List Int) : BooksT := ⟨b.keep, b.users, b.recipes, b.next + 1, rcdL b ++ [rcdX b part profile]⟩
def rcdE (b : BooksT) (part : Int) (profile : List Int) : Int :=
  if chkB b then (if ¬(0 ≤ part ∧ part ≤ 1099511627776) then 2 else if ¬b.recipes.any isAct = true then 102 else if ¬(meaF (rcdG b) profile).2.2 = 0 then (meaF (rcdG b) profile).2.2 else
    if ((b.log.length : Int) = b.keep ∧ ¬b.log.any isFree = true) ∨ b.next = 1099511627776 then 9 else 0) else 8
theorem rcdE_zero {b : BooksT} {part : Int} {profile : List Int} (h : rcdE b part profile = 0) : chkB b = true ∧ (0 ≤ part ∧ part ≤ 1099511627776) ∧ b.recipes.any isAct = true ∧ (meaF (rcdG b) profile).2.2 = 0 ∧ ((b.log.length : Int) = b.keep → b.log.any isFree = true) ∧ ¬b.next = 1099511627776 := by
  unfold rcdE at h
  by_cases h1 : chkB b = true
  · rw [if_pos h1] at h
    by_cases h2 : 0 ≤ part ∧ part ≤ 1099511627776
    · rw [if_neg (fun q => q h2)] at h
      by_cases h3 : b.recipes.any isAct = true
      · rw [if_neg (fun q => q h3)] at h
        by_cases h4 : (meaF (rcdG b) profile).2.2 = 0
        · rw [if_neg (fun q => q h4)] at h
          by_cases h5 : ((b.log.length : Int) = b.keep ∧ ¬b.log.any isFree = true) ∨ b.next = 1099511627776
          · rw [if_pos h5] at h; cases h
          · exact ⟨h1, h2, h3, h4, fun e => Decidable.byContradiction fun q => h5 (.inl ⟨e, q⟩), fun e => h5 (.inr e)⟩
        · rw [if_pos h4] at h; exact absurd h h4
      · rw [if_pos h3] at h; cases h
    · rw [if_pos h2] at h; cases h
  · rw [if_neg h1] at h; cases h
theorem dropE_len {l : List EntT} {i : Nat} (hi : i < l.length) : (dropE l i).length = l.length - 1 := by
  unfold dropE
  simp
  omega
theorem chk_next {b : BooksT} (h : chkB b = true) : 0 ≤ b.next ∧ b.next ≤ 1099511627776 := by
  simp only [chkB, sizedB, withB, Bool.and_eq_true, decide_eq_true_eq] at h
  omega
theorem sub_ff : Sub .ff (.bool false) := fun F w v h => by cases h; exact .bool _
theorem sub_list {xs ys : List AV} (hl : xs.length = ys.length) (h : ∀ i, i < xs.length → Sub (xs.getD i .any) (ys.getD i .any)) : Sub (.agg xs) (.agg ys) ∧ Sub (.tup xs) (.tup ys) := by
  constructor
  · intro F w v hv
    cases hv with
    | agg h1 h2 => exact .agg (by rw [← hl]; exact h1) fun i hi => h i (by omega) _ _ _ (h2 i (by omega))
  · intro F w v hv
    cases hv with
    | tup h1 h2 => exact .tup (by rw [← hl]; exact h1) fun i hi => h i (by omega) _ _ _ (h2 i (by omega))
abbrev entZ : AV := .agg [i64 0, i64 0, i64 0, .nils, u8 0, .ff]
theorem pc_RecordBad (b : BooksT) (o : Okay b) (part : Int) (profile : List Int) (hp : profile.length < 2 ^ 20) (h : ¬rcdE b part profile = 0) :
    PC Tryz.prog 31 [bks b, i64 part, ints profile] (.tup [newB 0, entZ, i64 (rcdE b part profile)]) := by
  by_cases hc : chkB b = true
  · unfold rcdE at h ⊢
    rw [if_pos hc] at h ⊢
    have s := chk_small hc
    have nx := chk_next hc
    have c1 : PC Tryz.prog 55 [i64 0, i64 1099511627776, i64 part] (.bool (decide (0 ≤ part) && decide (part ≤ 1099511627776))) := pc_rfrom 0 _ part
    by_cases hpt : 0 ≤ part ∧ part ≤ 1099511627776
    · rw [if_neg (fun q => q hpt)] at h ⊢
      have c2 := pc_Active b o
      by_cases ha : b.recipes.any isAct = true
      · rw [if_neg (fun q => q ha)] at h ⊢
        have hN : actN b = firstA b.recipes := by unfold actN; rw [if_pos hc, if_pos ha]
        have hE : actE b = 0 := by unfold actE; rw [if_pos hc, if_pos ha]
        rw [hN, hE] at c2
        have hA := firstA_lt ha
        have c3 := pc_Measure (b.recipes.getD (firstA b.recipes) rec0).gauge profile (lt40 hp)
        unfold rcdG at h ⊢
        generalize firstA b.recipes = n at *
        by_cases hm0 : (meaF (b.recipes.getD n rec0).gauge profile).2.2 = 0
        · rw [if_neg (fun q => q hm0)] at h ⊢
          have h9 : ((b.log.length : Int) = b.keep ∧ ¬b.log.any isFree = true) ∨ b.next = 1099511627776 := Decidable.byContradiction fun q => h (if_neg q)
          rw [if_pos h9]
          rw [hm0] at c3
          clear h
          have c4 := pc_IxFree b.log (lt40 o.l)
          unfold ixE at c4
          by_cases hf : (b.log.length : Int) = b.keep
          · by_cases hfr : b.log.any isFree = true
            · have hnx : b.next = 1099511627776 := by
                rcases h9 with q | q
                · exact absurd hfr q.2
                · exact q
              clear h9
              rw [if_pos hfr] at c4
              have hi := fi_lt hfr
              generalize b.log.findIdx isFree = i at *
              have w2 : IntKind.i64.wrap ((i : Int) + 1) = (i : Int) + 1 := w64 _ (by omega) (by omega)
              refine pc_of_bodyF hm Tryz.func31 (by kernel_rfl) ?_
              conv => whnf
              (refine Or.inr ⟨[ ], [ 22, 19, 20, 21 ], by kernel_rfl, ?_⟩; (conv => whnf); refine ⟨[ ], _, _, _, _, ⟨ pw_openV b o hc, rfl, rfl, by kernel_rfl⟩, ?_⟩)
              (conv => whnf)
              (repeat' ((first | refine ansT ?_ | refine ansF ?_ | refine ansD (by first | (simp [*]; done) | omega) ?_ | refine ansN (by first | (simp [*]; done) | omega) ?_ | refine ⟨by kernel_rfl, ?_⟩ | refine ansB (by decide) (by first | decide | (simp; done) | (simp only [List.length_cons, List.length_nil]; decide)) ?_ | fail); (conv => whnf)))
              (repeat' (first | (refine ansS (fun hh => ?_) (fun hh => ?_) <;> (first | simp only [ansX] at hh | skip) <;> (first | (exfalso; omega) | (exfalso; simp [*] at hh; done) | (exfalso; revert hh; decide) | exact absurd (by assumption) hh | (conv => whnf))) | ((first | refine ⟨by kernel_rfl, ?_⟩ | refine ansB (by omega) (by omega) ?_ | refine ansB (by decide) (by decide) ?_ | refine And.intro (a := _ ≤ _) (by omega) ?_ | refine And.intro (a := _ ≠ _) (by omega) ?_ | ((try (refine Or.inl ?_; (conv => whnf))); (try (refine ⟨false, ?_⟩; (conv => whnf))); refine ⟨_, by first | exact c1 | exact c2 | exact c3, ?_⟩) | fail); (conv => whnf))))
              refine ⟨hA, ?_⟩
              (conv => whnf)
              (repeat' (first | (refine ansS (fun hh => ?_) (fun hh => ?_) <;> (first | simp only [ansX] at hh | skip) <;> (first | (exfalso; omega) | (exfalso; simp [*] at hh; done) | (exfalso; revert hh; decide) | exact absurd (by assumption) hh | (conv => whnf))) | ((first | refine ⟨by kernel_rfl, ?_⟩ | refine ansB (by omega) (by omega) ?_ | refine ansB (by decide) (by decide) ?_ | refine And.intro (a := _ ≤ _) (by omega) ?_ | refine And.intro (a := _ ≠ _) (by omega) ?_ | ((try (refine Or.inl ?_; (conv => whnf))); (try (refine ⟨false, ?_⟩; (conv => whnf))); refine ⟨_, by first | exact c3 | exact c4, ?_⟩) | fail); (conv => whnf))))
              rw [w2]
              (refine Or.inr ⟨[ ], [ 94 ], by kernel_rfl, ?_⟩; (conv => whnf); refine ⟨[ 21 ], _, _, _, _, ⟨ pw_DelV b.log i hi, rfl, rfl, by kernel_rfl⟩, ?_⟩)
              (conv => whnf)
              (repeat' (first | (refine ansS (fun hh => ?_) (fun hh => ?_) <;> (first | simp only [ansX] at hh | skip) <;> (first | (exfalso; omega) | (exfalso; simp [*] at hh; done) | (exfalso; revert hh; decide) | exact absurd (by assumption) hh | (conv => whnf))) | ((first | refine ⟨by kernel_rfl, ?_⟩ | refine ansB (by omega) (by omega) ?_ | refine ansB (by decide) (by decide) ?_ | refine And.intro (a := _ ≤ _) (by omega) ?_ | refine And.intro (a := _ ≠ _) (by omega) ?_ | fail); (conv => whnf))))
              all_goals (first | rfl | set_option pp.maxSteps 300 in trace_state)
            · rw [if_neg hfr] at c4
              clear h9
              refine pc_of_bodyF hm Tryz.func31 (by kernel_rfl) ?_
              conv => whnf
              (refine Or.inr ⟨[ ], [ 22, 19, 20, 21 ], by kernel_rfl, ?_⟩; (conv => whnf); refine ⟨[ ], _, _, _, _, ⟨ pw_openV b o hc, rfl, rfl, by kernel_rfl⟩, ?_⟩)
              (conv => whnf)
              (repeat' ((first | refine ansT ?_ | refine ansF ?_ | refine ansD (by first | (simp [*]; done) | omega) ?_ | refine ansN (by first | (simp [*]; done) | omega) ?_ | refine ⟨by kernel_rfl, ?_⟩ | refine ansB (by decide) (by first | decide | (simp; done) | (simp only [List.length_cons, List.length_nil]; decide)) ?_ | fail); (conv => whnf)))
              (repeat' (first | (refine ansS (fun hh => ?_) (fun hh => ?_) <;> (first | simp only [ansX] at hh | skip) <;> (first | (exfalso; omega) | (exfalso; simp [*] at hh; done) | (exfalso; revert hh; decide) | exact absurd (by assumption) hh | (conv => whnf))) | ((first | refine ⟨by kernel_rfl, ?_⟩ | refine ansB (by omega) (by omega) ?_ | refine ansB (by decide) (by decide) ?_ | refine And.intro (a := _ ≤ _) (by omega) ?_ | refine And.intro (a := _ ≠ _) (by omega) ?_ | ((try (refine Or.inl ?_; (conv => whnf))); (try (refine ⟨false, ?_⟩; (conv => whnf))); refine ⟨_, by first | exact c1 | exact c2 | exact c3, ?_⟩) | fail); (conv => whnf))))
              refine ⟨hA, ?_⟩
              (conv => whnf)
              (repeat' (first | (refine ansS (fun hh => ?_) (fun hh => ?_) <;> (first | simp only [ansX] at hh | skip) <;> (first | (exfalso; omega) | (exfalso; simp [*] at hh; done) | (exfalso; revert hh; decide) | exact absurd (by assumption) hh | (conv => whnf))) | ((first | refine ⟨by kernel_rfl, ?_⟩ | refine ansB (by omega) (by omega) ?_ | refine ansB (by decide) (by decide) ?_ | refine And.intro (a := _ ≤ _) (by omega) ?_ | refine And.intro (a := _ ≠ _) (by omega) ?_ | ((try (refine Or.inl ?_; (conv => whnf))); (try (refine ⟨false, ?_⟩; (conv => whnf))); refine ⟨_, by first | exact c3 | exact c4, ?_⟩) | fail); (conv => whnf))))
              all_goals (first | rfl | set_option pp.maxSteps 300 in trace_state)
          · have hnx : b.next = 1099511627776 := by
              rcases h9 with q | q
              · exact absurd q.1 hf
              · exact q
            clear h9
            refine pc_of_bodyF hm Tryz.func31 (by kernel_rfl) ?_
            conv => whnf
            (refine Or.inr ⟨[ ], [ 22, 19, 20, 21 ], by kernel_rfl, ?_⟩; (conv => whnf); refine ⟨[ ], _, _, _, _, ⟨ pw_openV b o hc, rfl, rfl, by kernel_rfl⟩, ?_⟩)
            (conv => whnf)
            (repeat' ((first | refine ansT ?_ | refine ansF ?_ | refine ansD (by first | (simp [*]; done) | omega) ?_ | refine ansN (by first | (simp [*]; done) | omega) ?_ | refine ⟨by kernel_rfl, ?_⟩ | refine ansB (by decide) (by first | decide | (simp; done) | (simp only [List.length_cons, List.length_nil]; decide)) ?_ | fail); (conv => whnf)))
            (repeat' (first | (refine ansS (fun hh => ?_) (fun hh => ?_) <;> (first | simp only [ansX] at hh | skip) <;> (first | (exfalso; omega) | (exfalso; simp [*] at hh; done) | (exfalso; revert hh; decide) | exact absurd (by assumption) hh | (conv => whnf))) | ((first | refine ⟨by kernel_rfl, ?_⟩ | refine ansB (by omega) (by omega) ?_ | refine ansB (by decide) (by decide) ?_ | refine And.intro (a := _ ≤ _) (by omega) ?_ | refine And.intro (a := _ ≠ _) (by omega) ?_ | ((try (refine Or.inl ?_; (conv => whnf))); (try (refine ⟨false, ?_⟩; (conv => whnf))); refine ⟨_, by first | exact c1 | exact c2 | exact c3, ?_⟩) | fail); (conv => whnf))))
            refine ⟨hA, ?_⟩
            (conv => whnf)
            (repeat' (first | (refine ansS (fun hh => ?_) (fun hh => ?_) <;> (first | simp only [ansX] at hh | skip) <;> (first | (exfalso; omega) | (exfalso; simp [*] at hh; done) | (exfalso; revert hh; decide) | exact absurd (by assumption) hh | (conv => whnf))) | ((first | refine ⟨by kernel_rfl, ?_⟩ | refine ansB (by omega) (by omega) ?_ | refine ansB (by decide) (by decide) ?_ | refine And.intro (a := _ ≤ _) (by omega) ?_ | refine And.intro (a := _ ≠ _) (by omega) ?_ | ((try (refine Or.inl ?_; (conv => whnf))); (try (refine ⟨false, ?_⟩; (conv => whnf))); refine ⟨_, by exact c3, ?_⟩) | fail); (conv => whnf))))
            (repeat' (first | (refine ansS (fun hh => ?_) (fun hh => ?_) <;> (first | simp only [ansX] at hh | skip) <;> (first | (exfalso; omega) | (exfalso; simp [*] at hh; done) | (exfalso; revert hh; decide) | exact absurd (by assumption) hh | (conv => whnf))) | ((first | refine ⟨by kernel_rfl, ?_⟩ | refine ansB (by omega) (by omega) ?_ | refine ansB (by decide) (by decide) ?_ | refine And.intro (a := _ ≤ _) (by omega) ?_ | refine And.intro (a := _ ≠ _) (by omega) ?_ | fail); (conv => whnf))))
            all_goals (first | rfl | set_option pp.maxSteps 300 in trace_state)
        · rw [if_pos hm0]
          clear h
          refine pc_of_bodyF hm Tryz.func31 (by kernel_rfl) ?_
          conv => whnf
          (refine Or.inr ⟨[ ], [ 22, 19, 20, 21 ], by kernel_rfl, ?_⟩; (conv => whnf); refine ⟨[ ], _, _, _, _, ⟨ pw_openV b o hc, rfl, rfl, by kernel_rfl⟩, ?_⟩)
          (conv => whnf)
          (repeat' ((first | refine ansT ?_ | refine ansF ?_ | refine ansD (by first | (simp [*]; done) | omega) ?_ | refine ansN (by first | (simp [*]; done) | omega) ?_ | refine ⟨by kernel_rfl, ?_⟩ | refine ansB (by decide) (by first | decide | (simp; done) | (simp only [List.length_cons, List.length_nil]; decide)) ?_ | fail); (conv => whnf)))
          (repeat' (first | (refine ansS (fun hh => ?_) (fun hh => ?_) <;> (first | simp only [ansX] at hh | skip) <;> (first | (exfalso; omega) | (exfalso; simp [*] at hh; done) | (exfalso; revert hh; decide) | exact absurd (by assumption) hh | (conv => whnf))) | ((first | refine ⟨by kernel_rfl, ?_⟩ | refine ansB (by omega) (by omega) ?_ | refine ansB (by decide) (by decide) ?_ | refine And.intro (a := _ ≤ _) (by omega) ?_ | refine And.intro (a := _ ≠ _) (by omega) ?_ | ((try (refine Or.inl ?_; (conv => whnf))); (try (refine ⟨false, ?_⟩; (conv => whnf))); refine ⟨_, by first | exact c1 | exact c2 | exact c3, ?_⟩) | fail); (conv => whnf))))
          refine ⟨hA, ?_⟩
          (conv => whnf)
          (repeat' (first | (refine ansS (fun hh => ?_) (fun hh => ?_) <;> (first | simp only [ansX] at hh | skip) <;> (first | (exfalso; omega) | (exfalso; simp [*] at hh; done) | (exfalso; revert hh; decide) | exact absurd (by assumption) hh | (conv => whnf))) | ((first | refine ⟨by kernel_rfl, ?_⟩ | refine ansB (by omega) (by omega) ?_ | refine ansB (by decide) (by decide) ?_ | refine And.intro (a := _ ≤ _) (by omega) ?_ | refine And.intro (a := _ ≠ _) (by omega) ?_ | ((try (refine Or.inl ?_; (conv => whnf))); (try (refine ⟨false, ?_⟩; (conv => whnf))); refine ⟨_, by exact c3, ?_⟩) | fail); (conv => whnf))))
          all_goals (first | rfl | set_option pp.maxSteps 300 in trace_state)
      · rw [if_pos ha]
        have hE : actE b = 102 := by unfold actE; rw [if_pos hc, if_neg ha]
        rw [hE] at c2
        clear h
        refine pc_of_bodyF hm Tryz.func31 (by kernel_rfl) ?_
        conv => whnf
        (refine Or.inr ⟨[ ], [ 22, 19, 20, 21 ], by kernel_rfl, ?_⟩; (conv => whnf); refine ⟨[ ], _, _, _, _, ⟨ pw_openV b o hc, rfl, rfl, by kernel_rfl⟩, ?_⟩)
        (conv => whnf)
        (repeat' ((first | refine ansT ?_ | refine ansF ?_ | refine ansD (by first | (simp [*]; done) | omega) ?_ | refine ansN (by first | (simp [*]; done) | omega) ?_ | refine ⟨by kernel_rfl, ?_⟩ | refine ansB (by decide) (by first | decide | (simp; done) | (simp only [List.length_cons, List.length_nil]; decide)) ?_ | fail); (conv => whnf)))
        (repeat' (first | (refine ansS (fun hh => ?_) (fun hh => ?_) <;> (first | simp only [ansX] at hh | skip) <;> (first | (exfalso; omega) | (exfalso; simp [*] at hh; done) | (exfalso; revert hh; decide) | exact absurd (by assumption) hh | (conv => whnf))) | ((first | refine ⟨by kernel_rfl, ?_⟩ | refine ansB (by omega) (by omega) ?_ | refine ansB (by decide) (by decide) ?_ | refine And.intro (a := _ ≤ _) (by omega) ?_ | refine And.intro (a := _ ≠ _) (by omega) ?_ | ((try (refine Or.inl ?_; (conv => whnf))); (try (refine ⟨false, ?_⟩; (conv => whnf))); refine ⟨_, by first | exact c1 | exact c2, ?_⟩) | fail); (conv => whnf))))
        all_goals (first | rfl | set_option pp.maxSteps 300 in trace_state)
    · rw [if_pos hpt]
      clear h
      refine pc_of_bodyF hm Tryz.func31 (by kernel_rfl) ?_
      conv => whnf
      (refine Or.inr ⟨[ ], [ 22, 19, 20, 21 ], by kernel_rfl, ?_⟩; (conv => whnf); refine ⟨[ ], _, _, _, _, ⟨ pw_openV b o hc, rfl, rfl, by kernel_rfl⟩, ?_⟩)
      (conv => whnf)
      (repeat' ((first | refine ansT ?_ | refine ansF ?_ | refine ansD (by first | (simp [*]; done) | omega) ?_ | refine ansN (by first | (simp [*]; done) | omega) ?_ | refine ⟨by kernel_rfl, ?_⟩ | refine ansB (by decide) (by first | decide | (simp; done) | (simp only [List.length_cons, List.length_nil]; decide)) ?_ | fail); (conv => whnf)))
      (repeat' (first | (refine ansS (fun hh => ?_) (fun hh => ?_) <;> (first | simp only [ansX] at hh | skip) <;> (first | (exfalso; omega) | (exfalso; simp [*] at hh; done) | (exfalso; revert hh; decide) | exact absurd (by assumption) hh | (conv => whnf))) | ((first | refine ⟨by kernel_rfl, ?_⟩ | refine ansB (by omega) (by omega) ?_ | refine ansB (by decide) (by decide) ?_ | refine And.intro (a := _ ≤ _) (by omega) ?_ | refine And.intro (a := _ ≠ _) (by omega) ?_ | ((try (refine Or.inl ?_; (conv => whnf))); (try (refine ⟨false, ?_⟩; (conv => whnf))); refine ⟨_, by exact c1, ?_⟩) | fail); (conv => whnf))))
      all_goals (first | rfl | set_option pp.maxSteps 300 in trace_state)
  · have hc2 : chkB b = false := by simpa using hc
    have c := pc_openBad b o hc2
    unfold rcdE
    rw [if_neg hc]
    refine pc_of_bodyF hm Tryz.func31 (by kernel_rfl) ?_
    conv => whnf
    (repeat' ((first | refine ansT ?_ | refine ansF ?_ | ((try (refine Or.inl ?_; (conv => whnf))); (try (refine ⟨false, ?_⟩; (conv => whnf))); refine ⟨_, by exact c, ?_⟩) | refine ansD (by first | (simp [*]; done) | omega) ?_ | refine ansN (by first | (simp [*]; done) | omega) ?_ | refine ⟨by kernel_rfl, ?_⟩ | refine ansB (by decide) (by first | decide | (simp; done) | (simp only [List.length_cons, List.length_nil]; decide)) ?_ | fail); (conv => whnf)))
    all_goals (first | rfl | set_option pp.maxSteps 300 in trace_state)
end Go.Proofs.Tryz.My
