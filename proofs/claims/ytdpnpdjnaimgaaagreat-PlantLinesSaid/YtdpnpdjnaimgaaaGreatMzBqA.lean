/- A helper text: contracts of functions of the program, and plain lemmas. -/
import Derived.Test.YtdpnpdjnaimgaaaGreatEvSix
import Derived.Test.YtdpnpdjnaimgaaaGreatMzBkA
import Derived.Test.YtdpnpdjnaimgaaaGreatMzGdE
import Derived.Test.YtdpnpdjnaimgaaaGreatMzBsA
import Derived.Test.YtdpnpdjnaimgaaaGreatMzGdD
import Derived.Test.YtdpnpdjnaimgaaaGreatMzBkB
set_option maxRecDepth 100000
set_option maxHeartbeats 0
set_option linter.unusedVariables false
set_option linter.unusedSimpArgs false
namespace Go.Proofs.Tryz.My
open Go Go.Ev
theorem pc_r10within (n lo hi : Int) : PC Tryz.prog 107 [i64 n, i64 lo, i64 hi] (.bool (decide (lo ≤ n) && decide (n ≤ hi))) := by
  refine pc_of_bodyF hm Tryz.func107 (by kernel_rfl) ?_
  conv => whnf
  (repeat' (first | (refine ⟨by kernel_rfl, ?_⟩; (conv => whnf)) | (refine ⟨fun _ => ?_, fun h => absurd h (by first | decide | (simp; done) | fail)⟩; (conv => whnf)) | (refine ⟨fun h => absurd h (by first | decide | (simp; done) | fail), fun _ => ?_⟩; (conv => whnf)) | ((with_reducible refine And.intro (a := _ = true → _) (b := _ = false → _) (fun hh => ?_) (fun hh => ?_)) <;> (try simp only [ansX] at hh) <;> (first | (exfalso; omega) | (conv => whnf))) | fail))
  all_goals (first | rfl | (simp [*]; done) | set_option pp.maxSteps 300 in trace_state)
def cnt3 (us l : List Int) : Nat := (l.filter (mayB [3] us)).length
theorem cnt3_take {us l : List Int} {j : Nat} (hj : j < l.length) : cnt3 us (l.take (j + 1)) = cnt3 us (l.take j) + if mayB [3] us (l.getD j 0) = true then 1 else 0 := by
  unfold cnt3
  rw [List.take_add_one, List.filter_append, List.length_append, List.getElem?_eq_getElem hj]
  simp only [List.getD, List.getElem?_eq_getElem hj, Option.getD_some, Option.toList_some, List.filter_cons, List.filter_nil]
  by_cases h : mayB [3] us l[j] = true <;> simp [h]
theorem cnt3_le (us l : List Int) : cnt3 us l ≤ l.length := List.length_filter_le _ _
theorem enough_cnt (us l : List Int) : enoughB us l = (decide (2 ≤ (l.length : Int)) && decide (1 ≤ (cnt3 us l : Int))) := by
  unfold enoughB cnt3
  have e1 : decide ((l.length : Int) > 1) = decide (2 ≤ (l.length : Int)) := decide_eq_decide.2 (by omega)
  have e2 : l.any (mayB [3] us) = decide (1 ≤ ((l.filter (mayB [3] us)).length : Int)) := by
    rw [Bool.eq_iff_iff, decide_eq_true_eq, List.any_eq_true]
    constructor
    · rintro ⟨x, h1, h2⟩
      have := List.length_pos_of_mem (List.mem_filter.2 ⟨h1, h2⟩)
      omega
    · intro h
      obtain ⟨x, hx⟩ := List.exists_mem_of_length_pos (l := l.filter (mayB [3] us)) (by omega)
      exact ⟨x, (List.mem_filter.1 hx).1, (List.mem_filter.1 hx).2⟩
  rw [e1, e2]
theorem may3_in {us : List Int} {u : Int} (h1 : 0 ≤ u) (h2 : u < us.length) : mayB [3] us u = decide (us.getD u.toNat 0 = 3) := by
  unfold mayB withB
  rw [decide_eq_true h1, decide_eq_true (show u ≤ (us.length : Int) - 1 by omega), Bool.true_and, Bool.true_and]
  generalize us.getD u.toNat 0 = a
  by_cases h : a = 3 <;> simp [h]
theorem pc_r10Enough (b : BooksT) (l : List Int) (hl : l.length < 2 ^ 40) (hin : ∀ i, i < l.length → 0 ≤ l.getD i 0 ∧ l.getD i 0 < b.users.length) : PC Tryz.prog 164 [bks b, ints l] (.bool (enoughB b.users l)) := by
  refine pc_of_bodyF hm Tryz.func164 (by kernel_rfl) ?_
  conv => whnf
  refine Or.inr ⟨Nat, [5, 6], [], [], fun k => [i64 (cnt3 b.users (l.take k)), i64 k], fun _ => [], fun _ => [], fun k => l.length - k, fun k => k ≤ l.length, ?_⟩
  (conv => whnf)
  refine ⟨⟨0, ?_⟩, ?_⟩
  · (conv => whnf)
    exact ⟨⟨Nat.zero_le _, rfl, rfl, rfl⟩, by kernel_rfl, by kernel_rfl⟩
  · intro j hj
    have hn := cnt3_le b.users (l.take j)
    rw [List.length_take] at hn
    (conv => whnf)
    refine ⟨fun h => ?_, fun h => ?_⟩
    · have h := of_decide_eq_true h
      have hjj : j < l.length := by omega
      have hi := hin j hjj
      have hm := may3_in hi.1 hi.2
      have ht := cnt3_take (us := b.users) hjj
      have e0 : Int.toNat (j : Int) = j := rfl
      (repeat' (first | (refine ansS (fun hh => ?_) (fun hh => ?_) <;> (first | simp only [ansX] at hh | skip) <;> (first | (exfalso; omega) | (exfalso; simp [*] at hh; done) | (exfalso; revert hh; decide) | exact absurd (by assumption) hh | (conv => whnf))) | ((first | refine ⟨by kernel_rfl, ?_⟩ | refine ansB (by omega) (by omega) ?_ | refine ansB (by decide) (by decide) ?_ | refine And.intro (a := _ ≤ _) (by omega) ?_ | refine And.intro (a := _ ≠ _) (by omega) ?_ | fail); (conv => whnf))))
      refine ⟨hi, ?_⟩
      (conv => whnf)
      (repeat' (first | (refine ansS (fun hh => ?_) (fun hh => ?_) <;> (first | simp only [ansX] at hh | skip) <;> (first | (exfalso; omega) | (exfalso; simp [*] at hh; done) | (exfalso; revert hh; decide) | exact absurd (by assumption) hh | (conv => whnf))) | ((first | refine ⟨by kernel_rfl, ?_⟩ | refine ansB (by omega) (by omega) ?_ | refine ansB (by decide) (by decide) ?_ | refine And.intro (a := _ ≤ _) (by omega) ?_ | refine And.intro (a := _ ≠ _) (by omega) ?_ | fail); (conv => whnf))))
      all_goals (
        refine ⟨j + 1, ?_⟩
        (conv => whnf)
        refine ⟨⟨⟨?_, ?_⟩, ?_, rfl, rfl⟩, by kernel_rfl, by kernel_rfl⟩
        · show l.length - (j + 1) < l.length - j; omega
        · show j + 1 ≤ l.length; omega
        · show _ = [i64 (cnt3 b.users (l.take (j + 1)) : Nat), i64 ((j + 1 : Nat) : Int)]
          first
            | (rw [w64 _ (by omega) (by omega), w64 _ (by omega) (by omega), ht, if_pos (by rw [hm]; exact decide_eq_true (by assumption))]; first | rfl | (simp; done))
            | (rw [w64 _ (by omega) (by omega), ht, if_neg (by rw [hm]; simpa using (by assumption : ¬ _ = (3 : Int)))]; first | rfl | (simp; done)))
    · have h := of_decide_eq_false h
      have ej : l.take j = l := List.take_of_length_le (by omega)
      rw [ej] at hn ⊢
      (repeat' (first | (refine ansS (fun hh => ?_) (fun hh => ?_) <;> (first | simp only [ansX] at hh | skip) <;> (first | (exfalso; omega) | (exfalso; simp [*] at hh; done) | (exfalso; revert hh; decide) | exact absurd (by assumption) hh | (conv => whnf))) | ((first | refine ⟨by kernel_rfl, ?_⟩ | refine ansB (by omega) (by omega) ?_ | refine ansB (by decide) (by decide) ?_ | refine And.intro (a := _ ≤ _) (by omega) ?_ | refine And.intro (a := _ ≠ _) (by omega) ?_ | fail); (conv => whnf))))
      all_goals (first | (exact congrArg AV.bool (by rw [enough_cnt]; simp; omega)) | set_option pp.maxSteps 300 in trace_state)
end Go.Proofs.Tryz.My
set_option maxRecDepth 100000
set_option maxHeartbeats 0
set_option linter.unusedVariables false
set_option linter.unusedSimpArgs false
namespace Go.Proofs.Tryz.My
open Go Go.Ev
theorem may_in {r us : List Int} {u : Int} (h : mayB r us u = true) : 0 ≤ u ∧ u < us.length := by
  simp only [mayB, withB, Bool.and_eq_true, decide_eq_true_eq] at h
  omega
def Staff (us : List Int) : Prop := ∀ i, i < us.length → 1 ≤ us.getD i 0 ∧ us.getD i 0 ≤ 3
theorem may23_in {us : List Int} {u : Int} (h1 : 0 ≤ u) (h2 : u < us.length) (hs : Staff us) : mayB [2, 3] us u = true ↔ ¬us.getD u.toNat 0 < 2 := by
  have := hs u.toNat (by omega)
  unfold mayB withB
  rw [decide_eq_true h1, decide_eq_true (show u ≤ (us.length : Int) - 1 by omega), Bool.true_and, Bool.true_and]
  generalize us.getD u.toNat 0 = a at this
  simp only [List.contains, List.elem_eq_mem, decide_eq_true_eq, List.mem_cons, List.not_mem_nil, or_false]
  omega
theorem may2_in {us : List Int} {u : Int} (h1 : 0 ≤ u) (h2 : u < us.length) : mayB [2] us u = true ↔ us.getD u.toNat 0 = 2 := by
  unfold mayB withB
  rw [decide_eq_true h1, decide_eq_true (show u ≤ (us.length : Int) - 1 by omega), Bool.true_and, Bool.true_and]
  simp only [List.contains, List.elem_eq_mem, decide_eq_true_eq, List.mem_cons, List.not_mem_nil, or_false]
theorem staff_of {b : BooksT} (h : staffedB b = true) : Staff b.users := fun i hi => by
  unfold staffedB at h
  rw [Bool.not_eq_true'] at h
  have : oddR (b.users.getD i 0) = false := by
    have := List.any_eq_false.1 h (b.users.getD i 0) (by simp only [List.getD, List.getElem?_eq_getElem hi, Option.getD_some]; exact List.getElem_mem hi)
    simpa using this
  simp only [oddR, Bool.or_eq_false_iff, decide_eq_false_iff_not] at this
  omega
theorem of_staff {b : BooksT} (h : Staff b.users) : staffedB b = true := by
  unfold staffedB
  rw [Bool.not_eq_true', List.any_eq_false]
  intro x hx
  obtain ⟨i, hi, rfl⟩ := List.getElem_of_mem hx
  have := h i hi
  simp only [List.getD, List.getElem?_eq_getElem hi, Option.getD_some] at this
  rw [Bool.not_eq_true]
  simp only [oddR, Bool.or_eq_false_iff, decide_eq_false_iff_not]
  omega
theorem pc_approvable (b : BooksT) (x : RecT) (hu : b.users.length ≤ 16) (hs : Staff b.users) (hx : x.appr.length < 2 ^ 40) : PC Tryz.prog 163 [bks b, rcp x] (.bool (apprB b.users x)) := by
  have bad : ∀ i, i < x.appr.length → ¬(prevI x.appr i < x.appr.getD i 0 ∧ ¬x.appr.getD i 0 = x.author ∧ mayB [2, 3] b.users (x.appr.getD i 0) = true) → AV.bool false = AV.bool (apprB b.users x) := fun i hi q => by
    unfold apprB
    rw [all_range_bad hi (Bool.eq_false_iff.2 fun e => q (ok_iff.1 e))]
  have w1 : IntKind.i64.wrap ((b.users.length : Int) - 1) = (b.users.length : Int) - 1 := w64 _ (by omega) (by omega)
  refine pc_of_bodyF hm Tryz.func163 (by kernel_rfl) ?_
  conv => whnf
  refine ⟨fun h0 => ?_, fun h0 => ?_⟩
  · have h0 := of_decide_eq_true h0
    (conv => whnf)
    exact congrArg AV.bool (Eq.symm (Bool.eq_false_iff.2 fun q => by have := incr_len q; omega))
  have h0 := of_decide_eq_false h0
  (conv => whnf)
  refine Or.inr ⟨Nat, [5], [], [], fun i => [i64 i], fun _ => [], fun _ => [], fun i => x.appr.length - i, fun i => i ≤ x.appr.length ∧ ∀ m, m < i → okA b.users x m = true, ?_⟩
  (conv => whnf)
  refine ⟨⟨0, ?_⟩, ?_⟩
  · (conv => whnf)
    exact ⟨⟨⟨Nat.zero_le _, fun i hi => absurd hi (Nat.not_lt_zero i)⟩, rfl, rfl, rfl⟩, by kernel_rfl, by kernel_rfl⟩
  · intro i hi
    have hw : IntKind.i64.wrap ((i : Int) - 1) = (i : Int) - 1 := w64 _ (by omega) (by omega)
    have e1 : Int.toNat (IntKind.i64.wrap ((i : Int) - 1)) = i - 1 := by rw [hw]; omega
    have e3 : 0 < i → prevI x.appr i = x.appr.getD (i - 1) 0 := fun h => by unfold prevI; rw [if_neg (by omega)]
    have e4 : i = 0 → prevI x.appr i = -1 := fun h => by unfold prevI; rw [if_pos h]
    (conv => whnf)
    refine ⟨fun h => ?_, fun h => ?_⟩
    · have h := of_decide_eq_true h
      have hii : i < x.appr.length := by omega
      (conv => whnf)
      refine ⟨⟨by omega, by omega⟩, ?_⟩
      (conv => whnf)
      rw [show Int.toNat (i : Int) = i from rfl]
      have bad := bad i hii
      (repeat' (first | (refine ansS (fun hh => ?_) (fun hh => ?_) <;> (first | simp only [ansX] at hh | skip) <;> (first | (exfalso; omega) | (exfalso; simp [*] at hh; done) | (exfalso; revert hh; decide) | exact absurd (by assumption) hh | (conv => whnf))) | ((first | refine ⟨by kernel_rfl, ?_⟩ | refine ansB (by omega) (by omega) ?_ | refine ansB (by decide) (by decide) ?_ | refine And.intro (a := _ ≤ _) (by omega) ?_ | refine And.intro (a := _ ≠ _) (by omega) ?_ | ((try (refine Or.inl ?_; (conv => whnf))); (try (refine ⟨false, ?_⟩; (conv => whnf))); refine ⟨_, by exact pc_r10within _ _ _, ?_⟩) | fail); (conv => whnf))))
      all_goals simp only [e1, w1] at *
      all_goals first
        | (refine bad fun q => ?_
           obtain ⟨q1, q2, q3⟩ := q
           have r := may_in q3
           have s := (may23_in r.1 r.2 hs).1 q3
           first | omega | exact absurd (by assumption) q2)
        | (have ok : okA b.users x i = true := ok_iff.2 ⟨by omega, by assumption, (may23_in (by omega) (by omega) hs).2 (by assumption)⟩
           refine ⟨i + 1, ?_⟩
           (conv => whnf)
           refine ⟨⟨⟨?_, ?_, ?_⟩, ?_, rfl, rfl⟩, by kernel_rfl, by kernel_rfl⟩
           · show x.appr.length - (i + 1) < x.appr.length - i; omega
           · omega
           · intro m hm
             by_cases e : m = i
             · subst e; exact ok
             · exact hi.2 m (by omega)
           · rw [w64 _ (by omega) (by omega)]; rfl)
        | set_option pp.maxSteps 300 in trace_state
    · have h := of_decide_eq_false h
      (conv => whnf)
      have e : apprB b.users x = true := all_range.2 fun m hm => hi.2 m (by omega)
      rw [e]
end Go.Proofs.Tryz.My
set_option maxRecDepth 100000
set_option maxHeartbeats 0
set_option linter.unusedVariables false
set_option linter.unusedSimpArgs false
namespace Go.Proofs.Tryz.My
open Go Go.Ev
def rcpB (b : BooksT) : Bool := decide ((b.users.length : Int) ≤ 16) && decide ((b.recipes.length : Int) ≤ 16) && (staffedB b && approvedB b)
theorem rcp_iff {b : BooksT} : rcpB b = true ↔ (b.users.length : Int) ≤ 16 ∧ (b.recipes.length : Int) ≤ 16 ∧ staffedB b = true ∧ (∀ i, i < b.recipes.length → apprB b.users (b.recipes.getD i rec0) = true ∧ stateB b.users (b.recipes.getD i rec0) = true) ∧ activeN b.recipes ≤ 1 := by
  simp only [rcpB, approvedB, recB, Bool.and_eq_true, decide_eq_true_eq, and_assoc]
  rw [all_getD (d := rec0)]
  simp only [recB, Bool.and_eq_true]
theorem rcp_bad {b : BooksT} (h : ¬((b.users.length : Int) ≤ 16 ∧ (b.recipes.length : Int) ≤ 16 ∧ staffedB b = true ∧ (∀ i, i < b.recipes.length → apprB b.users (b.recipes.getD i rec0) = true ∧ stateB b.users (b.recipes.getD i rec0) = true) ∧ activeN b.recipes ≤ 1)) : AV.bool false = AV.bool (rcpB b) :=
  congrArg AV.bool (Eq.symm (Bool.eq_false_iff.2 fun q => h (rcp_iff.1 q)))
theorem enough_in {b : BooksT} {x : RecT} (h : apprB b.users x = true) : ∀ i, i < x.appr.length → 0 ≤ x.appr.getD i 0 ∧ x.appr.getD i 0 < b.users.length := fun i hi => may_in (ok_iff.1 (all_range.1 h i hi)).2.2
theorem draft_eq {a : Int} (h1 : 1 ≤ a) : decide (a = 1) = !decide (1 < a) := by
  by_cases h : 1 < a
  · rw [decide_eq_true h, decide_eq_false (by omega)]; rfl
  · rw [decide_eq_false h, decide_eq_true (by omega)]; rfl
theorem blem : ∀ {A E : Bool}, ((!A) == E) = true → (A != E) = false → False := by decide
theorem blem2 : ∀ {A E : Bool}, ((!A) == E) = false → (A != E) = false := by decide
theorem pc_recipes (b : BooksT) (hu0 : b.users.length < 2 ^ 40) (hr0 : b.recipes.length < 2 ^ 40) (hI : ∀ i, IG (b.recipes.getD i rec0).gauge) (ha : ∀ i, (b.recipes.getD i rec0).appr.length < 2 ^ 40) : PC Tryz.prog 119 [bks b] (.bool (rcpB b)) := by
  have w1 : IntKind.i64.wrap ((b.users.length : Int) - 1) = (b.users.length : Int) - 1 := w64 _ (by omega) (by omega)
  refine pc_of_bodyF hm Tryz.func119 (by kernel_rfl) ?_
  conv => whnf
  (repeat' (first | (refine ansS (fun hh => ?_) (fun hh => ?_) <;> (first | simp only [ansX] at hh | skip) <;> (first | (exfalso; omega) | (exfalso; simp [*] at hh; done) | (exfalso; revert hh; decide) | exact absurd (by assumption) hh | (conv => whnf))) | ((first | refine ⟨by kernel_rfl, ?_⟩ | refine ansB (by omega) (by omega) ?_ | refine ansB (by decide) (by decide) ?_ | refine And.intro (a := _ ≤ _) (by omega) ?_ | refine And.intro (a := _ ≠ _) (by omega) ?_ | fail); (conv => whnf))))
  · exact rcp_bad fun q => by omega
  · exact rcp_bad fun q => by omega
  have hu : b.users.length ≤ 16 := by omega
  have hr : b.recipes.length ≤ 16 := by omega
  refine Or.inr ⟨Nat, [3], [], [], fun k => [i64 k], fun _ => [], fun _ => [], fun k => b.users.length - k, fun k => k ≤ b.users.length ∧ ∀ i, i < k → 1 ≤ b.users.getD i 0 ∧ b.users.getD i 0 ≤ 3, ?_⟩
  (conv => whnf)
  refine ⟨⟨0, ?_⟩, ?_⟩
  · (conv => whnf)
    exact ⟨⟨⟨Nat.zero_le _, fun i hi => absurd hi (Nat.not_lt_zero i)⟩, rfl, rfl, rfl⟩, by kernel_rfl, by kernel_rfl⟩
  intro k hk
  (conv => whnf)
  refine ⟨fun h => ?_, fun h => ?_⟩
  · have h := of_decide_eq_true h
    have hkk : k < b.users.length := by omega
    have bad : ¬(1 ≤ b.users.getD k 0 ∧ b.users.getD k 0 ≤ 3) → AV.bool false = AV.bool (rcpB b) := fun q => rcp_bad fun r => q (staff_of r.2.2.1 k hkk)
    (conv => whnf)
    refine ⟨⟨by omega, by omega⟩, ?_⟩
    (conv => whnf)
    rw [show Int.toNat (k : Int) = k from rfl]
    (repeat' (first | (refine ansS (fun hh => ?_) (fun hh => ?_) <;> (first | simp only [ansX] at hh | skip) <;> (first | (exfalso; omega) | (exfalso; simp [*] at hh; done) | (exfalso; revert hh; decide) | exact absurd (by assumption) hh | (conv => whnf))) | ((first | refine ⟨by kernel_rfl, ?_⟩ | refine ansB (by omega) (by omega) ?_ | refine ansB (by decide) (by decide) ?_ | refine And.intro (a := _ ≤ _) (by omega) ?_ | refine And.intro (a := _ ≠ _) (by omega) ?_ | fail); (conv => whnf))))
    · exact bad fun q => by omega
    · exact bad fun q => by have hh : ¬ (b.users.getD k 0 ≤ 3) := by (have hh : 3 < b.users.getD k 0 := by assumption); omega
                            exact hh q.2
    · refine ⟨k + 1, ?_⟩
      (conv => whnf)
      refine ⟨⟨⟨?_, ?_, ?_⟩, ?_, rfl, rfl⟩, by kernel_rfl, by kernel_rfl⟩
      · show b.users.length - (k + 1) < b.users.length - k; omega
      · omega
      · intro i hi
        by_cases e : i = k
        · subst e
          have hh : ¬ (3 < b.users.getD i 0) := by assumption
          exact ⟨by omega, by omega⟩
        · exact hk.2 i (by omega)
      · rw [w64 _ (by omega) (by omega)]; rfl
  have h := of_decide_eq_false h
  have hst : Staff b.users := fun i hi => hk.2 i (by omega)
  have hsB := of_staff hst
  (conv => whnf)
  refine Or.inr ⟨Nat, [4, 5], [], [], fun k => [i64 (activeN (b.recipes.take k)), i64 k], fun _ => [], fun _ => [], fun k => b.recipes.length - k, fun k => k ≤ b.recipes.length ∧ ∀ i, i < k → apprB b.users (b.recipes.getD i rec0) = true ∧ stateB b.users (b.recipes.getD i rec0) = true, ?_⟩
  (conv => whnf)
  refine ⟨⟨0, ?_⟩, ?_⟩
  · (conv => whnf)
    exact ⟨⟨⟨Nat.zero_le _, fun i hi => absurd hi (Nat.not_lt_zero i)⟩, rfl, rfl, rfl⟩, by kernel_rfl, by kernel_rfl⟩
  intro j hj
  (conv => whnf)
  refine ⟨fun h => ?_, fun h => ?_⟩
  · have h := of_decide_eq_true h
    have hjj : j < b.recipes.length := by omega
    (conv => whnf)
    refine ⟨⟨by omega, by omega⟩, ?_⟩
    (conv => whnf)
    have hx1 := ha j
    have hI1 := hI j
    have bad : ∀ x, b.recipes.getD j rec0 = x → ¬(apprB b.users x = true ∧ stateB b.users x = true) → AV.bool false = AV.bool (rcpB b) := fun x hx q => rcp_bad fun r => q (hx ▸ r.2.2.2.1 j hjj)
    rw [show Int.toNat (j : Int) = j from rfl]
    generalize hx : b.recipes.getD j rec0 = x at hx1 hI1
    have bad := bad x hx
    (repeat' (first | (refine ansS (fun hh => ?_) (fun hh => ?_) <;> (first | simp only [ansX] at hh | skip) <;> (first | (exfalso; omega) | (exfalso; simp [*] at hh; done) | (exfalso; revert hh; decide) | exact absurd (by assumption) hh | (conv => whnf))) | ((first | refine ⟨by kernel_rfl, ?_⟩ | refine ansB (by omega) (by omega) ?_ | refine ansB (by decide) (by decide) ?_ | refine And.intro (a := _ ≤ _) (by omega) ?_ | refine And.intro (a := _ ≠ _) (by omega) ?_ | ((try (refine Or.inl ?_; (conv => whnf))); (try (refine ⟨false, ?_⟩; (conv => whnf))); refine ⟨_, by first | exact pc_r10within _ _ _ | exact pc_ValidGauge _ hI1 | exact pc_approvable b x hu hst hx1 | exact pc_r10Enough b x.appr hx1 (enough_in (by assumption)), ?_⟩) | fail); (conv => whnf))))
    all_goals try simp only [w1] at *
    all_goals first
      | (refine bad fun q => ?_
         obtain ⟨q1, q2⟩ := q
         have s := state_iff.1 q2
         have r := may_in s.1
         have m := (may2_in r.1 r.2).1 s.1
         first | omega | exact Bool.noConfusion (s.2.1.symm.trans (by assumption : gauB x.gauge = false)) | exact Bool.noConfusion (q1.symm.trans (by assumption : apprB b.users x = false)) | exact blem (by rw [← draft_eq s.2.2.1]; assumption : ((!decide (1 < x.state)) == enoughB b.users x.appr) = true) s.2.2.2.2)
      | (have d := draft_eq (show 1 ≤ x.state by omega)
         have ok : apprB b.users x = true ∧ stateB b.users x = true := ⟨by assumption, state_iff.2 ⟨(may2_in (by omega) (by omega)).2 (by omega), by assumption, by omega, by omega, blem2 (by rw [← d]; assumption)⟩⟩
         have hn := active_take hjj
         have hm : activeN (b.recipes.take j) ≤ b.recipes.length := Nat.le_trans (active_le _) (by rw [List.length_take]; omega)
         rw [hx] at hn
         refine ⟨j + 1, ?_⟩
         (conv => whnf)
         refine ⟨⟨⟨?_, ?_, ?_⟩, ?_, rfl, rfl⟩, by kernel_rfl, by kernel_rfl⟩
         · show b.recipes.length - (j + 1) < b.recipes.length - j; omega
         · omega
         · intro m hm
           by_cases e : m = j
           · rw [e, hx]; exact ok
           · exact hj.2 m (by omega)
         · show _ = [i64 (activeN (b.recipes.take (j + 1)) : Nat), i64 ((j + 1 : Nat) : Int)]
           first
             | (rw [if_pos (by assumption)] at hn; rw [w64 _ (by omega) (by omega), w64 _ (by omega) (by omega), hn]; first | rfl | (simp; done))
             | (rw [if_neg (by assumption)] at hn; rw [w64 _ (by omega) (by omega), hn]; first | rfl | (simp; done)))
      | set_option pp.maxSteps 300 in trace_state
  · have h := of_decide_eq_false h
    have ej : b.recipes.take j = b.recipes := List.take_of_length_le (by omega)
    have e : rcpB b = decide ((activeN b.recipes : Int) ≤ 1) := by
      rw [Bool.eq_iff_iff, rcp_iff, decide_eq_true_eq]
      exact ⟨fun r => by have := r.2.2.2.2; omega, fun r => ⟨by omega, by omega, hsB, fun i hi => hj.2 i (by omega), by omega⟩⟩
    (conv => whnf)
    rw [ej, e]
end Go.Proofs.Tryz.My
set_option maxRecDepth 100000
set_option maxHeartbeats 0
set_option linter.unusedVariables false
set_option linter.unusedSimpArgs false
namespace Go.Proofs.Tryz.My
open Go Go.Ev
theorem pc_Judged (g : GauT) (p : List Int) (hI : IG g) (hl : p.length < 2 ^ 40) : PC Tryz.prog 121 [gau g, ints p] (u8 (meaF g p).2.1) := by
  refine pc_of_bodyF hm Tryz.func121 (by kernel_rfl) ?_
  conv => whnf
  (repeat' (first | (refine ⟨_, by first | exact pc_r5Measure g p hI hl, ?_⟩; (conv => whnf)) | (refine Or.inl ?_; (conv => whnf); refine ⟨_, by first | exact pc_r5Measure g p hI hl, ?_⟩; (conv => whnf)) | (refine Or.inl ?_; (conv => whnf); refine ⟨false, ?_⟩; (conv => whnf); refine ⟨_, by first | exact pc_r5Measure g p hI hl, ?_⟩; (conv => whnf)) | (refine ⟨by kernel_rfl, ?_⟩; (conv => whnf)) | fail))
  first | rfl | set_option pp.maxSteps 300 in trace_state
theorem chk_iff {b : BooksT} : chkB b = true ↔ (1 ≤ b.keep ∧ b.keep ≤ 32) ∧ (0 ≤ b.next ∧ b.next ≤ 1099511627776) ∧ (b.log.length : Int) ≤ b.keep ∧ rcpB b = true ∧ ∀ i, i < b.log.length → entB b i = true := by
  rw [rcp_iff]
  simp only [chkB, sizedB, approvedB, loggedB, recB, withB, Bool.and_eq_true, decide_eq_true_eq]
  rw [all_getD (d := rec0), all_range]
  simp only [recB, Bool.and_eq_true]
  constructor
  · rintro ⟨⟨⟨⟨⟨⟨⟨h1, h2⟩, h3⟩, h4⟩, h5⟩, h6⟩, h7, h8⟩, h9⟩
    exact ⟨h1, h2, h5, ⟨h3, h4, h6, h7, h8⟩, h9⟩
  · rintro ⟨h1, h2, h5, ⟨h3, h4, h6, h7, h8⟩, h9⟩
    exact ⟨⟨⟨⟨⟨⟨⟨h1, h2⟩, h3⟩, h4⟩, h5⟩, h6⟩, h7, h8⟩, h9⟩
theorem prevE_ge {b : BooksT} : ∀ (k : Nat), (∀ i, i < k → entB b i = true) → -1 ≤ prevE b.log k
  | 0, _ => by show (-1 : Int) ≤ -1; omega
  | k + 1, h => by
    have a := prevE_ge k fun i hi => h i (by omega)
    have c := (ent_iff (b := b) (i := k) rfl rfl).1 (h k (by omega))
    have e : prevE b.log (k + 1) = (b.log.getD k ent0).seq := by
      unfold prevE
      rw [if_neg (Nat.succ_ne_zero k), Nat.add_sub_cancel]
    omega
theorem pc_Valid (b : BooksT) (o : Okay b) (hI : ∀ i, IG (b.recipes.getD i rec0).gauge) : PC Tryz.prog 71 [bks b] (.bool (chkB b)) := by
  have hu := lt40 o.u
  have hr := lt40 o.r
  have hl := lt40 o.l
  have cr := pc_recipes b hu hr hI fun i => lt40 (o.a i)
  have w1 : IntKind.i64.wrap ((b.recipes.length : Int) - 1) = (b.recipes.length : Int) - 1 := w64 _ (by omega) (by omega)
  have no : ¬((1 ≤ b.keep ∧ b.keep ≤ 32) ∧ (0 ≤ b.next ∧ b.next ≤ 1099511627776) ∧ (b.log.length : Int) ≤ b.keep ∧ rcpB b = true ∧ ∀ i, i < b.log.length → entB b i = true) → AV.bool false = AV.bool (chkB b) := fun q =>
    congrArg AV.bool (Eq.symm (Bool.eq_false_iff.2 fun e => q (chk_iff.1 e)))
  refine pc_of_bodyF hm Tryz.func71 (by kernel_rfl) ?_
  conv => whnf
  (repeat' (first | (refine ansS (fun hh => ?_) (fun hh => ?_) <;> (first | simp only [ansX] at hh | skip) <;> (first | (exfalso; omega) | (exfalso; simp [*] at hh; done) | (exfalso; revert hh; decide) | exact absurd (by assumption) hh | (conv => whnf))) | ((first | refine ⟨by kernel_rfl, ?_⟩ | refine ansB (by omega) (by omega) ?_ | refine ansB (by decide) (by decide) ?_ | refine And.intro (a := _ ≤ _) (by omega) ?_ | refine And.intro (a := _ ≠ _) (by omega) ?_ | ((try (refine Or.inl ?_; (conv => whnf))); (try (refine ⟨false, ?_⟩; (conv => whnf))); refine ⟨_, by first | exact pc_r10within _ _ _ | exact cr, ?_⟩) | fail); (conv => whnf))))
  iterate 4 (refine no fun q => ?_; first | omega | exact Bool.noConfusion (q.2.2.2.1.symm.trans (by assumption)))
  have k1 : 1 ≤ b.keep ∧ b.keep ≤ 32 := by omega
  have k2 : 0 ≤ b.next ∧ b.next ≤ 1099511627776 := by omega
  have k3 : (b.log.length : Int) ≤ b.keep := by omega
  have k4 : rcpB b = true := by assumption
  have gg : ∀ i, i < b.recipes.length → gauB (b.recipes.getD i rec0).gauge = true := fun i hi => (state_iff.1 ((rcp_iff.1 k4).2.2.2.1 i hi).2).2.1
  have w2 : IntKind.i64.wrap (b.next - 1) = b.next - 1 := w64 _ (by omega) (by omega)
  refine Or.inr ⟨Nat, [3], [], [], fun k => [i64 k], fun _ => [], fun _ => [], fun k => b.log.length - k, fun k => k ≤ b.log.length ∧ ∀ i, i < k → entB b i = true, ?_⟩
  (conv => whnf)
  refine ⟨⟨0, ?_⟩, ?_⟩
  · (conv => whnf)
    exact ⟨⟨⟨Nat.zero_le _, fun i hi => absurd hi (Nat.not_lt_zero i)⟩, rfl, rfl, rfl⟩, by kernel_rfl, by kernel_rfl⟩
  intro k hk
  have hw : IntKind.i64.wrap ((k : Int) - 1) = (k : Int) - 1 := w64 _ (by omega) (by omega)
  have e1 : Int.toNat (IntKind.i64.wrap ((k : Int) - 1)) = k - 1 := by rw [hw]; omega
  have e3 : 0 < k → prevE b.log k = (b.log.getD (k - 1) ent0).seq := fun h => by unfold prevE; rw [if_neg (by omega)]
  have e4 : k = 0 → prevE b.log k = -1 := fun h => by unfold prevE; rw [if_pos h]
  have e5 := prevE_ge k hk.2
  (conv => whnf)
  refine ⟨fun h => ?_, fun h => ?_⟩
  · have h := of_decide_eq_true h
    have hkk : k < b.log.length := by omega
    (conv => whnf)
    refine ⟨⟨by omega, by omega⟩, ?_⟩
    (conv => whnf)
    have hp1 := lt40 (o.p k)
    rw [show Int.toNat (k : Int) = k from rfl]
    generalize hs : b.log.getD k ent0 = s at hp1
    have bad : ¬(prevE b.log k < s.seq ∧ s.seq < b.next ∧ withB s.recipe 0 (b.recipes.length - 1) = true ∧ withB s.part 0 1099511627776 = true ∧
        (meaF (b.recipes.getD s.recipe.toNat rec0).gauge s.profile).2.2 = 0 ∧ (meaF (b.recipes.getD s.recipe.toNat rec0).gauge s.profile).2.1 = s.verdict ∧ ¬(b.recipes.getD s.recipe.toNat rec0).state = 1) → AV.bool false = AV.bool (chkB b) := fun q => no fun r => q ((ent_iff hs rfl).1 (r.2.2.2.2 k hkk))
    (repeat' (first | (refine ansS (fun hh => ?_) (fun hh => ?_) <;> (first | simp only [ansX] at hh | skip) <;> (first | (exfalso; omega) | (exfalso; simp [*] at hh; done) | (exfalso; revert hh; decide) | exact absurd (by assumption) hh | (conv => whnf))) | ((first | refine ⟨by kernel_rfl, ?_⟩ | refine ansB (by omega) (by omega) ?_ | refine ansB (by decide) (by decide) ?_ | refine And.intro (a := _ ≤ _) (by omega) ?_ | refine And.intro (a := _ ≠ _) (by omega) ?_ | ((try (refine Or.inl ?_; (conv => whnf))); (try (refine ⟨false, ?_⟩; (conv => whnf))); refine ⟨_, by first | exact pc_r10within _ _ _ | exact pc_ValidProfile5 _ hp1 | exact pc_Judged _ _ (hI _) hp1, ?_⟩) | fail); (conv => whnf))))
    all_goals simp only [e1, w1, w2] at *
    all_goals first
      | (refine bad fun q => ?_
         obtain ⟨q1, q2, q3, q4, q5, q6, q7⟩ := q
         simp only [withB, Bool.and_eq_true, decide_eq_true_eq] at q3 q4
         first | omega | exact mea_bad (Or.inr (by assumption)) q5)
      | (have hg := gg s.recipe.toNat (by omega)
         have hm := mea_ok hg (by assumption)
         have ok : entB b k = true := (ent_iff hs rfl).2 ⟨by omega, by omega, by simp only [withB, Bool.and_eq_true, decide_eq_true_eq]; omega, by simp only [withB, Bool.and_eq_true, decide_eq_true_eq]; omega, hm.1, by omega, by assumption⟩
         refine ⟨k + 1, ?_⟩
         (conv => whnf)
         refine ⟨⟨⟨?_, ?_, ?_⟩, ?_, rfl, rfl⟩, by kernel_rfl, by kernel_rfl⟩
         · show b.log.length - (k + 1) < b.log.length - k; omega
         · omega
         · intro i hi
           by_cases e : i = k
           · subst e; exact ok
           · exact hk.2 i (by omega)
         · rw [w64 _ (by omega) (by omega)]; rfl)
      | set_option pp.maxSteps 300 in trace_state
  · have h := of_decide_eq_false h
    (conv => whnf)
    have e : chkB b = true := chk_iff.2 ⟨k1, k2, k3, k4, fun i hi => hk.2 i (by omega)⟩
    rw [e]
end Go.Proofs.Tryz.My
