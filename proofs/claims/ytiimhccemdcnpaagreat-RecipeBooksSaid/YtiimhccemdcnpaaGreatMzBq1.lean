/- A helper text: contracts of functions of the program, and plain lemmas. -/
import Derived.Test.YtiimhccemdcnpaaGreatEvSix
import Derived.Test.YtiimhccemdcnpaaGreatMzBkA
import Derived.Test.YtiimhccemdcnpaaGreatMzGd5
set_option maxRecDepth 100000
set_option maxHeartbeats 0
set_option linter.unusedVariables false
set_option linter.unusedSimpArgs false
namespace Go.Proofs.Tryz.My
open Go Go.Ev

/-! ### The reference: approvals -/
theorem pc_r10within (n lo hi : Int) : PC Tryz.prog 58 [i64 n, i64 lo, i64 hi] (.bool (decide (lo ≤ n) && decide (n ≤ hi))) := by
  refine pc_of_bodyF hm Tryz.func58 (by kernel_rfl) ?_
  conv => whnf
  (repeat' (first | (refine ⟨by kernel_rfl, ?_⟩; (conv => whnf)) | (refine ⟨fun _ => ?_, fun h => absurd h (by first | decide | (simp; done) | fail)⟩; (conv => whnf)) | (refine ⟨fun h => absurd h (by first | decide | (simp; done) | fail), fun _ => ?_⟩; (conv => whnf)) | ((with_reducible refine And.intro (a := _ = true → _) (b := _ = false → _) (fun hh => ?_) (fun hh => ?_)) <;> (try simp only [decide_eq_true_eq, decide_eq_false_iff_not, Bool.or_eq_true, Bool.and_eq_true, Bool.or_eq_false_iff, Bool.and_eq_false_iff, Bool.not_eq_true', Bool.not_eq_false', ge_iff_le, gt_iff_lt] at hh) <;> (first | (exfalso; omega) | (conv => whnf))) | fail))
  all_goals (first | rfl | (simp [*]; done) | set_option pp.maxSteps 300 in trace_state)
def cnt3 (us l : List Int) : Nat := (l.filter (mayB [3] us)).length
theorem cnt3_take {us l : List Int} {j : Nat} (hj : j < l.length) : cnt3 us (l.take (j + 1)) = cnt3 us (l.take j) + if mayB [3] us (l.getD j 0) = true then 1 else 0 := by
  unfold cnt3
  rw [List.take_add_one, List.filter_append, List.length_append, List.getElem?_eq_getElem hj]
  simp only [List.getD, List.getElem?_eq_getElem hj, Option.getD_some, Option.toList_some, List.filter_cons, List.filter_nil]
  by_cases h : mayB [3] us l[j] = true <;> simp [h]
theorem cnt3_le (us l : List Int) : cnt3 us l ≤ l.length := List.length_filter_le _ _
theorem enough_cnt (us l : List Int) : enoughB us l = (decide (2 ≤ (l.length : Int)) && decide (1 ≤ (cnt3 us l : Int))) := by
  unfold enoughB cnt3
  have e1 : decide ((l.length : Int) > 1) = decide (2 ≤ (l.length : Int)) := decide_eq_decide.2 (by omega)
  have e2 : l.any (mayB [3] us) = decide (1 ≤ ((l.filter (mayB [3] us)).length : Int)) := by
    rw [Bool.eq_iff_iff, decide_eq_true_eq, List.any_eq_true]
    constructor
    · rintro ⟨x, h1, h2⟩
      have := List.length_pos_of_mem (List.mem_filter.2 ⟨h1, h2⟩)
      omega
    · intro h
      obtain ⟨x, hx⟩ := List.exists_mem_of_length_pos (l := l.filter (mayB [3] us)) (by omega)
      exact ⟨x, (List.mem_filter.1 hx).1, (List.mem_filter.1 hx).2⟩
  rw [e1, e2]
theorem may3_in {us : List Int} {u : Int} (h1 : 0 ≤ u) (h2 : u < us.length) : mayB [3] us u = decide (us.getD u.toNat 0 = 3) := by
  unfold mayB withB
  rw [decide_eq_true h1, decide_eq_true (show u ≤ (us.length : Int) - 1 by omega), Bool.true_and, Bool.true_and]
  generalize us.getD u.toNat 0 = a
  by_cases h : a = 3 <;> simp [h]
theorem pc_r10Enough (b : BooksT) (l : List Int) (hl : l.length < 2 ^ 40) (hin : ∀ i, i < l.length → 0 ≤ l.getD i 0 ∧ l.getD i 0 < b.users.length) : PC Tryz.prog 154 [bks b, ints l] (.bool (enoughB b.users l)) := by
  refine pc_of_bodyF hm Tryz.func154 (by kernel_rfl) ?_
  conv => whnf
  refine Or.inr ⟨Nat, [5, 6], [], [], fun k => [i64 (cnt3 b.users (l.take k)), i64 k], fun _ => [], fun _ => [], fun k => l.length - k, fun k => k ≤ l.length, ?_⟩
  (conv => whnf)
  refine ⟨⟨0, ?_⟩, ?_⟩
  · (conv => whnf)
    exact ⟨⟨Nat.zero_le _, rfl, rfl, rfl⟩, by kernel_rfl, by kernel_rfl⟩
  · intro j hj
    have hn := cnt3_le b.users (l.take j)
    rw [List.length_take] at hn
    (conv => whnf)
    refine ⟨fun h => ?_, fun h => ?_⟩
    · have h := of_decide_eq_true h
      have hjj : j < l.length := by omega
      have hi := hin j hjj
      have hm := may3_in hi.1 hi.2
      have ht := cnt3_take (us := b.users) hjj
      have e0 : Int.toNat (j : Int) = j := rfl
      (repeat' (first | (refine And.intro (a := _ = true → _) (b := _ = false → _) (fun hh => ?_) (fun hh => ?_) <;> (first | simp only [decide_eq_true_eq, decide_eq_false_iff_not, Bool.or_eq_true, Bool.and_eq_true, Bool.or_eq_false_iff, Bool.and_eq_false_iff, Bool.not_eq_true', Bool.not_eq_false', ge_iff_le, gt_iff_lt] at hh | skip) <;> (first | (exfalso; omega) | (exfalso; simp [*] at hh; done) | (exfalso; revert hh; decide) | exact absurd (by assumption) hh | (conv => whnf))) | (refine ⟨by kernel_rfl, ?_⟩; (conv => whnf)) | (refine And.intro (a := _ ∧ _) ⟨by omega, by omega⟩ ?_; (conv => whnf)) | (refine And.intro (a := _ ∧ _) ⟨by decide, by decide⟩ ?_; (conv => whnf)) | (refine And.intro (a := _ ≤ _) (by omega) ?_; (conv => whnf)) | (refine And.intro (a := _ ≠ _) (by omega) ?_; (conv => whnf))))
      refine ⟨hi, ?_⟩
      (conv => whnf)
      (repeat' (first | (refine And.intro (a := _ = true → _) (b := _ = false → _) (fun hh => ?_) (fun hh => ?_) <;> (first | simp only [decide_eq_true_eq, decide_eq_false_iff_not, Bool.or_eq_true, Bool.and_eq_true, Bool.or_eq_false_iff, Bool.and_eq_false_iff, Bool.not_eq_true', Bool.not_eq_false', ge_iff_le, gt_iff_lt] at hh | skip) <;> (first | (exfalso; omega) | (exfalso; simp [*] at hh; done) | (exfalso; revert hh; decide) | exact absurd (by assumption) hh | (conv => whnf))) | (refine ⟨by kernel_rfl, ?_⟩; (conv => whnf)) | (refine And.intro (a := _ ∧ _) ⟨by omega, by omega⟩ ?_; (conv => whnf)) | (refine And.intro (a := _ ∧ _) ⟨by decide, by decide⟩ ?_; (conv => whnf)) | (refine And.intro (a := _ ≤ _) (by omega) ?_; (conv => whnf)) | (refine And.intro (a := _ ≠ _) (by omega) ?_; (conv => whnf))))
      all_goals (
        refine ⟨j + 1, ?_⟩
        (conv => whnf)
        refine ⟨⟨⟨?_, ?_⟩, ?_, rfl, rfl⟩, by kernel_rfl, by kernel_rfl⟩
        · show l.length - (j + 1) < l.length - j; omega
        · show j + 1 ≤ l.length; omega
        · show _ = [i64 (cnt3 b.users (l.take (j + 1)) : Nat), i64 ((j + 1 : Nat) : Int)]
          first
            | (rw [w64 _ (by omega) (by omega), w64 _ (by omega) (by omega), ht, if_pos (by rw [hm]; exact decide_eq_true (by assumption))]; first | rfl | (simp; done))
            | (rw [w64 _ (by omega) (by omega), ht, if_neg (by rw [hm]; simpa using (by assumption : ¬ _ = (3 : Int)))]; first | rfl | (simp; done)))
    · have h := of_decide_eq_false h
      have ej : l.take j = l := List.take_of_length_le (by omega)
      rw [ej] at hn ⊢
      (repeat' (first | (refine And.intro (a := _ = true → _) (b := _ = false → _) (fun hh => ?_) (fun hh => ?_) <;> (first | simp only [decide_eq_true_eq, decide_eq_false_iff_not, Bool.or_eq_true, Bool.and_eq_true, Bool.or_eq_false_iff, Bool.and_eq_false_iff, Bool.not_eq_true', Bool.not_eq_false', ge_iff_le, gt_iff_lt] at hh | skip) <;> (first | (exfalso; omega) | (exfalso; simp [*] at hh; done) | (exfalso; revert hh; decide) | exact absurd (by assumption) hh | (conv => whnf))) | (refine ⟨by kernel_rfl, ?_⟩; (conv => whnf)) | (refine And.intro (a := _ ∧ _) ⟨by omega, by omega⟩ ?_; (conv => whnf)) | (refine And.intro (a := _ ∧ _) ⟨by decide, by decide⟩ ?_; (conv => whnf)) | (refine And.intro (a := _ ≤ _) (by omega) ?_; (conv => whnf)) | (refine And.intro (a := _ ≠ _) (by omega) ?_; (conv => whnf))))
      all_goals (first | (exact congrArg AV.bool (by rw [enough_cnt]; simp; omega)) | set_option pp.maxSteps 300 in trace_state)
end Go.Proofs.Tryz.My
