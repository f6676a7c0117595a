/- A helper text: contracts of functions of the program, and plain lemmas. -/
import Derived.Test.YtnoahgjfeablgaaGreatEvSix
import Derived.Test.YtnoahgjfeablgaaGreatMzBqC
import Derived.Test.YtnoahgjfeablgaaGreatMzBp4
set_option maxRecDepth 100000
set_option maxHeartbeats 0
set_option linter.unusedVariables false
set_option linter.unusedSimpArgs false
namespace Go.Proofs.Tryz.My
open Go Go.Ev
theorem pc_r10has (l : List Int) (hl : l.length < 2 ^ 40) (n : Int) : PC Tryz.prog 66 [ints l, i64 n] (.bool (l.contains n)) := by
  have yes : ∀ k, k < l.length → l.getD k 0 = n → l.contains n = true := fun k hk e => by
    rw [List.contains_iff_mem, ← e]
    simp only [List.getD, List.getElem?_eq_getElem hk, Option.getD_some]
    exact List.getElem_mem hk
  have no : (∀ m, m < l.length → ¬l.getD m 0 = n) → l.contains n = false := fun h => by
    rw [Bool.eq_false_iff]
    intro q
    rw [List.contains_iff_mem] at q
    obtain ⟨m, hm, e⟩ := List.getElem_of_mem q
    apply h m hm
    simp only [List.getD, List.getElem?_eq_getElem hm, Option.getD_some]
    exact e
  refine pc_of_bodyF hm Tryz.func66 (by kernel_rfl) ?_
  conv => whnf
  refine Or.inr ⟨Nat, [5], [], [], fun k => [i64 k], fun _ => [], fun _ => [], fun k => l.length - k, fun k => k ≤ l.length ∧ ∀ m, m < k → ¬l.getD m 0 = n, ?_⟩
  (conv => whnf)
  refine ⟨⟨0, ?_⟩, ?_⟩
  · (conv => whnf)
    exact ⟨⟨⟨Nat.zero_le _, fun i hi => absurd hi (Nat.not_lt_zero i)⟩, rfl, rfl, rfl⟩, by kernel_rfl, by kernel_rfl⟩
  intro k hk
  (conv => whnf)
  refine ⟨fun h => ?_, fun h => ?_⟩
  · have h := of_decide_eq_true h
    have hkk : k < l.length := by omega
    (conv => whnf)
    refine ⟨⟨by omega, by omega⟩, ?_⟩
    (conv => whnf)
    rw [show Int.toNat (k : Int) = k from rfl]
    refine ⟨fun q1 => ?_, fun q1 => ?_⟩
    · (conv => whnf)
      rw [yes k hkk (of_decide_eq_true q1)]
    · refine ⟨k + 1, ?_⟩
      (conv => whnf)
      refine ⟨⟨⟨?_, ?_, ?_⟩, ?_, rfl, rfl⟩, by kernel_rfl, by kernel_rfl⟩
      · show l.length - (k + 1) < l.length - k; omega
      · omega
      · intro m h2
        by_cases e : m = k
        · subst e; exact of_decide_eq_false q1
        · exact hk.2 m (by omega)
      · rw [w64 _ (by omega) (by omega)]; rfl
  · have h := of_decide_eq_false h
    (conv => whnf)
    rw [no fun m h2 => hk.2 m (by omega)]
theorem pc_r10with (l : List Int) (hl : l.length < 2 ^ 20) (n : Int) : PC Tryz.prog 67 [ints l, i64 n] (ints (insI l n)) := by
  refine pc_of_bodyF hm Tryz.func67 (by kernel_rfl) ?_
  conv => whnf
  refine Or.inr ⟨Nat, [6], [], [(5, ⟨Int, 3, 1, 0, eI⟩)], fun k => [i64 k], fun _ => [], fun k => [.vec 3 1 0 eI (l.take k)], fun k => l.length - k, fun k => k ≤ l.length ∧ ∀ m, m < k → l.getD m 0 < n, ?_⟩
  (conv => whnf)
  refine ⟨⟨0, ?_⟩, ?_⟩
  · (conv => whnf)
    exact ⟨⟨⟨Nat.zero_le _, fun i hi => absurd hi (Nat.not_lt_zero i)⟩, rfl, rfl, rfl⟩, by kernel_rfl, by kernel_rfl⟩
  intro k hk
  have hk2 : (l.take k).length = k := by rw [List.length_take]; omega
  (conv => whnf)
  refine ⟨fun h => ?_, fun h => ?_⟩
  · have h := of_decide_eq_true h
    have hkk : k < l.length := by omega
    (conv => whnf)
    refine ⟨⟨by omega, by omega⟩, ?_⟩
    (conv => whnf)
    rw [show Int.toNat (k : Int) = k from rfl]
    refine ⟨fun q => ?_, fun q => ?_⟩
    · have q := of_decide_eq_true q
      (conv => whnf)
      (repeat' (first | (refine ansS (fun hh => ?_) (fun hh => ?_) <;> (first | simp only [ansX] at hh | skip) <;> (first | (exfalso; omega) | (exfalso; simp [*] at hh; done) | (exfalso; revert hh; decide) | exact absurd (by assumption) hh | (conv => whnf))) | ((first | refine ⟨by kernel_rfl, ?_⟩ | refine ansB (by omega) (by omega) ?_ | refine ansB (by decide) (by decide) ?_ | refine And.intro (a := _ ≤ _) (by omega) ?_ | refine And.intro (a := _ ≠ _) (by omega) ?_ | fail); (conv => whnf))))
      refine ⟨⟨Int, 1, 0, eI, l.take k⟩, [l.getD k 0], rfl, rfl, ⟨rfl, rfl⟩, ?_, ?_, fun y _ => ⟨rfl, rfl, rfl⟩, ?_⟩
      · show ((l.take k).length + 1) * 8 ≤ _; omega
      · show (l.take k).length + 1 ≤ _; omega
      (conv => whnf)
      refine ⟨k + 1, ?_⟩
      (conv => whnf)
      refine ⟨⟨⟨?_, ?_, ?_⟩, ?_, rfl, ?_⟩, by kernel_rfl, by kernel_rfl⟩
      · show l.length - (k + 1) < l.length - k; omega
      · show k + 1 ≤ l.length; omega
      · intro m h2
        by_cases e : m = k
        · subst e; exact q
        · exact hk.2 m (by omega)
      · rw [w64 _ (by omega) (by omega)]; rfl
      · show [Row.vec 3 1 0 eI (l.take k ++ [l.getD k 0])] = [Row.vec 3 1 0 eI (l.take (k + 1))]
        rw [List.take_add_one, List.getElem?_eq_getElem hkk]
        simp [List.getD, hkk]
    · have q := of_decide_eq_false q
      have ek : posI l n = k := posI_eq hk.1 hk.2 (fun _ => by omega)
      unfold insI
      rw [ek]
      (conv => whnf)
      (repeat' (first | (refine ansS (fun hh => ?_) (fun hh => ?_) <;> (first | simp only [ansX] at hh | skip) <;> (first | (exfalso; omega) | (exfalso; simp [*] at hh; done) | (exfalso; revert hh; decide) | exact absurd (by assumption) hh | (conv => whnf))) | ((first | refine ⟨by kernel_rfl, ?_⟩ | refine ansB (by omega) (by omega) ?_ | refine ansB (by decide) (by decide) ?_ | refine And.intro (a := _ ≤ _) (by omega) ?_ | refine And.intro (a := _ ≠ _) (by omega) ?_ | fail); (conv => whnf))))
      refine ⟨⟨Int, 1, 0, eI, l.take k⟩, [n], rfl, rfl, ⟨rfl, rfl⟩, ?_, ?_, fun y _ => ⟨rfl, rfl, rfl⟩, ?_⟩
      · show ((l.take k).length + 1) * 8 ≤ _; omega
      · show (l.take k).length + 1 ≤ _; omega
      (conv => whnf)
      refine ⟨⟨Int, 1, 0, eI, l.take k ++ [n]⟩, ((l.drop (Int.toNat ((l.take k).length : Int))).take (Int.toNat ((l.length : Int) - ((l.take k).length : Int)))), rfl, rfl, rfl, ?_, ?_, fun y _ => ⟨rfl, rfl, rfl⟩, ?_⟩
      · show ((l.take k ++ [n]).length + ((l.drop (Int.toNat ((l.take k).length : Int))).take (Int.toNat ((l.length : Int) - ((l.take k).length : Int)))).length) * 8 ≤ _; simp only [List.length_append, List.length_take, List.length_drop, List.length_cons, List.length_nil]; omega
      · show (l.take k ++ [n]).length + ((l.drop (Int.toNat ((l.take k).length : Int))).take (Int.toNat ((l.length : Int) - ((l.take k).length : Int)))).length ≤ _; simp only [List.length_append, List.length_take, List.length_drop, List.length_cons, List.length_nil]; omega
      (conv => whnf)
      refine congrArg ints ?_
      show (l.take k ++ [n]) ++ ((l.drop (Int.toNat ((l.take k).length : Int))).take (Int.toNat ((l.length : Int) - ((l.take k).length : Int)))) = _
      have eL : (l.drop (Int.toNat ((l.take k).length : Int))).take (Int.toNat ((l.length : Int) - ((l.take k).length : Int))) = l.drop k := by
        rw [hk2, show Int.toNat (k : Int) = k from rfl]
        exact List.take_of_length_le (by rw [List.length_drop]; omega)
      rw [eL, List.append_assoc]
      rfl
  · have h := of_decide_eq_false h
    have ek : posI l n = k := posI_eq hk.1 hk.2 (fun q => by omega)
    unfold insI
    rw [ek]
    (conv => whnf)
    (repeat' (first | (refine ansS (fun hh => ?_) (fun hh => ?_) <;> (first | simp only [ansX] at hh | skip) <;> (first | (exfalso; omega) | (exfalso; simp [*] at hh; done) | (exfalso; revert hh; decide) | exact absurd (by assumption) hh | (conv => whnf))) | ((first | refine ⟨by kernel_rfl, ?_⟩ | refine ansB (by omega) (by omega) ?_ | refine ansB (by decide) (by decide) ?_ | refine And.intro (a := _ ≤ _) (by omega) ?_ | refine And.intro (a := _ ≠ _) (by omega) ?_ | fail); (conv => whnf))))
    refine ⟨⟨Int, 1, 0, eI, l.take k⟩, [n], rfl, rfl, ⟨rfl, rfl⟩, ?_, ?_, fun y _ => ⟨rfl, rfl, rfl⟩, ?_⟩
    · show ((l.take k).length + 1) * 8 ≤ _; omega
    · show (l.take k).length + 1 ≤ _; omega
    (conv => whnf)
    refine ⟨⟨Int, 1, 0, eI, l.take k ++ [n]⟩, ((l.drop (Int.toNat ((l.take k).length : Int))).take (Int.toNat ((l.length : Int) - ((l.take k).length : Int)))), rfl, rfl, rfl, ?_, ?_, fun y _ => ⟨rfl, rfl, rfl⟩, ?_⟩
    · show ((l.take k ++ [n]).length + ((l.drop (Int.toNat ((l.take k).length : Int))).take (Int.toNat ((l.length : Int) - ((l.take k).length : Int)))).length) * 8 ≤ _; simp only [List.length_append, List.length_take, List.length_drop, List.length_cons, List.length_nil]; omega
    · show (l.take k ++ [n]).length + ((l.drop (Int.toNat ((l.take k).length : Int))).take (Int.toNat ((l.length : Int) - ((l.take k).length : Int)))).length ≤ _; simp only [List.length_append, List.length_take, List.length_drop, List.length_cons, List.length_nil]; omega
    (conv => whnf)
    refine congrArg ints ?_
    show (l.take k ++ [n]) ++ ((l.drop (Int.toNat ((l.take k).length : Int))).take (Int.toNat ((l.length : Int) - ((l.take k).length : Int)))) = _
    have eL : (l.drop (Int.toNat ((l.take k).length : Int))).take (Int.toNat ((l.length : Int) - ((l.take k).length : Int))) = l.drop k := by
      rw [hk2, show Int.toNat (k : Int) = k from rfl]
      exact List.take_of_length_le (by rw [List.length_drop]; omega)
    rw [eL, List.append_assoc]
    rfl
theorem pc_r10current (b : BooksT) (o : Okay b) : PC Tryz.prog 70 [bks b] (i64 (actI b.recipes)) := by
  have hl := o.r
  refine pc_of_bodyF hm Tryz.func70 (by kernel_rfl) ?_
  conv => whnf
  refine Or.inr ⟨Nat, [3], [], [], fun k => [i64 k], fun _ => [], fun _ => [], fun k => b.recipes.length - k, fun k => k ≤ b.recipes.length ∧ ∀ m, m < k → isAct (b.recipes.getD m rec0) = false, ?_⟩
  (conv => whnf)
  refine ⟨⟨0, ?_⟩, ?_⟩
  · (conv => whnf)
    exact ⟨⟨⟨Nat.zero_le _, fun i hi => absurd hi (Nat.not_lt_zero i)⟩, rfl, rfl, rfl⟩, by kernel_rfl, by kernel_rfl⟩
  intro k hk
  (conv => whnf)
  refine ⟨fun h => ?_, fun h => ?_⟩
  · have h := of_decide_eq_true h
    have hkk : k < b.recipes.length := by omega
    (conv => whnf)
    refine ⟨⟨by omega, by omega⟩, ?_⟩
    (conv => whnf)
    rw [show Int.toNat (k : Int) = k from rfl]
    refine ⟨fun q1 => ?_, fun q1 => ?_⟩
    · (conv => whnf)
      exact congrArg i64 (actI_hit hkk q1 hk.2).symm
    · refine ⟨k + 1, ?_⟩
      (conv => whnf)
      refine ⟨⟨⟨?_, ?_, ?_⟩, ?_, rfl, rfl⟩, by kernel_rfl, by kernel_rfl⟩
      · show b.recipes.length - (k + 1) < b.recipes.length - k; omega
      · omega
      · intro m h2
        by_cases e : m = k
        · subst e; exact q1
        · exact hk.2 m (by omega)
      · rw [w64 _ (by omega) (by omega)]; rfl
  · have h := of_decide_eq_false h
    (conv => whnf)
    exact congrArg i64 (actI_none fun m h2 => hk.2 m (by omega)).symm
theorem pc_r10Active (b : BooksT) (o : Okay b) (hI : ∀ i, IG (b.recipes.getD i rec0).gauge) : PC Tryz.prog 30 [bks b] (.tup [i64 (actN b), i64 (actE b)]) := by
  have c := pc_Valid b o hI
  have e := pc_r10current b o
  have hr := o.r
  unfold actN actE
  by_cases hc : chkB b = true
  · rw [hc] at c
    rw [if_pos hc, if_pos hc]
    unfold actI at e
    by_cases ha : b.recipes.any isAct = true
    · rw [if_pos ha] at e
      rw [if_pos ha, if_pos ha]
      refine pc_of_bodyF hm Tryz.func30 (by kernel_rfl) ?_
      conv => whnf
      (repeat' ((first | refine ansT ?_ | refine ansF ?_ | ((try (refine Or.inl ?_; (conv => whnf))); (try (refine ⟨false, ?_⟩; (conv => whnf))); refine ⟨_, by first | exact c | exact e, ?_⟩) | refine ansD (by first | (simp [*]; done) | omega) ?_ | refine ansN (by first | (simp [*]; done) | omega) ?_ | refine ⟨by kernel_rfl, ?_⟩ | refine ansB (by decide) (by first | decide | (simp; done) | (simp only [List.length_cons, List.length_nil]; decide)) ?_ | fail); (conv => whnf)))
      (repeat' (first | (refine ansS (fun hh => ?_) (fun hh => ?_) <;> (first | simp only [ansX] at hh | skip) <;> (first | (exfalso; omega) | (exfalso; simp [*] at hh; done) | (exfalso; revert hh; decide) | exact absurd (by assumption) hh | (conv => whnf))) | ((first | refine ⟨by kernel_rfl, ?_⟩ | refine ansB (by omega) (by omega) ?_ | refine ansB (by decide) (by decide) ?_ | refine And.intro (a := _ ≤ _) (by omega) ?_ | refine And.intro (a := _ ≠ _) (by omega) ?_ | fail); (conv => whnf))))
      all_goals (first | rfl | set_option pp.maxSteps 300 in trace_state)
    · rw [if_neg ha] at e
      rw [if_neg ha, if_neg ha]
      refine pc_of_bodyF hm Tryz.func30 (by kernel_rfl) ?_
      conv => whnf
      (repeat' ((first | refine ansT ?_ | refine ansF ?_ | ((try (refine Or.inl ?_; (conv => whnf))); (try (refine ⟨false, ?_⟩; (conv => whnf))); refine ⟨_, by first | exact c | exact e, ?_⟩) | refine ansD (by first | (simp [*]; done) | omega) ?_ | refine ansN (by first | (simp [*]; done) | omega) ?_ | refine ⟨by kernel_rfl, ?_⟩ | refine ansB (by decide) (by first | decide | (simp; done) | (simp only [List.length_cons, List.length_nil]; decide)) ?_ | fail); (conv => whnf)))
      (repeat' (first | (refine ansS (fun hh => ?_) (fun hh => ?_) <;> (first | simp only [ansX] at hh | skip) <;> (first | (exfalso; omega) | (exfalso; simp [*] at hh; done) | (exfalso; revert hh; decide) | exact absurd (by assumption) hh | (conv => whnf))) | ((first | refine ⟨by kernel_rfl, ?_⟩ | refine ansB (by omega) (by omega) ?_ | refine ansB (by decide) (by decide) ?_ | refine And.intro (a := _ ≤ _) (by omega) ?_ | refine And.intro (a := _ ≠ _) (by omega) ?_ | fail); (conv => whnf))))
      all_goals (first | rfl | set_option pp.maxSteps 300 in trace_state)
  · have hc2 : chkB b = false := by simpa using hc
    rw [if_neg hc, if_neg hc]
    rw [hc2] at c
    refine pc_of_bodyF hm Tryz.func30 (by kernel_rfl) ?_
    conv => whnf
    (repeat' ((first | refine ansT ?_ | refine ansF ?_ | ((try (refine Or.inl ?_; (conv => whnf))); (try (refine ⟨false, ?_⟩; (conv => whnf))); refine ⟨_, by exact c, ?_⟩) | refine ansD (by first | (simp [*]; done) | omega) ?_ | refine ansN (by first | (simp [*]; done) | omega) ?_ | refine ⟨by kernel_rfl, ?_⟩ | refine ansB (by decide) (by first | decide | (simp; done) | (simp only [List.length_cons, List.length_nil]; decide)) ?_ | fail); (conv => whnf)))
    first | rfl | set_option pp.maxSteps 300 in trace_state
end Go.Proofs.Tryz.My
set_option maxRecDepth 100000
set_option maxHeartbeats 0
set_option linter.unusedVariables false
set_option linter.unusedSimpArgs false
namespace Go.Proofs.Tryz.My
open Go Go.Ev
theorem pc_r10wR (b : BooksT) (o : Okay b) (n : Int) : PC Tryz.prog 65 [i64 n, i64 0, i64 (IntKind.i64.wrap ((b.recipes.length : Int) - 1))] (.bool (decide (0 ≤ n) && decide (n ≤ (b.recipes.length : Int) - 1))) := by
  have hu := o.r
  rw [w64 _ (by omega) (by omega)]; exact pc_r10within _ _ _
theorem enough_ins {b : BooksT} (hc : chkB b = true) {x : RecT} (ha : apprB b.users x = true) {user : Int} (h1 : 0 ≤ user) (h2 : user < b.users.length) : ∀ i, i < (insI x.appr user).length → 0 ≤ (insI x.appr user).getD i 0 ∧ (insI x.appr user).getD i 0 < b.users.length := by
  have h := enough_in (b := b) ha
  have hm : ∀ y, y ∈ insI x.appr user → 0 ≤ y ∧ y < b.users.length := by
    intro y hy
    unfold insI at hy
    rw [List.mem_append, List.mem_cons] at hy
    have all : ∀ y, y ∈ x.appr → 0 ≤ y ∧ y < b.users.length := fun y hy => by
      obtain ⟨m, hm, e⟩ := List.getElem_of_mem hy
      have := h m hm
      simp only [List.getD, List.getElem?_eq_getElem hm, Option.getD_some] at this
      rw [← e]; exact this
    rcases hy with hy | hy | hy
    · exact all y (List.mem_of_mem_take hy)
    · subst hy; exact ⟨h1, h2⟩
    · exact all y (List.mem_of_mem_drop hy)
  intro i hi
  apply hm
  simp only [List.getD, List.getElem?_eq_getElem hi, Option.getD_some]
  exact List.getElem_mem hi
theorem pc_r10ApproveOk (b : BooksT) (o : Okay b) (hI : ∀ i, IG (b.recipes.getD i rec0).gauge) (user number : Int) (h : apvE b user number = 0) : PC Tryz.prog 24 [bks b, i64 user, i64 number] (.tup [bks (apvB b user number), i64 0]) := by
  obtain ⟨hc, hn, hb, h2⟩ := apvE_zero h
  clear h
  obtain ⟨hb1, hb2, hb3⟩ := badA_no hb
  have s := chk_small hc
  have hlt : number.toNat < b.recipes.length := by have := hn.2; omega
  have hi : 0 ≤ number ∧ number < (b.recipes.length : Int) := by have := hn.2; omega
  have hu := hn.1
  have hx := o.a number.toNat
  have m23 := (may23_in hu.1 (by omega) (chk_staff hc)).1 hb3
  obtain ⟨ra, rs⟩ := chk_rec hc hlt
  have st := (state_iff.1 rs).2.2
  have c := pc_Valid b o hI
  rw [hc] at c
  have c2 := pc_r10has (b.recipes.getD number.toNat rec0).appr (by omega) user
  rw [hb1] at c2
  have c3 := pc_r10with (b.recipes.getD number.toNat rec0).appr hx user
  have c4 := pc_r10Enough b (insI (b.recipes.getD number.toNat rec0).appr user) (by rw [insI_len]; omega) (enough_ins hc ra hu.1 (by omega))
  unfold apvB apvR
  by_cases he : enoughB b.users (insI (b.recipes.getD number.toNat rec0).appr user) = true
  · rw [if_pos he]
    rw [he] at c4
    refine pc_of_bodyF hm Tryz.func24 (by kernel_rfl) ?_
    conv => whnf
    (repeat' ((first | refine ansT ?_ | refine ansF ?_ | ((try (refine Or.inl ?_; (conv => whnf))); (try (refine ⟨false, ?_⟩; (conv => whnf))); refine ⟨_, by exact c, ?_⟩) | refine ansD (by first | (simp [*]; done) | omega) ?_ | refine ansN (by first | (simp [*]; done) | omega) ?_ | refine ⟨by kernel_rfl, ?_⟩ | refine ansB (by decide) (by first | decide | (simp; done) | (simp only [List.length_cons, List.length_nil]; decide)) ?_ | fail); (conv => whnf)))
    (repeat' (first | (refine ansS (fun hh => ?_) (fun hh => ?_) <;> (first | simp only [ansX] at hh | skip) <;> (first | (exfalso; omega) | (exfalso; simp [*] at hh; done) | (exfalso; revert hh; decide) | exact absurd (by assumption) hh | (conv => whnf))) | ((first | refine ⟨by kernel_rfl, ?_⟩ | refine ansB (by omega) (by omega) ?_ | refine ansB (by decide) (by decide) ?_ | refine And.intro (a := _ ≤ _) (by omega) ?_ | refine And.intro (a := _ ≠ _) (by omega) ?_ | ((try (refine Or.inl ?_; (conv => whnf))); (try (refine ⟨false, ?_⟩; (conv => whnf))); refine ⟨_, by first | exact pc_isUser b o _ | exact pc_r10wR b o _ | exact c2, ?_⟩) | fail); (conv => whnf))))
    all_goals ((refine Or.inr ⟨[ ], [ 64, 62, 63 ], by kernel_rfl, ?_⟩; (conv => whnf); refine ⟨[ ], _, _, _, _, ⟨ pw_r10Twin b o, rfl, rfl, by kernel_rfl⟩, ?_⟩); (conv => whnf); (repeat' ((first | refine ansT ?_ | refine ansF ?_ | ((try (refine Or.inl ?_; (conv => whnf))); (try (refine ⟨false, ?_⟩; (conv => whnf))); refine ⟨_, by first | exact c3 | exact c4, ?_⟩) | refine ansD (by first | (simp [*]; done) | omega) ?_ | refine ansN (by first | (simp [*]; done) | omega) ?_ | refine ⟨by kernel_rfl, ?_⟩ | refine ansB (by decide) (by first | decide | (simp; done) | (simp only [List.length_cons, List.length_nil]; decide)) ?_ | fail); (conv => whnf))); (repeat' (first | (refine ansS (fun hh => ?_) (fun hh => ?_) <;> (first | simp only [ansX] at hh | skip) <;> (first | (exfalso; omega) | (exfalso; simp [*] at hh; done) | (exfalso; revert hh; decide) | exact absurd (by assumption) hh | (conv => whnf))) | ((first | refine ⟨by kernel_rfl, ?_⟩ | refine ansB (by omega) (by omega) ?_ | refine ansB (by decide) (by decide) ?_ | refine And.intro (a := _ ≤ _) (by omega) ?_ | refine And.intro (a := _ ≠ _) (by omega) ?_ | fail); (conv => whnf)))); refine ⟨⟨(b.recipes.getD number.toNat rec0).author, (b.recipes.getD number.toNat rec0).gauge, insI (b.recipes.getD number.toNat rec0).appr user, 2⟩, rfl, hlt, ?_⟩; (conv => whnf); rfl)
  · rw [if_neg he]
    have he2 : enoughB b.users (insI (b.recipes.getD number.toNat rec0).appr user) = false := by simpa using he
    rw [he2] at c4
    refine pc_of_bodyF hm Tryz.func24 (by kernel_rfl) ?_
    conv => whnf
    (repeat' ((first | refine ansT ?_ | refine ansF ?_ | ((try (refine Or.inl ?_; (conv => whnf))); (try (refine ⟨false, ?_⟩; (conv => whnf))); refine ⟨_, by exact c, ?_⟩) | refine ansD (by first | (simp [*]; done) | omega) ?_ | refine ansN (by first | (simp [*]; done) | omega) ?_ | refine ⟨by kernel_rfl, ?_⟩ | refine ansB (by decide) (by first | decide | (simp; done) | (simp only [List.length_cons, List.length_nil]; decide)) ?_ | fail); (conv => whnf)))
    (repeat' (first | (refine ansS (fun hh => ?_) (fun hh => ?_) <;> (first | simp only [ansX] at hh | skip) <;> (first | (exfalso; omega) | (exfalso; simp [*] at hh; done) | (exfalso; revert hh; decide) | exact absurd (by assumption) hh | (conv => whnf))) | ((first | refine ⟨by kernel_rfl, ?_⟩ | refine ansB (by omega) (by omega) ?_ | refine ansB (by decide) (by decide) ?_ | refine And.intro (a := _ ≤ _) (by omega) ?_ | refine And.intro (a := _ ≠ _) (by omega) ?_ | ((try (refine Or.inl ?_; (conv => whnf))); (try (refine ⟨false, ?_⟩; (conv => whnf))); refine ⟨_, by first | exact pc_isUser b o _ | exact pc_r10wR b o _ | exact c2, ?_⟩) | fail); (conv => whnf))))
    all_goals ((refine Or.inr ⟨[ ], [ 64, 62, 63 ], by kernel_rfl, ?_⟩; (conv => whnf); refine ⟨[ ], _, _, _, _, ⟨ pw_r10Twin b o, rfl, rfl, by kernel_rfl⟩, ?_⟩); (conv => whnf); (repeat' ((first | refine ansT ?_ | refine ansF ?_ | ((try (refine Or.inl ?_; (conv => whnf))); (try (refine ⟨false, ?_⟩; (conv => whnf))); refine ⟨_, by first | exact c3 | exact c4, ?_⟩) | refine ansD (by first | (simp [*]; done) | omega) ?_ | refine ansN (by first | (simp [*]; done) | omega) ?_ | refine ⟨by kernel_rfl, ?_⟩ | refine ansB (by decide) (by first | decide | (simp; done) | (simp only [List.length_cons, List.length_nil]; decide)) ?_ | fail); (conv => whnf))); (repeat' (first | (refine ansS (fun hh => ?_) (fun hh => ?_) <;> (first | simp only [ansX] at hh | skip) <;> (first | (exfalso; omega) | (exfalso; simp [*] at hh; done) | (exfalso; revert hh; decide) | exact absurd (by assumption) hh | (conv => whnf))) | ((first | refine ⟨by kernel_rfl, ?_⟩ | refine ansB (by omega) (by omega) ?_ | refine ansB (by decide) (by decide) ?_ | refine And.intro (a := _ ≤ _) (by omega) ?_ | refine And.intro (a := _ ≠ _) (by omega) ?_ | fail); (conv => whnf)))); refine ⟨⟨(b.recipes.getD number.toNat rec0).author, (b.recipes.getD number.toNat rec0).gauge, insI (b.recipes.getD number.toNat rec0).appr user, (b.recipes.getD number.toNat rec0).state⟩, rfl, hlt, ?_⟩; (conv => whnf); rfl)
theorem pc_r10ApproveBad (b : BooksT) (o : Okay b) (hI : ∀ i, IG (b.recipes.getD i rec0).gauge) (user number : Int) (h : ¬apvE b user number = 0) : PC Tryz.prog 24 [bks b, i64 user, i64 number] (.tup [newB 0, i64 (apvE b user number)]) := by
  have c := pc_Valid b o hI
  by_cases h1 : chkB b = true ∧ named b user number
  · unfold apvE at h ⊢
    rw [if_pos h1] at h ⊢
    obtain ⟨hc, hn⟩ := h1
    rw [hc] at c
    have s := chk_small hc
    have hlt : number.toNat < b.recipes.length := by have := hn.2; omega
    have hi : 0 ≤ number ∧ number < (b.recipes.length : Int) := by have := hn.2; omega
    have hu := hn.1
    have hx := o.a number.toNat
    have m23 := may23_in hu.1 (show user < b.users.length by omega) (chk_staff hc)
    obtain ⟨ra, rs⟩ := chk_rec hc hlt
    have st := (state_iff.1 rs).2.2
    have c2 := pc_r10has (b.recipes.getD number.toNat rec0).appr (by omega) user
    by_cases hb : badA b user (b.recipes.getD number.toNat rec0) = true
    · rw [if_pos hb]
      unfold badA at hb
      simp only [Bool.or_eq_true, decide_eq_true_eq, Bool.not_eq_true'] at hb
      by_cases q1 : mayB [2, 3] b.users user = true
      · have q1 := m23.1 q1
        by_cases q2 : user = (b.recipes.getD number.toNat rec0).author
        · refine pc_of_bodyF hm Tryz.func24 (by kernel_rfl) ?_
          conv => whnf
          (repeat' ((first | refine ansT ?_ | refine ansF ?_ | ((try (refine Or.inl ?_; (conv => whnf))); (try (refine ⟨false, ?_⟩; (conv => whnf))); refine ⟨_, by exact c, ?_⟩) | refine ansD (by first | (simp [*]; done) | omega) ?_ | refine ansN (by first | (simp [*]; done) | omega) ?_ | refine ⟨by kernel_rfl, ?_⟩ | refine ansB (by decide) (by first | decide | (simp; done) | (simp only [List.length_cons, List.length_nil]; decide)) ?_ | fail); (conv => whnf)))
          (repeat' (first | (refine ansS (fun hh => ?_) (fun hh => ?_) <;> (first | simp only [ansX] at hh | skip) <;> (first | (exfalso; omega) | (exfalso; simp [*] at hh; done) | (exfalso; revert hh; decide) | exact absurd (by assumption) hh | (conv => whnf))) | ((first | refine ⟨by kernel_rfl, ?_⟩ | refine ansB (by omega) (by omega) ?_ | refine ansB (by decide) (by decide) ?_ | refine And.intro (a := _ ≤ _) (by omega) ?_ | refine And.intro (a := _ ≠ _) (by omega) ?_ | ((try (refine Or.inl ?_; (conv => whnf))); (try (refine ⟨false, ?_⟩; (conv => whnf))); refine ⟨_, by first | exact pc_isUser b o _ | exact pc_r10wR b o _ | exact c2, ?_⟩) | fail); (conv => whnf))))
          all_goals (first | rfl | set_option pp.maxSteps 300 in trace_state)
        · have q3 : (b.recipes.getD number.toNat rec0).appr.contains user = true := by
            rcases hb with e | e | e
            · exact e
            · exact absurd e q2
            · have := m23.2 q1
              rw [e] at this; cases this
          rw [q3] at c2
          refine pc_of_bodyF hm Tryz.func24 (by kernel_rfl) ?_
          conv => whnf
          (repeat' ((first | refine ansT ?_ | refine ansF ?_ | ((try (refine Or.inl ?_; (conv => whnf))); (try (refine ⟨false, ?_⟩; (conv => whnf))); refine ⟨_, by exact c, ?_⟩) | refine ansD (by first | (simp [*]; done) | omega) ?_ | refine ansN (by first | (simp [*]; done) | omega) ?_ | refine ⟨by kernel_rfl, ?_⟩ | refine ansB (by decide) (by first | decide | (simp; done) | (simp only [List.length_cons, List.length_nil]; decide)) ?_ | fail); (conv => whnf)))
          (repeat' (first | (refine ansS (fun hh => ?_) (fun hh => ?_) <;> (first | simp only [ansX] at hh | skip) <;> (first | (exfalso; omega) | (exfalso; simp [*] at hh; done) | (exfalso; revert hh; decide) | exact absurd (by assumption) hh | (conv => whnf))) | ((first | refine ⟨by kernel_rfl, ?_⟩ | refine ansB (by omega) (by omega) ?_ | refine ansB (by decide) (by decide) ?_ | refine And.intro (a := _ ≤ _) (by omega) ?_ | refine And.intro (a := _ ≠ _) (by omega) ?_ | ((try (refine Or.inl ?_; (conv => whnf))); (try (refine ⟨false, ?_⟩; (conv => whnf))); refine ⟨_, by first | exact pc_isUser b o _ | exact pc_r10wR b o _ | exact c2, ?_⟩) | fail); (conv => whnf))))
          all_goals (first | rfl | set_option pp.maxSteps 300 in trace_state)
      · have q1 : b.users.getD user.toNat 0 < 2 := by
          by_cases e : b.users.getD user.toNat 0 < 2
          · exact e
          · exact absurd (m23.2 e) q1
        refine pc_of_bodyF hm Tryz.func24 (by kernel_rfl) ?_
        conv => whnf
        (repeat' ((first | refine ansT ?_ | refine ansF ?_ | ((try (refine Or.inl ?_; (conv => whnf))); (try (refine ⟨false, ?_⟩; (conv => whnf))); refine ⟨_, by exact c, ?_⟩) | refine ansD (by first | (simp [*]; done) | omega) ?_ | refine ansN (by first | (simp [*]; done) | omega) ?_ | refine ⟨by kernel_rfl, ?_⟩ | refine ansB (by decide) (by first | decide | (simp; done) | (simp only [List.length_cons, List.length_nil]; decide)) ?_ | fail); (conv => whnf)))
        (repeat' (first | (refine ansS (fun hh => ?_) (fun hh => ?_) <;> (first | simp only [ansX] at hh | skip) <;> (first | (exfalso; omega) | (exfalso; simp [*] at hh; done) | (exfalso; revert hh; decide) | exact absurd (by assumption) hh | (conv => whnf))) | ((first | refine ⟨by kernel_rfl, ?_⟩ | refine ansB (by omega) (by omega) ?_ | refine ansB (by decide) (by decide) ?_ | refine And.intro (a := _ ≤ _) (by omega) ?_ | refine And.intro (a := _ ≠ _) (by omega) ?_ | ((try (refine Or.inl ?_; (conv => whnf))); (try (refine ⟨false, ?_⟩; (conv => whnf))); refine ⟨_, by first | exact pc_isUser b o _ | exact pc_r10wR b o _ | exact c2, ?_⟩) | fail); (conv => whnf))))
        all_goals (first | rfl | set_option pp.maxSteps 300 in trace_state)
    · have hb2 : badA b user (b.recipes.getD number.toNat rec0) = false := by simpa using hb
      rw [if_neg hb] at h ⊢
      obtain ⟨hb1, hb2, hb3⟩ := badA_no hb2
      have q1 := m23.1 hb3
      rw [hb1] at c2
      have h2 : (b.recipes.getD number.toNat rec0).state > 2 := Decidable.byContradiction fun q => h (if_neg q)
      rw [if_pos h2]
      refine pc_of_bodyF hm Tryz.func24 (by kernel_rfl) ?_
      conv => whnf
      (repeat' ((first | refine ansT ?_ | refine ansF ?_ | ((try (refine Or.inl ?_; (conv => whnf))); (try (refine ⟨false, ?_⟩; (conv => whnf))); refine ⟨_, by exact c, ?_⟩) | refine ansD (by first | (simp [*]; done) | omega) ?_ | refine ansN (by first | (simp [*]; done) | omega) ?_ | refine ⟨by kernel_rfl, ?_⟩ | refine ansB (by decide) (by first | decide | (simp; done) | (simp only [List.length_cons, List.length_nil]; decide)) ?_ | fail); (conv => whnf)))
      (repeat' (first | (refine ansS (fun hh => ?_) (fun hh => ?_) <;> (first | simp only [ansX] at hh | skip) <;> (first | (exfalso; omega) | (exfalso; simp [*] at hh; done) | (exfalso; revert hh; decide) | exact absurd (by assumption) hh | (conv => whnf))) | ((first | refine ⟨by kernel_rfl, ?_⟩ | refine ansB (by omega) (by omega) ?_ | refine ansB (by decide) (by decide) ?_ | refine And.intro (a := _ ≤ _) (by omega) ?_ | refine And.intro (a := _ ≠ _) (by omega) ?_ | ((try (refine Or.inl ?_; (conv => whnf))); (try (refine ⟨false, ?_⟩; (conv => whnf))); refine ⟨_, by first | exact pc_isUser b o _ | exact pc_r10wR b o _ | exact c2, ?_⟩) | fail); (conv => whnf))))
      all_goals (first | rfl | set_option pp.maxSteps 300 in trace_state)
  · unfold apvE
    rw [if_neg h1]
    by_cases hc : chkB b = true
    · have hn : ¬named b user number := fun q => h1 ⟨hc, q⟩
      unfold named at hn
      rw [hc] at c
      rw [if_pos hc]
      refine pc_of_bodyF hm Tryz.func24 (by kernel_rfl) ?_
      conv => whnf
      (repeat' ((first | refine ansT ?_ | refine ansF ?_ | ((try (refine Or.inl ?_; (conv => whnf))); (try (refine ⟨false, ?_⟩; (conv => whnf))); refine ⟨_, by exact c, ?_⟩) | refine ansD (by first | (simp [*]; done) | omega) ?_ | refine ansN (by first | (simp [*]; done) | omega) ?_ | refine ⟨by kernel_rfl, ?_⟩ | refine ansB (by decide) (by first | decide | (simp; done) | (simp only [List.length_cons, List.length_nil]; decide)) ?_ | fail); (conv => whnf)))
      (repeat' (first | (refine ansS (fun hh => ?_) (fun hh => ?_) <;> (first | simp only [ansX] at hh | skip) <;> (first | (exfalso; omega) | (exfalso; simp [*] at hh; done) | (exfalso; revert hh; decide) | exact absurd (by assumption) hh | (conv => whnf))) | ((first | refine ⟨by kernel_rfl, ?_⟩ | refine ansB (by omega) (by omega) ?_ | refine ansB (by decide) (by decide) ?_ | refine And.intro (a := _ ≤ _) (by omega) ?_ | refine And.intro (a := _ ≠ _) (by omega) ?_ | ((try (refine Or.inl ?_; (conv => whnf))); (try (refine ⟨false, ?_⟩; (conv => whnf))); refine ⟨_, by first | exact pc_isUser b o _ | exact pc_r10wR b o _, ?_⟩) | fail); (conv => whnf))))
      all_goals (first | rfl | (exfalso; omega) | set_option pp.maxSteps 300 in trace_state)
    · have hc2 : chkB b = false := by simpa using hc
      rw [hc2] at c
      rw [if_neg hc]
      refine pc_of_bodyF hm Tryz.func24 (by kernel_rfl) ?_
      conv => whnf
      (repeat' ((first | refine ansT ?_ | refine ansF ?_ | ((try (refine Or.inl ?_; (conv => whnf))); (try (refine ⟨false, ?_⟩; (conv => whnf))); refine ⟨_, by exact c, ?_⟩) | refine ansD (by first | (simp [*]; done) | omega) ?_ | refine ansN (by first | (simp [*]; done) | omega) ?_ | refine ⟨by kernel_rfl, ?_⟩ | refine ansB (by decide) (by first | decide | (simp; done) | (simp only [List.length_cons, List.length_nil]; decide)) ?_ | fail); (conv => whnf)))
      first | rfl | set_option pp.maxSteps 300 in trace_state
end Go.Proofs.Tryz.My
set_option maxRecDepth 100000
set_option maxHeartbeats 0
set_option linter.unusedVariables false
set_option linter.unusedSimpArgs false
namespace Go.Proofs.Tryz.My
open Go Go.Ev
theorem retE_zero {b : BooksT} {user : Int} (h : retE b user = 0) : chkB b = true ∧ (0 ≤ user ∧ user ≤ (b.users.length : Int) - 1) ∧ mayB [3] b.users user = true ∧ b.recipes.any isAct = true := by
  unfold retE at h
  by_cases h1 : chkB b = true
  · rw [if_pos h1] at h
    by_cases h2 : 0 ≤ user ∧ user ≤ (b.users.length : Int) - 1
    · rw [if_neg (fun q => q h2)] at h
      by_cases h3 : mayB [3] b.users user = false
      · rw [if_pos h3] at h; cases h
      · rw [if_neg h3] at h
        by_cases h4 : b.recipes.any isAct = true
        · exact ⟨h1, h2, by simpa using h3, h4⟩
        · rw [if_pos h4] at h; cases h
    · rw [if_pos h2] at h; cases h
  · rw [if_neg h1] at h; cases h
theorem pc_r10RetireOk (b : BooksT) (o : Okay b) (hI : ∀ i, IG (b.recipes.getD i rec0).gauge) (user : Int) (h : retE b user = 0) : PC Tryz.prog 28 [bks b, i64 user] (.tup [bks (retB b (firstA b.recipes)), i64 0]) := by
  obtain ⟨hc, hu, hmy, ha⟩ := retE_zero h
  clear h
  have s := chk_small hc
  have c := pc_Valid b o hI
  rw [hc] at c
  have m3 := may3_in hu.1 (show user < b.users.length by omega)
  rw [hmy] at m3
  have h3 : b.users.getD user.toNat 0 = 3 := of_decide_eq_true m3.symm
  have e := pc_r10current b o
  unfold actI at e
  rw [if_pos ha] at e
  have hlt := firstA_lt ha
  generalize firstA b.recipes = i at *
  refine pc_of_bodyF hm Tryz.func28 (by kernel_rfl) ?_
  conv => whnf
  (repeat' ((first | refine ansT ?_ | refine ansF ?_ | ((try (refine Or.inl ?_; (conv => whnf))); (try (refine ⟨false, ?_⟩; (conv => whnf))); refine ⟨_, by exact c, ?_⟩) | refine ansD (by first | (simp [*]; done) | omega) ?_ | refine ansN (by first | (simp [*]; done) | omega) ?_ | refine ⟨by kernel_rfl, ?_⟩ | refine ansB (by decide) (by first | decide | (simp; done) | (simp only [List.length_cons, List.length_nil]; decide)) ?_ | fail); (conv => whnf)))
  (repeat' (first | (refine ansS (fun hh => ?_) (fun hh => ?_) <;> (first | simp only [ansX] at hh | skip) <;> (first | (exfalso; omega) | (exfalso; simp [*] at hh; done) | (exfalso; revert hh; decide) | exact absurd (by assumption) hh | (conv => whnf))) | ((first | refine ⟨by kernel_rfl, ?_⟩ | refine ansB (by omega) (by omega) ?_ | refine ansB (by decide) (by decide) ?_ | refine And.intro (a := _ ≤ _) (by omega) ?_ | refine And.intro (a := _ ≠ _) (by omega) ?_ | ((try (refine Or.inl ?_; (conv => whnf))); (try (refine ⟨false, ?_⟩; (conv => whnf))); refine ⟨_, by first | exact pc_isUser b o _ | exact e, ?_⟩) | fail); (conv => whnf))))
  (refine Or.inr ⟨[ ], [ 32, 30, 31 ], by kernel_rfl, ?_⟩; (conv => whnf); refine ⟨[ ], _, _, _, _, ⟨ pw_r10Twin b o, rfl, rfl, by kernel_rfl⟩, ?_⟩)
  (conv => whnf)
  (repeat' (first | (refine ansS (fun hh => ?_) (fun hh => ?_) <;> (first | simp only [ansX] at hh | skip) <;> (first | (exfalso; omega) | (exfalso; simp [*] at hh; done) | (exfalso; revert hh; decide) | exact absurd (by assumption) hh | (conv => whnf))) | ((first | refine ⟨by kernel_rfl, ?_⟩ | refine ansB (by omega) (by omega) ?_ | refine ansB (by decide) (by decide) ?_ | refine And.intro (a := _ ≤ _) (by omega) ?_ | refine And.intro (a := _ ≠ _) (by omega) ?_ | fail); (conv => whnf))))
  refine ⟨setSt (b.recipes.getD i rec0) 4, rfl, hlt, ?_⟩
  (conv => whnf)
  rfl
theorem pc_r10RetireBad (b : BooksT) (o : Okay b) (hI : ∀ i, IG (b.recipes.getD i rec0).gauge) (user : Int) (h : ¬retE b user = 0) : PC Tryz.prog 28 [bks b, i64 user] (.tup [newB 0, i64 (retE b user)]) := by
  have c := pc_Valid b o hI
  by_cases hc : chkB b = true
  · have s := chk_small hc
    have e := pc_r10current b o
    rw [hc] at c
    unfold retE at h ⊢
    rw [if_pos hc] at h ⊢
    by_cases hu : 0 ≤ user ∧ user ≤ (b.users.length : Int) - 1
    · rw [if_neg (fun q => q hu)] at h ⊢
      have m3 := may3_in hu.1 (show user < b.users.length by omega)
      by_cases hmy : mayB [3] b.users user = true
      · rw [if_neg (by rw [hmy]; decide)] at h ⊢
        rw [hmy] at m3
        have h3 : b.users.getD user.toNat 0 = 3 := of_decide_eq_true m3.symm
        have ha : ¬b.recipes.any isAct = true := fun q => h (if_neg (fun e => e q))
        rw [if_pos ha]
        unfold actI at e
        rw [if_neg ha] at e
        refine pc_of_bodyF hm Tryz.func28 (by kernel_rfl) ?_
        conv => whnf
        (repeat' ((first | refine ansT ?_ | refine ansF ?_ | ((try (refine Or.inl ?_; (conv => whnf))); (try (refine ⟨false, ?_⟩; (conv => whnf))); refine ⟨_, by exact c, ?_⟩) | refine ansD (by first | (simp [*]; done) | omega) ?_ | refine ansN (by first | (simp [*]; done) | omega) ?_ | refine ⟨by kernel_rfl, ?_⟩ | refine ansB (by decide) (by first | decide | (simp; done) | (simp only [List.length_cons, List.length_nil]; decide)) ?_ | fail); (conv => whnf)))
        (repeat' (first | (refine ansS (fun hh => ?_) (fun hh => ?_) <;> (first | simp only [ansX] at hh | skip) <;> (first | (exfalso; omega) | (exfalso; simp [*] at hh; done) | (exfalso; revert hh; decide) | exact absurd (by assumption) hh | (conv => whnf))) | ((first | refine ⟨by kernel_rfl, ?_⟩ | refine ansB (by omega) (by omega) ?_ | refine ansB (by decide) (by decide) ?_ | refine And.intro (a := _ ≤ _) (by omega) ?_ | refine And.intro (a := _ ≠ _) (by omega) ?_ | ((try (refine Or.inl ?_; (conv => whnf))); (try (refine ⟨false, ?_⟩; (conv => whnf))); refine ⟨_, by first | exact pc_isUser b o _ | exact e, ?_⟩) | fail); (conv => whnf))))
        all_goals (first | rfl | set_option pp.maxSteps 300 in trace_state)
      · have hm2 : mayB [3] b.users user = false := by simpa using hmy
        rw [if_pos hm2]
        rw [hm2] at m3
        have h3 : ¬b.users.getD user.toNat 0 = 3 := of_decide_eq_false m3.symm
        refine pc_of_bodyF hm Tryz.func28 (by kernel_rfl) ?_
        conv => whnf
        (repeat' ((first | refine ansT ?_ | refine ansF ?_ | ((try (refine Or.inl ?_; (conv => whnf))); (try (refine ⟨false, ?_⟩; (conv => whnf))); refine ⟨_, by exact c, ?_⟩) | refine ansD (by first | (simp [*]; done) | omega) ?_ | refine ansN (by first | (simp [*]; done) | omega) ?_ | refine ⟨by kernel_rfl, ?_⟩ | refine ansB (by decide) (by first | decide | (simp; done) | (simp only [List.length_cons, List.length_nil]; decide)) ?_ | fail); (conv => whnf)))
        (repeat' (first | (refine ansS (fun hh => ?_) (fun hh => ?_) <;> (first | simp only [ansX] at hh | skip) <;> (first | (exfalso; omega) | (exfalso; simp [*] at hh; done) | (exfalso; revert hh; decide) | exact absurd (by assumption) hh | (conv => whnf))) | ((first | refine ⟨by kernel_rfl, ?_⟩ | refine ansB (by omega) (by omega) ?_ | refine ansB (by decide) (by decide) ?_ | refine And.intro (a := _ ≤ _) (by omega) ?_ | refine And.intro (a := _ ≠ _) (by omega) ?_ | ((try (refine Or.inl ?_; (conv => whnf))); (try (refine ⟨false, ?_⟩; (conv => whnf))); refine ⟨_, by exact pc_isUser b o _, ?_⟩) | fail); (conv => whnf))))
        all_goals (first | rfl | set_option pp.maxSteps 300 in trace_state)
    · rw [if_pos hu]
      refine pc_of_bodyF hm Tryz.func28 (by kernel_rfl) ?_
      conv => whnf
      (repeat' ((first | refine ansT ?_ | refine ansF ?_ | ((try (refine Or.inl ?_; (conv => whnf))); (try (refine ⟨false, ?_⟩; (conv => whnf))); refine ⟨_, by exact c, ?_⟩) | refine ansD (by first | (simp [*]; done) | omega) ?_ | refine ansN (by first | (simp [*]; done) | omega) ?_ | refine ⟨by kernel_rfl, ?_⟩ | refine ansB (by decide) (by first | decide | (simp; done) | (simp only [List.length_cons, List.length_nil]; decide)) ?_ | fail); (conv => whnf)))
      (repeat' (first | (refine ansS (fun hh => ?_) (fun hh => ?_) <;> (first | simp only [ansX] at hh | skip) <;> (first | (exfalso; omega) | (exfalso; simp [*] at hh; done) | (exfalso; revert hh; decide) | exact absurd (by assumption) hh | (conv => whnf))) | ((first | refine ⟨by kernel_rfl, ?_⟩ | refine ansB (by omega) (by omega) ?_ | refine ansB (by decide) (by decide) ?_ | refine And.intro (a := _ ≤ _) (by omega) ?_ | refine And.intro (a := _ ≠ _) (by omega) ?_ | ((try (refine Or.inl ?_; (conv => whnf))); (try (refine ⟨false, ?_⟩; (conv => whnf))); refine ⟨_, by exact pc_isUser b o _, ?_⟩) | fail); (conv => whnf))))
      all_goals (first | rfl | set_option pp.maxSteps 300 in trace_state)
  · have hc2 : chkB b = false := by simpa using hc
    unfold retE
    rw [if_neg hc]
    rw [hc2] at c
    refine pc_of_bodyF hm Tryz.func28 (by kernel_rfl) ?_
    conv => whnf
    (repeat' ((first | refine ansT ?_ | refine ansF ?_ | ((try (refine Or.inl ?_; (conv => whnf))); (try (refine ⟨false, ?_⟩; (conv => whnf))); refine ⟨_, by exact c, ?_⟩) | refine ansD (by first | (simp [*]; done) | omega) ?_ | refine ansN (by first | (simp [*]; done) | omega) ?_ | refine ⟨by kernel_rfl, ?_⟩ | refine ansB (by decide) (by first | decide | (simp; done) | (simp only [List.length_cons, List.length_nil]; decide)) ?_ | fail); (conv => whnf)))
    first | rfl | set_option pp.maxSteps 300 in trace_state
theorem pc_r10ActivateOk (b : BooksT) (o : Okay b) (hI : ∀ i, IG (b.recipes.getD i rec0).gauge) (user number : Int) (h : actvE b user number = 0) : PC Tryz.prog 26 [bks b, i64 user, i64 number] (.tup [bks (actvB b number), i64 0]) := by
  obtain ⟨hc, hn, hmy, h2⟩ := actvE_zero h
  clear h
  have s := chk_small hc
  have hlt : number.toNat < b.recipes.length := by have := hn.2; omega
  have hi : 0 ≤ number ∧ number < (b.recipes.length : Int) := by have := hn.2; omega
  have hu := hn.1
  have hr := o.r
  have h3 := (may2_in hu.1 (show user < b.users.length by omega)).1 hmy
  have c := pc_Valid b o hI
  rw [hc] at c
  have e := pc_r10current b o
  unfold actI at e
  unfold actvB calmB
  by_cases ha : b.recipes.any isAct = true
  · rw [if_pos ha] at e ⊢
    have hl2 := firstA_lt ha
    generalize firstA b.recipes = i at *
    refine pc_of_bodyF hm Tryz.func26 (by kernel_rfl) ?_
    conv => whnf
    (repeat' ((first | refine ansT ?_ | refine ansF ?_ | ((try (refine Or.inl ?_; (conv => whnf))); (try (refine ⟨false, ?_⟩; (conv => whnf))); refine ⟨_, by exact c, ?_⟩) | refine ansD (by first | (simp [*]; done) | omega) ?_ | refine ansN (by first | (simp [*]; done) | omega) ?_ | refine ⟨by kernel_rfl, ?_⟩ | refine ansB (by decide) (by first | decide | (simp; done) | (simp only [List.length_cons, List.length_nil]; decide)) ?_ | fail); (conv => whnf)))
    (repeat' (first | (refine ansS (fun hh => ?_) (fun hh => ?_) <;> (first | simp only [ansX] at hh | skip) <;> (first | (exfalso; omega) | (exfalso; simp [*] at hh; done) | (exfalso; revert hh; decide) | exact absurd (by assumption) hh | (conv => whnf))) | ((first | refine ⟨by kernel_rfl, ?_⟩ | refine ansB (by omega) (by omega) ?_ | refine ansB (by decide) (by decide) ?_ | refine And.intro (a := _ ≤ _) (by omega) ?_ | refine And.intro (a := _ ≠ _) (by omega) ?_ | ((try (refine Or.inl ?_; (conv => whnf))); (try (refine ⟨false, ?_⟩; (conv => whnf))); refine ⟨_, by first | exact pc_isUser b o _ | exact pc_r10wR b o _, ?_⟩) | fail); (conv => whnf))))
    (refine Or.inr ⟨[ ], [ 50, 48, 49 ], by kernel_rfl, ?_⟩; (conv => whnf); refine ⟨[ ], _, _, _, _, ⟨ pw_r10Twin b o, rfl, rfl, by kernel_rfl⟩, ?_⟩)
    (conv => whnf)
    (repeat' (first | (refine ansS (fun hh => ?_) (fun hh => ?_) <;> (first | simp only [ansX] at hh | skip) <;> (first | (exfalso; omega) | (exfalso; simp [*] at hh; done) | (exfalso; revert hh; decide) | exact absurd (by assumption) hh | (conv => whnf))) | ((first | refine ⟨by kernel_rfl, ?_⟩ | refine ansB (by omega) (by omega) ?_ | refine ansB (by decide) (by decide) ?_ | refine And.intro (a := _ ≤ _) (by omega) ?_ | refine And.intro (a := _ ≠ _) (by omega) ?_ | ((try (refine Or.inl ?_; (conv => whnf))); (try (refine ⟨false, ?_⟩; (conv => whnf))); refine ⟨_, by exact e, ?_⟩) | fail); (conv => whnf))))
    refine ⟨setSt (b.recipes.getD i rec0) 4, rfl, hl2, ?_⟩
    (conv => whnf)
    (repeat' (first | (refine ansS (fun hh => ?_) (fun hh => ?_) <;> (first | simp only [ansX] at hh | skip) <;> (first | (exfalso; omega) | (exfalso; simp [*] at hh; done) | (exfalso; revert hh; decide) | exact absurd (by assumption) hh | (conv => whnf))) | ((first | refine ⟨by kernel_rfl, ?_⟩ | refine ansB (by omega) (by omega) ?_ | refine ansB (by decide) (by decide) ?_ | refine And.intro (a := _ ≤ _) (by omega) ?_ | refine And.intro (a := _ ≠ _) (by omega) ?_ | fail); (conv => whnf))))
    have hlt3 : number.toNat < (b.recipes.set i (setSt (b.recipes.getD i rec0) 4)).length := by rw [List.length_set]; exact hlt
    have hi3 : 0 ≤ number ∧ number < ((b.recipes.set i (setSt (b.recipes.getD i rec0) 4)).length : Int) := by rw [List.length_set]; exact hi
    refine ⟨hi3, ?_⟩
    (conv => whnf)
    refine ⟨setSt ((b.recipes.set i (setSt (b.recipes.getD i rec0) 4)).getD number.toNat rec0) 3, rfl, hlt3, ?_⟩
    (conv => whnf)
    rfl
  · rw [if_neg ha] at e ⊢
    refine pc_of_bodyF hm Tryz.func26 (by kernel_rfl) ?_
    conv => whnf
    (repeat' ((first | refine ansT ?_ | refine ansF ?_ | ((try (refine Or.inl ?_; (conv => whnf))); (try (refine ⟨false, ?_⟩; (conv => whnf))); refine ⟨_, by exact c, ?_⟩) | refine ansD (by first | (simp [*]; done) | omega) ?_ | refine ansN (by first | (simp [*]; done) | omega) ?_ | refine ⟨by kernel_rfl, ?_⟩ | refine ansB (by decide) (by first | decide | (simp; done) | (simp only [List.length_cons, List.length_nil]; decide)) ?_ | fail); (conv => whnf)))
    (repeat' (first | (refine ansS (fun hh => ?_) (fun hh => ?_) <;> (first | simp only [ansX] at hh | skip) <;> (first | (exfalso; omega) | (exfalso; simp [*] at hh; done) | (exfalso; revert hh; decide) | exact absurd (by assumption) hh | (conv => whnf))) | ((first | refine ⟨by kernel_rfl, ?_⟩ | refine ansB (by omega) (by omega) ?_ | refine ansB (by decide) (by decide) ?_ | refine And.intro (a := _ ≤ _) (by omega) ?_ | refine And.intro (a := _ ≠ _) (by omega) ?_ | ((try (refine Or.inl ?_; (conv => whnf))); (try (refine ⟨false, ?_⟩; (conv => whnf))); refine ⟨_, by first | exact pc_isUser b o _ | exact pc_r10wR b o _, ?_⟩) | fail); (conv => whnf))))
    (refine Or.inr ⟨[ ], [ 50, 48, 49 ], by kernel_rfl, ?_⟩; (conv => whnf); refine ⟨[ ], _, _, _, _, ⟨ pw_r10Twin b o, rfl, rfl, by kernel_rfl⟩, ?_⟩)
    (conv => whnf)
    (repeat' (first | (refine ansS (fun hh => ?_) (fun hh => ?_) <;> (first | simp only [ansX] at hh | skip) <;> (first | (exfalso; omega) | (exfalso; simp [*] at hh; done) | (exfalso; revert hh; decide) | exact absurd (by assumption) hh | (conv => whnf))) | ((first | refine ⟨by kernel_rfl, ?_⟩ | refine ansB (by omega) (by omega) ?_ | refine ansB (by decide) (by decide) ?_ | refine And.intro (a := _ ≤ _) (by omega) ?_ | refine And.intro (a := _ ≠ _) (by omega) ?_ | ((try (refine Or.inl ?_; (conv => whnf))); (try (refine ⟨false, ?_⟩; (conv => whnf))); refine ⟨_, by exact e, ?_⟩) | fail); (conv => whnf))))
    refine ⟨setSt (b.recipes.getD number.toNat rec0) 3, rfl, hlt, ?_⟩
    (conv => whnf)
    rfl
theorem pc_r10ActivateBad (b : BooksT) (o : Okay b) (hI : ∀ i, IG (b.recipes.getD i rec0).gauge) (user number : Int) (h : ¬actvE b user number = 0) : PC Tryz.prog 26 [bks b, i64 user, i64 number] (.tup [newB 0, i64 (actvE b user number)]) := by
  have c := pc_Valid b o hI
  by_cases h1 : chkB b = true ∧ named b user number
  · unfold actvE at h ⊢
    rw [if_pos h1] at h ⊢
    obtain ⟨hc, hn⟩ := h1
    rw [hc] at c
    have s := chk_small hc
    have hlt : number.toNat < b.recipes.length := by have := hn.2; omega
    have hi : 0 ≤ number ∧ number < (b.recipes.length : Int) := by have := hn.2; omega
    have hu := hn.1
    have m2 := may2_in hu.1 (show user < b.users.length by omega)
    by_cases hmy : mayB [2] b.users user = true
    · rw [if_neg (by rw [hmy]; decide)] at h ⊢
      have h3 := m2.1 hmy
      have h2 : ¬(b.recipes.getD number.toNat rec0).state = 2 := fun q => h (if_neg (fun e => e q))
      rw [if_pos h2]
      refine pc_of_bodyF hm Tryz.func26 (by kernel_rfl) ?_
      conv => whnf
      (repeat' ((first | refine ansT ?_ | refine ansF ?_ | ((try (refine Or.inl ?_; (conv => whnf))); (try (refine ⟨false, ?_⟩; (conv => whnf))); refine ⟨_, by exact c, ?_⟩) | refine ansD (by first | (simp [*]; done) | omega) ?_ | refine ansN (by first | (simp [*]; done) | omega) ?_ | refine ⟨by kernel_rfl, ?_⟩ | refine ansB (by decide) (by first | decide | (simp; done) | (simp only [List.length_cons, List.length_nil]; decide)) ?_ | fail); (conv => whnf)))
      (repeat' (first | (refine ansS (fun hh => ?_) (fun hh => ?_) <;> (first | simp only [ansX] at hh | skip) <;> (first | (exfalso; omega) | (exfalso; simp [*] at hh; done) | (exfalso; revert hh; decide) | exact absurd (by assumption) hh | (conv => whnf))) | ((first | refine ⟨by kernel_rfl, ?_⟩ | refine ansB (by omega) (by omega) ?_ | refine ansB (by decide) (by decide) ?_ | refine And.intro (a := _ ≤ _) (by omega) ?_ | refine And.intro (a := _ ≠ _) (by omega) ?_ | ((try (refine Or.inl ?_; (conv => whnf))); (try (refine ⟨false, ?_⟩; (conv => whnf))); refine ⟨_, by first | exact pc_isUser b o _ | exact pc_r10wR b o _, ?_⟩) | fail); (conv => whnf))))
      all_goals (first | rfl | set_option pp.maxSteps 300 in trace_state)
    · have hm2 : mayB [2] b.users user = false := by simpa using hmy
      rw [if_pos hm2]
      have h3 : ¬b.users.getD user.toNat 0 = 2 := fun e => hmy (m2.2 e)
      refine pc_of_bodyF hm Tryz.func26 (by kernel_rfl) ?_
      conv => whnf
      (repeat' ((first | refine ansT ?_ | refine ansF ?_ | ((try (refine Or.inl ?_; (conv => whnf))); (try (refine ⟨false, ?_⟩; (conv => whnf))); refine ⟨_, by exact c, ?_⟩) | refine ansD (by first | (simp [*]; done) | omega) ?_ | refine ansN (by first | (simp [*]; done) | omega) ?_ | refine ⟨by kernel_rfl, ?_⟩ | refine ansB (by decide) (by first | decide | (simp; done) | (simp only [List.length_cons, List.length_nil]; decide)) ?_ | fail); (conv => whnf)))
      (repeat' (first | (refine ansS (fun hh => ?_) (fun hh => ?_) <;> (first | simp only [ansX] at hh | skip) <;> (first | (exfalso; omega) | (exfalso; simp [*] at hh; done) | (exfalso; revert hh; decide) | exact absurd (by assumption) hh | (conv => whnf))) | ((first | refine ⟨by kernel_rfl, ?_⟩ | refine ansB (by omega) (by omega) ?_ | refine ansB (by decide) (by decide) ?_ | refine And.intro (a := _ ≤ _) (by omega) ?_ | refine And.intro (a := _ ≠ _) (by omega) ?_ | ((try (refine Or.inl ?_; (conv => whnf))); (try (refine ⟨false, ?_⟩; (conv => whnf))); refine ⟨_, by first | exact pc_isUser b o _ | exact pc_r10wR b o _, ?_⟩) | fail); (conv => whnf))))
      all_goals (first | rfl | set_option pp.maxSteps 300 in trace_state)
  · unfold actvE
    rw [if_neg h1]
    by_cases hc : chkB b = true
    · have hn : ¬named b user number := fun q => h1 ⟨hc, q⟩
      unfold named at hn
      rw [hc] at c
      rw [if_pos hc]
      refine pc_of_bodyF hm Tryz.func26 (by kernel_rfl) ?_
      conv => whnf
      (repeat' ((first | refine ansT ?_ | refine ansF ?_ | ((try (refine Or.inl ?_; (conv => whnf))); (try (refine ⟨false, ?_⟩; (conv => whnf))); refine ⟨_, by exact c, ?_⟩) | refine ansD (by first | (simp [*]; done) | omega) ?_ | refine ansN (by first | (simp [*]; done) | omega) ?_ | refine ⟨by kernel_rfl, ?_⟩ | refine ansB (by decide) (by first | decide | (simp; done) | (simp only [List.length_cons, List.length_nil]; decide)) ?_ | fail); (conv => whnf)))
      (repeat' (first | (refine ansS (fun hh => ?_) (fun hh => ?_) <;> (first | simp only [ansX] at hh | skip) <;> (first | (exfalso; omega) | (exfalso; simp [*] at hh; done) | (exfalso; revert hh; decide) | exact absurd (by assumption) hh | (conv => whnf))) | ((first | refine ⟨by kernel_rfl, ?_⟩ | refine ansB (by omega) (by omega) ?_ | refine ansB (by decide) (by decide) ?_ | refine And.intro (a := _ ≤ _) (by omega) ?_ | refine And.intro (a := _ ≠ _) (by omega) ?_ | ((try (refine Or.inl ?_; (conv => whnf))); (try (refine ⟨false, ?_⟩; (conv => whnf))); refine ⟨_, by first | exact pc_isUser b o _ | exact pc_r10wR b o _, ?_⟩) | fail); (conv => whnf))))
      all_goals (first | rfl | (exfalso; omega) | set_option pp.maxSteps 300 in trace_state)
    · have hc2 : chkB b = false := by simpa using hc
      rw [hc2] at c
      rw [if_neg hc]
      refine pc_of_bodyF hm Tryz.func26 (by kernel_rfl) ?_
      conv => whnf
      (repeat' ((first | refine ansT ?_ | refine ansF ?_ | ((try (refine Or.inl ?_; (conv => whnf))); (try (refine ⟨false, ?_⟩; (conv => whnf))); refine ⟨_, by exact c, ?_⟩) | refine ansD (by first | (simp [*]; done) | omega) ?_ | refine ansN (by first | (simp [*]; done) | omega) ?_ | refine ⟨by kernel_rfl, ?_⟩ | refine ansB (by decide) (by first | decide | (simp; done) | (simp only [List.length_cons, List.length_nil]; decide)) ?_ | fail); (conv => whnf)))
      first | rfl | set_option pp.maxSteps 300 in trace_state
end Go.Proofs.Tryz.My
