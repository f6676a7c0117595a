/- A helper text: contracts of functions of the program, and plain lemmas. -/
import Derived.Test.YtnoahgjfeablgaaGreatEvSix
import Derived.Test.YtnoahgjfeablgaaGreatMzBoA
set_option maxRecDepth 100000
set_option maxHeartbeats 0
set_option linter.unusedVariables false
set_option linter.unusedSimpArgs false
namespace Go.Proofs.Tryz.My
open Go Go.Ev
def setSt (x : RecT) (n : Int) : RecT := ⟨x.author, x.gauge, x.appr, n⟩
def retB (b : BooksT) (i : Nat) : BooksT := ⟨b.keep, b.users, b.recipes.set i (setSt (b.recipes.getD i rec0) 4), b.next, b.log⟩
def isAct (x : RecT) : Bool := decide (x.state = 3)
def firstA (l : List RecT) : Nat := l.findIdx isAct
theorem firstA_lt {l : List RecT} (h : l.any isAct = true) : firstA l < l.length := by
  obtain ⟨x, hx, hp⟩ := List.any_eq_true.1 h
  exact List.findIdx_lt_length_of_exists ⟨x, hx, hp⟩
theorem firstA_is {l : List RecT} (h : l.any isAct = true) : (l.getD (firstA l) rec0).state = 3 := by
  have hl := firstA_lt h
  have := List.findIdx_getElem (p := isAct) (xs := l) (w := hl)
  simp only [List.getD, List.getElem?_eq_getElem hl, Option.getD_some]
  exact of_decide_eq_true this
theorem firstA_no {l : List RecT} {m : Nat} (h : m < firstA l) : ¬(l.getD m rec0).state = 3 := by
  have hl : m < l.length := Nat.lt_of_lt_of_le h List.findIdx_le_length
  have := List.not_of_lt_findIdx h
  simp only [List.getD, List.getElem?_eq_getElem hl, Option.getD_some]
  intro q
  simp [isAct, q] at this
def retE (b : BooksT) (user : Int) : Int :=
  if chkB b then (if ¬(0 ≤ user ∧ user ≤ (b.users.length : Int) - 1) then 6 else if mayB [3] b.users user = false then 100 else if ¬b.recipes.any isAct = true then 102 else 0) else 8
end Go.Proofs.Tryz.My
set_option maxRecDepth 100000
set_option maxHeartbeats 0
set_option linter.unusedVariables false
set_option linter.unusedSimpArgs false
namespace Go.Proofs.Tryz.My
open Go Go.Ev
theorem pc_isAct (x : RecT) : PC Tryz.prog 72 [rcp x] (.bool (isAct x)) := by
  refine pc_of_bodyF hm Tryz.func72 (by kernel_rfl) ?_
  conv => whnf
  first | rfl | set_option pp.maxSteps 300 in trace_state
def actI (l : List RecT) : Int := if l.any isAct then firstA l else -1
theorem actI_hit {l : List RecT} {k : Nat} (hk : k < l.length) (h : isAct (l.getD k rec0) = true) (hno : ∀ m, m < k → isAct (l.getD m rec0) = false) : actI l = k := by
  have ha : l.any isAct = true := List.any_eq_true.2 ⟨l.getD k rec0, by simp only [List.getD, List.getElem?_eq_getElem hk, Option.getD_some]; exact List.getElem_mem hk, h⟩
  unfold actI
  rw [if_pos ha]
  have e : firstA l = k := by
    have h1 := firstA_is ha
    rcases Nat.lt_trichotomy (firstA l) k with h2 | h2 | h2
    · exact absurd h1 (of_decide_eq_false (hno _ h2))
    · exact h2
    · exact absurd (of_decide_eq_true h) (firstA_no h2)
  rw [e]
theorem actI_none {l : List RecT} (hno : ∀ m, m < l.length → isAct (l.getD m rec0) = false) : actI l = -1 := by
  unfold actI
  rw [if_neg]
  intro h
  have h1 := firstA_is h
  exact absurd h1 (of_decide_eq_false (hno _ (firstA_lt h)))
theorem pc_IxAct (l : List RecT) (hl : l.length < 2 ^ 40) : PC Tryz.prog 71 [recs l, .fn (.func 72) [] []] (i64 (actI l)) := by
  refine pc_of_bodyF hm Tryz.func71 (by kernel_rfl) ?_
  conv => whnf
  refine Or.inr ⟨Nat, [8], [], [], fun k => [i64 k], fun _ => [], fun _ => [], fun k => l.length - k, fun k => k ≤ l.length ∧ ∀ m, m < k → isAct (l.getD m rec0) = false, ?_⟩
  (conv => whnf)
  refine ⟨⟨0, ?_⟩, ?_⟩
  · (conv => whnf)
    exact ⟨⟨⟨Nat.zero_le _, fun i hi => absurd hi (Nat.not_lt_zero i)⟩, rfl, rfl, rfl⟩, by kernel_rfl, by kernel_rfl⟩
  intro k hk
  (conv => whnf)
  refine ⟨fun h => ?_, fun h => ?_⟩
  · have h := of_decide_eq_true h
    have hkk : k < l.length := by omega
    (conv => whnf)
    refine ⟨⟨by omega, by omega⟩, ?_⟩
    (conv => whnf)
    rw [show Int.toNat (k : Int) = k from rfl]
    (repeat' (first | (refine ⟨_, by first | exact pc_isAct _, ?_⟩; (conv => whnf)) | (refine Or.inl ?_; (conv => whnf); refine ⟨_, by first | exact pc_isAct _, ?_⟩; (conv => whnf)) | (refine Or.inl ?_; (conv => whnf); refine ⟨false, ?_⟩; (conv => whnf); refine ⟨_, by first | exact pc_isAct _, ?_⟩; (conv => whnf)) | (refine ⟨by kernel_rfl, ?_⟩; (conv => whnf)) | fail))
    refine ⟨fun q => ?_, fun q => ?_⟩
    · (conv => whnf)
      exact congrArg i64 (actI_hit hkk q hk.2).symm
    · refine ⟨k + 1, ?_⟩
      (conv => whnf)
      refine ⟨⟨⟨?_, ?_, ?_⟩, ?_, rfl, rfl⟩, by kernel_rfl, by kernel_rfl⟩
      · show l.length - (k + 1) < l.length - k; omega
      · omega
      · intro m hm
        by_cases e : m = k
        · subst e; exact q
        · exact hk.2 m (by omega)
      · rw [w64 _ (by omega) (by omega)]; rfl
  · have h := of_decide_eq_false h
    (conv => whnf)
    exact congrArg i64 (actI_none fun m hm => hk.2 m (by omega)).symm
def actE (b : BooksT) : Int := if chkB b then (if b.recipes.any isAct then 0 else 102) else 8
def actN (b : BooksT) : Int := if chkB b then (if b.recipes.any isAct then firstA b.recipes else 0) else 0
theorem pc_Active (b : BooksT) (o : Okay b) : PC Tryz.prog 29 [bks b] (.tup [i64 (actN b), i64 (actE b)]) := by
  have c := pc_BCheck b o
  have c2 := pc_IxAct b.recipes (lt40 o.r)
  unfold actN actE
  by_cases hc : chkB b = true
  · rw [if_pos hc] at c
    rw [if_pos hc, if_pos hc]
    unfold actI at c2
    by_cases ha : b.recipes.any isAct = true
    · rw [if_pos ha] at c2
      rw [if_pos ha, if_pos ha]
      refine pc_of_bodyF hm Tryz.func29 (by kernel_rfl) ?_
      conv => whnf
      (repeat' ((first | refine ansT ?_ | refine ansF ?_ | ((try (refine Or.inl ?_; (conv => whnf))); (try (refine ⟨false, ?_⟩; (conv => whnf))); refine ⟨_, by first | exact c | exact c2, ?_⟩) | refine ansD (by first | (simp [*]; done) | omega) ?_ | refine ansN (by first | (simp [*]; done) | omega) ?_ | refine ⟨by kernel_rfl, ?_⟩ | refine ansB (by decide) (by first | decide | (simp; done) | (simp only [List.length_cons, List.length_nil]; decide)) ?_ | fail); (conv => whnf)))
      all_goals (first | rfl | set_option pp.maxSteps 300 in trace_state)
    · rw [if_neg ha] at c2
      rw [if_neg ha, if_neg ha]
      refine pc_of_bodyF hm Tryz.func29 (by kernel_rfl) ?_
      conv => whnf
      (repeat' ((first | refine ansT ?_ | refine ansF ?_ | ((try (refine Or.inl ?_; (conv => whnf))); (try (refine ⟨false, ?_⟩; (conv => whnf))); refine ⟨_, by first | exact c | exact c2, ?_⟩) | refine ansD (by first | (simp [*]; done) | omega) ?_ | refine ansN (by first | (simp [*]; done) | omega) ?_ | refine ⟨by kernel_rfl, ?_⟩ | refine ansB (by decide) (by first | decide | (simp; done) | (simp only [List.length_cons, List.length_nil]; decide)) ?_ | fail); (conv => whnf)))
      all_goals (first | rfl | set_option pp.maxSteps 300 in trace_state)
  · rw [if_neg hc] at c
    rw [if_neg hc, if_neg hc]
    refine pc_of_bodyF hm Tryz.func29 (by kernel_rfl) ?_
    conv => whnf
    (repeat' ((first | refine ansT ?_ | refine ansF ?_ | ((try (refine Or.inl ?_; (conv => whnf))); (try (refine ⟨false, ?_⟩; (conv => whnf))); refine ⟨_, by exact c, ?_⟩) | refine ansD (by first | (simp [*]; done) | omega) ?_ | refine ansN (by first | (simp [*]; done) | omega) ?_ | refine ⟨by kernel_rfl, ?_⟩ | refine ansB (by decide) (by first | decide | (simp; done) | (simp only [List.length_cons, List.length_nil]; decide)) ?_ | fail); (conv => whnf)))
    all_goals (first | rfl | set_option pp.maxSteps 300 in trace_state)
end Go.Proofs.Tryz.My
set_option maxRecDepth 100000
set_option maxHeartbeats 0
set_option linter.unusedVariables false
set_option linter.unusedSimpArgs false
namespace Go.Proofs.Tryz.My
open Go Go.Ev
def named (b : BooksT) (user number : Int) : Prop := (0 ≤ user ∧ user ≤ (b.users.length : Int) - 1) ∧ (0 ≤ number ∧ number ≤ (b.recipes.length : Int) - 1)
instance (b : BooksT) (user number : Int) : Decidable (named b user number) := by unfold named; infer_instance
end Go.Proofs.Tryz.My
set_option maxRecDepth 100000
set_option maxHeartbeats 0
set_option linter.unusedVariables false
set_option linter.unusedSimpArgs false
namespace Go.Proofs.Tryz.My
open Go Go.Ev
def setB (b : BooksT) (i : Nat) (n : Int) : BooksT := ⟨b.keep, b.users, b.recipes.set i (setSt (b.recipes.getD i rec0) n), b.next, b.log⟩
def calmB (b : BooksT) : BooksT := if b.recipes.any isAct then retB b (firstA b.recipes) else b
def actvB (b : BooksT) (number : Int) : BooksT := setB (calmB b) number.toNat 3
def actvE (b : BooksT) (user number : Int) : Int :=
  if chkB b = true ∧ named b user number then (if mayB [2] b.users user = false then 100 else if ¬(b.recipes.getD number.toNat rec0).state = 2 then 101 else 0) else (if chkB b then 6 else 8)
end Go.Proofs.Tryz.My
