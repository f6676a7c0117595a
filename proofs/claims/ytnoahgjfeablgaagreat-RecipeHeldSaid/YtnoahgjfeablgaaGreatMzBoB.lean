/- A helper text: contracts of functions of the program, and plain lemmas. -/
import Derived.Test.YtnoahgjfeablgaaGreatEvSix
import Derived.Test.YtnoahgjfeablgaaGreatMzBoA
set_option maxRecDepth 100000
set_option maxHeartbeats 0
set_option linter.unusedVariables false
set_option linter.unusedSimpArgs false
namespace Go.Proofs.Tryz.My
open Go Go.Ev
def setSt (x : RecT) (n : Int) : RecT := ⟨x.author, x.gauge, x.appr, n⟩
def retB (b : BooksT) (i : Nat) : BooksT := ⟨b.keep, b.users, b.recipes.set i (setSt (b.recipes.getD i rec0) 4), b.next, b.log⟩
theorem pw_retireT (b : BooksT) (hr : b.recipes.length < 2 ^ 20) (i : Nat) (hi : i < b.recipes.length) (h3 : (b.recipes.getD i rec0).state = 3) (hno : ∀ m, m < i → ¬(b.recipes.getD m rec0).state = 3) : PW Tryz.prog 69 [.ptr 0 0 0 0] (dskR b) (.bool true) (dskR (retB b i)) := by
  refine pw_of_bodyF hm Tryz.func69 (by kernel_rfl) ⟨by kernel_rfl, ?_⟩
  conv => whnf
  refine Or.inr ⟨Nat, [11], [], [], fun k => [i64 k], fun _ => [], fun _ => [], fun k => b.recipes.length - k, fun k => k ≤ i, ?_⟩
  (conv => whnf)
  refine ⟨⟨0, ?_⟩, ?_⟩
  · (conv => whnf)
    exact ⟨⟨Nat.zero_le _, rfl, rfl, rfl⟩, by kernel_rfl, by kernel_rfl⟩
  intro k hk
  (conv => whnf)
  refine ⟨fun h => ?_, fun h => absurd (of_decide_eq_false h) (by omega)⟩
  have hkk : k < b.recipes.length := by omega
  (conv => whnf)
  refine ⟨⟨by omega, by omega⟩, ?_⟩
  (conv => whnf)
  refine ⟨hkk, ?_⟩
  (conv => whnf)
  rw [show Int.toNat (k : Int) = k from rfl]
  refine ⟨fun q => ?_, fun q => ?_⟩
  · have q := of_decide_eq_true q
    have e : k = i := by
      by_cases e : k = i
      · exact e
      · exact absurd q (hno k (by omega))
    subst e
    (conv => whnf)
    refine ⟨⟨by omega, by omega⟩, ?_⟩
    (conv => whnf)
    refine ⟨setSt (b.recipes.getD k rec0) 4, ⟨rfl, rfl, hkk⟩, ?_⟩
    (conv => whnf)
    refine ⟨[], by kernel_rfl, ?_⟩
    (conv => whnf)
    exact ⟨rfl, rfl⟩
  · have q := of_decide_eq_false q
    have e : ¬k = i := fun e => q (e ▸ h3)
    refine ⟨k + 1, ?_⟩
    (conv => whnf)
    refine ⟨⟨⟨?_, ?_⟩, ?_, rfl, rfl⟩, by kernel_rfl, by kernel_rfl⟩
    · show b.recipes.length - (k + 1) < b.recipes.length - k; omega
    · show k + 1 ≤ i; omega
    · rw [w64 _ (by omega) (by omega)]; rfl
theorem pw_retireF (b : BooksT) (hr : b.recipes.length < 2 ^ 20) (hno : ∀ m, m < b.recipes.length → ¬(b.recipes.getD m rec0).state = 3) : PW Tryz.prog 69 [.ptr 0 0 0 0] (dskR b) (.bool false) (dskR b) := by
  refine pw_of_bodyF hm Tryz.func69 (by kernel_rfl) ⟨by kernel_rfl, ?_⟩
  conv => whnf
  refine Or.inr ⟨Nat, [11], [], [], fun k => [i64 k], fun _ => [], fun _ => [], fun k => b.recipes.length - k, fun k => k ≤ b.recipes.length, ?_⟩
  (conv => whnf)
  refine ⟨⟨0, ?_⟩, ?_⟩
  · (conv => whnf)
    exact ⟨⟨Nat.zero_le _, rfl, rfl, rfl⟩, by kernel_rfl, by kernel_rfl⟩
  intro k hk
  (conv => whnf)
  refine ⟨fun h => ?_, fun h => ?_⟩
  · have hkk : k < b.recipes.length := by have := of_decide_eq_true h; omega
    (conv => whnf)
    refine ⟨⟨by omega, by omega⟩, ?_⟩
    (conv => whnf)
    refine ⟨hkk, ?_⟩
    (conv => whnf)
    rw [show Int.toNat (k : Int) = k from rfl]
    refine ⟨fun q => absurd (of_decide_eq_true q) (hno k hkk), fun q => ?_⟩
    refine ⟨k + 1, ?_⟩
    (conv => whnf)
    refine ⟨⟨⟨?_, ?_⟩, ?_, rfl, rfl⟩, by kernel_rfl, by kernel_rfl⟩
    · show b.recipes.length - (k + 1) < b.recipes.length - k; omega
    · show k + 1 ≤ b.recipes.length; omega
    · rw [w64 _ (by omega) (by omega)]; rfl
  (conv => whnf)
  refine ⟨[], by kernel_rfl, ?_⟩
  (conv => whnf)
  exact ⟨rfl, rfl⟩
def isAct (x : RecT) : Bool := decide (x.state = 3)
def firstA (l : List RecT) : Nat := l.findIdx isAct
theorem firstA_lt {l : List RecT} (h : l.any isAct = true) : firstA l < l.length := by
  obtain ⟨x, hx, hp⟩ := List.any_eq_true.1 h
  exact List.findIdx_lt_length_of_exists ⟨x, hx, hp⟩
theorem firstA_is {l : List RecT} (h : l.any isAct = true) : (l.getD (firstA l) rec0).state = 3 := by
  have hl := firstA_lt h
  have := List.findIdx_getElem (p := isAct) (xs := l) (w := hl)
  simp only [List.getD, List.getElem?_eq_getElem hl, Option.getD_some]
  exact of_decide_eq_true this
theorem firstA_no {l : List RecT} {m : Nat} (h : m < firstA l) : ¬(l.getD m rec0).state = 3 := by
  have hl : m < l.length := Nat.lt_of_lt_of_le h List.findIdx_le_length
  have := List.not_of_lt_findIdx h
  simp only [List.getD, List.getElem?_eq_getElem hl, Option.getD_some]
  intro q
  simp [isAct, q] at this
theorem no_act {l : List RecT} (h : ¬l.any isAct = true) (m : Nat) (hm : m < l.length) : ¬(l.getD m rec0).state = 3 := fun q => h (List.any_eq_true.2 ⟨l[m], List.getElem_mem hm, by
  simp only [List.getD, List.getElem?_eq_getElem hm, Option.getD_some] at q
  exact decide_eq_true q⟩)
def retE (b : BooksT) (user : Int) : Int :=
  if chkB b then (if ¬(0 ≤ user ∧ user ≤ (b.users.length : Int) - 1) then 6 else if mayB [3] b.users user = false then 100 else if ¬b.recipes.any isAct = true then 102 else 0) else 8
theorem pw_RetireOk (b : BooksT) (o : Okay b) (user : Int) (h : retE b user = 0) : PW Tryz.prog 27 [bks b, i64 user] [] (.tup [ownB (retB b (firstA b.recipes)), i64 0]) (ownR (retB b (firstA b.recipes))) := by
  have hc : chkB b = true := by
    unfold retE at h
    split at h
    · assumption
    · cases h
  unfold retE at h
  rw [if_pos hc] at h
  have hu : 0 ≤ user ∧ user ≤ (b.users.length : Int) - 1 := Decidable.byContradiction fun q => by rw [if_pos q] at h; cases h
  rw [if_neg (show ¬¬(0 ≤ user ∧ user ≤ (b.users.length : Int) - 1) from fun q => q hu)] at h
  have hmy : mayB [3] b.users user = true := by
    cases e : mayB [3] b.users user with
    | true => rfl
    | false => rw [if_pos e] at h; cases h
  rw [if_neg (show ¬mayB [3] b.users user = false by rw [hmy]; decide)] at h
  have hg : b.recipes.any isAct = true := Decidable.byContradiction fun q => by rw [if_pos q] at h; cases h
  clear h
  have s := chk_small hc
  have c1 := fun u => pc_may1c b.keep b.next u b.users b.recipes b.log 3 (lt40 o.u)
  have w0 : IntKind.i64.wrap ((b.users.length : Int) - 1) = (b.users.length : Int) - 1 := w64 _ (by omega) (by omega)
  have c2 : ∀ u, PC Tryz.prog 55 [i64 0, i64 (IntKind.i64.wrap ((b.users.length : Int) - 1)), i64 u] (.bool (decide (0 ≤ u) && decide (u ≤ (b.users.length : Int) - 1))) := fun u => by rw [w0]; exact pc_rfrom 0 _ u
  have r := pw_retireT b o.r (firstA b.recipes) (firstA_lt hg) (firstA_is hg) (fun m hm => firstA_no hm)
  refine pw_of_bodyF hm Tryz.func27 (by kernel_rfl) ⟨by kernel_rfl, ?_⟩
  conv => whnf
  (refine Or.inr ⟨[ ], [ 10, 8, 11, 12 ], by kernel_rfl, ?_⟩; (conv => whnf); refine ⟨[ ], _, _, _, _, ⟨ pw_open b o hc, rfl, rfl, by kernel_rfl⟩, ?_⟩)
  (conv => whnf)
  (repeat' ((first | refine ansT ?_ | refine ansF ?_ | ((try (refine Or.inl ?_; (conv => whnf))); (try (refine ⟨false, ?_⟩; (conv => whnf))); refine ⟨_, by exact c2 _, ?_⟩) | refine ansD (by first | (simp [*]; done) | omega) ?_ | refine ansN (by first | (simp [*]; done) | omega) ?_ | refine ⟨by kernel_rfl, ?_⟩ | refine ansB (by decide) (by first | decide | (simp; done) | (simp only [List.length_cons, List.length_nil]; decide)) ?_ | fail); (conv => whnf)))
  (repeat' (first | (refine ansS (fun hh => ?_) (fun hh => ?_) <;> (first | simp only [ansX] at hh | skip) <;> (first | (exfalso; omega) | (exfalso; simp [*] at hh; done) | (exfalso; revert hh; decide) | exact absurd (by assumption) hh | (conv => whnf))) | ((first | refine ⟨by kernel_rfl, ?_⟩ | refine ansB (by omega) (by omega) ?_ | refine ansB (by decide) (by decide) ?_ | refine And.intro (a := _ ≤ _) (by omega) ?_ | refine And.intro (a := _ ≠ _) (by omega) ?_ | fail); (conv => whnf))))
  (refine Or.inr ⟨[ ], [ 33, 31 ], by kernel_rfl, ?_⟩; (conv => whnf); refine ⟨[ 10, 8, 11, 12, 32 ], _, _, _, _, ⟨ pw_may1 b 3, rfl, rfl, by kernel_rfl⟩, ?_⟩)
  (conv => whnf)
  (repeat' (first | (refine ansS (fun hh => ?_) (fun hh => ?_) <;> (first | simp only [ansX] at hh | skip) <;> (first | (exfalso; omega) | (exfalso; simp [*] at hh; done) | (exfalso; revert hh; decide) | exact absurd (by assumption) hh | (conv => whnf))) | ((first | refine ⟨by kernel_rfl, ?_⟩ | refine ansB (by omega) (by omega) ?_ | refine ansB (by decide) (by decide) ?_ | refine And.intro (a := _ ≤ _) (by omega) ?_ | refine And.intro (a := _ ≠ _) (by omega) ?_ | ((try (refine Or.inl ?_; (conv => whnf))); (try (refine ⟨false, ?_⟩; (conv => whnf))); refine ⟨_, by exact c1 _, ?_⟩) | fail); (conv => whnf))))
  (refine Or.inr ⟨[ ], [ ], by kernel_rfl, ?_⟩; (conv => whnf); refine ⟨[ 10, 8, 11, 12 ], _, _, _, _, ⟨ r, rfl, rfl, by kernel_rfl⟩, ?_⟩)
  (conv => whnf)
  (repeat' ((first | refine ansT ?_ | refine ansF ?_ | refine ansD (by first | (simp [*]; done) | omega) ?_ | refine ansN (by first | (simp [*]; done) | omega) ?_ | refine ⟨by kernel_rfl, ?_⟩ | refine ansB (by decide) (by first | decide | (simp; done) | (simp only [List.length_cons, List.length_nil]; decide)) ?_ | fail); (conv => whnf)))
  refine ⟨[8, 11, 12], by kernel_rfl, ?_⟩
  (conv => whnf)
  exact ⟨rfl, rfl⟩
theorem pc_RetireBad (b : BooksT) (o : Okay b) (user : Int) (h : ¬retE b user = 0) : PC Tryz.prog 27 [bks b, i64 user] (.tup [newB 0, i64 (retE b user)]) := by
  by_cases hc : chkB b = true
  · unfold retE at h ⊢
    rw [if_pos hc] at h ⊢
    have s := chk_small hc
    have c1 := fun u => pc_may1c b.keep b.next u b.users b.recipes b.log 3 (lt40 o.u)
    have w0 : IntKind.i64.wrap ((b.users.length : Int) - 1) = (b.users.length : Int) - 1 := w64 _ (by omega) (by omega)
    have c2 : ∀ u, PC Tryz.prog 55 [i64 0, i64 (IntKind.i64.wrap ((b.users.length : Int) - 1)), i64 u] (.bool (decide (0 ≤ u) && decide (u ≤ (b.users.length : Int) - 1))) := fun u => by rw [w0]; exact pc_rfrom 0 _ u
    by_cases hu : 0 ≤ user ∧ user ≤ (b.users.length : Int) - 1
    · rw [if_neg (show ¬¬(0 ≤ user ∧ user ≤ (b.users.length : Int) - 1) from fun q => q hu)] at h ⊢
      by_cases hmy : mayB [3] b.users user = true
      · rw [if_neg (show ¬mayB [3] b.users user = false by rw [hmy]; decide)] at h ⊢
        have hg : ¬b.recipes.any isAct = true := fun q => h (if_neg (fun e => e q))
        rw [if_pos hg]
        have r := pw_retireF b o.r (fun m hm => no_act hg m hm)
        refine pc_of_bodyF hm Tryz.func27 (by kernel_rfl) ?_
        conv => whnf
        (refine Or.inr ⟨[ ], [ 10, 8, 11, 12 ], by kernel_rfl, ?_⟩; (conv => whnf); refine ⟨[ ], _, _, _, _, ⟨ pw_open b o hc, rfl, rfl, by kernel_rfl⟩, ?_⟩)
        (conv => whnf)
        (repeat' ((first | refine ansT ?_ | refine ansF ?_ | ((try (refine Or.inl ?_; (conv => whnf))); (try (refine ⟨false, ?_⟩; (conv => whnf))); refine ⟨_, by exact c2 _, ?_⟩) | refine ansD (by first | (simp [*]; done) | omega) ?_ | refine ansN (by first | (simp [*]; done) | omega) ?_ | refine ⟨by kernel_rfl, ?_⟩ | refine ansB (by decide) (by first | decide | (simp; done) | (simp only [List.length_cons, List.length_nil]; decide)) ?_ | fail); (conv => whnf)))
        (repeat' (first | (refine ansS (fun hh => ?_) (fun hh => ?_) <;> (first | simp only [ansX] at hh | skip) <;> (first | (exfalso; omega) | (exfalso; simp [*] at hh; done) | (exfalso; revert hh; decide) | exact absurd (by assumption) hh | (conv => whnf))) | ((first | refine ⟨by kernel_rfl, ?_⟩ | refine ansB (by omega) (by omega) ?_ | refine ansB (by decide) (by decide) ?_ | refine And.intro (a := _ ≤ _) (by omega) ?_ | refine And.intro (a := _ ≠ _) (by omega) ?_ | fail); (conv => whnf))))
        (refine Or.inr ⟨[ ], [ 33, 31 ], by kernel_rfl, ?_⟩; (conv => whnf); refine ⟨[ 10, 8, 11, 12, 32 ], _, _, _, _, ⟨ pw_may1 b 3, rfl, rfl, by kernel_rfl⟩, ?_⟩)
        (conv => whnf)
        (repeat' (first | (refine ansS (fun hh => ?_) (fun hh => ?_) <;> (first | simp only [ansX] at hh | skip) <;> (first | (exfalso; omega) | (exfalso; simp [*] at hh; done) | (exfalso; revert hh; decide) | exact absurd (by assumption) hh | (conv => whnf))) | ((first | refine ⟨by kernel_rfl, ?_⟩ | refine ansB (by omega) (by omega) ?_ | refine ansB (by decide) (by decide) ?_ | refine And.intro (a := _ ≤ _) (by omega) ?_ | refine And.intro (a := _ ≠ _) (by omega) ?_ | ((try (refine Or.inl ?_; (conv => whnf))); (try (refine ⟨false, ?_⟩; (conv => whnf))); refine ⟨_, by exact c1 _, ?_⟩) | fail); (conv => whnf))))
        (refine Or.inr ⟨[ ], [ ], by kernel_rfl, ?_⟩; (conv => whnf); refine ⟨[ 10, 8, 11, 12 ], _, _, _, _, ⟨ r, rfl, rfl, by kernel_rfl⟩, ?_⟩)
        (conv => whnf)
        (repeat' ((first | refine ansT ?_ | refine ansF ?_ | refine ansD (by first | (simp [*]; done) | omega) ?_ | refine ansN (by first | (simp [*]; done) | omega) ?_ | refine ⟨by kernel_rfl, ?_⟩ | refine ansB (by decide) (by first | decide | (simp; done) | (simp only [List.length_cons, List.length_nil]; decide)) ?_ | fail); (conv => whnf)))
        all_goals (first | rfl | set_option pp.maxSteps 300 in trace_state)
      · have hm2 : mayB [3] b.users user = false := by simpa using hmy
        rw [if_pos hm2]
        refine pc_of_bodyF hm Tryz.func27 (by kernel_rfl) ?_
        conv => whnf
        (refine Or.inr ⟨[ ], [ 10, 8, 11, 12 ], by kernel_rfl, ?_⟩; (conv => whnf); refine ⟨[ ], _, _, _, _, ⟨ pw_open b o hc, rfl, rfl, by kernel_rfl⟩, ?_⟩)
        (conv => whnf)
        (repeat' ((first | refine ansT ?_ | refine ansF ?_ | ((try (refine Or.inl ?_; (conv => whnf))); (try (refine ⟨false, ?_⟩; (conv => whnf))); refine ⟨_, by exact c2 _, ?_⟩) | refine ansD (by first | (simp [*]; done) | omega) ?_ | refine ansN (by first | (simp [*]; done) | omega) ?_ | refine ⟨by kernel_rfl, ?_⟩ | refine ansB (by decide) (by first | decide | (simp; done) | (simp only [List.length_cons, List.length_nil]; decide)) ?_ | fail); (conv => whnf)))
        (repeat' (first | (refine ansS (fun hh => ?_) (fun hh => ?_) <;> (first | simp only [ansX] at hh | skip) <;> (first | (exfalso; omega) | (exfalso; simp [*] at hh; done) | (exfalso; revert hh; decide) | exact absurd (by assumption) hh | (conv => whnf))) | ((first | refine ⟨by kernel_rfl, ?_⟩ | refine ansB (by omega) (by omega) ?_ | refine ansB (by decide) (by decide) ?_ | refine And.intro (a := _ ≤ _) (by omega) ?_ | refine And.intro (a := _ ≠ _) (by omega) ?_ | fail); (conv => whnf))))
        (refine Or.inr ⟨[ ], [ 33, 31 ], by kernel_rfl, ?_⟩; (conv => whnf); refine ⟨[ 10, 8, 11, 12, 32 ], _, _, _, _, ⟨ pw_may1 b 3, rfl, rfl, by kernel_rfl⟩, ?_⟩)
        (conv => whnf)
        (repeat' (first | (refine ansS (fun hh => ?_) (fun hh => ?_) <;> (first | simp only [ansX] at hh | skip) <;> (first | (exfalso; omega) | (exfalso; simp [*] at hh; done) | (exfalso; revert hh; decide) | exact absurd (by assumption) hh | (conv => whnf))) | ((first | refine ⟨by kernel_rfl, ?_⟩ | refine ansB (by omega) (by omega) ?_ | refine ansB (by decide) (by decide) ?_ | refine And.intro (a := _ ≤ _) (by omega) ?_ | refine And.intro (a := _ ≠ _) (by omega) ?_ | ((try (refine Or.inl ?_; (conv => whnf))); (try (refine ⟨false, ?_⟩; (conv => whnf))); refine ⟨_, by exact c1 _, ?_⟩) | fail); (conv => whnf))))
        all_goals (first | rfl | set_option pp.maxSteps 300 in trace_state)
    · rw [if_pos hu]
      refine pc_of_bodyF hm Tryz.func27 (by kernel_rfl) ?_
      conv => whnf
      (refine Or.inr ⟨[ ], [ 10, 8, 11, 12 ], by kernel_rfl, ?_⟩; (conv => whnf); refine ⟨[ ], _, _, _, _, ⟨ pw_open b o hc, rfl, rfl, by kernel_rfl⟩, ?_⟩)
      (conv => whnf)
      (repeat' ((first | refine ansT ?_ | refine ansF ?_ | ((try (refine Or.inl ?_; (conv => whnf))); (try (refine ⟨false, ?_⟩; (conv => whnf))); refine ⟨_, by exact c2 _, ?_⟩) | refine ansD (by first | (simp [*]; done) | omega) ?_ | refine ansN (by first | (simp [*]; done) | omega) ?_ | refine ⟨by kernel_rfl, ?_⟩ | refine ansB (by decide) (by first | decide | (simp; done) | (simp only [List.length_cons, List.length_nil]; decide)) ?_ | fail); (conv => whnf)))
      (repeat' (first | (refine ansS (fun hh => ?_) (fun hh => ?_) <;> (first | simp only [ansX] at hh | skip) <;> (first | (exfalso; omega) | (exfalso; simp [*] at hh; done) | (exfalso; revert hh; decide) | exact absurd (by assumption) hh | (conv => whnf))) | ((first | refine ⟨by kernel_rfl, ?_⟩ | refine ansB (by omega) (by omega) ?_ | refine ansB (by decide) (by decide) ?_ | refine And.intro (a := _ ≤ _) (by omega) ?_ | refine And.intro (a := _ ≠ _) (by omega) ?_ | fail); (conv => whnf))))
      all_goals (first | rfl | set_option pp.maxSteps 300 in trace_state)
  · have hc : chkB b = false := by simpa using hc
    have c := pc_openBad b o hc
    unfold retE
    rw [if_neg (by rw [hc]; decide)]
    refine pc_of_bodyF hm Tryz.func27 (by kernel_rfl) ?_
    conv => whnf
    (repeat' ((first | refine ansT ?_ | refine ansF ?_ | ((try (refine Or.inl ?_; (conv => whnf))); (try (refine ⟨false, ?_⟩; (conv => whnf))); refine ⟨_, by exact c, ?_⟩) | refine ansD (by first | (simp [*]; done) | omega) ?_ | refine ansN (by first | (simp [*]; done) | omega) ?_ | refine ⟨by kernel_rfl, ?_⟩ | refine ansB (by decide) (by first | decide | (simp; done) | (simp only [List.length_cons, List.length_nil]; decide)) ?_ | fail); (conv => whnf)))
    first | rfl | set_option pp.maxSteps 300 in trace_state
end Go.Proofs.Tryz.My
set_option maxRecDepth 100000
set_option maxHeartbeats 0
set_option linter.unusedVariables false
set_option linter.unusedSimpArgs false
namespace Go.Proofs.Tryz.My
open Go Go.Ev
theorem pc_isAct (x : RecT) : PC Tryz.prog 72 [rcp x] (.bool (isAct x)) := by
  refine pc_of_bodyF hm Tryz.func72 (by kernel_rfl) ?_
  conv => whnf
  first | rfl | set_option pp.maxSteps 300 in trace_state
def actI (l : List RecT) : Int := if l.any isAct then firstA l else -1
theorem actI_hit {l : List RecT} {k : Nat} (hk : k < l.length) (h : isAct (l.getD k rec0) = true) (hno : ∀ m, m < k → isAct (l.getD m rec0) = false) : actI l = k := by
  have ha : l.any isAct = true := List.any_eq_true.2 ⟨l.getD k rec0, by simp only [List.getD, List.getElem?_eq_getElem hk, Option.getD_some]; exact List.getElem_mem hk, h⟩
  unfold actI
  rw [if_pos ha]
  have e : firstA l = k := by
    have h1 := firstA_is ha
    rcases Nat.lt_trichotomy (firstA l) k with h2 | h2 | h2
    · exact absurd h1 (of_decide_eq_false (hno _ h2))
    · exact h2
    · exact absurd (of_decide_eq_true h) (firstA_no h2)
  rw [e]
theorem actI_none {l : List RecT} (hno : ∀ m, m < l.length → isAct (l.getD m rec0) = false) : actI l = -1 := by
  unfold actI
  rw [if_neg]
  intro h
  have h1 := firstA_is h
  exact absurd h1 (of_decide_eq_false (hno _ (firstA_lt h)))
theorem pc_IxAct (l : List RecT) (hl : l.length < 2 ^ 40) : PC Tryz.prog 71 [recs l, .fn (.func 72) [] []] (i64 (actI l)) := by
  refine pc_of_bodyF hm Tryz.func71 (by kernel_rfl) ?_
  conv => whnf
  refine Or.inr ⟨Nat, [8], [], [], fun k => [i64 k], fun _ => [], fun _ => [], fun k => l.length - k, fun k => k ≤ l.length ∧ ∀ m, m < k → isAct (l.getD m rec0) = false, ?_⟩
  (conv => whnf)
  refine ⟨⟨0, ?_⟩, ?_⟩
  · (conv => whnf)
    exact ⟨⟨⟨Nat.zero_le _, fun i hi => absurd hi (Nat.not_lt_zero i)⟩, rfl, rfl, rfl⟩, by kernel_rfl, by kernel_rfl⟩
  intro k hk
  (conv => whnf)
  refine ⟨fun h => ?_, fun h => ?_⟩
  · have h := of_decide_eq_true h
    have hkk : k < l.length := by omega
    (conv => whnf)
    refine ⟨⟨by omega, by omega⟩, ?_⟩
    (conv => whnf)
    rw [show Int.toNat (k : Int) = k from rfl]
    (repeat' (first | (refine ⟨_, by first | exact pc_isAct _, ?_⟩; (conv => whnf)) | (refine Or.inl ?_; (conv => whnf); refine ⟨_, by first | exact pc_isAct _, ?_⟩; (conv => whnf)) | (refine Or.inl ?_; (conv => whnf); refine ⟨false, ?_⟩; (conv => whnf); refine ⟨_, by first | exact pc_isAct _, ?_⟩; (conv => whnf)) | (refine ⟨by kernel_rfl, ?_⟩; (conv => whnf)) | fail))
    refine ⟨fun q => ?_, fun q => ?_⟩
    · (conv => whnf)
      exact congrArg i64 (actI_hit hkk q hk.2).symm
    · refine ⟨k + 1, ?_⟩
      (conv => whnf)
      refine ⟨⟨⟨?_, ?_, ?_⟩, ?_, rfl, rfl⟩, by kernel_rfl, by kernel_rfl⟩
      · show l.length - (k + 1) < l.length - k; omega
      · omega
      · intro m hm
        by_cases e : m = k
        · subst e; exact q
        · exact hk.2 m (by omega)
      · rw [w64 _ (by omega) (by omega)]; rfl
  · have h := of_decide_eq_false h
    (conv => whnf)
    exact congrArg i64 (actI_none fun m hm => hk.2 m (by omega)).symm
def actE (b : BooksT) : Int := if chkB b then (if b.recipes.any isAct then 0 else 102) else 8
def actN (b : BooksT) : Int := if chkB b then (if b.recipes.any isAct then firstA b.recipes else 0) else 0
theorem pc_Active (b : BooksT) (o : Okay b) : PC Tryz.prog 29 [bks b] (.tup [i64 (actN b), i64 (actE b)]) := by
  have c := pc_BCheck b o
  have c2 := pc_IxAct b.recipes (lt40 o.r)
  unfold actN actE
  by_cases hc : chkB b = true
  · rw [if_pos hc] at c
    rw [if_pos hc, if_pos hc]
    unfold actI at c2
    by_cases ha : b.recipes.any isAct = true
    · rw [if_pos ha] at c2
      rw [if_pos ha, if_pos ha]
      refine pc_of_bodyF hm Tryz.func29 (by kernel_rfl) ?_
      conv => whnf
      (repeat' ((first | refine ansT ?_ | refine ansF ?_ | ((try (refine Or.inl ?_; (conv => whnf))); (try (refine ⟨false, ?_⟩; (conv => whnf))); refine ⟨_, by first | exact c | exact c2, ?_⟩) | refine ansD (by first | (simp [*]; done) | omega) ?_ | refine ansN (by first | (simp [*]; done) | omega) ?_ | refine ⟨by kernel_rfl, ?_⟩ | refine ansB (by decide) (by first | decide | (simp; done) | (simp only [List.length_cons, List.length_nil]; decide)) ?_ | fail); (conv => whnf)))
      all_goals (first | rfl | set_option pp.maxSteps 300 in trace_state)
    · rw [if_neg ha] at c2
      rw [if_neg ha, if_neg ha]
      refine pc_of_bodyF hm Tryz.func29 (by kernel_rfl) ?_
      conv => whnf
      (repeat' ((first | refine ansT ?_ | refine ansF ?_ | ((try (refine Or.inl ?_; (conv => whnf))); (try (refine ⟨false, ?_⟩; (conv => whnf))); refine ⟨_, by first | exact c | exact c2, ?_⟩) | refine ansD (by first | (simp [*]; done) | omega) ?_ | refine ansN (by first | (simp [*]; done) | omega) ?_ | refine ⟨by kernel_rfl, ?_⟩ | refine ansB (by decide) (by first | decide | (simp; done) | (simp only [List.length_cons, List.length_nil]; decide)) ?_ | fail); (conv => whnf)))
      all_goals (first | rfl | set_option pp.maxSteps 300 in trace_state)
  · rw [if_neg hc] at c
    rw [if_neg hc, if_neg hc]
    refine pc_of_bodyF hm Tryz.func29 (by kernel_rfl) ?_
    conv => whnf
    (repeat' ((first | refine ansT ?_ | refine ansF ?_ | ((try (refine Or.inl ?_; (conv => whnf))); (try (refine ⟨false, ?_⟩; (conv => whnf))); refine ⟨_, by exact c, ?_⟩) | refine ansD (by first | (simp [*]; done) | omega) ?_ | refine ansN (by first | (simp [*]; done) | omega) ?_ | refine ⟨by kernel_rfl, ?_⟩ | refine ansB (by decide) (by first | decide | (simp; done) | (simp only [List.length_cons, List.length_nil]; decide)) ?_ | fail); (conv => whnf)))
    all_goals (first | rfl | set_option pp.maxSteps 300 in trace_state)
end Go.Proofs.Tryz.My
set_option maxRecDepth 100000
set_option maxHeartbeats 0
set_option linter.unusedVariables false
set_option linter.unusedSimpArgs false
namespace Go.Proofs.Tryz.My
open Go Go.Ev
theorem pc_fromU (b : BooksT) (o : Okay b) (u : Int) : PC Tryz.prog 55 [i64 0, i64 (IntKind.i64.wrap ((b.users.length : Int) - 1)), i64 u] (.bool (decide (0 ≤ u) && decide (u ≤ (b.users.length : Int) - 1))) := by
  have := o.u
  rw [w64 _ (by omega) (by omega)]; exact pc_rfrom 0 _ u
theorem pc_fromR (b : BooksT) (o : Okay b) (u : Int) : PC Tryz.prog 55 [i64 0, i64 (IntKind.i64.wrap ((b.recipes.length : Int) - 1)), i64 u] (.bool (decide (0 ≤ u) && decide (u ≤ (b.recipes.length : Int) - 1))) := by
  have := o.r
  rw [w64 _ (by omega) (by omega)]; exact pc_rfrom 0 _ u
def named (b : BooksT) (user number : Int) : Prop := (0 ≤ user ∧ user ≤ (b.users.length : Int) - 1) ∧ (0 ≤ number ∧ number ≤ (b.recipes.length : Int) - 1)
instance (b : BooksT) (user number : Int) : Decidable (named b user number) := by unfold named; infer_instance
theorem pw_namedOk (b : BooksT) (o : Okay b) (hc : chkB b = true) (user number : Int) (h : named b user number) : PW Tryz.prog 61 [bks b, i64 user, i64 number] [] (.tup [.ptr 0 0 0 0, .ptr 2 13 number.toNat 0, i64 0]) (dskR b) := by
  obtain ⟨h1, h2⟩ := h
  refine pw_of_bodyF hm Tryz.func61 (by kernel_rfl) ⟨by kernel_rfl, ?_⟩
  conv => whnf
  (refine Or.inr ⟨[ ], [ 13, 11, 12, 14 ], by kernel_rfl, ?_⟩; (conv => whnf); refine ⟨[ ], _, _, _, _, ⟨ pw_open b o hc, rfl, rfl, by kernel_rfl⟩, ?_⟩)
  (conv => whnf)
  (repeat' ((first | refine ansT ?_ | refine ansF ?_ | ((try (refine Or.inl ?_; (conv => whnf))); (try (refine ⟨false, ?_⟩; (conv => whnf))); refine ⟨_, by first | exact pc_fromU b o _ | exact pc_fromR b o _, ?_⟩) | refine ansD (by first | (simp [*]; done) | omega) ?_ | refine ansN (by first | (simp [*]; done) | omega) ?_ | refine ⟨by kernel_rfl, ?_⟩ | refine ansB (by decide) (by first | decide | (simp; done) | (simp only [List.length_cons, List.length_nil]; decide)) ?_ | fail); (conv => whnf)))
  (repeat' (first | (refine ansS (fun hh => ?_) (fun hh => ?_) <;> (first | simp only [ansX] at hh | skip) <;> (first | (exfalso; omega) | (exfalso; simp [*] at hh; done) | (exfalso; revert hh; decide) | exact absurd (by assumption) hh | (conv => whnf))) | ((first | refine ⟨by kernel_rfl, ?_⟩ | refine ansB (by omega) (by omega) ?_ | refine ansB (by decide) (by decide) ?_ | refine And.intro (a := _ ≤ _) (by omega) ?_ | refine And.intro (a := _ ≠ _) (by omega) ?_ | ((try (refine Or.inl ?_; (conv => whnf))); (try (refine ⟨false, ?_⟩; (conv => whnf))); refine ⟨_, by first | exact pc_fromU b o _ | exact pc_fromR b o _, ?_⟩) | fail); (conv => whnf))))
  refine ⟨[13, 11, 12, 14], by kernel_rfl, ?_⟩
  (conv => whnf)
  exact ⟨rfl, rfl⟩
theorem pc_namedBad (b : BooksT) (o : Okay b) (user number : Int) (h : ¬(chkB b = true ∧ named b user number)) : PC Tryz.prog 61 [bks b, i64 user, i64 number] (.tup [.nilp, .nilp, i64 (if chkB b then 6 else 8)]) := by
  by_cases hc : chkB b = true
  · have hn : ¬named b user number := fun q => h ⟨hc, q⟩
    unfold named at hn
    rw [if_pos hc]
    refine pc_of_bodyF hm Tryz.func61 (by kernel_rfl) ?_
    conv => whnf
    (refine Or.inr ⟨[ ], [ 13, 11, 12, 14 ], by kernel_rfl, ?_⟩; (conv => whnf); refine ⟨[ ], _, _, _, _, ⟨ pw_open b o hc, rfl, rfl, by kernel_rfl⟩, ?_⟩)
    (conv => whnf)
    (repeat' ((first | refine ansT ?_ | refine ansF ?_ | ((try (refine Or.inl ?_; (conv => whnf))); (try (refine ⟨false, ?_⟩; (conv => whnf))); refine ⟨_, by first | exact pc_fromU b o _ | exact pc_fromR b o _, ?_⟩) | refine ansD (by first | (simp [*]; done) | omega) ?_ | refine ansN (by first | (simp [*]; done) | omega) ?_ | refine ⟨by kernel_rfl, ?_⟩ | refine ansB (by decide) (by first | decide | (simp; done) | (simp only [List.length_cons, List.length_nil]; decide)) ?_ | fail); (conv => whnf)))
    (repeat' (first | (refine ansS (fun hh => ?_) (fun hh => ?_) <;> (first | simp only [ansX] at hh | skip) <;> (first | (exfalso; omega) | (exfalso; simp [*] at hh; done) | (exfalso; revert hh; decide) | exact absurd (by assumption) hh | (conv => whnf))) | ((first | refine ⟨by kernel_rfl, ?_⟩ | refine ansB (by omega) (by omega) ?_ | refine ansB (by decide) (by decide) ?_ | refine And.intro (a := _ ≤ _) (by omega) ?_ | refine And.intro (a := _ ≠ _) (by omega) ?_ | ((try (refine Or.inl ?_; (conv => whnf))); (try (refine ⟨false, ?_⟩; (conv => whnf))); refine ⟨_, by first | exact pc_fromU b o _ | exact pc_fromR b o _, ?_⟩) | fail); (conv => whnf))))
    all_goals (first | rfl | (exfalso; omega) | set_option pp.maxSteps 300 in trace_state)
  · have hc2 : chkB b = false := by simpa using hc
    rw [if_neg hc]
    have c := pc_openBad b o hc2
    refine pc_of_bodyF hm Tryz.func61 (by kernel_rfl) ?_
    conv => whnf
    (repeat' ((first | refine ansT ?_ | refine ansF ?_ | ((try (refine Or.inl ?_; (conv => whnf))); (try (refine ⟨false, ?_⟩; (conv => whnf))); refine ⟨_, by exact c, ?_⟩) | refine ansD (by first | (simp [*]; done) | omega) ?_ | refine ansN (by first | (simp [*]; done) | omega) ?_ | refine ⟨by kernel_rfl, ?_⟩ | refine ansB (by decide) (by first | decide | (simp; done) | (simp only [List.length_cons, List.length_nil]; decide)) ?_ | fail); (conv => whnf)))
    first | rfl | set_option pp.maxSteps 300 in trace_state
end Go.Proofs.Tryz.My
set_option maxRecDepth 100000
set_option maxHeartbeats 0
set_option linter.unusedVariables false
set_option linter.unusedSimpArgs false
namespace Go.Proofs.Tryz.My
open Go Go.Ev
def setB (b : BooksT) (i : Nat) (n : Int) : BooksT := ⟨b.keep, b.users, b.recipes.set i (setSt (b.recipes.getD i rec0) n), b.next, b.log⟩
def calmB (b : BooksT) : BooksT := if b.recipes.any isAct then retB b (firstA b.recipes) else b
def actvB (b : BooksT) (number : Int) : BooksT := setB (calmB b) number.toNat 3
def actvE (b : BooksT) (user number : Int) : Int :=
  if chkB b = true ∧ named b user number then (if mayB [2] b.users user = false then 100 else if ¬(b.recipes.getD number.toNat rec0).state = 2 then 101 else 0) else (if chkB b then 6 else 8)
theorem actvE_zero {b : BooksT} {user number : Int} (h : actvE b user number = 0) : chkB b = true ∧ named b user number ∧ mayB [2] b.users user = true ∧ (b.recipes.getD number.toNat rec0).state = 2 := by
  unfold actvE at h
  by_cases h1 : chkB b = true ∧ named b user number
  · rw [if_pos h1] at h
    by_cases h2 : mayB [2] b.users user = false
    · rw [if_pos h2] at h; cases h
    · rw [if_neg h2] at h
      by_cases h3 : (b.recipes.getD number.toNat rec0).state = 2
      · exact ⟨h1.1, h1.2, by simpa using h2, h3⟩
      · rw [if_pos h3] at h; cases h
  · rw [if_neg h1] at h
    split at h <;> cases h
theorem pw_ActivateOk (b : BooksT) (o : Okay b) (user number : Int) (h : actvE b user number = 0) : PW Tryz.prog 25 [bks b, i64 user, i64 number] [] (.tup [ownB (actvB b number), i64 0]) (ownR (actvB b number)) := by
  obtain ⟨hc, hn, hmy, h2⟩ := actvE_zero h
  clear h
  have s := chk_small hc
  have c1 := fun u => pc_may1c b.keep b.next u b.users b.recipes b.log 2 (lt40 o.u)
  have hlt : number.toNat < b.recipes.length := by have := hn.2; omega
  have hi : 0 ≤ number ∧ number < (b.recipes.length : Int) := by have := hn.2; omega
  by_cases ha : b.recipes.any isAct = true
  · have r := pw_retireT b o.r (firstA b.recipes) (firstA_lt ha) (firstA_is ha) (fun m hm => firstA_no hm)
    have e : actvB b number = setB (retB b (firstA b.recipes)) number.toNat 3 := by unfold actvB calmB; rw [if_pos ha]
    rw [e]
    have hlt2 : number.toNat < (retB b (firstA b.recipes)).recipes.length := by show number.toNat < (b.recipes.set _ _).length; rw [List.length_set]; exact hlt
    refine pw_of_bodyF hm Tryz.func25 (by kernel_rfl) ⟨by kernel_rfl, ?_⟩
    conv => whnf
    (refine Or.inr ⟨[ ], [ 15, 12, 13, 14 ], by kernel_rfl, ?_⟩; (conv => whnf); refine ⟨[ ], _, _, _, _, ⟨ pw_namedOk b o hc user number hn, rfl, rfl, by kernel_rfl⟩, ?_⟩)
    (conv => whnf)
    (repeat' ((first | refine ansT ?_ | refine ansF ?_ | refine ansD (by first | (simp [*]; done) | omega) ?_ | refine ansN (by first | (simp [*]; done) | omega) ?_ | refine ⟨by kernel_rfl, ?_⟩ | refine ansB (by decide) (by first | decide | (simp; done) | (simp only [List.length_cons, List.length_nil]; decide)) ?_ | fail); (conv => whnf)))
    (refine Or.inr ⟨[ ], [ 27, 25 ], by kernel_rfl, ?_⟩; (conv => whnf); refine ⟨[ 15, 12, 13, 14, 26 ], _, _, _, _, ⟨ pw_may1 b 2, rfl, rfl, by kernel_rfl⟩, ?_⟩)
    (conv => whnf)
    (repeat' (first | (refine ansS (fun hh => ?_) (fun hh => ?_) <;> (first | simp only [ansX] at hh | skip) <;> (first | (exfalso; omega) | (exfalso; simp [*] at hh; done) | (exfalso; revert hh; decide) | exact absurd (by assumption) hh | (conv => whnf))) | ((first | refine ⟨by kernel_rfl, ?_⟩ | refine ansB (by omega) (by omega) ?_ | refine ansB (by decide) (by decide) ?_ | refine And.intro (a := _ ≤ _) (by omega) ?_ | refine And.intro (a := _ ≠ _) (by omega) ?_ | ((try (refine Or.inl ?_; (conv => whnf))); (try (refine ⟨false, ?_⟩; (conv => whnf))); refine ⟨_, by exact c1 _, ?_⟩) | fail); (conv => whnf))))
    refine ⟨hlt, ?_⟩
    (conv => whnf)
    (repeat' (first | (refine ansS (fun hh => ?_) (fun hh => ?_) <;> (first | simp only [ansX] at hh | skip) <;> (first | (exfalso; omega) | (exfalso; simp [*] at hh; done) | (exfalso; revert hh; decide) | exact absurd (by assumption) hh | (conv => whnf))) | ((first | refine ⟨by kernel_rfl, ?_⟩ | refine ansB (by omega) (by omega) ?_ | refine ansB (by decide) (by decide) ?_ | refine And.intro (a := _ ≤ _) (by omega) ?_ | refine And.intro (a := _ ≠ _) (by omega) ?_ | fail); (conv => whnf))))
    (refine Or.inr ⟨[ ], [ ], by kernel_rfl, ?_⟩; (conv => whnf); refine ⟨[ 15, 12, 13, 14 ], _, _, _, _, ⟨ r, rfl, rfl, by kernel_rfl⟩, ?_⟩)
    (conv => whnf)
    refine ⟨setSt ((retB b (firstA b.recipes)).recipes.getD number.toNat rec0) 3, ⟨rfl, rfl, hlt2⟩, ?_⟩
    (conv => whnf)
    refine ⟨[12, 13, 14], by kernel_rfl, ?_⟩
    (conv => whnf)
    exact ⟨rfl, rfl⟩
  · have r := pw_retireF b o.r (fun m hm => no_act ha m hm)
    have e : actvB b number = setB b number.toNat 3 := by unfold actvB calmB; rw [if_neg ha]
    rw [e]
    have hlt2 := hlt
    refine pw_of_bodyF hm Tryz.func25 (by kernel_rfl) ⟨by kernel_rfl, ?_⟩
    conv => whnf
    (refine Or.inr ⟨[ ], [ 15, 12, 13, 14 ], by kernel_rfl, ?_⟩; (conv => whnf); refine ⟨[ ], _, _, _, _, ⟨ pw_namedOk b o hc user number hn, rfl, rfl, by kernel_rfl⟩, ?_⟩)
    (conv => whnf)
    (repeat' ((first | refine ansT ?_ | refine ansF ?_ | refine ansD (by first | (simp [*]; done) | omega) ?_ | refine ansN (by first | (simp [*]; done) | omega) ?_ | refine ⟨by kernel_rfl, ?_⟩ | refine ansB (by decide) (by first | decide | (simp; done) | (simp only [List.length_cons, List.length_nil]; decide)) ?_ | fail); (conv => whnf)))
    (refine Or.inr ⟨[ ], [ 27, 25 ], by kernel_rfl, ?_⟩; (conv => whnf); refine ⟨[ 15, 12, 13, 14, 26 ], _, _, _, _, ⟨ pw_may1 b 2, rfl, rfl, by kernel_rfl⟩, ?_⟩)
    (conv => whnf)
    (repeat' (first | (refine ansS (fun hh => ?_) (fun hh => ?_) <;> (first | simp only [ansX] at hh | skip) <;> (first | (exfalso; omega) | (exfalso; simp [*] at hh; done) | (exfalso; revert hh; decide) | exact absurd (by assumption) hh | (conv => whnf))) | ((first | refine ⟨by kernel_rfl, ?_⟩ | refine ansB (by omega) (by omega) ?_ | refine ansB (by decide) (by decide) ?_ | refine And.intro (a := _ ≤ _) (by omega) ?_ | refine And.intro (a := _ ≠ _) (by omega) ?_ | ((try (refine Or.inl ?_; (conv => whnf))); (try (refine ⟨false, ?_⟩; (conv => whnf))); refine ⟨_, by exact c1 _, ?_⟩) | fail); (conv => whnf))))
    refine ⟨hlt, ?_⟩
    (conv => whnf)
    (repeat' (first | (refine ansS (fun hh => ?_) (fun hh => ?_) <;> (first | simp only [ansX] at hh | skip) <;> (first | (exfalso; omega) | (exfalso; simp [*] at hh; done) | (exfalso; revert hh; decide) | exact absurd (by assumption) hh | (conv => whnf))) | ((first | refine ⟨by kernel_rfl, ?_⟩ | refine ansB (by omega) (by omega) ?_ | refine ansB (by decide) (by decide) ?_ | refine And.intro (a := _ ≤ _) (by omega) ?_ | refine And.intro (a := _ ≠ _) (by omega) ?_ | fail); (conv => whnf))))
    (refine Or.inr ⟨[ ], [ ], by kernel_rfl, ?_⟩; (conv => whnf); refine ⟨[ 15, 12, 13, 14 ], _, _, _, _, ⟨ r, rfl, rfl, by kernel_rfl⟩, ?_⟩)
    (conv => whnf)
    refine ⟨setSt ((b).recipes.getD number.toNat rec0) 3, ⟨rfl, rfl, hlt2⟩, ?_⟩
    (conv => whnf)
    refine ⟨[12, 13, 14], by kernel_rfl, ?_⟩
    (conv => whnf)
    exact ⟨rfl, rfl⟩
theorem pc_ActivateBad (b : BooksT) (o : Okay b) (user number : Int) (h : ¬actvE b user number = 0) : PC Tryz.prog 25 [bks b, i64 user, i64 number] (.tup [newB 0, i64 (actvE b user number)]) := by
  by_cases h1 : chkB b = true ∧ named b user number
  · unfold actvE at h ⊢
    rw [if_pos h1] at h ⊢
    obtain ⟨hc, hn⟩ := h1
    have s := chk_small hc
    have c1 := fun u => pc_may1c b.keep b.next u b.users b.recipes b.log 2 (lt40 o.u)
    have hlt : number.toNat < b.recipes.length := by have := hn.2; omega
    by_cases hmy : mayB [2] b.users user = false
    · rw [if_pos hmy]
      refine pc_of_bodyF hm Tryz.func25 (by kernel_rfl) ?_
      conv => whnf
      (refine Or.inr ⟨[ ], [ 15, 12, 13, 14 ], by kernel_rfl, ?_⟩; (conv => whnf); refine ⟨[ ], _, _, _, _, ⟨ pw_namedOk b o hc user number hn, rfl, rfl, by kernel_rfl⟩, ?_⟩)
      (conv => whnf)
      (repeat' ((first | refine ansT ?_ | refine ansF ?_ | refine ansD (by first | (simp [*]; done) | omega) ?_ | refine ansN (by first | (simp [*]; done) | omega) ?_ | refine ⟨by kernel_rfl, ?_⟩ | refine ansB (by decide) (by first | decide | (simp; done) | (simp only [List.length_cons, List.length_nil]; decide)) ?_ | fail); (conv => whnf)))
      (refine Or.inr ⟨[ ], [ 27, 25 ], by kernel_rfl, ?_⟩; (conv => whnf); refine ⟨[ 15, 12, 13, 14, 26 ], _, _, _, _, ⟨ pw_may1 b 2, rfl, rfl, by kernel_rfl⟩, ?_⟩)
      (conv => whnf)
      (repeat' (first | (refine ansS (fun hh => ?_) (fun hh => ?_) <;> (first | simp only [ansX] at hh | skip) <;> (first | (exfalso; omega) | (exfalso; simp [*] at hh; done) | (exfalso; revert hh; decide) | exact absurd (by assumption) hh | (conv => whnf))) | ((first | refine ⟨by kernel_rfl, ?_⟩ | refine ansB (by omega) (by omega) ?_ | refine ansB (by decide) (by decide) ?_ | refine And.intro (a := _ ≤ _) (by omega) ?_ | refine And.intro (a := _ ≠ _) (by omega) ?_ | ((try (refine Or.inl ?_; (conv => whnf))); (try (refine ⟨false, ?_⟩; (conv => whnf))); refine ⟨_, by exact c1 _, ?_⟩) | fail); (conv => whnf))))
      all_goals (first | rfl | set_option pp.maxSteps 300 in trace_state)
    · rw [if_neg hmy] at h ⊢
      have hmt : mayB [2] b.users user = true := by simpa using hmy
      have h2 : ¬(b.recipes.getD number.toNat rec0).state = 2 := fun q => h (if_neg (fun e => e q))
      rw [if_pos h2]
      refine pc_of_bodyF hm Tryz.func25 (by kernel_rfl) ?_
      conv => whnf
      (refine Or.inr ⟨[ ], [ 15, 12, 13, 14 ], by kernel_rfl, ?_⟩; (conv => whnf); refine ⟨[ ], _, _, _, _, ⟨ pw_namedOk b o hc user number hn, rfl, rfl, by kernel_rfl⟩, ?_⟩)
      (conv => whnf)
      (repeat' ((first | refine ansT ?_ | refine ansF ?_ | refine ansD (by first | (simp [*]; done) | omega) ?_ | refine ansN (by first | (simp [*]; done) | omega) ?_ | refine ⟨by kernel_rfl, ?_⟩ | refine ansB (by decide) (by first | decide | (simp; done) | (simp only [List.length_cons, List.length_nil]; decide)) ?_ | fail); (conv => whnf)))
      (refine Or.inr ⟨[ ], [ 27, 25 ], by kernel_rfl, ?_⟩; (conv => whnf); refine ⟨[ 15, 12, 13, 14, 26 ], _, _, _, _, ⟨ pw_may1 b 2, rfl, rfl, by kernel_rfl⟩, ?_⟩)
      (conv => whnf)
      (repeat' (first | (refine ansS (fun hh => ?_) (fun hh => ?_) <;> (first | simp only [ansX] at hh | skip) <;> (first | (exfalso; omega) | (exfalso; simp [*] at hh; done) | (exfalso; revert hh; decide) | exact absurd (by assumption) hh | (conv => whnf))) | ((first | refine ⟨by kernel_rfl, ?_⟩ | refine ansB (by omega) (by omega) ?_ | refine ansB (by decide) (by decide) ?_ | refine And.intro (a := _ ≤ _) (by omega) ?_ | refine And.intro (a := _ ≠ _) (by omega) ?_ | ((try (refine Or.inl ?_; (conv => whnf))); (try (refine ⟨false, ?_⟩; (conv => whnf))); refine ⟨_, by exact c1 _, ?_⟩) | fail); (conv => whnf))))
      refine ⟨hlt, ?_⟩
      (conv => whnf)
      (repeat' (first | (refine ansS (fun hh => ?_) (fun hh => ?_) <;> (first | simp only [ansX] at hh | skip) <;> (first | (exfalso; omega) | (exfalso; simp [*] at hh; done) | (exfalso; revert hh; decide) | exact absurd (by assumption) hh | (conv => whnf))) | ((first | refine ⟨by kernel_rfl, ?_⟩ | refine ansB (by omega) (by omega) ?_ | refine ansB (by decide) (by decide) ?_ | refine And.intro (a := _ ≤ _) (by omega) ?_ | refine And.intro (a := _ ≠ _) (by omega) ?_ | fail); (conv => whnf))))
      all_goals (first | rfl | set_option pp.maxSteps 300 in trace_state)
  · have c := pc_namedBad b o user number h1
    unfold actvE
    rw [if_neg h1]
    by_cases hc : chkB b = true
    · rw [if_pos hc] at c ⊢
      refine pc_of_bodyF hm Tryz.func25 (by kernel_rfl) ?_
      conv => whnf
      (repeat' ((first | refine ansT ?_ | refine ansF ?_ | ((try (refine Or.inl ?_; (conv => whnf))); (try (refine ⟨false, ?_⟩; (conv => whnf))); refine ⟨_, by exact c, ?_⟩) | refine ansD (by first | (simp [*]; done) | omega) ?_ | refine ansN (by first | (simp [*]; done) | omega) ?_ | refine ⟨by kernel_rfl, ?_⟩ | refine ansB (by decide) (by first | decide | (simp; done) | (simp only [List.length_cons, List.length_nil]; decide)) ?_ | fail); (conv => whnf)))
      all_goals (first | rfl | set_option pp.maxSteps 300 in trace_state)
    · rw [if_neg hc] at c ⊢
      refine pc_of_bodyF hm Tryz.func25 (by kernel_rfl) ?_
      conv => whnf
      (repeat' ((first | refine ansT ?_ | refine ansF ?_ | ((try (refine Or.inl ?_; (conv => whnf))); (try (refine ⟨false, ?_⟩; (conv => whnf))); refine ⟨_, by exact c, ?_⟩) | refine ansD (by first | (simp [*]; done) | omega) ?_ | refine ansN (by first | (simp [*]; done) | omega) ?_ | refine ⟨by kernel_rfl, ?_⟩ | refine ansB (by decide) (by first | decide | (simp; done) | (simp only [List.length_cons, List.length_nil]; decide)) ?_ | fail); (conv => whnf)))
      all_goals (first | rfl | set_option pp.maxSteps 300 in trace_state)
end Go.Proofs.Tryz.My
