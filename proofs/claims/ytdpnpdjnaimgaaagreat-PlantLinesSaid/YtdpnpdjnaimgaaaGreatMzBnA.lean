/- A helper text: contracts of functions of the program, and plain lemmas. -/
import Derived.Test.YtdpnpdjnaimgaaaGreatMzBpD
import Derived.Test.YtdpnpdjnaimgaaaGreatMzBm3
set_option maxRecDepth 100000
set_option maxHeartbeats 0
set_option linter.unusedVariables false
set_option linter.unusedSimpArgs false
namespace Go.Proofs.Tryz.My
open Go Go.Ev
def EntOK (b : BooksT) (s : EntT) : Prop :=
  (0 ≤ s.seq ∧ s.seq < b.next) ∧ (0 ≤ s.recipe ∧ s.recipe < b.recipes.length) ∧ (0 ≤ s.part ∧ s.part ≤ 1099511627776) ∧ (meaF (b.recipes.getD s.recipe.toNat rec0).gauge s.profile).2.2 = 0 ∧
    (meaF (b.recipes.getD s.recipe.toNat rec0).gauge s.profile).2.1 = s.verdict ∧ ¬(b.recipes.getD s.recipe.toNat rec0).state = 1
def RecOK (us : List Int) (x : RecT) : Prop :=
  List.Pairwise (· < ·) x.appr ∧ (∀ u, u ∈ x.appr → ¬u = x.author ∧ mayB [2, 3] us u = true) ∧ mayB [2] us x.author = true ∧ gauB x.gauge = true ∧ (1 ≤ x.state ∧ x.state ≤ 4) ∧ (1 < x.state ↔ enoughB us x.appr = true)
structure GoodB (b : BooksT) : Prop where
  kp : 1 ≤ b.keep ∧ b.keep ≤ 32
  nx : 0 ≤ b.next ∧ b.next ≤ 1099511627776
  nu : b.users.length ≤ 16
  nr : b.recipes.length ≤ 16
  nl : (b.log.length : Int) ≤ b.keep
  st : ∀ r, r ∈ b.users → 1 ≤ r ∧ r ≤ 3
  rc : ∀ x, x ∈ b.recipes → RecOK b.users x
  ac : activeN b.recipes ≤ 1
  sq : List.Pairwise (fun s t : EntT => s.seq < t.seq) b.log
  lg : ∀ s, s ∈ b.log → EntOK b s
theorem getD_at {α : Type} {d : α} {l : List α} {i : Nat} (h : i < l.length) : l.getD i d = l[i] := by
  simp only [List.getD, List.getElem?_eq_getElem h, Option.getD_some]
theorem may_range {rr us : List Int} {u : Int} (h : mayB rr us u = true) : 0 ≤ u ∧ u < us.length := by
  unfold mayB withB at h
  simp only [Bool.and_eq_true, decide_eq_true_eq] at h
  omega
theorem chain_pair {α : Type} {d : α} {l : List α} (f : α → Int) : ((∀ i, i < l.length → (if i = 0 then -1 else f (l.getD (i - 1) d)) < f (l.getD i d)) ↔ (List.Pairwise (fun s t => f s < f t) l ∧ ∀ s, s ∈ l → 0 ≤ f s)) := by
  constructor
  · intro h
    have up : ∀ j, j < l.length → 0 ≤ f (l.getD j d) ∧ ∀ i, i < j → f (l.getD i d) < f (l.getD j d) := by
      intro j
      induction j with
      | zero =>
        intro hj
        have := h 0 hj
        rw [if_pos rfl] at this
        exact ⟨by omega, fun i hi => absurd hi (Nat.not_lt_zero i)⟩
      | succ j ih =>
        intro hj
        have a := ih (by omega)
        have b := h (j + 1) hj
        rw [if_neg (by omega), show j + 1 - 1 = j by omega] at b
        refine ⟨by omega, fun i hi => ?_⟩
        by_cases e : i = j
        · subst e; exact b
        · have := a.2 i (by omega)
          omega
    refine ⟨List.pairwise_iff_getElem.2 fun i j hi hj hij => ?_, fun s hs => ?_⟩
    · have := (up j hj).2 i hij
      rwa [getD_at hi, getD_at hj] at this
    · obtain ⟨i, hi, e⟩ := List.getElem_of_mem hs
      have := (up i hi).1
      rw [getD_at hi, e] at this
      exact this
  · rintro ⟨h1, h2⟩ i hi
    by_cases e : i = 0
    · rw [if_pos e, getD_at hi]
      have := h2 _ (List.getElem_mem hi)
      omega
    · rw [if_neg e, getD_at hi, getD_at (show i - 1 < l.length by omega)]
      exact List.pairwise_iff_getElem.1 h1 (i - 1) i (by omega) hi (by omega)
theorem rec_iff {us : List Int} {x : RecT} : recB us x = true ↔ RecOK us x := by
  have hc := chain_pair (d := (0 : Int)) (l := x.appr) (fun u => u)
  have ha : apprB us x = true ↔ (List.Pairwise (· < ·) x.appr ∧ ∀ u, u ∈ x.appr → ¬u = x.author ∧ mayB [2, 3] us u = true) := by
    unfold apprB
    rw [all_range]
    constructor
    · intro h
      have h' : ∀ i, i < x.appr.length → prevI x.appr i < x.appr.getD i 0 ∧ ¬x.appr.getD i 0 = x.author ∧ mayB [2, 3] us (x.appr.getD i 0) = true := fun i hi => by
        have := h i hi
        unfold okA at this
        simp only [Bool.and_eq_true, decide_eq_true_eq, Bool.not_eq_true', decide_eq_false_iff_not] at this
        exact ⟨this.1.1, this.1.2, this.2⟩
      refine ⟨(hc.1 fun i hi => (h' i hi).1).1, fun u hu => ?_⟩
      obtain ⟨i, hi, e⟩ := List.getElem_of_mem hu
      have := (h' i hi).2
      rw [getD_at hi, e] at this
      exact this
    · rintro ⟨h1, h2⟩ i hi
      have m := h2 _ (List.getElem_mem hi)
      have c := hc.2 ⟨h1, fun u hu => (may_range (h2 u hu).2).1⟩ i hi
      unfold okA
      simp only [Bool.and_eq_true, decide_eq_true_eq, Bool.not_eq_true', decide_eq_false_iff_not]
      rw [getD_at hi] at c ⊢
      exact ⟨⟨c, m.1⟩, m.2⟩
  unfold recB
  rw [Bool.and_eq_true, ha]
  unfold stateB RecOK withB
  simp only [Bool.and_eq_true, decide_eq_true_eq]
  have hb : (decide (x.state > 1) == enoughB us x.appr) = true ↔ (1 < x.state ↔ enoughB us x.appr = true) := by
    rw [beq_iff_eq]
    by_cases q : 1 < x.state
    · rw [decide_eq_true q]
      exact ⟨fun h => ⟨fun _ => h.symm, fun _ => q⟩, fun h => (h.1 q).symm⟩
    · rw [decide_eq_false q]
      exact ⟨fun h => ⟨fun z => absurd z q, fun z => by rw [← h] at z; cases z⟩, fun h => (Bool.eq_false_iff.2 fun z => q (h.2 z)).symm⟩
  rw [hb]
  constructor
  · rintro ⟨⟨a, b⟩, ⟨⟨c, d⟩, e⟩, f⟩
    exact ⟨a, b, c, d, e, f⟩
  · rintro ⟨a, b, c, d, e, f⟩
    exact ⟨⟨a, b⟩, ⟨⟨c, d⟩, e⟩, f⟩
theorem chk_good {b : BooksT} : chkB b = true ↔ GoodB b := by
  have hst : staffedB b = true ↔ ∀ r, r ∈ b.users → 1 ≤ r ∧ r ≤ 3 := by
    unfold staffedB
    rw [Bool.not_eq_true', List.any_eq_false]
    constructor
    · intro h r hr
      have := h r hr
      unfold oddR at this
      simp only [Bool.or_eq_true, decide_eq_true_eq] at this
      omega
    · intro h r hr
      have := h r hr
      unfold oddR
      simp only [Bool.or_eq_true, decide_eq_true_eq]
      omega
  have hlg : loggedB b = true ↔ (List.Pairwise (fun s t : EntT => s.seq < t.seq) b.log ∧ ∀ s, s ∈ b.log → EntOK b s) := by
    have hc := chain_pair (d := ent0) (l := b.log) EntT.seq
    unfold loggedB
    rw [all_range]
    constructor
    · intro h
      have h' : ∀ i, i < b.log.length → prevE b.log i < (b.log.getD i ent0).seq ∧ (b.log.getD i ent0).seq < b.next ∧ (0 ≤ (b.log.getD i ent0).recipe ∧ (b.log.getD i ent0).recipe ≤ (b.recipes.length : Int) - 1) ∧ (0 ≤ (b.log.getD i ent0).part ∧ (b.log.getD i ent0).part ≤ 1099511627776) ∧
          (meaF (b.recipes.getD (b.log.getD i ent0).recipe.toNat rec0).gauge (b.log.getD i ent0).profile).2.2 = 0 ∧ (meaF (b.recipes.getD (b.log.getD i ent0).recipe.toNat rec0).gauge (b.log.getD i ent0).profile).2.1 = (b.log.getD i ent0).verdict ∧ ¬(b.recipes.getD (b.log.getD i ent0).recipe.toNat rec0).state = 1 := fun i hi => by
        have := h i hi
        unfold entB withB at this
        simp only [Bool.and_eq_true, decide_eq_true_eq, Bool.not_eq_true', decide_eq_false_iff_not] at this
        obtain ⟨⟨⟨⟨a, b⟩, c⟩, d⟩, ⟨e, f⟩, g⟩ := this
        exact ⟨a, b, c, d, e, f, g⟩
      have p := hc.1 fun i hi => (h' i hi).1
      refine ⟨p.1, fun s hs => ?_⟩
      have z := p.2 s hs
      obtain ⟨i, hi, e⟩ := List.getElem_of_mem hs
      have := (h' i hi).2
      rw [getD_at hi, e] at this
      obtain ⟨a, c, d, r⟩ := this
      exact ⟨⟨z, a⟩, ⟨c.1, by omega⟩, d, r⟩
    · rintro ⟨h1, h2⟩ i hi
      have m := h2 _ (List.getElem_mem hi)
      have c := hc.2 ⟨h1, fun s hs => (h2 s hs).1.1⟩ i hi
      unfold entB withB
      simp only [Bool.and_eq_true, decide_eq_true_eq, Bool.not_eq_true', decide_eq_false_iff_not]
      obtain ⟨a1, a2, a3, a4, a5, a6⟩ := m
      have c : prevE b.log i < (b.log.getD i ent0).seq := c
      rw [getD_at hi] at c ⊢
      exact ⟨⟨⟨⟨c, a1.2⟩, a2.1, by omega⟩, a3⟩, ⟨a4, a5⟩, a6⟩
  unfold chkB
  rw [Bool.and_eq_true, Bool.and_eq_true, Bool.and_eq_true, hst, hlg]
  unfold sizedB approvedB withB
  simp only [Bool.and_eq_true, decide_eq_true_eq, List.all_eq_true]
  constructor
  · intro h
    simp only [and_assoc] at h
    obtain ⟨k1, k2, n1, n2, u, r, l, st, rc, ac, sq, lg⟩ := h
    exact ⟨⟨k1, k2⟩, ⟨n1, n2⟩, by omega, by omega, l, st, fun x hx => rec_iff.1 (rc x hx), ac, sq, lg⟩
  · rintro ⟨⟨k1, k2⟩, ⟨n1, n2⟩, nu, nr, nl, st, rc, ac, sq, lg⟩
    simp only [and_assoc]
    exact ⟨k1, k2, n1, n2, by omega, by omega, nl, st, fun x hx => rec_iff.2 (rc x hx), ac, sq, lg⟩
end Go.Proofs.Tryz.My
set_option maxRecDepth 100000
set_option maxHeartbeats 0
set_option linter.unusedVariables false
set_option linter.unusedSimpArgs false
namespace Go.Proofs.Tryz.My
open Go Go.Ev
end Go.Proofs.Tryz.My
set_option maxRecDepth 100000
set_option maxHeartbeats 0
set_option linter.unusedVariables false
set_option linter.unusedSimpArgs false
namespace Go.Proofs.Tryz.My
open Go Go.Ev
end Go.Proofs.Tryz.My
set_option maxRecDepth 100000
set_option maxHeartbeats 0
set_option linter.unusedVariables false
set_option linter.unusedSimpArgs false
namespace Go.Proofs.Tryz.My
open Go Go.Ev
def Grow (b c : BooksT) : Prop := c.keep = b.keep ∧ (0 ≤ (c.users.length : Int) - b.users.length + c.recipes.length - b.recipes.length + c.next - b.next ∧ (c.users.length : Int) - b.users.length + c.recipes.length - b.recipes.length + c.next - b.next ≤ 1) ∧ b.log.length ≤ c.log.length
end Go.Proofs.Tryz.My
