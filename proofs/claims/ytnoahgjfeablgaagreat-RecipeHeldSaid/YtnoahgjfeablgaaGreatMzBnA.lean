/- A helper text: contracts of functions of the program, and plain lemmas. -/
import Derived.Test.YtnoahgjfeablgaaGreatMzBp9
import Derived.Test.YtnoahgjfeablgaaGreatMzBm3
set_option maxRecDepth 100000
set_option maxHeartbeats 0
set_option linter.unusedVariables false
set_option linter.unusedSimpArgs false
namespace Go.Proofs.Tryz.My
open Go Go.Ev
theorem mea_prof {g : GauT} {p : List Int} (h : (meaF g p).2.2 = 0) : profB p = true := by
  unfold meaF at h
  by_cases hg : gauB g = true
  · rw [if_pos hg] at h
    obtain ⟨⟨t1, t2⟩, ⟨n1, n2⟩, _⟩ := gauB_known hg
    rcases wid_err (p := p) t1 t2 n1 n2 with ⟨_, q⟩ | ⟨q, _⟩
    · rw [q] at h
      unfold meaG at h
      rw [if_neg (by decide), if_neg (by decide)] at h
      exact absurd (show (50 : Int) = 0 from h) (by decide)
    · exact q
  · rw [if_neg hg] at h
    exact absurd h (by decide)
def EntOK (b : BooksT) (s : EntT) : Prop :=
  (0 ≤ s.seq ∧ s.seq < b.next) ∧ (0 ≤ s.recipe ∧ s.recipe < b.recipes.length) ∧ (0 ≤ s.part ∧ s.part ≤ 1099511627776) ∧ (meaF (b.recipes.getD s.recipe.toNat rec0).gauge s.profile).2.2 = 0 ∧
    (meaF (b.recipes.getD s.recipe.toNat rec0).gauge s.profile).2.1 = s.verdict ∧ ¬(b.recipes.getD s.recipe.toNat rec0).state = 1
def RecOK (us : List Int) (x : RecT) : Prop :=
  List.Pairwise (· < ·) x.appr ∧ (∀ u, u ∈ x.appr → ¬u = x.author ∧ mayB [2, 3] us u = true) ∧ mayB [2] us x.author = true ∧ gauB x.gauge = true ∧ (1 ≤ x.state ∧ x.state ≤ 4) ∧ (1 < x.state ↔ enoughB us x.appr = true)
structure GoodB (b : BooksT) : Prop where
  kp : 1 ≤ b.keep ∧ b.keep ≤ 32
  nx : 0 ≤ b.next ∧ b.next ≤ 1099511627776
  nu : b.users.length ≤ 16
  nr : b.recipes.length ≤ 16
  nl : (b.log.length : Int) ≤ b.keep
  st : ∀ r, r ∈ b.users → 1 ≤ r ∧ r ≤ 3
  rc : ∀ x, x ∈ b.recipes → RecOK b.users x
  ac : activeN b.recipes ≤ 1
  sq : List.Pairwise (fun s t : EntT => s.seq < t.seq) b.log
  lg : ∀ s, s ∈ b.log → EntOK b s
theorem getD_at {α : Type} {d : α} {l : List α} {i : Nat} (h : i < l.length) : l.getD i d = l[i] := by
  simp only [List.getD, List.getElem?_eq_getElem h, Option.getD_some]
theorem may_range {rr us : List Int} {u : Int} (h : mayB rr us u = true) : 0 ≤ u ∧ u < us.length := by
  unfold mayB withB at h
  simp only [Bool.and_eq_true, decide_eq_true_eq] at h
  omega
theorem chain_pair {α : Type} {d : α} {l : List α} (f : α → Int) : ((∀ i, i < l.length → (if i = 0 then -1 else f (l.getD (i - 1) d)) < f (l.getD i d)) ↔ (List.Pairwise (fun s t => f s < f t) l ∧ ∀ s, s ∈ l → 0 ≤ f s)) := by
  constructor
  · intro h
    have up : ∀ j, j < l.length → 0 ≤ f (l.getD j d) ∧ ∀ i, i < j → f (l.getD i d) < f (l.getD j d) := by
      intro j
      induction j with
      | zero =>
        intro hj
        have := h 0 hj
        rw [if_pos rfl] at this
        exact ⟨by omega, fun i hi => absurd hi (Nat.not_lt_zero i)⟩
      | succ j ih =>
        intro hj
        have a := ih (by omega)
        have b := h (j + 1) hj
        rw [if_neg (by omega), show j + 1 - 1 = j by omega] at b
        refine ⟨by omega, fun i hi => ?_⟩
        by_cases e : i = j
        · subst e; exact b
        · have := a.2 i (by omega)
          omega
    refine ⟨List.pairwise_iff_getElem.2 fun i j hi hj hij => ?_, fun s hs => ?_⟩
    · have := (up j hj).2 i hij
      rwa [getD_at hi, getD_at hj] at this
    · obtain ⟨i, hi, e⟩ := List.getElem_of_mem hs
      have := (up i hi).1
      rw [getD_at hi, e] at this
      exact this
  · rintro ⟨h1, h2⟩ i hi
    by_cases e : i = 0
    · rw [if_pos e, getD_at hi]
      have := h2 _ (List.getElem_mem hi)
      omega
    · rw [if_neg e, getD_at hi, getD_at (show i - 1 < l.length by omega)]
      exact List.pairwise_iff_getElem.1 h1 (i - 1) i (by omega) hi (by omega)
theorem rec_iff {us : List Int} {x : RecT} : recB us x = true ↔ RecOK us x := by
  have hc := chain_pair (d := (0 : Int)) (l := x.appr) (fun u => u)
  have ha : apprB us x = true ↔ (List.Pairwise (· < ·) x.appr ∧ ∀ u, u ∈ x.appr → ¬u = x.author ∧ mayB [2, 3] us u = true) := by
    unfold apprB
    rw [all_range]
    constructor
    · intro h
      have h' : ∀ i, i < x.appr.length → prevI x.appr i < x.appr.getD i 0 ∧ ¬x.appr.getD i 0 = x.author ∧ mayB [2, 3] us (x.appr.getD i 0) = true := fun i hi => by
        have := h i hi
        unfold okA at this
        simp only [Bool.and_eq_true, decide_eq_true_eq, Bool.not_eq_true', decide_eq_false_iff_not] at this
        exact ⟨this.1.1, this.1.2, this.2⟩
      refine ⟨(hc.1 fun i hi => (h' i hi).1).1, fun u hu => ?_⟩
      obtain ⟨i, hi, e⟩ := List.getElem_of_mem hu
      have := (h' i hi).2
      rw [getD_at hi, e] at this
      exact this
    · rintro ⟨h1, h2⟩ i hi
      have m := h2 _ (List.getElem_mem hi)
      have c := hc.2 ⟨h1, fun u hu => (may_range (h2 u hu).2).1⟩ i hi
      unfold okA
      simp only [Bool.and_eq_true, decide_eq_true_eq, Bool.not_eq_true', decide_eq_false_iff_not]
      rw [getD_at hi] at c ⊢
      exact ⟨⟨c, m.1⟩, m.2⟩
  unfold recB
  rw [Bool.and_eq_true, ha]
  unfold stateB RecOK withB
  simp only [Bool.and_eq_true, decide_eq_true_eq]
  have hb : (decide (x.state > 1) == enoughB us x.appr) = true ↔ (1 < x.state ↔ enoughB us x.appr = true) := by
    rw [beq_iff_eq]
    by_cases q : 1 < x.state
    · rw [decide_eq_true q]
      exact ⟨fun h => ⟨fun _ => h.symm, fun _ => q⟩, fun h => (h.1 q).symm⟩
    · rw [decide_eq_false q]
      exact ⟨fun h => ⟨fun z => absurd z q, fun z => by rw [← h] at z; cases z⟩, fun h => (Bool.eq_false_iff.2 fun z => q (h.2 z)).symm⟩
  rw [hb]
  constructor
  · rintro ⟨⟨a, b⟩, ⟨⟨c, d⟩, e⟩, f⟩
    exact ⟨a, b, c, d, e, f⟩
  · rintro ⟨a, b, c, d, e, f⟩
    exact ⟨⟨a, b⟩, ⟨⟨c, d⟩, e⟩, f⟩
theorem chk_good {b : BooksT} : chkB b = true ↔ GoodB b := by
  have hst : staffedB b = true ↔ ∀ r, r ∈ b.users → 1 ≤ r ∧ r ≤ 3 := by
    unfold staffedB
    rw [Bool.not_eq_true', List.any_eq_false]
    constructor
    · intro h r hr
      have := h r hr
      unfold oddR at this
      simp only [Bool.or_eq_true, decide_eq_true_eq] at this
      omega
    · intro h r hr
      have := h r hr
      unfold oddR
      simp only [Bool.or_eq_true, decide_eq_true_eq]
      omega
  have hlg : loggedB b = true ↔ (List.Pairwise (fun s t : EntT => s.seq < t.seq) b.log ∧ ∀ s, s ∈ b.log → EntOK b s) := by
    have hc := chain_pair (d := ent0) (l := b.log) EntT.seq
    unfold loggedB
    rw [all_range]
    constructor
    · intro h
      have h' : ∀ i, i < b.log.length → prevE b.log i < (b.log.getD i ent0).seq ∧ (b.log.getD i ent0).seq < b.next ∧ (0 ≤ (b.log.getD i ent0).recipe ∧ (b.log.getD i ent0).recipe ≤ (b.recipes.length : Int) - 1) ∧ (0 ≤ (b.log.getD i ent0).part ∧ (b.log.getD i ent0).part ≤ 1099511627776) ∧
          (meaF (b.recipes.getD (b.log.getD i ent0).recipe.toNat rec0).gauge (b.log.getD i ent0).profile).2.2 = 0 ∧ (meaF (b.recipes.getD (b.log.getD i ent0).recipe.toNat rec0).gauge (b.log.getD i ent0).profile).2.1 = (b.log.getD i ent0).verdict ∧ ¬(b.recipes.getD (b.log.getD i ent0).recipe.toNat rec0).state = 1 := fun i hi => by
        have := h i hi
        unfold entB withB at this
        simp only [Bool.and_eq_true, decide_eq_true_eq, Bool.not_eq_true', decide_eq_false_iff_not] at this
        obtain ⟨⟨⟨⟨a, b⟩, c⟩, d⟩, ⟨e, f⟩, g⟩ := this
        exact ⟨a, b, c, d, e, f, g⟩
      have p := hc.1 fun i hi => (h' i hi).1
      refine ⟨p.1, fun s hs => ?_⟩
      have z := p.2 s hs
      obtain ⟨i, hi, e⟩ := List.getElem_of_mem hs
      have := (h' i hi).2
      rw [getD_at hi, e] at this
      obtain ⟨a, c, d, r⟩ := this
      exact ⟨⟨z, a⟩, ⟨c.1, by omega⟩, d, r⟩
    · rintro ⟨h1, h2⟩ i hi
      have m := h2 _ (List.getElem_mem hi)
      have c := hc.2 ⟨h1, fun s hs => (h2 s hs).1.1⟩ i hi
      unfold entB withB
      simp only [Bool.and_eq_true, decide_eq_true_eq, Bool.not_eq_true', decide_eq_false_iff_not]
      obtain ⟨a1, a2, a3, a4, a5, a6⟩ := m
      have c : prevE b.log i < (b.log.getD i ent0).seq := c
      rw [getD_at hi] at c ⊢
      exact ⟨⟨⟨⟨c, a1.2⟩, a2.1, by omega⟩, a3⟩, ⟨a4, a5⟩, a6⟩
  unfold chkB
  rw [Bool.and_eq_true, Bool.and_eq_true, Bool.and_eq_true, hst, hlg]
  unfold sizedB approvedB withB
  simp only [Bool.and_eq_true, decide_eq_true_eq, List.all_eq_true]
  constructor
  · intro h
    simp only [and_assoc] at h
    obtain ⟨k1, k2, n1, n2, u, r, l, st, rc, ac, sq, lg⟩ := h
    exact ⟨⟨k1, k2⟩, ⟨n1, n2⟩, by omega, by omega, l, st, fun x hx => rec_iff.1 (rc x hx), ac, sq, lg⟩
  · rintro ⟨⟨k1, k2⟩, ⟨n1, n2⟩, nu, nr, nl, st, rc, ac, sq, lg⟩
    simp only [and_assoc]
    exact ⟨k1, k2, n1, n2, by omega, by omega, nl, st, fun x hx => rec_iff.2 (rc x hx), ac, sq, lg⟩
end Go.Proofs.Tryz.My
set_option maxRecDepth 100000
set_option maxHeartbeats 0
set_option linter.unusedVariables false
set_option linter.unusedSimpArgs false
namespace Go.Proofs.Tryz.My
open Go Go.Ev
theorem may_ext {rr us : List Int} {u r : Int} (h : 0 ≤ u ∧ u < us.length) : mayB rr (us ++ [r]) u = mayB rr us u := by
  have e : (us ++ [r]).getD u.toNat 0 = us.getD u.toNat 0 := by
    simp only [List.getD]
    rw [List.getElem?_append_left (by omega)]
  unfold mayB withB
  rw [e, decide_eq_true h.1, decide_eq_true (show u ≤ ((us ++ [r]).length : Int) - 1 by simp; omega), decide_eq_true (show u ≤ (us.length : Int) - 1 by omega)]
theorem any_cong {α : Type} {p q : α → Bool} {l : List α} (h : ∀ x, x ∈ l → p x = q x) : l.any p = l.any q := by
  rw [Bool.eq_iff_iff, List.any_eq_true, List.any_eq_true]
  exact ⟨fun ⟨x, a, c⟩ => ⟨x, a, by rw [← h x a]; exact c⟩, fun ⟨x, a, c⟩ => ⟨x, a, by rw [h x a]; exact c⟩⟩
theorem rec_ext {us : List Int} {x : RecT} {r : Int} (h : RecOK us x) : RecOK (us ++ [r]) x := by
  obtain ⟨a, c, d, e, f, g⟩ := h
  refine ⟨a, fun u hu => ⟨(c u hu).1, by rw [may_ext (may_range (c u hu).2)]; exact (c u hu).2⟩, by rw [may_ext (may_range d)]; exact d, e, f, ?_⟩
  have z : enoughB (us ++ [r]) x.appr = enoughB us x.appr := by
    unfold enoughB
    rw [any_cong fun u hu => may_ext (may_range (c u hu).2)]
  rw [z]; exact g
theorem keep_add {b : BooksT} (g : GoodB b) {r : Int} (h1 : 1 ≤ r ∧ r ≤ 3) (h2 : ¬(b.users.length : Int) = 16) : GoodB (addU b r) := by
  have hu := g.nu
  refine ⟨g.kp, g.nx, ?_, g.nr, g.nl, fun x hx => ?_, fun x hx => rec_ext (g.rc x hx), g.ac, g.sq, fun s hs => g.lg s hs⟩
  · show (b.users ++ [r]).length ≤ 16
    simp; omega
  · have hx : x ∈ b.users ++ [r] := hx
    rw [List.mem_append, List.mem_singleton] at hx
    rcases hx with hx | hx
    · exact g.st x hx
    · rw [hx]; exact h1
theorem act_app (l : List RecT) (x : RecT) : activeN (l ++ [x]) = activeN l + if x.state = 3 then 1 else 0 := by
  unfold activeN
  rw [List.filter_append, List.length_append]
  congr 1
  by_cases h : x.state = 3 <;> simp [h]
theorem keep_drf {b : BooksT} (g : GoodB b) {user : Int} {gg : GauT} (h1 : mayB [2] b.users user = true) (h2 : gauB gg = true) (h3 : ¬(b.recipes.length : Int) = 16) : GoodB (drfB b user gg) := by
  have hu := g.nr
  refine ⟨g.kp, g.nx, g.nu, ?_, g.nl, g.st, fun x hx => ?_, ?_, g.sq, fun s hs => ?_⟩
  · show (b.recipes ++ [newRec user gg]).length ≤ 16
    simp; omega
  · have hx : x ∈ b.recipes ++ [newRec user gg] := hx
    rw [List.mem_append, List.mem_singleton] at hx
    rcases hx with hx | hx
    · exact g.rc x hx
    · rw [hx]
      exact ⟨List.Pairwise.nil, fun u hu => absurd hu List.not_mem_nil, h1, h2, ⟨by show (1 : Int) ≤ 1; omega, by show (1 : Int) ≤ 4; omega⟩, ⟨fun z => absurd z (by show ¬(1 : Int) < 1; omega), fun z => Bool.noConfusion (show false = true from z)⟩⟩
  · show activeN (b.recipes ++ [newRec user gg]) ≤ 1
    rw [act_app, if_neg (show ¬(newRec user gg).state = 3 from fun z => absurd (show (1 : Int) = 3 from z) (by decide))]
    exact g.ac
  · obtain ⟨a1, a2, a3, a4, a5, a6⟩ := g.lg s hs
    have e : (b.recipes ++ [newRec user gg]).getD s.recipe.toNat rec0 = b.recipes.getD s.recipe.toNat rec0 := by
      simp only [List.getD]
      rw [List.getElem?_append_left (by omega)]
    refine ⟨a1, ⟨a2.1, ?_⟩, a3, ?_⟩
    · show s.recipe < ((b.recipes ++ [newRec user gg]).length : Int)
      simp; omega
    · show (meaF ((b.recipes ++ [newRec user gg]).getD s.recipe.toNat rec0).gauge s.profile).2.2 = 0 ∧ (meaF ((b.recipes ++ [newRec user gg]).getD s.recipe.toNat rec0).gauge s.profile).2.1 = s.verdict ∧ ¬((b.recipes ++ [newRec user gg]).getD s.recipe.toNat rec0).state = 1
      rw [e]
      exact ⟨a4, a5, a6⟩
theorem act_set : ∀ {l : List RecT} {i : Nat} (y : RecT), i < l.length → activeN (l.set i y) + (if (l.getD i rec0).state = 3 then 1 else 0) = activeN l + (if y.state = 3 then 1 else 0)
  | [], i, y, h => absurd h (Nat.not_lt_zero i)
  | a :: l, 0, y, _ => by
    show activeN (y :: l) + (if a.state = 3 then 1 else 0) = activeN (a :: l) + _
    unfold activeN
    by_cases h1 : a.state = 3 <;> by_cases h2 : y.state = 3 <;> simp [h1, h2] <;> omega
  | a :: l, i + 1, y, h => by
    have ih := act_set (l := l) (i := i) y (by simpa using h)
    show activeN (a :: l.set i y) + (if (l.getD i rec0).state = 3 then 1 else 0) = activeN (a :: l) + _
    have c : ∀ m : List RecT, activeN (a :: m) = activeN m + if a.state = 3 then 1 else 0 := fun m => by
      unfold activeN
      by_cases h1 : a.state = 3 <;> simp [h1]
    rw [c, c]
    omega
theorem keep_set {b : BooksT} (g : GoodB b) {i : Nat} {y : RecT} (hi : i < b.recipes.length) (h1 : RecOK b.users y) (h2 : y.gauge = (b.recipes.getD i rec0).gauge) (h3 : ¬(b.recipes.getD i rec0).state = 1 → ¬y.state = 1) (h4 : activeN (b.recipes.set i y) ≤ 1) : GoodB (setR b i y) := by
  refine ⟨g.kp, g.nx, g.nu, ?_, g.nl, g.st, fun x hx => ?_, h4, g.sq, fun s hs => ?_⟩
  · show (b.recipes.set i y).length ≤ 16
    rw [List.length_set]; exact g.nr
  · rcases List.mem_or_eq_of_mem_set hx with hx | hx
    · exact g.rc x hx
    · rw [hx]; exact h1
  · obtain ⟨a1, a2, a3, a4, a5, a6⟩ := g.lg s hs
    have e : ((b.recipes.set i y).getD s.recipe.toNat rec0).gauge = (b.recipes.getD s.recipe.toNat rec0).gauge ∧ ¬((b.recipes.set i y).getD s.recipe.toNat rec0).state = 1 := by
      by_cases e : i = s.recipe.toNat
      · rw [← e, getD_set_at hi]
        rw [← e] at a6
        exact ⟨h2, h3 a6⟩
      · have z : (b.recipes.set i y).getD s.recipe.toNat rec0 = b.recipes.getD s.recipe.toNat rec0 := by
          rw [List.getD, List.getElem?_set_ne e]; rfl
        rw [z]; exact ⟨rfl, a6⟩
    refine ⟨a1, ⟨a2.1, ?_⟩, a3, ?_⟩
    · show s.recipe < ((b.recipes.set i y).length : Int)
      rw [List.length_set]; exact a2.2
    · show (meaF ((b.recipes.set i y).getD s.recipe.toNat rec0).gauge s.profile).2.2 = 0 ∧ (meaF ((b.recipes.set i y).getD s.recipe.toNat rec0).gauge s.profile).2.1 = s.verdict ∧ ¬((b.recipes.set i y).getD s.recipe.toNat rec0).state = 1
      rw [e.1]
      exact ⟨a4, a5, e.2⟩
theorem rec_st {us : List Int} {x : RecT} {n : Int} (h : RecOK us x) (h1 : 1 < x.state) (h2 : 1 < n ∧ n ≤ 4) : RecOK us (setSt x n) := by
  obtain ⟨a, c, d, e, f, g⟩ := h
  exact ⟨a, c, d, e, ⟨by show 1 ≤ n; omega, h2.2⟩, ⟨fun _ => g.1 h1, fun _ => h2.1⟩⟩
theorem rec_at {b : BooksT} (g : GoodB b) {i : Nat} (hi : i < b.recipes.length) : RecOK b.users (b.recipes.getD i rec0) := g.rc _ (by rw [getD_at hi]; exact List.getElem_mem hi)
theorem keep_ret {b : BooksT} (g : GoodB b) {i : Nat} (hi : i < b.recipes.length) (h3 : (b.recipes.getD i rec0).state = 3) : GoodB (retB b i) ∧ activeN (retB b i).recipes = 0 := by
  have hs := act_set (l := b.recipes) (setSt (b.recipes.getD i rec0) 4) hi
  rw [if_pos h3, if_neg (show ¬(setSt (b.recipes.getD i rec0) 4).state = 3 from fun z => absurd (show (4 : Int) = 3 from z) (by decide))] at hs
  have ha := g.ac
  have hz : activeN (b.recipes.set i (setSt (b.recipes.getD i rec0) 4)) = 0 := by omega
  exact ⟨keep_set g hi (rec_st (rec_at g hi) (by omega) ⟨by omega, by omega⟩) rfl (fun _ z => absurd (show (4 : Int) = 1 from z) (by decide)) (by omega), hz⟩
theorem act_none {l : List RecT} (h : ¬l.any isAct = true) : activeN l = 0 := by
  unfold activeN
  rw [List.length_eq_zero_iff, List.filter_eq_nil_iff]
  intro x hx q
  exact h (List.any_eq_true.2 ⟨x, hx, q⟩)
theorem keep_calm {b : BooksT} (g : GoodB b) : GoodB (calmB b) ∧ activeN (calmB b).recipes = 0 ∧ (calmB b).recipes.length = b.recipes.length ∧ ∀ k, ¬(b.recipes.getD k rec0).state = 3 → (calmB b).recipes.getD k rec0 = b.recipes.getD k rec0 := by
  unfold calmB
  by_cases ha : b.recipes.any isAct = true
  · rw [if_pos ha]
    have z := keep_ret g (firstA_lt ha) (firstA_is ha)
    refine ⟨z.1, z.2, List.length_set, fun k hk => ?_⟩
    have e : firstA b.recipes ≠ k := fun e => hk (e ▸ firstA_is ha)
    show (b.recipes.set _ _).getD k rec0 = _
    rw [List.getD, List.getElem?_set_ne e]; rfl
  · rw [if_neg ha]
    exact ⟨g, act_none ha, rfl, fun _ _ => rfl⟩
theorem keep_actv {b : BooksT} (g : GoodB b) {number : Int} (hi : number.toNat < b.recipes.length) (h2 : (b.recipes.getD number.toNat rec0).state = 2) : GoodB (actvB b number) := by
  obtain ⟨g1, z, hl, hk⟩ := keep_calm g
  have e := hk number.toNat (by omega)
  have hi2 : number.toNat < (calmB b).recipes.length := by omega
  have hs := act_set (l := (calmB b).recipes) (setSt ((calmB b).recipes.getD number.toNat rec0) 3) hi2
  refine keep_set g1 hi2 (rec_st (rec_at g1 hi2) (by rw [e]; omega) ⟨by omega, by omega⟩) rfl (fun _ q => absurd (show (3 : Int) = 1 from q) (by decide)) ?_
  rw [e, if_neg (show ¬(b.recipes.getD number.toNat rec0).state = 3 by omega)] at hs
  rw [e]
  split at hs <;> omega
end Go.Proofs.Tryz.My
set_option maxRecDepth 100000
set_option maxHeartbeats 0
set_option linter.unusedVariables false
set_option linter.unusedSimpArgs false
namespace Go.Proofs.Tryz.My
open Go Go.Ev
theorem pos_lt {l : List Int} {t v : Int} (h : v ∈ l.take (posI l t)) : v < t := by
  obtain ⟨i, hi, e⟩ := List.getElem_of_mem h
  have hi2 : i < posI l t := by rw [List.length_take] at hi; omega
  have hl : i < l.length := Nat.lt_of_lt_of_le hi2 (posI_le l t)
  have q : ¬t ≤ l[i] := fun z => by
    have := List.not_of_lt_findIdx hi2
    simp [z] at this
  rw [List.getElem_take] at e
  rw [← e]
  omega
theorem pos_gt {l : List Int} {t v : Int} (hs : List.Pairwise (· < ·) l) (hn : ¬t ∈ l) (h : v ∈ l.drop (posI l t)) : t < v := by
  obtain ⟨j, hj, e⟩ := List.getElem_of_mem h
  rw [List.length_drop] at hj
  rw [List.getElem_drop] at e
  have hk : posI l t < l.length := by omega
  have q := List.findIdx_getElem (p := fun x => decide (t ≤ x)) (xs := l) (w := hk)
  have q := of_decide_eq_true q
  have hv : v ∈ l := by rw [← e]; exact List.getElem_mem _
  have ne : ¬t = v := fun z => hn (z ▸ hv)
  by_cases hj0 : j = 0
  · subst hj0
    have e : l[posI l t] = v := e
    have q : t ≤ l[posI l t] := q
    omega
  · have p := List.pairwise_iff_getElem.1 hs (posI l t) (posI l t + j) hk (by omega) (by omega)
    rw [e] at p
    have q : t ≤ l[posI l t] := q
    omega
theorem ins_pair {l : List Int} {t : Int} (hs : List.Pairwise (· < ·) l) (hn : ¬t ∈ l) : List.Pairwise (· < ·) (insI l t) := by
  unfold insI
  rw [List.pairwise_append]
  refine ⟨hs.sublist (List.take_sublist _ _), ?_, fun a ha c hc => ?_⟩
  · rw [List.pairwise_cons]
    exact ⟨fun c hc => pos_gt hs hn hc, hs.sublist (List.drop_sublist _ _)⟩
  · have h1 := pos_lt ha
    rw [List.mem_cons] at hc
    rcases hc with hc | hc
    · omega
    · have := pos_gt hs hn hc
      omega
theorem ins_mem {l : List Int} {t v : Int} : v ∈ insI l t ↔ v = t ∨ v ∈ l := by
  unfold insI
  rw [List.mem_append, List.mem_cons]
  constructor
  · rintro (h | h | h)
    · exact .inr (List.mem_of_mem_take h)
    · exact .inl h
    · exact .inr (List.mem_of_mem_drop h)
  · rintro (h | h)
    · exact .inr (.inl h)
    · rw [← List.take_append_drop (posI l t) l, List.mem_append] at h
      rcases h with h | h
      · exact .inl h
      · exact .inr (.inr h)
theorem enough_mono {us l : List Int} {t : Int} (h : enoughB us l = true) : enoughB us (insI l t) = true := by
  unfold enoughB at h ⊢
  simp only [Bool.and_eq_true, decide_eq_true_eq, List.any_eq_true] at h ⊢
  obtain ⟨h1, u, h2, h3⟩ := h
  rw [insI_len]
  exact ⟨by omega, u, ins_mem.2 (.inr h2), h3⟩
theorem rec_apv {us : List Int} {x : RecT} {user : Int} (h : RecOK us x) (h1 : ¬user ∈ x.appr) (h2 : ¬user = x.author) (h3 : mayB [2, 3] us user = true) (h4 : ¬x.state > 2) : RecOK us (apvR us x user) ∧ ¬(apvR us x user).state = 3 ∧ (¬x.state = 1 → ¬(apvR us x user).state = 1) := by
  obtain ⟨a, c, d, e, f, g⟩ := h
  unfold apvR
  by_cases hE : enoughB us (insI x.appr user) = true
  · rw [if_pos hE]
    refine ⟨⟨ins_pair a h1, fun u hu => ?_, d, e, ⟨by show (1 : Int) ≤ 2; omega, by show (2 : Int) ≤ 4; omega⟩, ⟨fun _ => hE, fun _ => by show (1 : Int) < 2; omega⟩⟩, fun z => absurd (show (2 : Int) = 3 from z) (by decide), fun _ z => absurd (show (2 : Int) = 1 from z) (by decide)⟩
    rcases ins_mem.1 hu with hu | hu
    · rw [hu]; exact ⟨h2, h3⟩
    · exact c u hu
  · rw [if_neg hE]
    refine ⟨⟨ins_pair a h1, fun u hu => ?_, d, e, f, ⟨fun z => absurd (enough_mono (g.1 z)) hE, fun z => absurd z hE⟩⟩, fun z => h4 (by have z : x.state = 3 := z; omega), fun z => z⟩
    rcases ins_mem.1 hu with hu | hu
    · rw [hu]; exact ⟨h2, h3⟩
    · exact c u hu
theorem keep_apv {b : BooksT} (g : GoodB b) {user number : Int} (h : apvE b user number = 0) : GoodB (apvB b user number) := by
  obtain ⟨hc, hn, hb, h2⟩ := apvE_zero h
  obtain ⟨hb1, hb2, hb3⟩ := badA_no hb
  have hi : number.toNat < b.recipes.length := by have := hn.2; omega
  have hne : ¬user ∈ (b.recipes.getD number.toNat rec0).appr := fun z => by
    rw [← List.contains_iff_mem, hb1] at z
    cases z
  obtain ⟨r1, r2, r3⟩ := rec_apv (rec_at g hi) hne hb2 hb3 h2
  have hs := act_set (l := b.recipes) (apvR b.users (b.recipes.getD number.toNat rec0) user) hi
  rw [if_neg (show ¬(b.recipes.getD number.toNat rec0).state = 3 by omega), if_neg r2] at hs
  have ha := g.ac
  exact keep_set g hi r1 rfl r3 (by omega)
theorem drop_sub (l : List EntT) (i : Nat) : List.Sublist (dropE l i) l := by
  unfold dropE
  rw [← List.eraseIdx_eq_take_drop_succ]
  exact List.eraseIdx_sublist l i
theorem rcdL_sub (b : BooksT) : List.Sublist (rcdL b) b.log := by
  unfold rcdL
  split
  · exact drop_sub _ _
  · exact List.Sublist.refl _
theorem rcdL_len {b : BooksT} (g : GoodB b) (h : (b.log.length : Int) = b.keep → b.log.any isFree = true) : ((rcdL b).length : Int) + 1 ≤ b.keep ∧ b.log.length ≤ (rcdL b).length + 1 := by
  have hl := g.nl
  unfold rcdL
  by_cases hf : (b.log.length : Int) = b.keep
  · rw [if_pos hf]
    have hi := fi_lt (h hf)
    have := dropE_len hi
    omega
  · rw [if_neg hf]
    omega
theorem keep_rcd {b : BooksT} (g : GoodB b) {part : Int} {profile : List Int} (h : rcdE b part profile = 0) : GoodB (rcdB b part profile) := by
  obtain ⟨hc, hp, ha, hm, hf, hn⟩ := rcdE_zero h
  have hl := rcdL_len g hf
  have nx := g.nx
  have hA := firstA_lt ha
  have hA3 := firstA_is ha
  refine ⟨g.kp, ⟨by show 0 ≤ b.next + 1; omega, by show b.next + 1 ≤ _; omega⟩, g.nu, g.nr, ?_, g.st, g.rc, g.ac, ?_, fun s hs => ?_⟩
  · show ((rcdL b ++ [rcdX b part profile]).length : Int) ≤ b.keep
    simp only [List.length_append, List.length_cons, List.length_nil]
    omega
  · show List.Pairwise _ (rcdL b ++ [rcdX b part profile])
    rw [List.pairwise_append]
    refine ⟨g.sq.sublist (rcdL_sub b), List.pairwise_singleton _ _, fun s hs t ht => ?_⟩
    rw [List.mem_singleton] at ht
    rw [ht]
    exact (g.lg s ((rcdL_sub b).mem hs)).1.2
  · have hs : s ∈ rcdL b ++ [rcdX b part profile] := hs
    rw [List.mem_append, List.mem_singleton] at hs
    rcases hs with hs | hs
    · obtain ⟨a1, r⟩ := g.lg s ((rcdL_sub b).mem hs)
      exact ⟨⟨a1.1, by show s.seq < b.next + 1; omega⟩, r⟩
    · rw [hs]
      refine ⟨⟨nx.1, by show b.next < b.next + 1; omega⟩, ⟨by show (0 : Int) ≤ (firstA b.recipes : Int); omega, by show (firstA b.recipes : Int) < (b.recipes.length : Int); omega⟩, hp, ?_⟩
      show (meaF (b.recipes.getD (firstA b.recipes) rec0).gauge profile).2.2 = 0 ∧ (meaF (b.recipes.getD (firstA b.recipes) rec0).gauge profile).2.1 = (meaF (b.recipes.getD (firstA b.recipes) rec0).gauge profile).2.1 ∧ ¬(b.recipes.getD (firstA b.recipes) rec0).state = 1
      exact ⟨hm, rfl, by omega⟩
theorem keep_mrk {b : BooksT} (g : GoodB b) (seq : Int) (is : Bool) : GoodB (mrkB b seq is) := chk_good.1 (by rw [chk_mrk]; exact chk_good.2 g)
theorem okG {b : BooksT} (g : GoodB b) : Okay b := by
  have hu := g.nu
  have hr := g.nr
  have hl := g.nl
  have hk := g.kp
  refine ⟨by omega, by omega, by omega, fun i => ?_, fun i => ?_⟩
  · by_cases hi : i < b.recipes.length
    · have r := rec_iff.2 (rec_at g hi)
      unfold recB at r
      rw [Bool.and_eq_true] at r
      have := incr_len r.1
      omega
    · rw [List.getD, List.getElem?_eq_none (by omega)]
      show 0 < _
      decide
  · by_cases hi : i < b.log.length
    · have := prof_len (mea_prof (g.lg _ (by rw [getD_at hi]; exact List.getElem_mem hi)).2.2.2.1 : profB (b.log.getD i ent0).profile = true)
      omega
    · rw [List.getD, List.getElem?_eq_none (by omega)]
      show 0 < _
      decide
end Go.Proofs.Tryz.My
set_option maxRecDepth 100000
set_option maxHeartbeats 0
set_option linter.unusedVariables false
set_option linter.unusedSimpArgs false
namespace Go.Proofs.Tryz.My
open Go Go.Ev
theorem addE_zero {b : BooksT} {role : Int} (h : addE b role = 0) : chkB b = true ∧ (1 ≤ role ∧ role ≤ 3) ∧ ¬(b.users.length : Int) = 16 := by
  unfold addE at h
  by_cases h1 : chkB b = true
  · rw [if_pos h1] at h
    by_cases h2 : role < 1 ∨ 3 < role
    · rw [if_pos h2] at h; cases h
    · rw [if_neg h2] at h
      by_cases h3 : (b.users.length : Int) = 16
      · rw [if_pos h3] at h; cases h
      · exact ⟨h1, by omega, h3⟩
  · rw [if_neg h1] at h; cases h
theorem drfE_zero {b : BooksT} {user : Int} {g : GauT} (h : drfE b user g = 0) : chkB b = true ∧ mayB [2] b.users user = true ∧ gauB g = true ∧ ¬(b.recipes.length : Int) = 16 := by
  unfold drfE at h
  by_cases h1 : chkB b = true
  · rw [if_pos h1] at h
    by_cases h2 : 0 ≤ user ∧ user ≤ (b.users.length : Int) - 1
    · rw [if_neg (fun q => q h2)] at h
      by_cases h3 : mayB [2] b.users user = false
      · rw [if_pos h3] at h; cases h
      · rw [if_neg h3] at h
        by_cases h4 : gauB g = true
        · rw [if_neg (fun q => q h4)] at h
          by_cases h5 : (b.recipes.length : Int) = 16
          · rw [if_pos h5] at h; cases h
          · exact ⟨h1, by simpa using h3, h4, h5⟩
        · rw [if_pos h4] at h; cases h
    · rw [if_pos h2] at h; cases h
  · rw [if_neg h1] at h; cases h
theorem retE_all {b : BooksT} {user : Int} (h : retE b user = 0) : chkB b = true ∧ mayB [3] b.users user = true ∧ b.recipes.any isAct = true := by
  unfold retE at h
  by_cases h1 : chkB b = true
  · rw [if_pos h1] at h
    by_cases h2 : 0 ≤ user ∧ user ≤ (b.users.length : Int) - 1
    · rw [if_neg (fun q => q h2)] at h
      by_cases h3 : mayB [3] b.users user = false
      · rw [if_pos h3] at h; cases h
      · rw [if_neg h3] at h
        by_cases h4 : b.recipes.any isAct = true
        · exact ⟨h1, by simpa using h3, h4⟩
        · rw [if_pos h4] at h; cases h
    · rw [if_pos h2] at h; cases h
  · rw [if_neg h1] at h; cases h
theorem do_chk {b : BooksT} {a : ActT} (h : doE b a = 0) : chkB b = true := by
  unfold doE at h
  by_cases k0 : knd a = 0
  · rw [if_pos k0] at h
    exact (addE_zero h).1
  rw [if_neg k0] at h
  by_cases k1 : knd a = 1
  · rw [if_pos k1] at h
    exact (drfE_zero h).1
  rw [if_neg k1] at h
  by_cases k2 : knd a = 2
  · rw [if_pos k2] at h
    exact (apvE_zero h).1
  rw [if_neg k2] at h
  by_cases k3 : knd a = 3
  · rw [if_pos k3] at h
    exact (actvE_zero h).1
  rw [if_neg k3] at h
  by_cases k4 : knd a = 4
  · rw [if_pos k4] at h
    exact (retE_all h).1
  rw [if_neg k4] at h
  by_cases k5 : knd a = 5
  · rw [if_pos k5] at h
    exact (rcdE_zero h).1
  rw [if_neg k5] at h
  by_cases k6 : knd a = 6
  · rw [if_pos k6] at h
    exact (mrkE_zero h).1
  rw [if_neg k6] at h
  exact (mrkE_zero h).1
theorem keep_do {b : BooksT} {a : ActT} (g : GoodB b) (h : doE b a = 0) : GoodB (doB b a) := by
  unfold doE at h
  unfold doB
  by_cases k0 : knd a = 0
  · rw [if_pos k0] at h ⊢
    have z := addE_zero h
    exact keep_add g z.2.1 z.2.2
  rw [if_neg k0] at h ⊢
  by_cases k1 : knd a = 1
  · rw [if_pos k1] at h ⊢
    have z := drfE_zero h
    exact keep_drf g z.2.1 z.2.2.1 z.2.2.2
  rw [if_neg k1] at h ⊢
  by_cases k2 : knd a = 2
  · rw [if_pos k2] at h ⊢
    exact keep_apv g h
  rw [if_neg k2] at h ⊢
  by_cases k3 : knd a = 3
  · rw [if_pos k3] at h ⊢
    obtain ⟨hc, hn, hmy, h2⟩ := actvE_zero h
    exact keep_actv g (by have := hn.2; omega) h2
  rw [if_neg k3] at h ⊢
  by_cases k4 : knd a = 4
  · rw [if_pos k4] at h ⊢
    have z := (retE_all h).2.2
    exact (keep_ret g (firstA_lt z) (firstA_is z)).1
  rw [if_neg k4] at h ⊢
  by_cases k5 : knd a = 5
  · rw [if_pos k5] at h ⊢
    exact keep_rcd g h
  rw [if_neg k5] at h ⊢
  by_cases k6 : knd a = 6
  · rw [if_pos k6] at h ⊢
    exact keep_mrk g _ _
  rw [if_neg k6] at h ⊢
  exact keep_mrk g _ _
def Grow (b c : BooksT) : Prop := c.keep = b.keep ∧ (0 ≤ (c.users.length : Int) - b.users.length + c.recipes.length - b.recipes.length + c.next - b.next ∧ (c.users.length : Int) - b.users.length + c.recipes.length - b.recipes.length + c.next - b.next ≤ 1) ∧ b.log.length ≤ c.log.length
theorem calm_len (b : BooksT) : (calmB b).recipes.length = b.recipes.length ∧ (calmB b).keep = b.keep ∧ (calmB b).users = b.users ∧ (calmB b).next = b.next ∧ (calmB b).log = b.log := by
  unfold calmB
  split
  · exact ⟨List.length_set, rfl, rfl, rfl, rfl⟩
  · exact ⟨rfl, rfl, rfl, rfl, rfl⟩
end Go.Proofs.Tryz.My
