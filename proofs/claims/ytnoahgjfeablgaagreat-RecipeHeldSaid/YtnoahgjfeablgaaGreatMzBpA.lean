/- A helper text: contracts of functions of the program, and plain lemmas. -/
import Derived.Test.YtnoahgjfeablgaaGreatEvSix
import Derived.Test.YtnoahgjfeablgaaGreatMzBoB
import Derived.Test.YtnoahgjfeablgaaGreatEvTen
set_option maxRecDepth 100000
set_option maxHeartbeats 0
set_option linter.unusedVariables false
set_option linter.unusedSimpArgs false
namespace Go.Proofs.Tryz.My
open Go Go.Ev
def posI (l : List Int) (t : Int) : Nat := l.findIdx fun x => decide (t ≤ x)
theorem posI_eq {l : List Int} {t : Int} {i : Nat} (hi : i ≤ l.length) (h1 : ∀ m, m < i → l.getD m 0 < t) (h2 : i < l.length → t ≤ l.getD i 0) : posI l t = i := by
  unfold posI
  rcases Nat.lt_trichotomy (l.findIdx fun x => decide (t ≤ x)) i with h | h | h
  · have hl : (l.findIdx fun x => decide (t ≤ x)) < l.length := by omega
    have a := List.findIdx_getElem (p := fun x => decide (t ≤ x)) (xs := l) (w := hl)
    have b := h1 _ h
    simp only [List.getD, List.getElem?_eq_getElem hl, Option.getD_some] at b
    have a := of_decide_eq_true a
    omega
  · exact h
  · have hl : i < l.length := Nat.lt_of_lt_of_le h List.findIdx_le_length
    have a := List.not_of_lt_findIdx h
    have b := h2 hl
    simp only [List.getD, List.getElem?_eq_getElem hl, Option.getD_some] at b
    simp [b] at a
theorem posI_le (l : List Int) (t : Int) : posI l t ≤ l.length := List.findIdx_le_length
def Inc (l : List Int) : Prop := ∀ i j, i < j → j < l.length → l.getD i 0 < l.getD j 0
theorem inc_of {us : List Int} {x : RecT} (h : apprB us x = true) : Inc x.appr := by
  have h := all_range.1 h
  have st : ∀ i, i + 1 < x.appr.length → x.appr.getD i 0 < x.appr.getD (i + 1) 0 := by
    intro i hi
    have := h (i + 1) hi
    simp only [okA, Bool.and_eq_true, prevI] at this
    have e := of_decide_eq_true this.1.1
    rw [if_neg (by omega), show i + 1 - 1 = i by omega] at e
    exact e
  intro i j hij
  induction j with
  | zero => omega
  | succ j ih =>
    intro hj
    by_cases e : i = j
    · subst e; exact st i hj
    · have a := ih (by omega) (by omega)
      have b := st j hj
      omega
theorem inc_has {l : List Int} (h : Inc l) {t : Int} {i : Nat} (hi : i ≤ l.length) (h1 : ∀ m, m < i → l.getD m 0 < t) (h2 : ∀ m, i ≤ m → m < l.length → t ≤ l.getD m 0) : l.contains t = (decide (i < l.length) && decide (l.getD i 0 = t)) := by
  rw [Bool.eq_iff_iff, List.contains_iff_mem, Bool.and_eq_true, decide_eq_true_eq, decide_eq_true_eq]
  constructor
  · intro hm
    obtain ⟨m, hm, e⟩ := List.getElem_of_mem hm
    have e2 : l.getD m 0 = t := by simp only [List.getD, List.getElem?_eq_getElem hm, Option.getD_some]; exact e
    rcases Nat.lt_trichotomy m i with q | q | q
    · have := h1 m q; omega
    · subst q; exact ⟨hm, e2⟩
    · have a := h i m q hm
      have b := h2 i (Nat.le_refl i) (by omega)
      omega
  · rintro ⟨a, b⟩
    rw [← b]
    simp only [List.getD, List.getElem?_eq_getElem a, Option.getD_some]
    exact List.getElem_mem a
theorem half2 (i j : Nat) (hi : i < 2 ^ 40) (hj : j < 2 ^ 40) : IntKind.i64.wrap ((IntKind.u64.wrap (IntKind.i64.wrap ((i : Int) + (j : Int)))).fdiv (2 ^ min (Int.toNat 1) IntKind.u64.bits)) = (((i + j) / 2 : Nat) : Int) := by
  have e1 : IntKind.i64.wrap ((i : Int) + (j : Int)) = ((i + j : Nat) : Int) := by rw [wi _ (by omega) (by omega)]; omega
  have e : Int.toNat ((1 : Nat) : Int) = Int.toNat 1 := rfl
  have := shr_u (i + j) 1 (by omega)
  rw [e] at this
  rw [e1, wu _ (by omega), this, wi _ (by omega) (by omega)]
theorem pc_cNaN (x : Int) : PC Tryz.prog 128 [i64 x] (.bool false) := by
  refine pc_of_bodyF hm Tryz.func128 (by kernel_rfl) ?_
  conv => whnf
  first | rfl | (simp; done) | set_option pp.maxSteps 300 in trace_state
theorem pc_sNaN (x : Int) : PC Tryz.prog 107 [i64 x] (.bool false) := by
  refine pc_of_bodyF hm Tryz.func107 (by kernel_rfl) ?_
  conv => whnf
  first | rfl | (simp; done) | set_option pp.maxSteps 300 in trace_state
theorem pc_cLess (x y : Int) : PC Tryz.prog 106 [i64 x, i64 y] (.bool (decide (x < y))) := by
  refine pc_of_bodyF hm Tryz.func106 (by kernel_rfl) ?_
  conv => whnf
  (repeat' (first | (refine ansS (fun hh => ?_) (fun hh => ?_) <;> (first | simp only [ansX] at hh | skip) <;> (first | (exfalso; omega) | (exfalso; simp [*] at hh; done) | (exfalso; revert hh; decide) | exact absurd (by assumption) hh | (conv => whnf))) | ((first | refine ⟨by kernel_rfl, ?_⟩ | refine ansB (by omega) (by omega) ?_ | refine ansB (by decide) (by decide) ?_ | refine And.intro (a := _ ≤ _) (by omega) ?_ | refine And.intro (a := _ ≠ _) (by omega) ?_ | ((try (refine Or.inl ?_; (conv => whnf))); (try (refine ⟨false, ?_⟩; (conv => whnf))); refine ⟨_, by exact pc_cNaN _, ?_⟩) | fail); (conv => whnf))))
  all_goals (first | rfl | set_option pp.maxSteps 300 in trace_state)
theorem pc_BinS (l : List Int) (hs : Inc l) (hl : l.length < 2 ^ 39) (t : Int) : PC Tryz.prog 62 [ints l, i64 t] (.tup [i64 (posI l t), .bool (l.contains t)]) := by
  refine pc_of_bodyF hm Tryz.func62 (by kernel_rfl) ?_
  conv => whnf
  refine Or.inr ⟨Nat × Nat, [7, 8], [], [], fun i => [i64 i.1, i64 i.2], fun _ => [], fun _ => [], fun i => i.2 - i.1, fun i => i.1 ≤ i.2 ∧ i.2 ≤ l.length ∧ (∀ m, m < i.1 → l.getD m 0 < t) ∧ ∀ m, i.2 ≤ m → m < l.length → t ≤ l.getD m 0, ?_⟩
  (conv => whnf)
  refine ⟨⟨(0, l.length), ?_⟩, ?_⟩
  · (conv => whnf)
    exact ⟨⟨⟨Nat.zero_le _, Nat.le_refl _, fun m hm => absurd hm (Nat.not_lt_zero m), fun m h1 h2 => absurd h2 (Nat.not_lt.2 h1)⟩, rfl, rfl, rfl⟩, by kernel_rfl, by kernel_rfl⟩
  · rintro ⟨i, j⟩ ⟨g1, g2, g3, g4⟩
    simp only [] at g1 g2 g3 g4
    (conv => whnf)
    refine ⟨fun h => ?_, fun h => ?_⟩
    · have h := of_decide_eq_true h
      simp only [] at h
      (conv => whnf)
      rw [half2 i j (by omega) (by omega)]
      have e1 : i ≤ (i + j) / 2 := by omega
      have e2 : (i + j) / 2 < j := by omega
      generalize (i + j) / 2 = m at *
      have z : l.getD (Int.toNat (m : Int)) 0 = l.getD m 0 := rfl
      (repeat' (first | (refine ansS (fun hh => ?_) (fun hh => ?_) <;> (first | simp only [ansX] at hh | skip) <;> (first | (exfalso; omega) | (exfalso; simp [*] at hh; done) | (exfalso; revert hh; decide) | exact absurd (by assumption) hh | (conv => whnf))) | ((first | refine ⟨by kernel_rfl, ?_⟩ | refine ansB (by omega) (by omega) ?_ | refine ansB (by decide) (by decide) ?_ | refine And.intro (a := _ ≤ _) (by omega) ?_ | refine And.intro (a := _ ≠ _) (by omega) ?_ | ((try (refine Or.inl ?_; (conv => whnf))); (try (refine ⟨false, ?_⟩; (conv => whnf))); refine ⟨_, by exact pc_cLess _ _, ?_⟩) | fail); (conv => whnf))))
      · refine ⟨(m + 1, j), ?_⟩
        (conv => whnf)
        refine ⟨⟨⟨?_, by show m + 1 ≤ j; omega, g2, ?_, g4⟩, ?_, rfl, rfl⟩, by kernel_rfl, by kernel_rfl⟩
        · show j - (m + 1) < j - i; omega
        · intro q hq
          have hq : q < m + 1 := hq
          by_cases e : q = m
          · subst e; assumption
          · have := hs q m (by omega) (by omega)
            omega
        · rw [w64 _ (by omega) (by omega)]; rfl
      · refine ⟨(i, m), ?_⟩
        (conv => whnf)
        refine ⟨⟨⟨?_, e1, by show m ≤ l.length; omega, g3, ?_⟩, rfl, rfl, rfl⟩, by kernel_rfl, by kernel_rfl⟩
        · show m - i < j - i; omega
        · intro q h1 h2
          have h1 : m ≤ q := h1
          by_cases e : q = m
          · subst e; omega
          · have := hs m q (by omega) h2
            omega
    · have h := of_decide_eq_false h
      simp only [] at h
      have e : i = j := by omega
      subst e
      rw [inc_has hs g2 g3 g4, posI_eq g2 g3 (fun q => g4 i (Nat.le_refl i) q)]
      (repeat' (first | (refine ansS (fun hh => ?_) (fun hh => ?_) <;> (first | simp only [ansX] at hh | skip) <;> (first | (exfalso; omega) | (exfalso; simp [*] at hh; done) | (exfalso; revert hh; decide) | exact absurd (by assumption) hh | (conv => whnf))) | ((first | refine ⟨by kernel_rfl, ?_⟩ | refine ansB (by omega) (by omega) ?_ | refine ansB (by decide) (by decide) ?_ | refine And.intro (a := _ ≤ _) (by omega) ?_ | refine And.intro (a := _ ≠ _) (by omega) ?_ | ((try (refine Or.inl ?_; (conv => whnf))); (try (refine ⟨false, ?_⟩; (conv => whnf))); refine ⟨_, by exact pc_sNaN _, ?_⟩) | fail); (conv => whnf))))
      all_goals (refine congrArg (fun z => AV.tup [i64 i, AV.bool z]) ?_; first | (simp_all; done) | (rw [decide_eq_false (show ¬i < l.length by omega)]; rfl))
end Go.Proofs.Tryz.My
set_option maxRecDepth 100000
set_option maxHeartbeats 0
set_option linter.unusedVariables false
set_option linter.unusedSimpArgs false
namespace Go.Proofs.Tryz.My
open Go Go.Ev
def isSeq (q : Int) (x : EntT) : Bool := decide (x.seq = q)
def ixE (p : EntT → Bool) (l : List EntT) : Int := if l.any p then l.findIdx p else -1
theorem fi_lt {p : EntT → Bool} {l : List EntT} (h : l.any p = true) : l.findIdx p < l.length := by
  obtain ⟨x, hx, hp⟩ := List.any_eq_true.1 h
  exact List.findIdx_lt_length_of_exists ⟨x, hx, hp⟩
theorem fi_is {p : EntT → Bool} {l : List EntT} (h : l.any p = true) : p (l.getD (l.findIdx p) ent0) = true := by
  have hl := fi_lt h
  have := List.findIdx_getElem (p := p) (xs := l) (w := hl)
  simp only [List.getD, List.getElem?_eq_getElem hl, Option.getD_some]
  exact this
theorem fi_no {p : EntT → Bool} {l : List EntT} {m : Nat} (h : m < l.findIdx p) : p (l.getD m ent0) = false := by
  have hl : m < l.length := Nat.lt_of_lt_of_le h List.findIdx_le_length
  have := List.not_of_lt_findIdx h
  simp only [List.getD, List.getElem?_eq_getElem hl, Option.getD_some]
  simpa using this
theorem any_of {p : EntT → Bool} {l : List EntT} {k : Nat} (hk : k < l.length) (h : p (l.getD k ent0) = true) : l.any p = true := List.any_eq_true.2 ⟨l.getD k ent0, by simp only [List.getD, List.getElem?_eq_getElem hk, Option.getD_some]; exact List.getElem_mem hk, h⟩
theorem any_none {p : EntT → Bool} {l : List EntT} (h : ¬l.any p = true) (m : Nat) (hm : m < l.length) : p (l.getD m ent0) = false := by
  cases e : p (l.getD m ent0) with
  | false => rfl
  | true => exact absurd (any_of hm e) h
theorem ixE_hit {p : EntT → Bool} {l : List EntT} {k : Nat} (hk : k < l.length) (h : p (l.getD k ent0) = true) (hno : ∀ m, m < k → p (l.getD m ent0) = false) : ixE p l = k := by
  have ha := any_of hk h
  unfold ixE
  rw [if_pos ha]
  have e : l.findIdx p = k := by
    have h1 := fi_is ha
    rcases Nat.lt_trichotomy (l.findIdx p) k with h2 | h2 | h2
    · rw [hno _ h2] at h1; cases h1
    · exact h2
    · rw [fi_no h2] at h; cases h
  rw [e]
theorem ixE_none {p : EntT → Bool} {l : List EntT} (hno : ∀ m, m < l.length → p (l.getD m ent0) = false) : ixE p l = -1 := by
  unfold ixE
  rw [if_neg]
  intro h
  have h1 := fi_is h
  rw [hno _ (fi_lt h)] at h1
  cases h1
theorem pc_isSeq (x : EntT) (q : Int) : PC Tryz.prog 112 [ent x, .pt [i64 q] 0] (.bool (isSeq q x)) := by
  refine pc_of_bodyF hm Tryz.func112 (by kernel_rfl) ?_
  conv => whnf
  first | rfl | set_option pp.maxSteps 300 in trace_state
theorem pc_IxSeq (l : List EntT) (hl : l.length < 2 ^ 40) (q : Int) : PC Tryz.prog 73 [ents l, .fn (.func 112) [] [.pt [i64 q] 0]] (i64 (ixE (isSeq q) l)) := by
  refine pc_of_bodyF hm Tryz.func73 (by kernel_rfl) ?_
  conv => whnf
  refine Or.inr ⟨Nat, [8], [], [], fun k => [i64 k], fun _ => [], fun _ => [], fun k => l.length - k, fun k => k ≤ l.length ∧ ∀ m, m < k → isSeq q (l.getD m ent0) = false, ?_⟩
  (conv => whnf)
  refine ⟨⟨0, ?_⟩, ?_⟩
  · (conv => whnf)
    exact ⟨⟨⟨Nat.zero_le _, fun i hi => absurd hi (Nat.not_lt_zero i)⟩, rfl, rfl, rfl⟩, by kernel_rfl, by kernel_rfl⟩
  intro k hk
  (conv => whnf)
  refine ⟨fun h => ?_, fun h => ?_⟩
  · have h := of_decide_eq_true h
    have hkk : k < l.length := by omega
    (conv => whnf)
    refine ⟨⟨by omega, by omega⟩, ?_⟩
    (conv => whnf)
    rw [show Int.toNat (k : Int) = k from rfl]
    (repeat' (first | (refine ⟨_, by first | exact pc_isSeq _ _, ?_⟩; (conv => whnf)) | (refine Or.inl ?_; (conv => whnf); refine ⟨_, by first | exact pc_isSeq _ _, ?_⟩; (conv => whnf)) | (refine Or.inl ?_; (conv => whnf); refine ⟨false, ?_⟩; (conv => whnf); refine ⟨_, by first | exact pc_isSeq _ _, ?_⟩; (conv => whnf)) | (refine ⟨by kernel_rfl, ?_⟩; (conv => whnf)) | fail))
    refine ⟨fun q1 => ?_, fun q1 => ?_⟩
    · (conv => whnf)
      exact congrArg i64 (ixE_hit hkk q1 hk.2).symm
    · refine ⟨k + 1, ?_⟩
      (conv => whnf)
      refine ⟨⟨⟨?_, ?_, ?_⟩, ?_, rfl, rfl⟩, by kernel_rfl, by kernel_rfl⟩
      · show l.length - (k + 1) < l.length - k; omega
      · omega
      · intro m h2
        by_cases e : m = k
        · subst e; exact q1
        · exact hk.2 m (by omega)
      · rw [w64 _ (by omega) (by omega)]; rfl
  · have h := of_decide_eq_false h
    (conv => whnf)
    exact congrArg i64 (ixE_none fun m h2 => hk.2 m (by omega)).symm
theorem pw_entryT (b : BooksT) (o : Okay b) (q : Int) (h : b.log.any (isSeq q) = true) : PW Tryz.prog 82 [.ptr 0 0 0 0, i64 q] (dskR b) (.ptr 3 6 (b.log.findIdx (isSeq q)) 0) (dskR b) := by
  have c := pc_IxSeq b.log (lt40 o.l) q
  have hlt := fi_lt h
  have ho := o.l
  unfold ixE at c
  rw [if_pos h] at c
  generalize b.log.findIdx (isSeq q) = i at *
  refine pw_of_bodyF hm Tryz.func82 (by kernel_rfl) ⟨by kernel_rfl, ?_⟩
  conv => whnf
  (repeat' ((first | refine ansT ?_ | refine ansF ?_ | ((try (refine Or.inl ?_; (conv => whnf))); (try (refine ⟨false, ?_⟩; (conv => whnf))); refine ⟨_, by exact c, ?_⟩) | refine ansD (by first | (simp [*]; done) | omega) ?_ | refine ansN (by first | (simp [*]; done) | omega) ?_ | refine ⟨by kernel_rfl, ?_⟩ | refine ansB (by decide) (by first | decide | (simp; done) | (simp only [List.length_cons, List.length_nil]; decide)) ?_ | fail); (conv => whnf)))
  (repeat' (first | (refine ansS (fun hh => ?_) (fun hh => ?_) <;> (first | simp only [ansX] at hh | skip) <;> (first | (exfalso; omega) | (exfalso; simp [*] at hh; done) | (exfalso; revert hh; decide) | exact absurd (by assumption) hh | (conv => whnf))) | ((first | refine ⟨by kernel_rfl, ?_⟩ | refine ansB (by omega) (by omega) ?_ | refine ansB (by decide) (by decide) ?_ | refine And.intro (a := _ ≤ _) (by omega) ?_ | refine And.intro (a := _ ≠ _) (by omega) ?_ | fail); (conv => whnf))))
  refine ⟨[], by kernel_rfl, ?_⟩
  (conv => whnf)
  exact ⟨rfl, rfl⟩
theorem pw_entryF (b : BooksT) (o : Okay b) (q : Int) (h : ¬b.log.any (isSeq q) = true) : PW Tryz.prog 82 [.ptr 0 0 0 0, i64 q] (dskR b) .nilp (dskR b) := by
  have c := pc_IxSeq b.log (lt40 o.l) q
  unfold ixE at c
  rw [if_neg h] at c
  refine pw_of_bodyF hm Tryz.func82 (by kernel_rfl) ⟨by kernel_rfl, ?_⟩
  conv => whnf
  (repeat' ((first | refine ansT ?_ | refine ansF ?_ | ((try (refine Or.inl ?_; (conv => whnf))); (try (refine ⟨false, ?_⟩; (conv => whnf))); refine ⟨_, by exact c, ?_⟩) | refine ansD (by first | (simp [*]; done) | omega) ?_ | refine ansN (by first | (simp [*]; done) | omega) ?_ | refine ⟨by kernel_rfl, ?_⟩ | refine ansB (by decide) (by first | decide | (simp; done) | (simp only [List.length_cons, List.length_nil]; decide)) ?_ | fail); (conv => whnf)))
  (repeat' (first | (refine ansS (fun hh => ?_) (fun hh => ?_) <;> (first | simp only [ansX] at hh | skip) <;> (first | (exfalso; omega) | (exfalso; simp [*] at hh; done) | (exfalso; revert hh; decide) | exact absurd (by assumption) hh | (conv => whnf))) | ((first | refine ⟨by kernel_rfl, ?_⟩ | refine ansB (by omega) (by omega) ?_ | refine ansB (by decide) (by decide) ?_ | refine And.intro (a := _ ≤ _) (by omega) ?_ | refine And.intro (a := _ ≠ _) (by omega) ?_ | fail); (conv => whnf))))
  refine ⟨[], by kernel_rfl, ?_⟩
  (conv => whnf)
  exact ⟨rfl, rfl⟩
end Go.Proofs.Tryz.My
set_option maxRecDepth 100000
set_option maxHeartbeats 0
set_option linter.unusedVariables false
set_option linter.unusedSimpArgs false
namespace Go.Proofs.Tryz.My
open Go Go.Ev
theorem pw_mayS3 (b : BooksT) : PW Tryz.prog 56 [.ptr 0 0 0 0, .slc 1 [[u8 1], [u8 2], [u8 3]]] (dskR b) (.fn (.func 101) [] [.ptr 4 0 0 0, .ptr 5 0 0 0]) (dskR b ++ [.cells 99 [.ptr 0 0 0 0], .cells 22 [.slc 1 [[u8 1], [u8 2], [u8 3]]]]) := by
  refine pw_of_bodyFN hm Tryz.func56 (by kernel_rfl) ⟨by kernel_rfl, ?_⟩
  conv => whnf
  refine ⟨[2, 3], by kernel_rfl, ?_⟩
  (conv => whnf)
  exact ⟨rfl, rfl⟩
theorem pw_mayS1 (b : BooksT) : PW Tryz.prog 56 [.ptr 0 0 0 0, .slc 1 [[u8 3]]] (dskR b) (.fn (.func 101) [] [.ptr 4 0 0 0, .ptr 5 0 0 0]) (dskR b ++ [.cells 99 [.ptr 0 0 0 0], .cells 22 [.slc 1 [[u8 3]]]]) := by
  refine pw_of_bodyFN hm Tryz.func56 (by kernel_rfl) ⟨by kernel_rfl, ?_⟩
  conv => whnf
  refine ⟨[2, 3], by kernel_rfl, ?_⟩
  (conv => whnf)
  exact ⟨rfl, rfl⟩
def setD (x : EntT) (is : Bool) : EntT := ⟨x.seq, x.recipe, x.part, x.profile, x.verdict, is⟩
def mrkI (b : BooksT) (seq : Int) : Nat := b.log.findIdx (isSeq seq)
def mrkB (b : BooksT) (seq : Int) (is : Bool) : BooksT := ⟨b.keep, b.users, b.recipes, b.next, b.log.set (mrkI b seq) (setD (b.log.getD (mrkI b seq) ent0) is)⟩
def mrkE (b : BooksT) (user seq : Int) (is : Bool) (rr : List Int) : Int :=
  if chkB b then (if ¬(b.log.any (isSeq seq) = true ∧ (0 ≤ user ∧ user ≤ (b.users.length : Int) - 1)) then 6 else if mayB rr b.users user = false then 100 else if (b.log.getD (mrkI b seq) ent0).disputed = is then 101 else 0) else 8
theorem mrkE_zero {b : BooksT} {user seq : Int} {is : Bool} {rr : List Int} (h : mrkE b user seq is rr = 0) : chkB b = true ∧ b.log.any (isSeq seq) = true ∧ (0 ≤ user ∧ user ≤ (b.users.length : Int) - 1) ∧ mayB rr b.users user = true ∧ ¬(b.log.getD (mrkI b seq) ent0).disputed = is := by
  unfold mrkE at h
  by_cases h1 : chkB b = true
  · rw [if_pos h1] at h
    by_cases h2 : b.log.any (isSeq seq) = true ∧ (0 ≤ user ∧ user ≤ (b.users.length : Int) - 1)
    · rw [if_neg (fun q => q h2)] at h
      by_cases h3 : mayB rr b.users user = false
      · rw [if_pos h3] at h; cases h
      · rw [if_neg h3] at h
        by_cases h4 : (b.log.getD (mrkI b seq) ent0).disputed = is
        · rw [if_pos h4] at h; cases h
        · exact ⟨h1, h2.1, h2.2, by simpa using h3, h4⟩
    · rw [if_pos h2] at h; cases h
  · rw [if_neg h1] at h; cases h
theorem pw_markedOk3 (b : BooksT) (o : Okay b) (user seq : Int) (h : mrkE b user seq true [1, 2, 3] = 0) : PW Tryz.prog 80 [bks b, i64 user, i64 seq, .bool true, .slc 1 [[u8 1], [u8 2], [u8 3]]] [] (.tup [ownB (mrkB b seq true), i64 0]) (ownR (mrkB b seq true)) := by
  obtain ⟨hc, ha, hu, hmy, hd⟩ := mrkE_zero h
  clear h
  have s := chk_small hc
  have c1 := fun u => pc_may3c b.keep b.next u b.users b.recipes b.log 1 2 3 (lt40 o.u)
  have w0 : IntKind.i64.wrap ((b.users.length : Int) - 1) = (b.users.length : Int) - 1 := w64 _ (by omega) (by omega)
  have hlt : mrkI b seq < b.log.length := fi_lt ha
  have e := pw_entryT b o seq ha
  unfold mrkB
  unfold mrkI at *
  generalize b.log.findIdx (isSeq seq) = i at *
  refine pw_of_bodyF hm Tryz.func80 (by kernel_rfl) ⟨by kernel_rfl, ?_⟩
  conv => whnf
  (refine Or.inr ⟨[ ], [ 20, 18, 19, 21 ], by kernel_rfl, ?_⟩; (conv => whnf); refine ⟨[ ], _, _, _, _, ⟨ pw_open b o hc, rfl, rfl, by kernel_rfl⟩, ?_⟩)
  (conv => whnf)
  (repeat' ((first | refine ansT ?_ | refine ansF ?_ | refine ansD (by first | (simp [*]; done) | omega) ?_ | refine ansN (by first | (simp [*]; done) | omega) ?_ | refine ⟨by kernel_rfl, ?_⟩ | refine ansB (by decide) (by first | decide | (simp; done) | (simp only [List.length_cons, List.length_nil]; decide)) ?_ | fail); (conv => whnf)))
  (refine Or.inr ⟨[ ], [ ], by kernel_rfl, ?_⟩; (conv => whnf); refine ⟨[ 20, 18, 19, 21 ], _, _, _, _, ⟨ e, rfl, rfl, by kernel_rfl⟩, ?_⟩)
  (conv => whnf)
  (repeat' (first | (refine ansS (fun hh => ?_) (fun hh => ?_) <;> (first | simp only [ansX] at hh | skip) <;> (first | (exfalso; omega) | (exfalso; simp [*] at hh; done) | (exfalso; revert hh; decide) | exact absurd (by assumption) hh | (conv => whnf))) | ((first | refine ⟨by kernel_rfl, ?_⟩ | refine ansB (by omega) (by omega) ?_ | refine ansB (by decide) (by decide) ?_ | refine And.intro (a := _ ≤ _) (by omega) ?_ | refine And.intro (a := _ ≠ _) (by omega) ?_ | ((try (refine Or.inl ?_; (conv => whnf))); (try (refine ⟨false, ?_⟩; (conv => whnf))); refine ⟨_, by exact pc_fromU b o _, ?_⟩) | fail); (conv => whnf))))
  (refine Or.inr ⟨[ ], [ 49, 47 ], by kernel_rfl, ?_⟩; (conv => whnf); refine ⟨[ 20, 18, 19, 21 ], _, _, _, _, ⟨ pw_mayS3 b, rfl, rfl, by kernel_rfl⟩, ?_⟩)
  (conv => whnf)
  (repeat' (first | (refine ansS (fun hh => ?_) (fun hh => ?_) <;> (first | simp only [ansX] at hh | skip) <;> (first | (exfalso; omega) | (exfalso; simp [*] at hh; done) | (exfalso; revert hh; decide) | exact absurd (by assumption) hh | (conv => whnf))) | ((first | refine ⟨by kernel_rfl, ?_⟩ | refine ansB (by omega) (by omega) ?_ | refine ansB (by decide) (by decide) ?_ | refine And.intro (a := _ ≤ _) (by omega) ?_ | refine And.intro (a := _ ≠ _) (by omega) ?_ | ((try (refine Or.inl ?_; (conv => whnf))); (try (refine ⟨false, ?_⟩; (conv => whnf))); refine ⟨_, by exact c1 _, ?_⟩) | fail); (conv => whnf))))
  refine ⟨hlt, ?_⟩
  (conv => whnf)
  refine ⟨fun q => absurd (by simpa using q) hd, fun _ => ?_⟩
  (conv => whnf)
  refine ⟨setD (b.log.getD i ent0) true, ⟨rfl, rfl, hlt⟩, ?_⟩
  (conv => whnf)
  refine ⟨[18, 19, 21], by kernel_rfl, ?_⟩
  (conv => whnf)
  exact ⟨rfl, rfl⟩
theorem pc_markedBad3 (b : BooksT) (o : Okay b) (user seq : Int) (h : ¬mrkE b user seq true [1, 2, 3] = 0) : PC Tryz.prog 80 [bks b, i64 user, i64 seq, .bool true, .slc 1 [[u8 1], [u8 2], [u8 3]]] (.tup [newB 0, i64 (mrkE b user seq true [1, 2, 3])]) := by
  have c1 := fun u => pc_may3c b.keep b.next u b.users b.recipes b.log 1 2 3 (lt40 o.u)
  by_cases hc : chkB b = true
  · unfold mrkE at h ⊢
    rw [if_pos hc] at h ⊢
    have s := chk_small hc
    by_cases ha : b.log.any (isSeq seq) = true
    · have e := pw_entryT b o seq ha
      have hlt : mrkI b seq < b.log.length := fi_lt ha
      unfold mrkI at *
      generalize b.log.findIdx (isSeq seq) = i at *
      by_cases hu : 0 ≤ user ∧ user ≤ (b.users.length : Int) - 1
      · rw [if_neg (fun q => q ⟨ha, hu⟩)] at h ⊢
        by_cases hmy : mayB [1, 2, 3] b.users user = true
        · rw [if_neg (by rw [hmy]; decide)] at h ⊢
          have hd : (b.log.getD i ent0).disputed = true := Decidable.byContradiction fun q => h (if_neg q)
          rw [if_pos hd]
          refine pc_of_bodyF hm Tryz.func80 (by kernel_rfl) ?_
          conv => whnf
          (refine Or.inr ⟨[ ], [ 20, 18, 19, 21 ], by kernel_rfl, ?_⟩; (conv => whnf); refine ⟨[ ], _, _, _, _, ⟨ pw_open b o hc, rfl, rfl, by kernel_rfl⟩, ?_⟩)
          (conv => whnf)
          (repeat' ((first | refine ansT ?_ | refine ansF ?_ | refine ansD (by first | (simp [*]; done) | omega) ?_ | refine ansN (by first | (simp [*]; done) | omega) ?_ | refine ⟨by kernel_rfl, ?_⟩ | refine ansB (by decide) (by first | decide | (simp; done) | (simp only [List.length_cons, List.length_nil]; decide)) ?_ | fail); (conv => whnf)))
          (refine Or.inr ⟨[ ], [ ], by kernel_rfl, ?_⟩; (conv => whnf); refine ⟨[ 20, 18, 19, 21 ], _, _, _, _, ⟨ e, rfl, rfl, by kernel_rfl⟩, ?_⟩)
          (conv => whnf)
          (repeat' (first | (refine ansS (fun hh => ?_) (fun hh => ?_) <;> (first | simp only [ansX] at hh | skip) <;> (first | (exfalso; omega) | (exfalso; simp [*] at hh; done) | (exfalso; revert hh; decide) | exact absurd (by assumption) hh | (conv => whnf))) | ((first | refine ⟨by kernel_rfl, ?_⟩ | refine ansB (by omega) (by omega) ?_ | refine ansB (by decide) (by decide) ?_ | refine And.intro (a := _ ≤ _) (by omega) ?_ | refine And.intro (a := _ ≠ _) (by omega) ?_ | ((try (refine Or.inl ?_; (conv => whnf))); (try (refine ⟨false, ?_⟩; (conv => whnf))); refine ⟨_, by exact pc_fromU b o _, ?_⟩) | fail); (conv => whnf))))
          (refine Or.inr ⟨[ ], [ 49, 47 ], by kernel_rfl, ?_⟩; (conv => whnf); refine ⟨[ 20, 18, 19, 21 ], _, _, _, _, ⟨ pw_mayS3 b, rfl, rfl, by kernel_rfl⟩, ?_⟩)
          (conv => whnf)
          (repeat' (first | (refine ansS (fun hh => ?_) (fun hh => ?_) <;> (first | simp only [ansX] at hh | skip) <;> (first | (exfalso; omega) | (exfalso; simp [*] at hh; done) | (exfalso; revert hh; decide) | exact absurd (by assumption) hh | (conv => whnf))) | ((first | refine ⟨by kernel_rfl, ?_⟩ | refine ansB (by omega) (by omega) ?_ | refine ansB (by decide) (by decide) ?_ | refine And.intro (a := _ ≤ _) (by omega) ?_ | refine And.intro (a := _ ≠ _) (by omega) ?_ | ((try (refine Or.inl ?_; (conv => whnf))); (try (refine ⟨false, ?_⟩; (conv => whnf))); refine ⟨_, by exact c1 _, ?_⟩) | fail); (conv => whnf))))
          refine ⟨hlt, ?_⟩
          (conv => whnf)
          refine ⟨fun _ => ?_, fun q => absurd hd (by simpa using q)⟩
          (conv => whnf)
          all_goals (first | rfl | set_option pp.maxSteps 300 in trace_state)
        · have hm2 : mayB [1, 2, 3] b.users user = false := by simpa using hmy
          rw [if_pos hm2]
          refine pc_of_bodyF hm Tryz.func80 (by kernel_rfl) ?_
          conv => whnf
          (refine Or.inr ⟨[ ], [ 20, 18, 19, 21 ], by kernel_rfl, ?_⟩; (conv => whnf); refine ⟨[ ], _, _, _, _, ⟨ pw_open b o hc, rfl, rfl, by kernel_rfl⟩, ?_⟩)
          (conv => whnf)
          (repeat' ((first | refine ansT ?_ | refine ansF ?_ | refine ansD (by first | (simp [*]; done) | omega) ?_ | refine ansN (by first | (simp [*]; done) | omega) ?_ | refine ⟨by kernel_rfl, ?_⟩ | refine ansB (by decide) (by first | decide | (simp; done) | (simp only [List.length_cons, List.length_nil]; decide)) ?_ | fail); (conv => whnf)))
          (refine Or.inr ⟨[ ], [ ], by kernel_rfl, ?_⟩; (conv => whnf); refine ⟨[ 20, 18, 19, 21 ], _, _, _, _, ⟨ e, rfl, rfl, by kernel_rfl⟩, ?_⟩)
          (conv => whnf)
          (repeat' (first | (refine ansS (fun hh => ?_) (fun hh => ?_) <;> (first | simp only [ansX] at hh | skip) <;> (first | (exfalso; omega) | (exfalso; simp [*] at hh; done) | (exfalso; revert hh; decide) | exact absurd (by assumption) hh | (conv => whnf))) | ((first | refine ⟨by kernel_rfl, ?_⟩ | refine ansB (by omega) (by omega) ?_ | refine ansB (by decide) (by decide) ?_ | refine And.intro (a := _ ≤ _) (by omega) ?_ | refine And.intro (a := _ ≠ _) (by omega) ?_ | ((try (refine Or.inl ?_; (conv => whnf))); (try (refine ⟨false, ?_⟩; (conv => whnf))); refine ⟨_, by exact pc_fromU b o _, ?_⟩) | fail); (conv => whnf))))
          (refine Or.inr ⟨[ ], [ 49, 47 ], by kernel_rfl, ?_⟩; (conv => whnf); refine ⟨[ 20, 18, 19, 21 ], _, _, _, _, ⟨ pw_mayS3 b, rfl, rfl, by kernel_rfl⟩, ?_⟩)
          (conv => whnf)
          (repeat' (first | (refine ansS (fun hh => ?_) (fun hh => ?_) <;> (first | simp only [ansX] at hh | skip) <;> (first | (exfalso; omega) | (exfalso; simp [*] at hh; done) | (exfalso; revert hh; decide) | exact absurd (by assumption) hh | (conv => whnf))) | ((first | refine ⟨by kernel_rfl, ?_⟩ | refine ansB (by omega) (by omega) ?_ | refine ansB (by decide) (by decide) ?_ | refine And.intro (a := _ ≤ _) (by omega) ?_ | refine And.intro (a := _ ≠ _) (by omega) ?_ | ((try (refine Or.inl ?_; (conv => whnf))); (try (refine ⟨false, ?_⟩; (conv => whnf))); refine ⟨_, by exact c1 _, ?_⟩) | fail); (conv => whnf))))
          all_goals (first | rfl | set_option pp.maxSteps 300 in trace_state)
      · rw [if_pos (fun q => hu q.2)]
        refine pc_of_bodyF hm Tryz.func80 (by kernel_rfl) ?_
        conv => whnf
        (refine Or.inr ⟨[ ], [ 20, 18, 19, 21 ], by kernel_rfl, ?_⟩; (conv => whnf); refine ⟨[ ], _, _, _, _, ⟨ pw_open b o hc, rfl, rfl, by kernel_rfl⟩, ?_⟩)
        (conv => whnf)
        (repeat' ((first | refine ansT ?_ | refine ansF ?_ | refine ansD (by first | (simp [*]; done) | omega) ?_ | refine ansN (by first | (simp [*]; done) | omega) ?_ | refine ⟨by kernel_rfl, ?_⟩ | refine ansB (by decide) (by first | decide | (simp; done) | (simp only [List.length_cons, List.length_nil]; decide)) ?_ | fail); (conv => whnf)))
        (refine Or.inr ⟨[ ], [ ], by kernel_rfl, ?_⟩; (conv => whnf); refine ⟨[ 20, 18, 19, 21 ], _, _, _, _, ⟨ e, rfl, rfl, by kernel_rfl⟩, ?_⟩)
        (conv => whnf)
        (repeat' (first | (refine ansS (fun hh => ?_) (fun hh => ?_) <;> (first | simp only [ansX] at hh | skip) <;> (first | (exfalso; omega) | (exfalso; simp [*] at hh; done) | (exfalso; revert hh; decide) | exact absurd (by assumption) hh | (conv => whnf))) | ((first | refine ⟨by kernel_rfl, ?_⟩ | refine ansB (by omega) (by omega) ?_ | refine ansB (by decide) (by decide) ?_ | refine And.intro (a := _ ≤ _) (by omega) ?_ | refine And.intro (a := _ ≠ _) (by omega) ?_ | ((try (refine Or.inl ?_; (conv => whnf))); (try (refine ⟨false, ?_⟩; (conv => whnf))); refine ⟨_, by exact pc_fromU b o _, ?_⟩) | fail); (conv => whnf))))
        all_goals (first | rfl | set_option pp.maxSteps 300 in trace_state)
    · have e := pw_entryF b o seq ha
      rw [if_pos (fun q => ha q.1)]
      refine pc_of_bodyF hm Tryz.func80 (by kernel_rfl) ?_
      conv => whnf
      (refine Or.inr ⟨[ ], [ 20, 18, 19, 21 ], by kernel_rfl, ?_⟩; (conv => whnf); refine ⟨[ ], _, _, _, _, ⟨ pw_open b o hc, rfl, rfl, by kernel_rfl⟩, ?_⟩)
      (conv => whnf)
      (repeat' ((first | refine ansT ?_ | refine ansF ?_ | refine ansD (by first | (simp [*]; done) | omega) ?_ | refine ansN (by first | (simp [*]; done) | omega) ?_ | refine ⟨by kernel_rfl, ?_⟩ | refine ansB (by decide) (by first | decide | (simp; done) | (simp only [List.length_cons, List.length_nil]; decide)) ?_ | fail); (conv => whnf)))
      (refine Or.inr ⟨[ ], [ ], by kernel_rfl, ?_⟩; (conv => whnf); refine ⟨[ 20, 18, 19, 21 ], _, _, _, _, ⟨ e, rfl, rfl, by kernel_rfl⟩, ?_⟩)
      (conv => whnf)
      (repeat' (first | (refine ansS (fun hh => ?_) (fun hh => ?_) <;> (first | simp only [ansX] at hh | skip) <;> (first | (exfalso; omega) | (exfalso; simp [*] at hh; done) | (exfalso; revert hh; decide) | exact absurd (by assumption) hh | (conv => whnf))) | ((first | refine ⟨by kernel_rfl, ?_⟩ | refine ansB (by omega) (by omega) ?_ | refine ansB (by decide) (by decide) ?_ | refine And.intro (a := _ ≤ _) (by omega) ?_ | refine And.intro (a := _ ≠ _) (by omega) ?_ | ((try (refine Or.inl ?_; (conv => whnf))); (try (refine ⟨false, ?_⟩; (conv => whnf))); refine ⟨_, by exact pc_fromU b o _, ?_⟩) | fail); (conv => whnf))))
      all_goals (first | rfl | set_option pp.maxSteps 300 in trace_state)
  · have hc2 : chkB b = false := by simpa using hc
    have c := pc_openBad b o hc2
    unfold mrkE
    rw [if_neg hc]
    refine pc_of_bodyF hm Tryz.func80 (by kernel_rfl) ?_
    conv => whnf
    (repeat' ((first | refine ansT ?_ | refine ansF ?_ | ((try (refine Or.inl ?_; (conv => whnf))); (try (refine ⟨false, ?_⟩; (conv => whnf))); refine ⟨_, by exact c, ?_⟩) | refine ansD (by first | (simp [*]; done) | omega) ?_ | refine ansN (by first | (simp [*]; done) | omega) ?_ | refine ⟨by kernel_rfl, ?_⟩ | refine ansB (by decide) (by first | decide | (simp; done) | (simp only [List.length_cons, List.length_nil]; decide)) ?_ | fail); (conv => whnf)))
    all_goals (first | rfl | set_option pp.maxSteps 300 in trace_state)
theorem pw_markedOk1 (b : BooksT) (o : Okay b) (user seq : Int) (h : mrkE b user seq false [3] = 0) : PW Tryz.prog 80 [bks b, i64 user, i64 seq, .bool false, .slc 1 [[u8 3]]] [] (.tup [ownB (mrkB b seq false), i64 0]) (ownR (mrkB b seq false)) := by
  obtain ⟨hc, ha, hu, hmy, hd⟩ := mrkE_zero h
  clear h
  have s := chk_small hc
  have c1 := fun u => pc_may1c b.keep b.next u b.users b.recipes b.log 3 (lt40 o.u)
  have w0 : IntKind.i64.wrap ((b.users.length : Int) - 1) = (b.users.length : Int) - 1 := w64 _ (by omega) (by omega)
  have hlt : mrkI b seq < b.log.length := fi_lt ha
  have e := pw_entryT b o seq ha
  unfold mrkB
  unfold mrkI at *
  generalize b.log.findIdx (isSeq seq) = i at *
  refine pw_of_bodyF hm Tryz.func80 (by kernel_rfl) ⟨by kernel_rfl, ?_⟩
  conv => whnf
  (refine Or.inr ⟨[ ], [ 20, 18, 19, 21 ], by kernel_rfl, ?_⟩; (conv => whnf); refine ⟨[ ], _, _, _, _, ⟨ pw_open b o hc, rfl, rfl, by kernel_rfl⟩, ?_⟩)
  (conv => whnf)
  (repeat' ((first | refine ansT ?_ | refine ansF ?_ | refine ansD (by first | (simp [*]; done) | omega) ?_ | refine ansN (by first | (simp [*]; done) | omega) ?_ | refine ⟨by kernel_rfl, ?_⟩ | refine ansB (by decide) (by first | decide | (simp; done) | (simp only [List.length_cons, List.length_nil]; decide)) ?_ | fail); (conv => whnf)))
  (refine Or.inr ⟨[ ], [ ], by kernel_rfl, ?_⟩; (conv => whnf); refine ⟨[ 20, 18, 19, 21 ], _, _, _, _, ⟨ e, rfl, rfl, by kernel_rfl⟩, ?_⟩)
  (conv => whnf)
  (repeat' (first | (refine ansS (fun hh => ?_) (fun hh => ?_) <;> (first | simp only [ansX] at hh | skip) <;> (first | (exfalso; omega) | (exfalso; simp [*] at hh; done) | (exfalso; revert hh; decide) | exact absurd (by assumption) hh | (conv => whnf))) | ((first | refine ⟨by kernel_rfl, ?_⟩ | refine ansB (by omega) (by omega) ?_ | refine ansB (by decide) (by decide) ?_ | refine And.intro (a := _ ≤ _) (by omega) ?_ | refine And.intro (a := _ ≠ _) (by omega) ?_ | ((try (refine Or.inl ?_; (conv => whnf))); (try (refine ⟨false, ?_⟩; (conv => whnf))); refine ⟨_, by exact pc_fromU b o _, ?_⟩) | fail); (conv => whnf))))
  (refine Or.inr ⟨[ ], [ 49, 47 ], by kernel_rfl, ?_⟩; (conv => whnf); refine ⟨[ 20, 18, 19, 21 ], _, _, _, _, ⟨ pw_mayS1 b, rfl, rfl, by kernel_rfl⟩, ?_⟩)
  (conv => whnf)
  (repeat' (first | (refine ansS (fun hh => ?_) (fun hh => ?_) <;> (first | simp only [ansX] at hh | skip) <;> (first | (exfalso; omega) | (exfalso; simp [*] at hh; done) | (exfalso; revert hh; decide) | exact absurd (by assumption) hh | (conv => whnf))) | ((first | refine ⟨by kernel_rfl, ?_⟩ | refine ansB (by omega) (by omega) ?_ | refine ansB (by decide) (by decide) ?_ | refine And.intro (a := _ ≤ _) (by omega) ?_ | refine And.intro (a := _ ≠ _) (by omega) ?_ | ((try (refine Or.inl ?_; (conv => whnf))); (try (refine ⟨false, ?_⟩; (conv => whnf))); refine ⟨_, by exact c1 _, ?_⟩) | fail); (conv => whnf))))
  refine ⟨hlt, ?_⟩
  (conv => whnf)
  refine ⟨fun q => absurd (by simpa using q) hd, fun _ => ?_⟩
  (conv => whnf)
  refine ⟨setD (b.log.getD i ent0) false, ⟨rfl, rfl, hlt⟩, ?_⟩
  (conv => whnf)
  refine ⟨[18, 19, 21], by kernel_rfl, ?_⟩
  (conv => whnf)
  exact ⟨rfl, rfl⟩
theorem pc_markedBad1 (b : BooksT) (o : Okay b) (user seq : Int) (h : ¬mrkE b user seq false [3] = 0) : PC Tryz.prog 80 [bks b, i64 user, i64 seq, .bool false, .slc 1 [[u8 3]]] (.tup [newB 0, i64 (mrkE b user seq false [3])]) := by
  have c1 := fun u => pc_may1c b.keep b.next u b.users b.recipes b.log 3 (lt40 o.u)
  by_cases hc : chkB b = true
  · unfold mrkE at h ⊢
    rw [if_pos hc] at h ⊢
    have s := chk_small hc
    by_cases ha : b.log.any (isSeq seq) = true
    · have e := pw_entryT b o seq ha
      have hlt : mrkI b seq < b.log.length := fi_lt ha
      unfold mrkI at *
      generalize b.log.findIdx (isSeq seq) = i at *
      by_cases hu : 0 ≤ user ∧ user ≤ (b.users.length : Int) - 1
      · rw [if_neg (fun q => q ⟨ha, hu⟩)] at h ⊢
        by_cases hmy : mayB [3] b.users user = true
        · rw [if_neg (by rw [hmy]; decide)] at h ⊢
          have hd : (b.log.getD i ent0).disputed = false := Decidable.byContradiction fun q => h (if_neg q)
          rw [if_pos hd]
          refine pc_of_bodyF hm Tryz.func80 (by kernel_rfl) ?_
          conv => whnf
          (refine Or.inr ⟨[ ], [ 20, 18, 19, 21 ], by kernel_rfl, ?_⟩; (conv => whnf); refine ⟨[ ], _, _, _, _, ⟨ pw_open b o hc, rfl, rfl, by kernel_rfl⟩, ?_⟩)
          (conv => whnf)
          (repeat' ((first | refine ansT ?_ | refine ansF ?_ | refine ansD (by first | (simp [*]; done) | omega) ?_ | refine ansN (by first | (simp [*]; done) | omega) ?_ | refine ⟨by kernel_rfl, ?_⟩ | refine ansB (by decide) (by first | decide | (simp; done) | (simp only [List.length_cons, List.length_nil]; decide)) ?_ | fail); (conv => whnf)))
          (refine Or.inr ⟨[ ], [ ], by kernel_rfl, ?_⟩; (conv => whnf); refine ⟨[ 20, 18, 19, 21 ], _, _, _, _, ⟨ e, rfl, rfl, by kernel_rfl⟩, ?_⟩)
          (conv => whnf)
          (repeat' (first | (refine ansS (fun hh => ?_) (fun hh => ?_) <;> (first | simp only [ansX] at hh | skip) <;> (first | (exfalso; omega) | (exfalso; simp [*] at hh; done) | (exfalso; revert hh; decide) | exact absurd (by assumption) hh | (conv => whnf))) | ((first | refine ⟨by kernel_rfl, ?_⟩ | refine ansB (by omega) (by omega) ?_ | refine ansB (by decide) (by decide) ?_ | refine And.intro (a := _ ≤ _) (by omega) ?_ | refine And.intro (a := _ ≠ _) (by omega) ?_ | ((try (refine Or.inl ?_; (conv => whnf))); (try (refine ⟨false, ?_⟩; (conv => whnf))); refine ⟨_, by exact pc_fromU b o _, ?_⟩) | fail); (conv => whnf))))
          (refine Or.inr ⟨[ ], [ 49, 47 ], by kernel_rfl, ?_⟩; (conv => whnf); refine ⟨[ 20, 18, 19, 21 ], _, _, _, _, ⟨ pw_mayS1 b, rfl, rfl, by kernel_rfl⟩, ?_⟩)
          (conv => whnf)
          (repeat' (first | (refine ansS (fun hh => ?_) (fun hh => ?_) <;> (first | simp only [ansX] at hh | skip) <;> (first | (exfalso; omega) | (exfalso; simp [*] at hh; done) | (exfalso; revert hh; decide) | exact absurd (by assumption) hh | (conv => whnf))) | ((first | refine ⟨by kernel_rfl, ?_⟩ | refine ansB (by omega) (by omega) ?_ | refine ansB (by decide) (by decide) ?_ | refine And.intro (a := _ ≤ _) (by omega) ?_ | refine And.intro (a := _ ≠ _) (by omega) ?_ | ((try (refine Or.inl ?_; (conv => whnf))); (try (refine ⟨false, ?_⟩; (conv => whnf))); refine ⟨_, by exact c1 _, ?_⟩) | fail); (conv => whnf))))
          refine ⟨hlt, ?_⟩
          (conv => whnf)
          refine ⟨fun _ => ?_, fun q => absurd hd (by simpa using q)⟩
          (conv => whnf)
          all_goals (first | rfl | set_option pp.maxSteps 300 in trace_state)
        · have hm2 : mayB [3] b.users user = false := by simpa using hmy
          rw [if_pos hm2]
          refine pc_of_bodyF hm Tryz.func80 (by kernel_rfl) ?_
          conv => whnf
          (refine Or.inr ⟨[ ], [ 20, 18, 19, 21 ], by kernel_rfl, ?_⟩; (conv => whnf); refine ⟨[ ], _, _, _, _, ⟨ pw_open b o hc, rfl, rfl, by kernel_rfl⟩, ?_⟩)
          (conv => whnf)
          (repeat' ((first | refine ansT ?_ | refine ansF ?_ | refine ansD (by first | (simp [*]; done) | omega) ?_ | refine ansN (by first | (simp [*]; done) | omega) ?_ | refine ⟨by kernel_rfl, ?_⟩ | refine ansB (by decide) (by first | decide | (simp; done) | (simp only [List.length_cons, List.length_nil]; decide)) ?_ | fail); (conv => whnf)))
          (refine Or.inr ⟨[ ], [ ], by kernel_rfl, ?_⟩; (conv => whnf); refine ⟨[ 20, 18, 19, 21 ], _, _, _, _, ⟨ e, rfl, rfl, by kernel_rfl⟩, ?_⟩)
          (conv => whnf)
          (repeat' (first | (refine ansS (fun hh => ?_) (fun hh => ?_) <;> (first | simp only [ansX] at hh | skip) <;> (first | (exfalso; omega) | (exfalso; simp [*] at hh; done) | (exfalso; revert hh; decide) | exact absurd (by assumption) hh | (conv => whnf))) | ((first | refine ⟨by kernel_rfl, ?_⟩ | refine ansB (by omega) (by omega) ?_ | refine ansB (by decide) (by decide) ?_ | refine And.intro (a := _ ≤ _) (by omega) ?_ | refine And.intro (a := _ ≠ _) (by omega) ?_ | ((try (refine Or.inl ?_; (conv => whnf))); (try (refine ⟨false, ?_⟩; (conv => whnf))); refine ⟨_, by exact pc_fromU b o _, ?_⟩) | fail); (conv => whnf))))
          (refine Or.inr ⟨[ ], [ 49, 47 ], by kernel_rfl, ?_⟩; (conv => whnf); refine ⟨[ 20, 18, 19, 21 ], _, _, _, _, ⟨ pw_mayS1 b, rfl, rfl, by kernel_rfl⟩, ?_⟩)
          (conv => whnf)
          (repeat' (first | (refine ansS (fun hh => ?_) (fun hh => ?_) <;> (first | simp only [ansX] at hh | skip) <;> (first | (exfalso; omega) | (exfalso; simp [*] at hh; done) | (exfalso; revert hh; decide) | exact absurd (by assumption) hh | (conv => whnf))) | ((first | refine ⟨by kernel_rfl, ?_⟩ | refine ansB (by omega) (by omega) ?_ | refine ansB (by decide) (by decide) ?_ | refine And.intro (a := _ ≤ _) (by omega) ?_ | refine And.intro (a := _ ≠ _) (by omega) ?_ | ((try (refine Or.inl ?_; (conv => whnf))); (try (refine ⟨false, ?_⟩; (conv => whnf))); refine ⟨_, by exact c1 _, ?_⟩) | fail); (conv => whnf))))
          all_goals (first | rfl | set_option pp.maxSteps 300 in trace_state)
      · rw [if_pos (fun q => hu q.2)]
        refine pc_of_bodyF hm Tryz.func80 (by kernel_rfl) ?_
        conv => whnf
        (refine Or.inr ⟨[ ], [ 20, 18, 19, 21 ], by kernel_rfl, ?_⟩; (conv => whnf); refine ⟨[ ], _, _, _, _, ⟨ pw_open b o hc, rfl, rfl, by kernel_rfl⟩, ?_⟩)
        (conv => whnf)
        (repeat' ((first | refine ansT ?_ | refine ansF ?_ | refine ansD (by first | (simp [*]; done) | omega) ?_ | refine ansN (by first | (simp [*]; done) | omega) ?_ | refine ⟨by kernel_rfl, ?_⟩ | refine ansB (by decide) (by first | decide | (simp; done) | (simp only [List.length_cons, List.length_nil]; decide)) ?_ | fail); (conv => whnf)))
        (refine Or.inr ⟨[ ], [ ], by kernel_rfl, ?_⟩; (conv => whnf); refine ⟨[ 20, 18, 19, 21 ], _, _, _, _, ⟨ e, rfl, rfl, by kernel_rfl⟩, ?_⟩)
        (conv => whnf)
        (repeat' (first | (refine ansS (fun hh => ?_) (fun hh => ?_) <;> (first | simp only [ansX] at hh | skip) <;> (first | (exfalso; omega) | (exfalso; simp [*] at hh; done) | (exfalso; revert hh; decide) | exact absurd (by assumption) hh | (conv => whnf))) | ((first | refine ⟨by kernel_rfl, ?_⟩ | refine ansB (by omega) (by omega) ?_ | refine ansB (by decide) (by decide) ?_ | refine And.intro (a := _ ≤ _) (by omega) ?_ | refine And.intro (a := _ ≠ _) (by omega) ?_ | ((try (refine Or.inl ?_; (conv => whnf))); (try (refine ⟨false, ?_⟩; (conv => whnf))); refine ⟨_, by exact pc_fromU b o _, ?_⟩) | fail); (conv => whnf))))
        all_goals (first | rfl | set_option pp.maxSteps 300 in trace_state)
    · have e := pw_entryF b o seq ha
      rw [if_pos (fun q => ha q.1)]
      refine pc_of_bodyF hm Tryz.func80 (by kernel_rfl) ?_
      conv => whnf
      (refine Or.inr ⟨[ ], [ 20, 18, 19, 21 ], by kernel_rfl, ?_⟩; (conv => whnf); refine ⟨[ ], _, _, _, _, ⟨ pw_open b o hc, rfl, rfl, by kernel_rfl⟩, ?_⟩)
      (conv => whnf)
      (repeat' ((first | refine ansT ?_ | refine ansF ?_ | refine ansD (by first | (simp [*]; done) | omega) ?_ | refine ansN (by first | (simp [*]; done) | omega) ?_ | refine ⟨by kernel_rfl, ?_⟩ | refine ansB (by decide) (by first | decide | (simp; done) | (simp only [List.length_cons, List.length_nil]; decide)) ?_ | fail); (conv => whnf)))
      (refine Or.inr ⟨[ ], [ ], by kernel_rfl, ?_⟩; (conv => whnf); refine ⟨[ 20, 18, 19, 21 ], _, _, _, _, ⟨ e, rfl, rfl, by kernel_rfl⟩, ?_⟩)
      (conv => whnf)
      (repeat' (first | (refine ansS (fun hh => ?_) (fun hh => ?_) <;> (first | simp only [ansX] at hh | skip) <;> (first | (exfalso; omega) | (exfalso; simp [*] at hh; done) | (exfalso; revert hh; decide) | exact absurd (by assumption) hh | (conv => whnf))) | ((first | refine ⟨by kernel_rfl, ?_⟩ | refine ansB (by omega) (by omega) ?_ | refine ansB (by decide) (by decide) ?_ | refine And.intro (a := _ ≤ _) (by omega) ?_ | refine And.intro (a := _ ≠ _) (by omega) ?_ | ((try (refine Or.inl ?_; (conv => whnf))); (try (refine ⟨false, ?_⟩; (conv => whnf))); refine ⟨_, by exact pc_fromU b o _, ?_⟩) | fail); (conv => whnf))))
      all_goals (first | rfl | set_option pp.maxSteps 300 in trace_state)
  · have hc2 : chkB b = false := by simpa using hc
    have c := pc_openBad b o hc2
    unfold mrkE
    rw [if_neg hc]
    refine pc_of_bodyF hm Tryz.func80 (by kernel_rfl) ?_
    conv => whnf
    (repeat' ((first | refine ansT ?_ | refine ansF ?_ | ((try (refine Or.inl ?_; (conv => whnf))); (try (refine ⟨false, ?_⟩; (conv => whnf))); refine ⟨_, by exact c, ?_⟩) | refine ansD (by first | (simp [*]; done) | omega) ?_ | refine ansN (by first | (simp [*]; done) | omega) ?_ | refine ⟨by kernel_rfl, ?_⟩ | refine ansB (by decide) (by first | decide | (simp; done) | (simp only [List.length_cons, List.length_nil]; decide)) ?_ | fail); (conv => whnf)))
    all_goals (first | rfl | set_option pp.maxSteps 300 in trace_state)
end Go.Proofs.Tryz.My
set_option maxRecDepth 100000
set_option maxHeartbeats 0
set_option linter.unusedVariables false
set_option linter.unusedSimpArgs false
namespace Go.Proofs.Tryz.My
open Go Go.Ev
def disE (b : BooksT) (user seq : Int) : Int := mrkE b user seq true [1, 2, 3]
def setE (b : BooksT) (user seq : Int) : Int := mrkE b user seq false [3]
theorem pw_DisputeOk (b : BooksT) (o : Okay b) (user seq : Int) (h : disE b user seq = 0) : PW Tryz.prog 34 [bks b, i64 user, i64 seq] [] (.tup [ownB (mrkB b seq true), i64 0]) (ownR (mrkB b seq true)) := by
  have c : PW Tryz.prog 80 [bks b, i64 user, i64 seq, .tt, .slc 1 [[u8 1], [u8 2], [u8 3]]] [] (.tup [ownB (mrkB b seq true), i64 0]) (ownR (mrkB b seq true)) := (pw_markedOk3 b o user seq h).tts
  refine pw_of_bodyF hm Tryz.func34 (by kernel_rfl) ⟨by kernel_rfl, ?_⟩
  conv => whnf
  (refine Or.inr ⟨[11 ], [ 13, 9, 10 ], by kernel_rfl, ?_⟩; (conv => whnf); refine ⟨[ ], _, _, _, _, ⟨ c, rfl, rfl, by kernel_rfl⟩, ?_⟩)
  (conv => whnf)
  (repeat' (first | (refine ansS (fun hh => ?_) (fun hh => ?_) <;> (first | simp only [ansX] at hh | skip) <;> (first | (exfalso; omega) | (exfalso; simp [*] at hh; done) | (exfalso; revert hh; decide) | exact absurd (by assumption) hh | (conv => whnf))) | ((first | refine ⟨by kernel_rfl, ?_⟩ | refine ansB (by omega) (by omega) ?_ | refine ansB (by decide) (by decide) ?_ | refine And.intro (a := _ ≤ _) (by omega) ?_ | refine And.intro (a := _ ≠ _) (by omega) ?_ | fail); (conv => whnf))))
  refine ⟨[13, 9, 10], by kernel_rfl, ?_⟩
  (conv => whnf)
  exact ⟨rfl, rfl⟩
theorem pc_DisputeBad (b : BooksT) (o : Okay b) (user seq : Int) (h : ¬disE b user seq = 0) : PC Tryz.prog 34 [bks b, i64 user, i64 seq] (.tup [newB 0, i64 (disE b user seq)]) := by
  have c : PC Tryz.prog 80 [bks b, i64 user, i64 seq, .tt, .slc 1 [[u8 1], [u8 2], [u8 3]]] (.tup [newB 0, i64 (mrkE b user seq true [1, 2, 3])]) := (pc_markedBad3 b o user seq h).tts
  refine pc_of_bodyF hm Tryz.func34 (by kernel_rfl) ?_
  conv => whnf
  ((first | refine Or.inl ?_ | skip); (conv => whnf); refine ⟨true, ?_⟩; (conv => whnf); refine ⟨_, c, ?_⟩; (conv => whnf))
  (repeat' ((first | refine ansT ?_ | refine ansF ?_ | refine ansD (by first | (simp [*]; done) | omega) ?_ | refine ansN (by first | (simp [*]; done) | omega) ?_ | refine ⟨by kernel_rfl, ?_⟩ | refine ansB (by decide) (by first | decide | (simp; done) | (simp only [List.length_cons, List.length_nil]; decide)) ?_ | fail); (conv => whnf)))
  all_goals (first | rfl | set_option pp.maxSteps 300 in trace_state)
theorem pw_SettleOk (b : BooksT) (o : Okay b) (user seq : Int) (h : setE b user seq = 0) : PW Tryz.prog 36 [bks b, i64 user, i64 seq] [] (.tup [ownB (mrkB b seq false), i64 0]) (ownR (mrkB b seq false)) := by
  have c : PW Tryz.prog 80 [bks b, i64 user, i64 seq, .ff, .slc 1 [[u8 3]]] [] (.tup [ownB (mrkB b seq false), i64 0]) (ownR (mrkB b seq false)) := (pw_markedOk1 b o user seq h).tts
  refine pw_of_bodyF hm Tryz.func36 (by kernel_rfl) ⟨by kernel_rfl, ?_⟩
  conv => whnf
  (refine Or.inr ⟨[11 ], [ 13, 9, 10 ], by kernel_rfl, ?_⟩; (conv => whnf); refine ⟨[ ], _, _, _, _, ⟨ c, rfl, rfl, by kernel_rfl⟩, ?_⟩)
  (conv => whnf)
  (repeat' (first | (refine ansS (fun hh => ?_) (fun hh => ?_) <;> (first | simp only [ansX] at hh | skip) <;> (first | (exfalso; omega) | (exfalso; simp [*] at hh; done) | (exfalso; revert hh; decide) | exact absurd (by assumption) hh | (conv => whnf))) | ((first | refine ⟨by kernel_rfl, ?_⟩ | refine ansB (by omega) (by omega) ?_ | refine ansB (by decide) (by decide) ?_ | refine And.intro (a := _ ≤ _) (by omega) ?_ | refine And.intro (a := _ ≠ _) (by omega) ?_ | fail); (conv => whnf))))
  refine ⟨[13, 9, 10], by kernel_rfl, ?_⟩
  (conv => whnf)
  exact ⟨rfl, rfl⟩
theorem pc_SettleBad (b : BooksT) (o : Okay b) (user seq : Int) (h : ¬setE b user seq = 0) : PC Tryz.prog 36 [bks b, i64 user, i64 seq] (.tup [newB 0, i64 (setE b user seq)]) := by
  have c : PC Tryz.prog 80 [bks b, i64 user, i64 seq, .ff, .slc 1 [[u8 3]]] (.tup [newB 0, i64 (mrkE b user seq false [3])]) := (pc_markedBad1 b o user seq h).tts
  refine pc_of_bodyF hm Tryz.func36 (by kernel_rfl) ?_
  conv => whnf
  ((first | refine Or.inl ?_ | skip); (conv => whnf); refine ⟨true, ?_⟩; (conv => whnf); refine ⟨_, c, ?_⟩; (conv => whnf))
  (repeat' ((first | refine ansT ?_ | refine ansF ?_ | refine ansD (by first | (simp [*]; done) | omega) ?_ | refine ansN (by first | (simp [*]; done) | omega) ?_ | refine ⟨by kernel_rfl, ?_⟩ | refine ansB (by decide) (by first | decide | (simp; done) | (simp only [List.length_cons, List.length_nil]; decide)) ?_ | fail); (conv => whnf)))
  all_goals (first | rfl | set_option pp.maxSteps 300 in trace_state)
def repE (b : BooksT) (seq : Int) : Int := if chkB b then (if b.log.any (isSeq seq) then 0 else 6) else 8
def repV (b : BooksT) (seq : Int) : Int := if chkB b then (if b.log.any (isSeq seq) then (b.log.getD (mrkI b seq) ent0).verdict else 0) else 0
theorem chk_log {b : BooksT} (h : chkB b = true) (i : Nat) (hi : i < b.log.length) : (0 ≤ (b.log.getD i ent0).recipe ∧ (b.log.getD i ent0).recipe ≤ (b.recipes.length : Int) - 1) ∧ (meaF (b.recipes.getD (b.log.getD i ent0).recipe.toNat rec0).gauge (b.log.getD i ent0).profile).2.2 = 0 ∧ (meaF (b.recipes.getD (b.log.getD i ent0).recipe.toNat rec0).gauge (b.log.getD i ent0).profile).2.1 = (b.log.getD i ent0).verdict := by
  simp only [chkB, Bool.and_eq_true] at h
  have h := all_range.1 h.2 i hi
  simp only [entB, withB, Bool.and_eq_true, decide_eq_true_eq] at h
  exact ⟨h.1.1.2, h.2.1⟩
theorem pc_Replay (b : BooksT) (o : Okay b) (seq : Int) : PC Tryz.prog 38 [bks b, i64 seq] (.tup [u8 (repV b seq), i64 (repE b seq)]) := by
  unfold repV repE
  by_cases hc : chkB b = true
  · rw [if_pos hc, if_pos hc]
    have s := chk_small hc
    by_cases ha : b.log.any (isSeq seq) = true
    · rw [if_pos ha, if_pos ha]
      have e := pw_entryT b o seq ha
      have hlt : mrkI b seq < b.log.length := fi_lt ha
      obtain ⟨hr, hm0, hv⟩ := chk_log hc _ hlt
      unfold mrkI at *
      generalize b.log.findIdx (isSeq seq) = i at *
      have c := pc_Measure (b.recipes.getD (b.log.getD i ent0).recipe.toNat rec0).gauge (b.log.getD i ent0).profile (lt40 (o.p i))
      refine pc_of_bodyF hm Tryz.func38 (by kernel_rfl) ?_
      conv => whnf
      (refine Or.inr ⟨[ ], [ 16, 14, 15, 17 ], by kernel_rfl, ?_⟩; (conv => whnf); refine ⟨[ ], _, _, _, _, ⟨ pw_open b o hc, rfl, rfl, by kernel_rfl⟩, ?_⟩)
      (conv => whnf)
      (repeat' ((first | refine ansT ?_ | refine ansF ?_ | refine ansD (by first | (simp [*]; done) | omega) ?_ | refine ansN (by first | (simp [*]; done) | omega) ?_ | refine ⟨by kernel_rfl, ?_⟩ | refine ansB (by decide) (by first | decide | (simp; done) | (simp only [List.length_cons, List.length_nil]; decide)) ?_ | fail); (conv => whnf)))
      (refine Or.inr ⟨[ ], [ ], by kernel_rfl, ?_⟩; (conv => whnf); refine ⟨[ 16, 14, 15, 17 ], _, _, _, _, ⟨ e, rfl, rfl, by kernel_rfl⟩, ?_⟩)
      (conv => whnf)
      (repeat' (first | (refine ansS (fun hh => ?_) (fun hh => ?_) <;> (first | simp only [ansX] at hh | skip) <;> (first | (exfalso; omega) | (exfalso; simp [*] at hh; done) | (exfalso; revert hh; decide) | exact absurd (by assumption) hh | (conv => whnf))) | ((first | refine ⟨by kernel_rfl, ?_⟩ | refine ansB (by omega) (by omega) ?_ | refine ansB (by decide) (by decide) ?_ | refine And.intro (a := _ ≤ _) (by omega) ?_ | refine And.intro (a := _ ≠ _) (by omega) ?_ | ((try (refine Or.inl ?_; (conv => whnf))); (try (refine ⟨false, ?_⟩; (conv => whnf))); refine ⟨_, by exact c, ?_⟩) | fail); (conv => whnf))))
      refine ⟨hlt, ?_⟩
      (conv => whnf)
      (repeat' (first | (refine ansS (fun hh => ?_) (fun hh => ?_) <;> (first | simp only [ansX] at hh | skip) <;> (first | (exfalso; omega) | (exfalso; simp [*] at hh; done) | (exfalso; revert hh; decide) | exact absurd (by assumption) hh | (conv => whnf))) | ((first | refine ⟨by kernel_rfl, ?_⟩ | refine ansB (by omega) (by omega) ?_ | refine ansB (by decide) (by decide) ?_ | refine And.intro (a := _ ≤ _) (by omega) ?_ | refine And.intro (a := _ ≠ _) (by omega) ?_ | ((try (refine Or.inl ?_; (conv => whnf))); (try (refine ⟨false, ?_⟩; (conv => whnf))); refine ⟨_, by exact c, ?_⟩) | fail); (conv => whnf))))
      refine ⟨by omega, ?_⟩
      (conv => whnf)
      (repeat' (first | (refine ansS (fun hh => ?_) (fun hh => ?_) <;> (first | simp only [ansX] at hh | skip) <;> (first | (exfalso; omega) | (exfalso; simp [*] at hh; done) | (exfalso; revert hh; decide) | exact absurd (by assumption) hh | (conv => whnf))) | ((first | refine ⟨by kernel_rfl, ?_⟩ | refine ansB (by omega) (by omega) ?_ | refine ansB (by decide) (by decide) ?_ | refine And.intro (a := _ ≤ _) (by omega) ?_ | refine And.intro (a := _ ≠ _) (by omega) ?_ | ((try (refine Or.inl ?_; (conv => whnf))); (try (refine ⟨false, ?_⟩; (conv => whnf))); refine ⟨_, by exact c, ?_⟩) | fail); (conv => whnf))))
      refine ⟨hlt, ?_⟩
      (conv => whnf)
      (repeat' (first | (refine ansS (fun hh => ?_) (fun hh => ?_) <;> (first | simp only [ansX] at hh | skip) <;> (first | (exfalso; omega) | (exfalso; simp [*] at hh; done) | (exfalso; revert hh; decide) | exact absurd (by assumption) hh | (conv => whnf))) | ((first | refine ⟨by kernel_rfl, ?_⟩ | refine ansB (by omega) (by omega) ?_ | refine ansB (by decide) (by decide) ?_ | refine And.intro (a := _ ≤ _) (by omega) ?_ | refine And.intro (a := _ ≠ _) (by omega) ?_ | ((try (refine Or.inl ?_; (conv => whnf))); (try (refine ⟨false, ?_⟩; (conv => whnf))); refine ⟨_, by exact c, ?_⟩) | fail); (conv => whnf))))
      all_goals (first | rfl | (rw [hv, hm0]; done) | (rw [hv, hm0]; rfl) | set_option pp.maxSteps 300 in trace_state)
    · rw [if_neg ha, if_neg ha]
      have e := pw_entryF b o seq ha
      refine pc_of_bodyF hm Tryz.func38 (by kernel_rfl) ?_
      conv => whnf
      (refine Or.inr ⟨[ ], [ 16, 14, 15, 17 ], by kernel_rfl, ?_⟩; (conv => whnf); refine ⟨[ ], _, _, _, _, ⟨ pw_open b o hc, rfl, rfl, by kernel_rfl⟩, ?_⟩)
      (conv => whnf)
      (repeat' ((first | refine ansT ?_ | refine ansF ?_ | refine ansD (by first | (simp [*]; done) | omega) ?_ | refine ansN (by first | (simp [*]; done) | omega) ?_ | refine ⟨by kernel_rfl, ?_⟩ | refine ansB (by decide) (by first | decide | (simp; done) | (simp only [List.length_cons, List.length_nil]; decide)) ?_ | fail); (conv => whnf)))
      (refine Or.inr ⟨[ ], [ ], by kernel_rfl, ?_⟩; (conv => whnf); refine ⟨[ 16, 14, 15, 17 ], _, _, _, _, ⟨ e, rfl, rfl, by kernel_rfl⟩, ?_⟩)
      (conv => whnf)
      (repeat' (first | (refine ansS (fun hh => ?_) (fun hh => ?_) <;> (first | simp only [ansX] at hh | skip) <;> (first | (exfalso; omega) | (exfalso; simp [*] at hh; done) | (exfalso; revert hh; decide) | exact absurd (by assumption) hh | (conv => whnf))) | ((first | refine ⟨by kernel_rfl, ?_⟩ | refine ansB (by omega) (by omega) ?_ | refine ansB (by decide) (by decide) ?_ | refine And.intro (a := _ ≤ _) (by omega) ?_ | refine And.intro (a := _ ≠ _) (by omega) ?_ | fail); (conv => whnf))))
      all_goals (first | rfl | set_option pp.maxSteps 300 in trace_state)
  · have hc2 : chkB b = false := by simpa using hc
    have c := pc_openBad b o hc2
    rw [if_neg hc, if_neg hc]
    refine pc_of_bodyF hm Tryz.func38 (by kernel_rfl) ?_
    conv => whnf
    (repeat' ((first | refine ansT ?_ | refine ansF ?_ | ((try (refine Or.inl ?_; (conv => whnf))); (try (refine ⟨false, ?_⟩; (conv => whnf))); refine ⟨_, by exact c, ?_⟩) | refine ansD (by first | (simp [*]; done) | omega) ?_ | refine ansN (by first | (simp [*]; done) | omega) ?_ | refine ⟨by kernel_rfl, ?_⟩ | refine ansB (by decide) (by first | decide | (simp; done) | (simp only [List.length_cons, List.length_nil]; decide)) ?_ | fail); (conv => whnf)))
    all_goals (first | rfl | set_option pp.maxSteps 300 in trace_state)
end Go.Proofs.Tryz.My
