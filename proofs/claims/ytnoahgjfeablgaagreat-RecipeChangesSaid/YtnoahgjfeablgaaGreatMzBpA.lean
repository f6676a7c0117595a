/- A helper text: contracts of functions of the program, and plain lemmas. -/
import Derived.Test.YtnoahgjfeablgaaGreatEvSix
import Derived.Test.YtnoahgjfeablgaaGreatMzBoB
import Derived.Test.YtnoahgjfeablgaaGreatEvTen
set_option maxRecDepth 100000
set_option maxHeartbeats 0
set_option linter.unusedVariables false
set_option linter.unusedSimpArgs false
namespace Go.Proofs.Tryz.My
open Go Go.Ev
def posI (l : List Int) (t : Int) : Nat := l.findIdx fun x => decide (t ≤ x)
theorem posI_eq {l : List Int} {t : Int} {i : Nat} (hi : i ≤ l.length) (h1 : ∀ m, m < i → l.getD m 0 < t) (h2 : i < l.length → t ≤ l.getD i 0) : posI l t = i := by
  unfold posI
  rcases Nat.lt_trichotomy (l.findIdx fun x => decide (t ≤ x)) i with h | h | h
  · have hl : (l.findIdx fun x => decide (t ≤ x)) < l.length := by omega
    have a := List.findIdx_getElem (p := fun x => decide (t ≤ x)) (xs := l) (w := hl)
    have b := h1 _ h
    simp only [List.getD, List.getElem?_eq_getElem hl, Option.getD_some] at b
    have a := of_decide_eq_true a
    omega
  · exact h
  · have hl : i < l.length := Nat.lt_of_lt_of_le h List.findIdx_le_length
    have a := List.not_of_lt_findIdx h
    have b := h2 hl
    simp only [List.getD, List.getElem?_eq_getElem hl, Option.getD_some] at b
    simp [b] at a
theorem posI_le (l : List Int) (t : Int) : posI l t ≤ l.length := List.findIdx_le_length
def Inc (l : List Int) : Prop := ∀ i j, i < j → j < l.length → l.getD i 0 < l.getD j 0
theorem inc_of {us : List Int} {x : RecT} (h : apprB us x = true) : Inc x.appr := by
  have h := all_range.1 h
  have st : ∀ i, i + 1 < x.appr.length → x.appr.getD i 0 < x.appr.getD (i + 1) 0 := by
    intro i hi
    have := h (i + 1) hi
    simp only [okA, Bool.and_eq_true, prevI] at this
    have e := of_decide_eq_true this.1.1
    rw [if_neg (by omega), show i + 1 - 1 = i by omega] at e
    exact e
  intro i j hij
  induction j with
  | zero => omega
  | succ j ih =>
    intro hj
    by_cases e : i = j
    · subst e; exact st i hj
    · have a := ih (by omega) (by omega)
      have b := st j hj
      omega
theorem inc_has {l : List Int} (h : Inc l) {t : Int} {i : Nat} (hi : i ≤ l.length) (h1 : ∀ m, m < i → l.getD m 0 < t) (h2 : ∀ m, i ≤ m → m < l.length → t ≤ l.getD m 0) : l.contains t = (decide (i < l.length) && decide (l.getD i 0 = t)) := by
  rw [Bool.eq_iff_iff, List.contains_iff_mem, Bool.and_eq_true, decide_eq_true_eq, decide_eq_true_eq]
  constructor
  · intro hm
    obtain ⟨m, hm, e⟩ := List.getElem_of_mem hm
    have e2 : l.getD m 0 = t := by simp only [List.getD, List.getElem?_eq_getElem hm, Option.getD_some]; exact e
    rcases Nat.lt_trichotomy m i with q | q | q
    · have := h1 m q; omega
    · subst q; exact ⟨hm, e2⟩
    · have a := h i m q hm
      have b := h2 i (Nat.le_refl i) (by omega)
      omega
  · rintro ⟨a, b⟩
    rw [← b]
    simp only [List.getD, List.getElem?_eq_getElem a, Option.getD_some]
    exact List.getElem_mem a
theorem half2 (i j : Nat) (hi : i < 2 ^ 40) (hj : j < 2 ^ 40) : IntKind.i64.wrap ((IntKind.u64.wrap (IntKind.i64.wrap ((i : Int) + (j : Int)))).fdiv (2 ^ min (Int.toNat 1) IntKind.u64.bits)) = (((i + j) / 2 : Nat) : Int) := by
  have e1 : IntKind.i64.wrap ((i : Int) + (j : Int)) = ((i + j : Nat) : Int) := by rw [wi _ (by omega) (by omega)]; omega
  have e : Int.toNat ((1 : Nat) : Int) = Int.toNat 1 := rfl
  have := shr_u (i + j) 1 (by omega)
  rw [e] at this
  rw [e1, wu _ (by omega), this, wi _ (by omega) (by omega)]
theorem pc_cNaN (x : Int) : PC Tryz.prog 128 [i64 x] (.bool false) := by
  refine pc_of_bodyF hm Tryz.func128 (by kernel_rfl) ?_
  conv => whnf
  first | rfl | (simp; done) | set_option pp.maxSteps 300 in trace_state
theorem pc_sNaN (x : Int) : PC Tryz.prog 107 [i64 x] (.bool false) := by
  refine pc_of_bodyF hm Tryz.func107 (by kernel_rfl) ?_
  conv => whnf
  first | rfl | (simp; done) | set_option pp.maxSteps 300 in trace_state
theorem pc_cLess (x y : Int) : PC Tryz.prog 106 [i64 x, i64 y] (.bool (decide (x < y))) := by
  refine pc_of_bodyF hm Tryz.func106 (by kernel_rfl) ?_
  conv => whnf
  (repeat' (first | (refine ansS (fun hh => ?_) (fun hh => ?_) <;> (first | simp only [ansX] at hh | skip) <;> (first | (exfalso; omega) | (exfalso; simp [*] at hh; done) | (exfalso; revert hh; decide) | exact absurd (by assumption) hh | (conv => whnf))) | ((first | refine ⟨by kernel_rfl, ?_⟩ | refine ansB (by omega) (by omega) ?_ | refine ansB (by decide) (by decide) ?_ | refine And.intro (a := _ ≤ _) (by omega) ?_ | refine And.intro (a := _ ≠ _) (by omega) ?_ | ((try (refine Or.inl ?_; (conv => whnf))); (try (refine ⟨false, ?_⟩; (conv => whnf))); refine ⟨_, by exact pc_cNaN _, ?_⟩) | fail); (conv => whnf))))
  all_goals (first | rfl | set_option pp.maxSteps 300 in trace_state)
theorem pc_BinS (l : List Int) (hs : Inc l) (hl : l.length < 2 ^ 39) (t : Int) : PC Tryz.prog 62 [ints l, i64 t] (.tup [i64 (posI l t), .bool (l.contains t)]) := by
  refine pc_of_bodyF hm Tryz.func62 (by kernel_rfl) ?_
  conv => whnf
  refine Or.inr ⟨Nat × Nat, [7, 8], [], [], fun i => [i64 i.1, i64 i.2], fun _ => [], fun _ => [], fun i => i.2 - i.1, fun i => i.1 ≤ i.2 ∧ i.2 ≤ l.length ∧ (∀ m, m < i.1 → l.getD m 0 < t) ∧ ∀ m, i.2 ≤ m → m < l.length → t ≤ l.getD m 0, ?_⟩
  (conv => whnf)
  refine ⟨⟨(0, l.length), ?_⟩, ?_⟩
  · (conv => whnf)
    exact ⟨⟨⟨Nat.zero_le _, Nat.le_refl _, fun m hm => absurd hm (Nat.not_lt_zero m), fun m h1 h2 => absurd h2 (Nat.not_lt.2 h1)⟩, rfl, rfl, rfl⟩, by kernel_rfl, by kernel_rfl⟩
  · rintro ⟨i, j⟩ ⟨g1, g2, g3, g4⟩
    simp only [] at g1 g2 g3 g4
    (conv => whnf)
    refine ⟨fun h => ?_, fun h => ?_⟩
    · have h := of_decide_eq_true h
      simp only [] at h
      (conv => whnf)
      rw [half2 i j (by omega) (by omega)]
      have e1 : i ≤ (i + j) / 2 := by omega
      have e2 : (i + j) / 2 < j := by omega
      generalize (i + j) / 2 = m at *
      have z : l.getD (Int.toNat (m : Int)) 0 = l.getD m 0 := rfl
      (repeat' (first | (refine ansS (fun hh => ?_) (fun hh => ?_) <;> (first | simp only [ansX] at hh | skip) <;> (first | (exfalso; omega) | (exfalso; simp [*] at hh; done) | (exfalso; revert hh; decide) | exact absurd (by assumption) hh | (conv => whnf))) | ((first | refine ⟨by kernel_rfl, ?_⟩ | refine ansB (by omega) (by omega) ?_ | refine ansB (by decide) (by decide) ?_ | refine And.intro (a := _ ≤ _) (by omega) ?_ | refine And.intro (a := _ ≠ _) (by omega) ?_ | ((try (refine Or.inl ?_; (conv => whnf))); (try (refine ⟨false, ?_⟩; (conv => whnf))); refine ⟨_, by exact pc_cLess _ _, ?_⟩) | fail); (conv => whnf))))
      · refine ⟨(m + 1, j), ?_⟩
        (conv => whnf)
        refine ⟨⟨⟨?_, by show m + 1 ≤ j; omega, g2, ?_, g4⟩, ?_, rfl, rfl⟩, by kernel_rfl, by kernel_rfl⟩
        · show j - (m + 1) < j - i; omega
        · intro q hq
          have hq : q < m + 1 := hq
          by_cases e : q = m
          · subst e; assumption
          · have := hs q m (by omega) (by omega)
            omega
        · rw [w64 _ (by omega) (by omega)]; rfl
      · refine ⟨(i, m), ?_⟩
        (conv => whnf)
        refine ⟨⟨⟨?_, e1, by show m ≤ l.length; omega, g3, ?_⟩, rfl, rfl, rfl⟩, by kernel_rfl, by kernel_rfl⟩
        · show m - i < j - i; omega
        · intro q h1 h2
          have h1 : m ≤ q := h1
          by_cases e : q = m
          · subst e; omega
          · have := hs m q (by omega) h2
            omega
    · have h := of_decide_eq_false h
      simp only [] at h
      have e : i = j := by omega
      subst e
      rw [inc_has hs g2 g3 g4, posI_eq g2 g3 (fun q => g4 i (Nat.le_refl i) q)]
      (repeat' (first | (refine ansS (fun hh => ?_) (fun hh => ?_) <;> (first | simp only [ansX] at hh | skip) <;> (first | (exfalso; omega) | (exfalso; simp [*] at hh; done) | (exfalso; revert hh; decide) | exact absurd (by assumption) hh | (conv => whnf))) | ((first | refine ⟨by kernel_rfl, ?_⟩ | refine ansB (by omega) (by omega) ?_ | refine ansB (by decide) (by decide) ?_ | refine And.intro (a := _ ≤ _) (by omega) ?_ | refine And.intro (a := _ ≠ _) (by omega) ?_ | ((try (refine Or.inl ?_; (conv => whnf))); (try (refine ⟨false, ?_⟩; (conv => whnf))); refine ⟨_, by exact pc_sNaN _, ?_⟩) | fail); (conv => whnf))))
      all_goals (refine congrArg (fun z => AV.tup [i64 i, AV.bool z]) ?_; first | (simp_all; done) | (rw [decide_eq_false (show ¬i < l.length by omega)]; rfl))
end Go.Proofs.Tryz.My
set_option maxRecDepth 100000
set_option maxHeartbeats 0
set_option linter.unusedVariables false
set_option linter.unusedSimpArgs false
namespace Go.Proofs.Tryz.My
open Go Go.Ev
def isSeq (q : Int) (x : EntT) : Bool := decide (x.seq = q)
def ixE (p : EntT → Bool) (l : List EntT) : Int := if l.any p then l.findIdx p else -1
end Go.Proofs.Tryz.My
set_option maxRecDepth 100000
set_option maxHeartbeats 0
set_option linter.unusedVariables false
set_option linter.unusedSimpArgs false
namespace Go.Proofs.Tryz.My
open Go Go.Ev
def setD (x : EntT) (is : Bool) : EntT := ⟨x.seq, x.recipe, x.part, x.profile, x.verdict, is⟩
def mrkI (b : BooksT) (seq : Int) : Nat := b.log.findIdx (isSeq seq)
def mrkB (b : BooksT) (seq : Int) (is : Bool) : BooksT := ⟨b.keep, b.users, b.recipes, b.next, b.log.set (mrkI b seq) (setD (b.log.getD (mrkI b seq) ent0) is)⟩
def mrkE (b : BooksT) (user seq : Int) (is : Bool) (rr : List Int) : Int :=
  if chkB b then (if ¬(b.log.any (isSeq seq) = true ∧ (0 ≤ user ∧ user ≤ (b.users.length : Int) - 1)) then 6 else if mayB rr b.users user = false then 100 else if (b.log.getD (mrkI b seq) ent0).disputed = is then 101 else 0) else 8
end Go.Proofs.Tryz.My
set_option maxRecDepth 100000
set_option maxHeartbeats 0
set_option linter.unusedVariables false
set_option linter.unusedSimpArgs false
namespace Go.Proofs.Tryz.My
open Go Go.Ev
def disE (b : BooksT) (user seq : Int) : Int := mrkE b user seq true [1, 2, 3]
def setE (b : BooksT) (user seq : Int) : Int := mrkE b user seq false [3]
def repE (b : BooksT) (seq : Int) : Int := if chkB b then (if b.log.any (isSeq seq) then 0 else 6) else 8
def repV (b : BooksT) (seq : Int) : Int := if chkB b then (if b.log.any (isSeq seq) then (b.log.getD (mrkI b seq) ent0).verdict else 0) else 0
end Go.Proofs.Tryz.My
