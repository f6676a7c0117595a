/- A helper text: contracts of functions of the program, and plain lemmas. -/
import Derived.Test.YtnoahgjfeablgaaGreatEvSix
import Derived.Test.YtnoahgjfeablgaaGreatMzBoB
import Derived.Test.YtnoahgjfeablgaaGreatEvTen
set_option maxRecDepth 100000
set_option maxHeartbeats 0
set_option linter.unusedVariables false
set_option linter.unusedSimpArgs false
namespace Go.Proofs.Tryz.My
open Go Go.Ev
def posI (l : List Int) (t : Int) : Nat := l.findIdx fun x => decide (t ≤ x)
def Inc (l : List Int) : Prop := ∀ i j, i < j → j < l.length → l.getD i 0 < l.getD j 0
end Go.Proofs.Tryz.My
set_option maxRecDepth 100000
set_option maxHeartbeats 0
set_option linter.unusedVariables false
set_option linter.unusedSimpArgs false
namespace Go.Proofs.Tryz.My
open Go Go.Ev
def isSeq (q : Int) (x : EntT) : Bool := decide (x.seq = q)
def ixE (p : EntT → Bool) (l : List EntT) : Int := if l.any p then l.findIdx p else -1
theorem fi_lt {p : EntT → Bool} {l : List EntT} (h : l.any p = true) : l.findIdx p < l.length := by
  obtain ⟨x, hx, hp⟩ := List.any_eq_true.1 h
  exact List.findIdx_lt_length_of_exists ⟨x, hx, hp⟩
theorem fi_is {p : EntT → Bool} {l : List EntT} (h : l.any p = true) : p (l.getD (l.findIdx p) ent0) = true := by
  have hl := fi_lt h
  have := List.findIdx_getElem (p := p) (xs := l) (w := hl)
  simp only [List.getD, List.getElem?_eq_getElem hl, Option.getD_some]
  exact this
theorem fi_no {p : EntT → Bool} {l : List EntT} {m : Nat} (h : m < l.findIdx p) : p (l.getD m ent0) = false := by
  have hl : m < l.length := Nat.lt_of_lt_of_le h List.findIdx_le_length
  have := List.not_of_lt_findIdx h
  simp only [List.getD, List.getElem?_eq_getElem hl, Option.getD_some]
  simpa using this
theorem any_of {p : EntT → Bool} {l : List EntT} {k : Nat} (hk : k < l.length) (h : p (l.getD k ent0) = true) : l.any p = true := List.any_eq_true.2 ⟨l.getD k ent0, by simp only [List.getD, List.getElem?_eq_getElem hk, Option.getD_some]; exact List.getElem_mem hk, h⟩
theorem ixE_hit {p : EntT → Bool} {l : List EntT} {k : Nat} (hk : k < l.length) (h : p (l.getD k ent0) = true) (hno : ∀ m, m < k → p (l.getD m ent0) = false) : ixE p l = k := by
  have ha := any_of hk h
  unfold ixE
  rw [if_pos ha]
  have e : l.findIdx p = k := by
    have h1 := fi_is ha
    rcases Nat.lt_trichotomy (l.findIdx p) k with h2 | h2 | h2
    · rw [hno _ h2] at h1; cases h1
    · exact h2
    · rw [fi_no h2] at h; cases h
  rw [e]
theorem ixE_none {p : EntT → Bool} {l : List EntT} (hno : ∀ m, m < l.length → p (l.getD m ent0) = false) : ixE p l = -1 := by
  unfold ixE
  rw [if_neg]
  intro h
  have h1 := fi_is h
  rw [hno _ (fi_lt h)] at h1
  cases h1
end Go.Proofs.Tryz.My
set_option maxRecDepth 100000
set_option maxHeartbeats 0
set_option linter.unusedVariables false
set_option linter.unusedSimpArgs false
namespace Go.Proofs.Tryz.My
open Go Go.Ev
def setD (x : EntT) (is : Bool) : EntT := ⟨x.seq, x.recipe, x.part, x.profile, x.verdict, is⟩
def mrkI (b : BooksT) (seq : Int) : Nat := b.log.findIdx (isSeq seq)
def mrkB (b : BooksT) (seq : Int) (is : Bool) : BooksT := ⟨b.keep, b.users, b.recipes, b.next, b.log.set (mrkI b seq) (setD (b.log.getD (mrkI b seq) ent0) is)⟩
def mrkE (b : BooksT) (user seq : Int) (is : Bool) (rr : List Int) : Int :=
  if chkB b then (if ¬(b.log.any (isSeq seq) = true ∧ (0 ≤ user ∧ user ≤ (b.users.length : Int) - 1)) then 6 else if mayB rr b.users user = false then 100 else if (b.log.getD (mrkI b seq) ent0).disputed = is then 101 else 0) else 8
end Go.Proofs.Tryz.My
set_option maxRecDepth 100000
set_option maxHeartbeats 0
set_option linter.unusedVariables false
set_option linter.unusedSimpArgs false
namespace Go.Proofs.Tryz.My
open Go Go.Ev
def disE (b : BooksT) (user seq : Int) : Int := mrkE b user seq true [1, 2, 3]
def setE (b : BooksT) (user seq : Int) : Int := mrkE b user seq false [3]
def repE (b : BooksT) (seq : Int) : Int := if chkB b then (if b.log.any (isSeq seq) then 0 else 6) else 8
def repV (b : BooksT) (seq : Int) : Int := if chkB b then (if b.log.any (isSeq seq) then (b.log.getD (mrkI b seq) ent0).verdict else 0) else 0
end Go.Proofs.Tryz.My
