/- A helper text: contracts of functions of the program, and plain lemmas. -/
import Derived.Test.YtpcipgblegdeeaaMzPvA
import Derived.Test.YtpcipgblegdeeaaMzAm2
import Derived.Test.YtpcipgblegdeeaaMzLvB
import Derived.Test.YtpcipgblegdeeaaMzLw1
set_option maxRecDepth 100000
set_option maxHeartbeats 0
set_option linter.unusedVariables false
set_option linter.unusedSimpArgs false
namespace Go.Proofs.Try.My
open Go Go.Ev

theorem rev_getD4 (l : List SpT) {i : Nat} (hi : i < l.length) : l.reverse.getD i z4 = l.getD (l.length - 1 - i) z4 := by
  simp only [List.getD]
  rw [List.getElem?_reverse hi]
theorem rev_views (l : List SpT) : (List.range l.length).map (fun i => l.getD (l.length - 1 - i) z4) = l.reverse := by
  refine List.ext_getElem (by simp) fun i h1 h2 => ?_
  simp at h1
  have := rev_getD4 l h1
  simp [List.getD, h1] at this ⊢
  exact this.symm
end Go.Proofs.Try.My
