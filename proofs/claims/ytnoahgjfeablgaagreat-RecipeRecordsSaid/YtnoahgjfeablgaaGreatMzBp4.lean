/- A helper text: contracts of functions of the program, and plain lemmas. -/
import Derived.Test.YtnoahgjfeablgaaGreatEvSix
import Derived.Test.YtnoahgjfeablgaaGreatMzBpA
import Derived.Test.YtnoahgjfeablgaaGreatMzBoA
import Derived.Test.YtnoahgjfeablgaaGreatEvZe
set_option maxRecDepth 100000
set_option maxHeartbeats 0
set_option linter.unusedVariables false
set_option linter.unusedSimpArgs false
namespace Go.Proofs.Tryz.My
open Go Go.Ev
def renI : Go.Shelf.Ren := ⟨fun n => match n with | 21 => 63 | 27 => 108 | 28 => 109 | 35 => 129 | 39 => 149 | n => n, fun t => match t with | 22 => 56 | t => t, fun n => n⟩
def insI (l : List Int) (u : Int) : List Int := l.take (posI l u) ++ u :: l.drop (posI l u)
def badA (b : BooksT) (user : Int) (x : RecT) : Bool := x.appr.contains user || (decide (user = x.author) || !mayB [2, 3] b.users user)
def apvR (us : List Int) (x : RecT) (user : Int) : RecT := ⟨x.author, x.gauge, insI x.appr user, if enoughB us (insI x.appr user) = true then 2 else x.state⟩
def setR (b : BooksT) (i : Nat) (y : RecT) : BooksT := ⟨b.keep, b.users, b.recipes.set i y, b.next, b.log⟩
def apvB (b : BooksT) (user number : Int) : BooksT := setR b number.toNat (apvR b.users (b.recipes.getD number.toNat rec0) user)
def apvE (b : BooksT) (user number : Int) : Int :=
  if chkB b = true ∧ named b user number then (if badA b user (b.recipes.getD number.toNat rec0) = true then 100 else if (b.recipes.getD number.toNat rec0).state > 2 then 101 else 0) else (if chkB b then 6 else 8)
end Go.Proofs.Tryz.My
