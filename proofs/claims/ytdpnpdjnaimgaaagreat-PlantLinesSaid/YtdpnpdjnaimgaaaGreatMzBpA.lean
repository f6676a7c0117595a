/- A helper text: contracts of functions of the program, and plain lemmas. -/
import Derived.Test.YtdpnpdjnaimgaaaGreatEvSix
import Derived.Test.YtdpnpdjnaimgaaaGreatMzBoC
import Derived.Test.YtdpnpdjnaimgaaaGreatEvTen
set_option maxRecDepth 100000
set_option maxHeartbeats 0
set_option linter.unusedVariables false
set_option linter.unusedSimpArgs false
namespace Go.Proofs.Tryz.My
open Go Go.Ev
def posI (l : List Int) (t : Int) : Nat := l.findIdx fun x => decide (t ≤ x)
def Inc (l : List Int) : Prop := ∀ i j, i < j → j < l.length → l.getD i 0 < l.getD j 0
end Go.Proofs.Tryz.My
set_option maxRecDepth 100000
set_option maxHeartbeats 0
set_option linter.unusedVariables false
set_option linter.unusedSimpArgs false
namespace Go.Proofs.Tryz.My
open Go Go.Ev
def isSeq (q : Int) (x : EntT) : Bool := decide (x.seq = q)
def ixE (p : EntT → Bool) (l : List EntT) : Int := if l.any p then l.findIdx p else -1
end Go.Proofs.Tryz.My
set_option maxRecDepth 100000
set_option maxHeartbeats 0
set_option linter.unusedVariables false
set_option linter.unusedSimpArgs false
namespace Go.Proofs.Tryz.My
open Go Go.Ev
def setD (x : EntT) (is : Bool) : EntT := ⟨x.seq, x.recipe, x.part, x.profile, x.verdict, is⟩
def mrkI (b : BooksT) (seq : Int) : Nat := b.log.findIdx (isSeq seq)
def mrkB (b : BooksT) (seq : Int) (is : Bool) : BooksT := ⟨b.keep, b.users, b.recipes, b.next, b.log.set (mrkI b seq) (setD (b.log.getD (mrkI b seq) ent0) is)⟩
def mrkE (b : BooksT) (user seq : Int) (is : Bool) (rr : List Int) : Int :=
  if chkB b then (if ¬(b.log.any (isSeq seq) = true ∧ (0 ≤ user ∧ user ≤ (b.users.length : Int) - 1)) then 6 else if mayB rr b.users user = false then 100 else if (b.log.getD (mrkI b seq) ent0).disputed = is then 101 else 0) else 8
end Go.Proofs.Tryz.My
set_option maxRecDepth 100000
set_option maxHeartbeats 0
set_option linter.unusedVariables false
set_option linter.unusedSimpArgs false
namespace Go.Proofs.Tryz.My
open Go Go.Ev
def disE (b : BooksT) (user seq : Int) : Int := mrkE b user seq true [1, 2, 3]
def setE (b : BooksT) (user seq : Int) : Int := mrkE b user seq false [3]
def repE (b : BooksT) (seq : Int) : Int := if chkB b then (if b.log.any (isSeq seq) then 0 else 6) else 8
def repV (b : BooksT) (seq : Int) : Int := if chkB b then (if b.log.any (isSeq seq) then (b.log.getD (mrkI b seq) ent0).verdict else 0) else 0
end Go.Proofs.Tryz.My
