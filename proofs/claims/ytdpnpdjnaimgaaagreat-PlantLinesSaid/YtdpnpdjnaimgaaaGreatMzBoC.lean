/- A helper text: contracts of functions of the program, and plain lemmas. -/
import Derived.Test.YtdpnpdjnaimgaaaGreatEvSix
import Derived.Test.YtdpnpdjnaimgaaaGreatMzBsA
import Derived.Test.YtdpnpdjnaimgaaaGreatMzBkA
import Derived.Test.YtdpnpdjnaimgaaaGreatEvFn
import Derived.Test.YtdpnpdjnaimgaaaGreatMzBq4
import Derived.Test.YtdpnpdjnaimgaaaGreatMzGdB
import Derived.Test.YtdpnpdjnaimgaaaGreatMzBt1
set_option maxRecDepth 100000
set_option maxHeartbeats 0
set_option linter.unusedVariables false
set_option linter.unusedSimpArgs false
namespace Go.Proofs.Tryz.My
open Go Go.Ev
end Go.Proofs.Tryz.My
set_option maxRecDepth 100000
set_option maxHeartbeats 0
set_option linter.unusedVariables false
set_option linter.unusedSimpArgs false
namespace Go.Proofs.Tryz.My
open Go Go.Ev
def dskR (b : BooksT) : List Row := [.cells 182 [i64 b.keep, .own 1, .own 2, i64 b.next, .own 3], .vec 5 1 0 e8 b.users, .nest 122 13 11 3 rec0 eRec RecT.appr none b.recipes, .nest 80 6 3 3 ent0 eEnt EntT.profile none b.log]
end Go.Proofs.Tryz.My
set_option maxRecDepth 100000
set_option maxHeartbeats 0
set_option linter.unusedVariables false
set_option linter.unusedSimpArgs false
namespace Go.Proofs.Tryz.My
open Go Go.Ev
def addU (b : BooksT) (role : Int) : BooksT := ⟨b.keep, b.users ++ [role], b.recipes, b.next, b.log⟩
def addE (b : BooksT) (role : Int) : Int := if chkB b then (if role < 1 ∨ 3 < role then 2 else if (b.users.length : Int) = 16 then 9 else 0) else 8
abbrev ownB (b : BooksT) : AV := .agg [i64 b.keep, .own 0, .own 1, i64 b.next, .own 2]
def ownR (b : BooksT) : List Row := [.vec 5 1 0 e8 b.users, .nest 122 13 11 3 rec0 eRec RecT.appr none b.recipes, .nest 80 6 3 3 ent0 eEnt EntT.profile none b.log]
end Go.Proofs.Tryz.My
set_option maxRecDepth 100000
set_option maxHeartbeats 0
set_option linter.unusedVariables false
set_option linter.unusedSimpArgs false
namespace Go.Proofs.Tryz.My
open Go Go.Ev
def newRec (user : Int) (g : GauT) : RecT := ⟨user, g, [], 1⟩
def drfB (b : BooksT) (user : Int) (g : GauT) : BooksT := ⟨b.keep, b.users, b.recipes ++ [newRec user g], b.next, b.log⟩
def drfE (b : BooksT) (user : Int) (g : GauT) : Int :=
  if chkB b then (if ¬(0 ≤ user ∧ user ≤ (b.users.length : Int) - 1) then 6 else if mayB [2] b.users user = false then 100 else if ¬gauB g = true then 8 else if (b.recipes.length : Int) = 16 then 9 else 0) else 8
end Go.Proofs.Tryz.My
set_option maxRecDepth 100000
set_option maxHeartbeats 0
set_option linter.unusedVariables false
set_option linter.unusedSimpArgs false
namespace Go.Proofs.Tryz.My
open Go Go.Ev
def setSt (x : RecT) (n : Int) : RecT := ⟨x.author, x.gauge, x.appr, n⟩
def retB (b : BooksT) (i : Nat) : BooksT := ⟨b.keep, b.users, b.recipes.set i (setSt (b.recipes.getD i rec0) 4), b.next, b.log⟩
def isAct (x : RecT) : Bool := decide (x.state = 3)
def firstA (l : List RecT) : Nat := l.findIdx isAct
def retE (b : BooksT) (user : Int) : Int :=
  if chkB b then (if ¬(0 ≤ user ∧ user ≤ (b.users.length : Int) - 1) then 6 else if mayB [3] b.users user = false then 100 else if ¬b.recipes.any isAct = true then 102 else 0) else 8
end Go.Proofs.Tryz.My
set_option maxRecDepth 100000
set_option maxHeartbeats 0
set_option linter.unusedVariables false
set_option linter.unusedSimpArgs false
namespace Go.Proofs.Tryz.My
open Go Go.Ev
def actI (l : List RecT) : Int := if l.any isAct then firstA l else -1
def actE (b : BooksT) : Int := if chkB b then (if b.recipes.any isAct then 0 else 102) else 8
def actN (b : BooksT) : Int := if chkB b then (if b.recipes.any isAct then firstA b.recipes else 0) else 0
end Go.Proofs.Tryz.My
set_option maxRecDepth 100000
set_option maxHeartbeats 0
set_option linter.unusedVariables false
set_option linter.unusedSimpArgs false
namespace Go.Proofs.Tryz.My
open Go Go.Ev
def named (b : BooksT) (user number : Int) : Prop := (0 ≤ user ∧ user ≤ (b.users.length : Int) - 1) ∧ (0 ≤ number ∧ number ≤ (b.recipes.length : Int) - 1)
instance (b : BooksT) (user number : Int) : Decidable (named b user number) := by unfold named; infer_instance
end Go.Proofs.Tryz.My
set_option maxRecDepth 100000
set_option maxHeartbeats 0
set_option linter.unusedVariables false
set_option linter.unusedSimpArgs false
namespace Go.Proofs.Tryz.My
open Go Go.Ev
def setB (b : BooksT) (i : Nat) (n : Int) : BooksT := ⟨b.keep, b.users, b.recipes.set i (setSt (b.recipes.getD i rec0) n), b.next, b.log⟩
def calmB (b : BooksT) : BooksT := if b.recipes.any isAct then retB b (firstA b.recipes) else b
def actvB (b : BooksT) (number : Int) : BooksT := setB (calmB b) number.toNat 3
def actvE (b : BooksT) (user number : Int) : Int :=
  if chkB b = true ∧ named b user number then (if mayB [2] b.users user = false then 100 else if ¬(b.recipes.getD number.toNat rec0).state = 2 then 101 else 0) else (if chkB b then 6 else 8)
end Go.Proofs.Tryz.My
set_option maxRecDepth 100000
set_option maxHeartbeats 0
set_option linter.unusedVariables false
set_option linter.unusedSimpArgs false
namespace Go.Proofs.Tryz.My
open Go Go.Ev
def upK {α : Type} (f : α → α) (d : α) (l : List α) : Nat → List α
  | 0 => l
  | k + 1 => (upK f d l k).set k (f ((upK f d l k).getD k d))
def spI (l : List Int) (m : Nat) : List Int := upK (fun _ => -7) 0 l m
def inR (x : RecT) (m : Nat) : RecT := ⟨x.author, x.gauge, spI x.appr m, x.state⟩
def spR (x : RecT) : RecT := ⟨-7, x.gauge, spI x.appr x.appr.length, x.state⟩
def inE (x : EntT) (m : Nat) : EntT := ⟨x.seq, x.recipe, x.part, spI x.profile m, x.verdict, x.disputed⟩
def spE (x : EntT) : EntT := ⟨-7, x.recipe, x.part, spI x.profile x.profile.length, x.verdict, x.disputed⟩
end Go.Proofs.Tryz.My
