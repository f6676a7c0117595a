/- A helper text: contracts of functions of the program, and plain lemmas. -/
import Derived.Test.YtdpnpdjnaimgaaaGreatEvSix
import Derived.Test.YtdpnpdjnaimgaaaGreatMzBpA
import Derived.Test.YtdpnpdjnaimgaaaGreatMzBoC
import Derived.Test.YtdpnpdjnaimgaaaGreatEvZe
import Derived.Test.YtdpnpdjnaimgaaaGreatEvTen
import Derived.Test.YtdpnpdjnaimgaaaGreatEvZh
set_option maxRecDepth 100000
set_option maxHeartbeats 0
set_option linter.unusedVariables false
set_option linter.unusedSimpArgs false
namespace Go.Proofs.Tryz.My
open Go Go.Ev
def renI : Go.Shelf.Ren := ⟨fun n => match n with | 21 => 276 | 27 => 311 | 28 => 312 | 35 => 325 | 39 => 330 | n => n, fun t => match t with | 22 => 60 | t => t, fun n => n⟩
def insI (l : List Int) (u : Int) : List Int := l.take (posI l u) ++ u :: l.drop (posI l u)
def badA (b : BooksT) (user : Int) (x : RecT) : Bool := x.appr.contains user || (decide (user = x.author) || !mayB [2, 3] b.users user)
def apvR (us : List Int) (x : RecT) (user : Int) : RecT := ⟨x.author, x.gauge, insI x.appr user, if enoughB us (insI x.appr user) = true then 2 else x.state⟩
def setR (b : BooksT) (i : Nat) (y : RecT) : BooksT := ⟨b.keep, b.users, b.recipes.set i y, b.next, b.log⟩
def apvB (b : BooksT) (user number : Int) : BooksT := setR b number.toNat (apvR b.users (b.recipes.getD number.toNat rec0) user)
def apvE (b : BooksT) (user number : Int) : Int :=
  if chkB b = true ∧ named b user number then (if badA b user (b.recipes.getD number.toNat rec0) = true then 100 else if (b.recipes.getD number.toNat rec0).state > 2 then 101 else 0) else (if chkB b then 6 else 8)
end Go.Proofs.Tryz.My
set_option maxRecDepth 100000
set_option maxHeartbeats 0
set_option linter.unusedVariables false
set_option linter.unusedSimpArgs false
namespace Go.Proofs.Tryz.My
open Go Go.Ev
end Go.Proofs.Tryz.My
set_option maxRecDepth 100000
set_option maxHeartbeats 0
set_option linter.unusedVariables false
set_option linter.unusedSimpArgs false
namespace Go.Proofs.Tryz.My
open Go Go.Ev
def renD : Go.Shelf.Ren := ⟨fun n => match n with | 45 => 273 | n => n, fun t => match t with | 22 => 35 | 23 => 80 | t => t, fun n => n⟩
def dropE (l : List EntT) (i : Nat) : List EntT := l.take i ++ l.drop (i + 1)
def dskV (b : BooksT) : List Row := [.cells 182 [i64 b.keep, .own 1, .own 2, i64 b.next, .own 3], .vec 5 1 0 e8 b.users, .nest 122 13 11 3 rec0 eRec RecT.appr none b.recipes, .vec 80 6 ent0 eEnt b.log]
end Go.Proofs.Tryz.My
set_option maxRecDepth 100000
set_option maxHeartbeats 0
set_option linter.unusedVariables false
set_option linter.unusedSimpArgs false
namespace Go.Proofs.Tryz.My
open Go Go.Ev
def isFree (x : EntT) : Bool := !x.disputed
def rcdG (b : BooksT) : GauT := (b.recipes.getD (firstA b.recipes) rec0).gauge
def rcdX (b : BooksT) (part : Int) (profile : List Int) : EntT := ⟨b.next, firstA b.recipes, part, profile, (meaF (rcdG b) profile).2.1, false⟩
def rcdL (b : BooksT) : List EntT := if (b.log.length : Int) = b.keep then dropE b.log (b.log.findIdx isFree) else b.log
def rcdB (b : BooksT) (part : Int) (profile : List Int) : BooksT := ⟨b.keep, b.users, b.recipes, b.next + 1, rcdL b ++ [rcdX b part profile]⟩
def rcdE (b : BooksT) (part : Int) (profile : List Int) : Int :=
  if chkB b then (if ¬(0 ≤ part ∧ part ≤ 1099511627776) then 2 else if ¬b.recipes.any isAct = true then 102 else if ¬(meaF (rcdG b) profile).2.2 = 0 then (meaF (rcdG b) profile).2.2 else
    if ((b.log.length : Int) = b.keep ∧ ¬b.log.any isFree = true) ∨ b.next = 1099511627776 then 9 else 0) else 8
theorem sub_ff : Sub .ff (.bool false) := fun F w v h => by cases h; exact .bool _
theorem sub_list {xs ys : List AV} (hl : xs.length = ys.length) (h : ∀ i, i < xs.length → Sub (xs.getD i .any) (ys.getD i .any)) : Sub (.agg xs) (.agg ys) ∧ Sub (.tup xs) (.tup ys) := by
  constructor
  · intro F w v hv
    cases hv with
    | agg h1 h2 => exact .agg (by rw [← hl]; exact h1) fun i hi => h i (by omega) _ _ _ (h2 i (by omega))
  · intro F w v hv
    cases hv with
    | tup h1 h2 => exact .tup (by rw [← hl]; exact h1) fun i hi => h i (by omega) _ _ _ (h2 i (by omega))
abbrev entZ : AV := .agg [i64 0, i64 0, i64 0, .nils, u8 0, .ff]
end Go.Proofs.Tryz.My
set_option maxRecDepth 100000
set_option maxHeartbeats 0
set_option linter.unusedVariables false
set_option linter.unusedSimpArgs false
namespace Go.Proofs.Tryz.My
open Go Go.Ev
def darkL : List Int := [0, 0, 100, 100, 0]
def plainG (lo hi : Int) : GauT := ((((50, 0), ((1, 1), (1, 1))), (lo, 1)), (hi, 1))
def tB0 : BooksT := ⟨2, [], [], 0, []⟩
def tB1 : BooksT := ⟨2, [2], [], 0, []⟩
def tB2 : BooksT := ⟨2, [2, 2], [], 0, []⟩
def tB3 : BooksT := ⟨2, [2, 2, 3], [], 0, []⟩
def tB4 : BooksT := ⟨2, [2, 2, 3, 1], [], 0, []⟩
def tB5 : BooksT := ⟨2, [2, 2, 3, 1], [⟨0, plainG 1 3, [], 1⟩], 0, []⟩
def tB6 : BooksT := ⟨2, [2, 2, 3, 1], [⟨0, plainG 1 3, [1], 1⟩], 0, []⟩
def tB7 : BooksT := ⟨2, [2, 2, 3, 1], [⟨0, plainG 1 3, [1, 2], 2⟩], 0, []⟩
def tB8 : BooksT := ⟨2, [2, 2, 3, 1], [⟨0, plainG 1 3, [1, 2], 3⟩], 0, []⟩
def tX (q part : Int) (is : Bool) : EntT := ⟨q, 0, part, darkL, 1, is⟩
def tL (next : Int) (l : List EntT) : BooksT := ⟨2, [2, 2, 3, 1], [⟨0, plainG 1 3, [1, 2], 3⟩], next, l⟩
end Go.Proofs.Tryz.My
set_option maxRecDepth 100000
set_option maxHeartbeats 0
set_option linter.unusedVariables false
set_option linter.unusedSimpArgs false
namespace Go.Proofs.Tryz.My
open Go Go.Ev
structure ActT where
  kind : Int
  user : Int
  number : Int
  role : Int
  gauge : GauT
  profile : List Int
def eAct (a : ActT) : List AV := [u8 a.kind, i64 a.user, i64 a.number, u8 a.role, i64 (gThr a.gauge), i64 (gNoi a.gauge), i64 (gSc a.gauge).1.1, i64 (gSc a.gauge).1.2, i64 (gSc a.gauge).2.1, i64 (gSc a.gauge).2.2, i64 a.gauge.1.2.1, i64 a.gauge.1.2.2, i64 a.gauge.2.1, i64 a.gauge.2.2, ints a.profile]
abbrev act (a : ActT) : AV := .agg (eAct a)
def knd (a : ActT) : Int := a.kind.tmod 8
def doE (b : BooksT) (a : ActT) : Int :=
  if knd a = 0 then addE b a.role else if knd a = 1 then drfE b a.user a.gauge else if knd a = 2 then apvE b a.user a.number else if knd a = 3 then actvE b a.user a.number else if knd a = 4 then retE b a.user else if knd a = 5 then rcdE b a.number a.profile else if knd a = 6 then disE b a.user a.number else setE b a.user a.number
def doB (b : BooksT) (a : ActT) : BooksT :=
  if knd a = 0 then addU b a.role else if knd a = 1 then drfB b a.user a.gauge else if knd a = 2 then apvB b a.user a.number else if knd a = 3 then actvB b a.number else if knd a = 4 then retB b (firstA b.recipes) else if knd a = 5 then rcdB b a.number a.profile else if knd a = 6 then mrkB b a.number true else mrkB b a.number false
end Go.Proofs.Tryz.My
