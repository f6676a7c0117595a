/- A helper text: contracts of functions of the program, and plain lemmas. -/
import Derived.Test.YtnoahgjfeablgaaGreatEvSix
import Derived.Test.YtnoahgjfeablgaaGreatMzBkB
import Derived.Test.YtnoahgjfeablgaaGreatMzBk1
set_option maxRecDepth 100000
set_option maxHeartbeats 0
set_option linter.unusedVariables false
set_option linter.unusedSimpArgs false
namespace Go.Proofs.Tryz.My
open Go Go.Ev
abbrev rcp (x : RecT) : AV := .agg (eRec x)
abbrev ent (s : EntT) : AV := .agg (eEnt s)
def eqF {α : Type} (p : α → α → Bool) (d : α) (l m : List α) : Bool := decide ((l.length : Int) = m.length) && (List.range l.length).all fun i => p (l.getD i d) (m.getD i d)
def eqI (l m : List Int) : Bool := eqF (fun a b => decide (a = b)) 0 l m
def sameG (g h : GauT) : Prop := gThr g = gThr h ∧ gNoi g = gNoi h ∧ (gSc g).1.1 = (gSc h).1.1 ∧ (gSc g).1.2 = (gSc h).1.2 ∧ (gSc g).2.1 = (gSc h).2.1 ∧ (gSc g).2.2 = (gSc h).2.2 ∧ g.1.2.1 = h.1.2.1 ∧ g.1.2.2 = h.1.2.2 ∧ g.2.1 = h.2.1 ∧ g.2.2 = h.2.2
instance (g h : GauT) : Decidable (sameG g h) := by unfold sameG; infer_instance
def sameR (x y : RecT) : Bool := decide (x.author = y.author) && (decide (sameG x.gauge y.gauge) && (decide (x.state = y.state) && eqI x.appr y.appr))
def sameE (x y : EntT) : Bool := decide (x.seq = y.seq) && (decide (x.recipe = y.recipe) && (decide (x.part = y.part) && (decide (x.verdict = y.verdict) && ((x.disputed == y.disputed) && eqI x.profile y.profile))))
end Go.Proofs.Tryz.My
