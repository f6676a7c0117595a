/- A helper text: contracts of functions of the program, and plain lemmas. -/
import Derived.Test.YtdpnpdjnaimgaaaGreatMzWaA
import Derived.Test.YtdpnpdjnaimgaaaGreatMzBn8
set_option maxRecDepth 100000
set_option maxHeartbeats 0
set_option linter.unusedVariables false
set_option linter.unusedSimpArgs false
namespace Go.Proofs.Tryz.My
open Go Go.Ev
end Go.Proofs.Tryz.My
set_option maxRecDepth 100000
set_option maxHeartbeats 0
set_option linter.unusedVariables false
set_option linter.unusedSimpArgs false
namespace Go.Proofs.Tryz.My
open Go Go.Ev
def veff (l : LineT) (v : Int) : Int := if winA l.belt l.belt.gate ≤ l.lag then 0 else v
structure PairOK (l : LineT) (n : Int) (x : ThingT) (s : SeenT) : Prop where
  dl : x.due = s.cnt + l.lag
  vr : 0 ≤ x.verdict
  ve : s.verdict = if l.lag < n then veff l x.verdict else 0
  oh : x.out = true → s.hit = true
  ho : ¬veff l x.verdict = 1 → l.belt.gate ≤ x.front → x.out = true
def tolS (t : TrackT) (x : ThingT) (s : SeenT) : SeenT :=
  if x.verdict = 0 ∨ ¬x.due = t.count then s else if (1 ≤ x.verdict ∧ x.verdict ≤ 3) ∧ s.verdict = 0 ∧ t.count < s.cnt + winA t.belt t.belt.gate then verS s x.verdict else s
end Go.Proofs.Tryz.My
set_option maxRecDepth 100000
set_option maxHeartbeats 0
set_option linter.unusedVariables false
set_option linter.unusedSimpArgs false
namespace Go.Proofs.Tryz.My
open Go Go.Ev
structure PieceT where
  ord : OrderT
  gauge : GauT
  verdict : Int
  seq : Int
structure BookT where
  line : LineT
  gauges : List GauT
  active : Int
  pieces : List PieceT
  drift : DriftT
  outs : List OutT
  world : WorldT
def piece0 : PieceT := ⟨ord0, gau0, 0, 0⟩
def world0 : WorldT := ⟨⟨⟨0, 0, 0, 0⟩, 0, 0, 0, 0, (0, 0)⟩, ⟨⟨0, 0, 0, 0⟩, 0, 0, []⟩, ⟨0, [], [], 0, []⟩, drift0, []⟩
def actG (b : BookT) : GauT := b.gauges.getD b.active.toNat gau0
def pieV (b : BookT) (o : OrderT) : Int := (meaF (actG b) (seenL o.tru o.noise)).2.1
def rdK (b : BookT) (w : WorldT) (o : OrderT) : BookT :=
  if o.kind = 4 then ⟨b.line, b.gauges ++ [o.gauge], b.active, b.pieces, b.drift, b.outs, b.world⟩ else
  if o.kind = 6 then ⟨b.line, b.gauges, o.number, b.pieces, b.drift, b.outs, b.world⟩ else
  if o.kind = 7 then ⟨b.line, b.gauges, -1, b.pieces, b.drift, b.outs, b.world⟩ else
  if o.kind = 10 then ⟨b.line, b.gauges, b.active, b.pieces, drift0, b.outs, b.world⟩ else
  if o.kind = 2 then
    (if recd w o then ⟨b.line, b.gauges, b.active, b.pieces ++ [⟨o, actG b, pieV b o, w.books.next⟩], takD b.line (drfS b.drift) (!decide (pieV b o = 1)), b.outs, b.world⟩
    else ⟨b.line, b.gauges, b.active, b.pieces ++ [⟨o, gau0, 0, -1⟩], b.drift, b.outs, b.world⟩) else b
def addO (b : BookT) (l : List OutT) : BookT := ⟨b.line, b.gauges, b.active, b.pieces, b.drift, b.outs ++ l, b.world⟩
def rdB (b : BookT) (w : WorldT) (o : OrderT) : BookT := if stpE w o = 0 then rdK (addO b (stpA w o).outs) w o else addO b (stpA w o).outs
def bookA (b : BookT) (w : WorldT) : List OrderT → BookT
  | [] => b
  | o :: l => bookA (rdB b w o) (stpW w o) l
def begB (l : LineT) : BookT := ⟨l, [], -1, [], drift0, [], world0⟩
structure OutcomeOK (l : LineT) (i : Nat) (y : OutT) (p : PieceT) : Prop where
  id : y.id = i
  vr : y.verdict = veff l p.verdict
  sq : y.seq = p.seq
  nt : ¬y.verdict = 1 → y.out = true ∧ y.hit = true
  oh : y.out = true → y.hit = true
structure PieceOK (l : LineT) (next : Int) (p : PieceT) : Prop where
  ob : obsOk p.ord.tru p.ord.noise
  ln : 0 ≤ p.ord.n ∧ p.ord.n ≤ l.belt.len
  rc : (p.seq = -1 ∧ p.verdict = 0) ∨ ((0 ≤ p.seq ∧ p.seq < next) ∧ gauB p.gauge = true ∧ (meaF p.gauge (seenL p.ord.tru p.ord.noise)).2.2 = 0 ∧ (meaF p.gauge (seenL p.ord.tru p.ord.noise)).2.1 = p.verdict)
structure LogOK (w : WorldT) (ps : List PieceT) (s : EntT) : Prop where
  pt : 0 ≤ s.part ∧ s.part < ps.length
  sq : (ps.getD s.part.toNat piece0).seq = s.seq
  pf : s.profile = seenL (ps.getD s.part.toNat piece0).ord.tru (ps.getD s.part.toNat piece0).ord.noise
  ga : (w.books.recipes.getD s.recipe.toNat rec0).gauge = (ps.getD s.part.toNat piece0).gauge
  vr : s.verdict = (ps.getD s.part.toNat piece0).verdict
structure Told (l : LineT) (w : WorldT) (b : BookT) : Prop where
  gw : GoodW w
  ln : w.line = l ∧ b.line = l
  ga : b.gauges.length = w.books.recipes.length ∧ ∀ i, i < w.books.recipes.length → b.gauges.getD i gau0 = (w.books.recipes.getD i rec0).gauge
  ac : if w.books.recipes.any isAct = true then b.active = firstA w.books.recipes else b.active = -1
  df : b.drift = w.drift
  np : (b.pieces.length : Int) = w.track.next
  le : b.outs.length + w.things.length = b.pieces.length
  th : ∀ i, i < w.things.length → (w.things.getD i thing0).id = (b.outs.length + i : Nat) ∧ (w.things.getD i thing0).len = (b.pieces.getD (b.outs.length + i) piece0).ord.n ∧ (w.things.getD i thing0).verdict = (b.pieces.getD (b.outs.length + i) piece0).verdict ∧
    (w.things.getD i thing0).seq = (b.pieces.getD (b.outs.length + i) piece0).seq
  pr : ∀ i, i < w.things.length → PairOK l (w.track.count - (w.track.parts.getD i seen0).cnt) (w.things.getD i thing0) (w.track.parts.getD i seen0)
  oc : ∀ i, i < b.outs.length → OutcomeOK l i (b.outs.getD i out0) (b.pieces.getD i piece0)
  pc : ∀ i, i < b.pieces.length → PieceOK l w.books.next (b.pieces.getD i piece0)
  lg : ∀ s, s ∈ w.books.log → LogOK w b.pieces s
end Go.Proofs.Tryz.My
