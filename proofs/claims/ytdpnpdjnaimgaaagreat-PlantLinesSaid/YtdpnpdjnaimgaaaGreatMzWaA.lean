/- A helper text: contracts of functions of the program, and plain lemmas. -/
import Derived.Test.YtdpnpdjnaimgaaaGreatMzBsA
import Derived.Test.YtdpnpdjnaimgaaaGreatMzRfB
import Init
import Derived.Test.YtdpnpdjnaimgaaaGreatEvSix
import Derived.Test.YtdpnpdjnaimgaaaGreatMzGa1
import Derived.Test.YtdpnpdjnaimgaaaGreatMzExA
import Derived.Test.YtdpnpdjnaimgaaaGreatMzBnA
set_option maxRecDepth 100000
set_option maxHeartbeats 0
set_option linter.unusedVariables false
set_option linter.unusedSimpArgs false
namespace Go.Proofs.Tryz.My
open Go Go.Ev
structure BeltT where
  step : Int
  slip : Int
  gate : Int
  len : Int
structure LineT where
  belt : BeltT
  lag : Int
  keep : Int
  p : Int
  q : Int
  al : Int × Int
structure SeenT where
  id : Int
  cnt : Int
  verdict : Int
  hit : Bool
structure TrackT where
  belt : BeltT
  count : Int
  next : Int
  parts : List SeenT
structure DriftT where
  hits : Int
  rounds : Int
  alarm : Bool
structure ThingT where
  id : Int
  front : Int
  len : Int
  verdict : Int
  due : Int
  seq : Int
  out : Bool
structure WorldT where
  line : LineT
  track : TrackT
  books : BooksT
  drift : DriftT
  things : List ThingT
def seen0 : SeenT := ⟨0, 0, 0, false⟩
def thing0 : ThingT := ⟨0, 0, 0, 0, 0, 0, false⟩
def belt0 : BeltT := ⟨0, 0, 0, 0⟩
def eBelt (b : BeltT) : List AV := [i64 b.step, i64 b.slip, i64 b.gate, i64 b.len]
def eLine (l : LineT) : List AV := [i64 l.belt.step, i64 l.belt.slip, i64 l.belt.gate, i64 l.belt.len, i64 l.lag, i64 l.keep, i64 l.p, i64 l.q, i64 l.al.1, i64 l.al.2]
def eTest (l : LineT) : List AV := [i64 l.p, i64 l.q, i64 l.al.1, i64 l.al.2]
def eSeen (s : SeenT) : List AV := [i64 s.id, i64 s.cnt, u8 s.verdict, .bool s.hit]
def eThing (x : ThingT) : List AV := [i64 x.id, i64 x.front, i64 x.len, u8 x.verdict, i64 x.due, i64 x.seq, .bool x.out]
def eDrift (d : DriftT) : List AV := [i64 d.hits, i64 d.rounds, .bool d.alarm]
abbrev seens (l : List SeenT) : AV := .sl 4 seen0 eSeen l
abbrev thgs (l : List ThingT) : AV := .sl 7 thing0 eThing l
def eTrack (t : TrackT) : List AV := [i64 t.belt.step, i64 t.belt.slip, i64 t.belt.gate, i64 t.belt.len, i64 t.count, i64 t.next, seens t.parts]
def eW (w : WorldT) : List AV := [i64 w.line.belt.step, i64 w.line.belt.slip, i64 w.line.belt.gate, i64 w.line.belt.len, i64 w.line.lag, i64 w.line.keep, i64 w.line.p, i64 w.line.q, i64 w.line.al.1, i64 w.line.al.2,
  i64 w.track.belt.step, i64 w.track.belt.slip, i64 w.track.belt.gate, i64 w.track.belt.len, i64 w.track.count, i64 w.track.next, seens w.track.parts,
  i64 w.books.keep, u8l w.books.users, recs w.books.recipes, i64 w.books.next, ents w.books.log, i64 w.drift.hits, i64 w.drift.rounds, .bool w.drift.alarm, thgs w.things]
abbrev bel (b : BeltT) : AV := .agg (eBelt b)
abbrev lin (l : LineT) : AV := .agg (eLine l)
abbrev tst (l : LineT) : AV := .agg (eTest l)
abbrev trk (t : TrackT) : AV := .agg (eTrack t)
abbrev wld (w : WorldT) : AV := .agg (eW w)
def beltB (b : BeltT) : Bool := decide ((1 ≤ b.step ∧ b.step ≤ 1000) ∧ (0 ≤ b.slip ∧ b.slip < b.step) ∧ (1 ≤ b.gate ∧ b.gate ≤ 1000000) ∧ (1 ≤ b.len ∧ b.len ≤ 1000000))
theorem belt_iff {b : BeltT} : beltB b = true ↔ (1 ≤ b.step ∧ b.step ≤ 1000) ∧ (0 ≤ b.slip ∧ b.slip < b.step) ∧ (1 ≤ b.gate ∧ b.gate ≤ 1000000) ∧ (1 ≤ b.len ∧ b.len ≤ 1000000) := decide_eq_true_iff
def limB (a : Int × Int) : Bool := validB a && decide (0 < a.1 ∧ a.1 < a.2 ∧ a.2 ≤ 1073741824)
def testB (l : LineT) : Bool := decide (1 ≤ l.p ∧ l.p < l.q ∧ l.q ≤ 255) && limB l.al
def lineE (l : LineT) : Int := if beltB l.belt = true then (if (1 ≤ l.lag ∧ l.lag ≤ 100) ∧ (1 ≤ l.keep ∧ l.keep ≤ 32) then (if testB l = true then 0 else 81) else 2) else 90
theorem lineE_zero {l : LineT} (h : lineE l = 0) : beltB l.belt = true ∧ ((1 ≤ l.lag ∧ l.lag ≤ 100) ∧ (1 ≤ l.keep ∧ l.keep ≤ 32)) ∧ testB l = true := by
  unfold lineE at h
  split at h
  · split at h
    · split at h
      · exact ⟨by assumption, by assumption, by assumption⟩
      · cases h
    · cases h
  · cases h
def winA (b : BeltT) (place : Int) : Int := Int.tdiv (place - 1) (b.step + b.slip) + 1
def winB (b : BeltT) (place : Int) : Int := Int.tdiv (place + b.len) (b.step - b.slip) + 1
theorem win_range {b : BeltT} (h : beltB b = true) {place : Int} (h1 : 1 ≤ place) (h2 : place ≤ 1000000) : (1 ≤ winA b place ∧ winA b place ≤ 1000000) ∧ (1 ≤ winB b place ∧ winB b place ≤ 2000001) := by
  obtain ⟨⟨a1, a2⟩, ⟨b1, b2⟩, ⟨c1, c2⟩, d1, d2⟩ := belt_iff.1 h
  unfold winA winB
  rw [Int.tdiv_eq_ediv_of_nonneg (by omega), Int.tdiv_eq_ediv_of_nonneg (by omega)]
  have u1 : 0 ≤ (place - 1) / (b.step + b.slip) := Int.ediv_nonneg (by omega) (by omega)
  have u2 : (place - 1) / (b.step + b.slip) ≤ place - 1 := Int.ediv_le_self _ (by omega)
  have v1 : 0 ≤ (place + b.len) / (b.step - b.slip) := Int.ediv_nonneg (by omega) (by omega)
  have v2 : (place + b.len) / (b.step - b.slip) ≤ place + b.len := Int.ediv_le_self _ (by omega)
  omega
def prevS (l : List SeenT) (k : Nat) : SeenT := if k = 0 then ⟨-1, -1, 0, false⟩ else l.getD (k - 1) seen0
theorem prevS_zero (l : List SeenT) : prevS l 0 = ⟨-1, -1, 0, false⟩ := rfl
theorem prevS_succ (l : List SeenT) (k : Nat) : prevS l (k + 1) = l.getD k seen0 := by simp [prevS]
def okPt (t : TrackT) (k : Nat) : Bool :=
  decide ((prevS t.parts k).id < (t.parts.getD k seen0).id ∧ (t.parts.getD k seen0).id < t.next ∧ (prevS t.parts k).cnt < (t.parts.getD k seen0).cnt ∧ (t.parts.getD k seen0).cnt ≤ t.count ∧ t.count < (t.parts.getD k seen0).cnt + winB t.belt t.belt.gate ∧
    (t.parts.getD k seen0).verdict ≤ 3 ∧ ((t.parts.getD k seen0).hit = true → (t.parts.getD k seen0).cnt + winA t.belt t.belt.gate ≤ t.count))
theorem okPt_iff {t : TrackT} {k : Nat} : okPt t k = true ↔ ((prevS t.parts k).id < (t.parts.getD k seen0).id ∧ (t.parts.getD k seen0).id < t.next ∧ (prevS t.parts k).cnt < (t.parts.getD k seen0).cnt ∧ (t.parts.getD k seen0).cnt ≤ t.count ∧ t.count < (t.parts.getD k seen0).cnt + winB t.belt t.belt.gate ∧
    (t.parts.getD k seen0).verdict ≤ 3 ∧ ((t.parts.getD k seen0).hit = true → (t.parts.getD k seen0).cnt + winA t.belt t.belt.gate ≤ t.count)) := decide_eq_true_iff
def sizT (t : TrackT) : Bool := decide ((0 ≤ t.count ∧ t.count ≤ 1099511627776) ∧ (0 ≤ t.next ∧ t.next ≤ 1099511627776) ∧ t.parts.length ≤ 32)
theorem sizT_iff {t : TrackT} : sizT t = true ↔ (0 ≤ t.count ∧ t.count ≤ 1099511627776) ∧ (0 ≤ t.next ∧ t.next ≤ 1099511627776) ∧ t.parts.length ≤ 32 := decide_eq_true_iff
def trkB (t : TrackT) : Bool := sizT t && (List.range t.parts.length).all (okPt t)
def trkE (t : TrackT) : Int := if beltB t.belt = true then (if trkB t = true then 0 else 8) else 90
theorem trkE_zero {t : TrackT} : trkE t = 0 ↔ beltB t.belt = true ∧ trkB t = true := by
  unfold trkE
  split
  · split
    · exact ⟨fun _ => ⟨by assumption, by assumption⟩, fun _ => rfl⟩
    · rename_i h; exact ⟨fun q => (by cases q), fun q => absurd q.2 h⟩
  · rename_i h; exact ⟨fun q => (by cases q), fun q => absurd q.1 h⟩
theorem prev_low {t : TrackT} {k : Nat} (h : ∀ i, i < k → okPt t i = true) : -1 ≤ (prevS t.parts k).id ∧ -1 ≤ (prevS t.parts k).cnt ∧ (0 < k → 0 ≤ (prevS t.parts k).id ∧ 0 ≤ (prevS t.parts k).cnt ∧ (prevS t.parts k).cnt ≤ t.count) := by
  induction k with
  | zero => exact ⟨Int.le_refl _, Int.le_refl _, fun h => absurd h (Nat.lt_irrefl 0)⟩
  | succ k ih =>
    have a := ih fun i hi => h i (by omega)
    have b := okPt_iff.1 (h k (by omega))
    rw [prevS_succ]
    omega
def driftB (d : DriftT) : Bool := decide ((0 ≤ d.hits ∧ d.hits ≤ d.rounds) ∧ d.rounds ≤ 500)
def okT (w : WorldT) (k : Nat) : Bool :=
  decide ((w.things.getD k thing0).id = (w.track.parts.getD k seen0).id ∧ (0 ≤ (w.things.getD k thing0).len ∧ (w.things.getD k thing0).len ≤ w.line.belt.len) ∧
    ((w.track.count - (w.track.parts.getD k seen0).cnt) * (w.line.belt.step - w.line.belt.slip) ≤ (w.things.getD k thing0).front ∧ (w.things.getD k thing0).front ≤ (w.track.count - (w.track.parts.getD k seen0).cnt) * (w.line.belt.step + w.line.belt.slip)) ∧
    (w.things.getD k thing0).verdict ≤ 3 ∧ (0 ≤ (w.things.getD k thing0).due ∧ (w.things.getD k thing0).due ≤ 1099511627876) ∧ (-1 ≤ (w.things.getD k thing0).seq ∧ (w.things.getD k thing0).seq ≤ w.books.next - 1))
theorem okT_iff {w : WorldT} {k : Nat} : okT w k = true ↔ ((w.things.getD k thing0).id = (w.track.parts.getD k seen0).id ∧ (0 ≤ (w.things.getD k thing0).len ∧ (w.things.getD k thing0).len ≤ w.line.belt.len) ∧
    ((w.track.count - (w.track.parts.getD k seen0).cnt) * (w.line.belt.step - w.line.belt.slip) ≤ (w.things.getD k thing0).front ∧ (w.things.getD k thing0).front ≤ (w.track.count - (w.track.parts.getD k seen0).cnt) * (w.line.belt.step + w.line.belt.slip)) ∧
    (w.things.getD k thing0).verdict ≤ 3 ∧ (0 ≤ (w.things.getD k thing0).due ∧ (w.things.getD k thing0).due ≤ 1099511627876) ∧ (-1 ≤ (w.things.getD k thing0).seq ∧ (w.things.getD k thing0).seq ≤ w.books.next - 1)) := decide_eq_true_iff
def sameBelt (a b : BeltT) : Prop := a.step = b.step ∧ a.slip = b.slip ∧ a.gate = b.gate ∧ a.len = b.len
instance (a b : BeltT) : Decidable (sameBelt a b) := by unfold sameBelt; infer_instance
theorem sameBelt_eq {a b : BeltT} (h : sameBelt a b) : a = b := by
  obtain ⟨a1, a2, a3, a4⟩ := a
  obtain ⟨b1, b2, b3, b4⟩ := b
  obtain ⟨h1, h2, h3, h4⟩ := h
  simp only at h1 h2 h3 h4
  subst h1 h2 h3 h4
  rfl
def ownW (w : WorldT) : Bool := decide (sameBelt w.track.belt w.line.belt ∧ w.books.keep = w.line.keep ∧ (w.things.length : Int) = w.track.parts.length ∧ driftB w.drift = true)
theorem ownW_iff {w : WorldT} : ownW w = true ↔ sameBelt w.track.belt w.line.belt ∧ w.books.keep = w.line.keep ∧ (w.things.length : Int) = w.track.parts.length ∧ driftB w.drift = true := decide_eq_true_iff
def wldB (w : WorldT) : Bool := ownW w && (trkB w.track && (chkB w.books && (List.range w.things.length).all (okT w)))
def wldE (w : WorldT) : Int := if lineE w.line = 0 then (if wldB w = true then 0 else 8) else lineE w.line
def sameLine (a b : LineT) : Prop := sameBelt a.belt b.belt ∧ a.lag = b.lag ∧ a.keep = b.keep ∧ a.p = b.p ∧ a.q = b.q ∧ a.al.1 = b.al.1 ∧ a.al.2 = b.al.2
instance (a b : LineT) : Decidable (sameLine a b) := by unfold sameLine; infer_instance
def sameS (a b : SeenT) : Bool := decide (a.id = b.id ∧ a.cnt = b.cnt ∧ a.verdict = b.verdict) && (a.hit == b.hit)
def sameTh (a b : ThingT) : Bool := decide (a.id = b.id ∧ a.front = b.front ∧ a.len = b.len ∧ a.verdict = b.verdict ∧ a.due = b.due ∧ a.seq = b.seq) && (a.out == b.out)
def sameD (a b : DriftT) : Bool := decide (a.hits = b.hits ∧ a.rounds = b.rounds) && (a.alarm == b.alarm)
theorem sameS_refl (a : SeenT) : sameS a a = true := by simp [sameS]
theorem sameTh_refl (a : ThingT) : sameTh a a = true := by simp [sameTh]
theorem sameD_refl (a : DriftT) : sameD a a = true := by simp [sameD]
theorem sameBelt_refl (a : BeltT) : sameBelt a a := ⟨rfl, rfl, rfl, rfl⟩
theorem sameLine_refl (a : LineT) : sameLine a a := ⟨sameBelt_refl _, rfl, rfl, rfl, rfl, rfl, rfl⟩
def sameTk (a b : TrackT) : Bool := decide (sameBelt a.belt b.belt ∧ a.count = b.count ∧ a.next = b.next) && eqF sameS seen0 a.parts b.parts
theorem sameTk_refl (a : TrackT) : sameTk a a = true := by
  unfold sameTk
  rw [decide_eq_true ⟨sameBelt_refl _, rfl, rfl⟩, eqF_refl sameS_refl]
  rfl
def sameW (a b : WorldT) : Bool := decide (sameLine a.line b.line) && (sameTk a.track b.track && (sameB a.books b.books && (sameD a.drift b.drift && eqF sameTh thing0 a.things b.things)))
theorem sameW_refl (a : WorldT) : sameW a a = true := by
  unfold sameW
  rw [decide_eq_true (sameLine_refl _), sameTk_refl, sameB_refl, sameD_refl, eqF_refl sameTh_refl]
  rfl
end Go.Proofs.Tryz.My
/- Numbers as digits to a base, the lowest first. A helper text: it speaks of no program. -/
set_option maxRecDepth 100000
set_option linter.unusedVariables false
set_option linter.unusedSimpArgs false
namespace Go.Proofs.Tryz.My
def dgF (B : Nat) : Nat → Nat → List Nat
  | 0, _ => []
  | f + 1, n => if n = 0 then [] else (n % B) :: dgF B f (n / B)
def dg (B n : Nat) : List Nat := dgF B n n
def vl (B : Nat) : List Nat → Nat
  | [] => 0
  | d :: l => d + B * vl B l
def isD (B : Nat) (l : List Nat) : Prop := ∀ d ∈ l, d < B
def trimL : List Nat → List Nat
  | [] => []
  | d :: l => match trimL l with
    | [] => if d = 0 then [] else [d]
    | e :: m => d :: e :: m
def leT (a b : List Nat) : Nat → Bool
  | 0 => true
  | k + 1 => if a.getD k 0 = b.getD k 0 then leT a b k else decide (a.getD k 0 < b.getD k 0)
def wgt (f p h n : Nat) : Nat := f * p ^ h * (256 - p) ^ (n - h)
def raiB (p q num den h n : Nat) : Bool := decide (wgt den p h n ≤ wgt num q h n)
end Go.Proofs.Tryz.My
set_option maxRecDepth 100000
set_option maxHeartbeats 0
set_option linter.unusedVariables false
set_option linter.unusedSimpArgs false
namespace Go.Proofs.Tryz.My
open Go Go.Ev
theorem pc_within11 (n lo hi : Int) : PC Tryz.prog 63 [i64 n, i64 lo, i64 hi] (.bool (withB n lo hi)) := by
  refine pc_of_bodyF hm Tryz.func63 (by kernel_rfl) ?_
  conv => whnf
  refine ⟨fun h => ?_, fun h => ?_⟩ <;> ((conv => whnf); simp_all [-decide_eq_true_eq, -decide_eq_false_iff_not, withB])
theorem pc_pfrom (lo hi n : Int) : PC Tryz.prog 60 [i64 lo, i64 hi, i64 n] (.bool (withB n lo hi)) := by
  refine pc_of_bodyF hm Tryz.func60 (by kernel_rfl) ?_
  conv => whnf
  refine ⟨fun h => ?_, fun h => ?_⟩ <;> ((conv => whnf); simp_all [-decide_eq_true_eq, -decide_eq_false_iff_not, withB])
def loudB (n : Int) : Bool := !withB n (-64) 64
def seenAt (p n : List Int) (i : Nat) : Int := clip (p.getD i 0 + n.getD i 0)
def seenL (p n : List Int) : List Int := (List.range p.length).map (seenAt p n)
def obsOk (p n : List Int) : Prop := profB p = true ∧ p.length = n.length ∧ n.any loudB = false
end Go.Proofs.Tryz.My
set_option maxRecDepth 100000
set_option maxHeartbeats 0
set_option linter.unusedVariables false
set_option linter.unusedSimpArgs false
namespace Go.Proofs.Tryz.My
open Go Go.Ev
structure OrderT where
  kind : Int
  user : Int
  number : Int
  n : Int
  role : Int
  gauge : GauT
  tru : List Int
  noise : List Int
structure OutT where
  id : Int
  seq : Int
  verdict : Int
  hit : Bool
  out : Bool
structure AnsT where
  e : Int
  n : Int
  outs : List OutT
structure FateT where
  id : Int
  verdict : Int
  hit : Bool
def out0 : OutT := ⟨0, 0, 0, false, false⟩
def ans0 : AnsT := ⟨0, 0, []⟩
def fate0 : FateT := ⟨0, 0, false⟩
def ord0 : OrderT := ⟨0, 0, 0, 0, 0, gau0, [], []⟩
def eOrd (o : OrderT) : List AV := [u8 o.kind, i64 o.user, i64 o.number, i64 o.n, u8 o.role, i64 (gThr o.gauge), i64 (gNoi o.gauge), i64 (gSc o.gauge).1.1, i64 (gSc o.gauge).1.2, i64 (gSc o.gauge).2.1, i64 (gSc o.gauge).2.2, i64 o.gauge.1.2.1, i64 o.gauge.1.2.2, i64 o.gauge.2.1, i64 o.gauge.2.2, ints o.tru, ints o.noise]
abbrev ord (o : OrderT) : AV := .agg (eOrd o)
abbrev ords (l : List OrderT) : AV := .sl 17 ord0 eOrd l
def eOut (o : OutT) : List AV := [i64 o.id, i64 o.seq, u8 o.verdict, .bool o.hit, .bool o.out]
abbrev outs (l : List OutT) : AV := .sl 5 out0 eOut l
def eFate (o : FateT) : List AV := [i64 o.id, u8 o.verdict, .bool o.hit]
abbrev fates (l : List FateT) : AV := .sl 3 fate0 eFate l
def eAns (a : AnsT) : List AV := [i64 a.e, i64 a.n, outs a.outs]
abbrev ans (a : AnsT) : AV := .agg (eAns a)
abbrev anss (l : List AnsT) : AV := .sl 3 ans0 eAns l
def gauZ (g : GauT) : Bool := decide (gThr g = 0 ∧ gNoi g = 0 ∧ (gSc g).1.1 = 0 ∧ (gSc g).1.2 = 0 ∧ (gSc g).2.1 = 0 ∧ (gSc g).2.2 = 0 ∧ g.1.2.1 = 0 ∧ g.1.2.2 = 0 ∧ g.2.1 = 0 ∧ g.2.2 = 0)
def ordB (o : OrderT) : Bool :=
  decide ((1 ≤ o.kind ∧ o.kind ≤ 10) ∧ (o.kind ≤ 3 → o.user = 0) ∧ (o.kind ≤ 4 ∨ o.kind = 7 ∨ o.kind = 10 → o.number = 0) ∧ (3 ≤ o.kind → o.n = 0) ∧ (o.kind ≠ 3 → o.role = 0) ∧
    (o.kind ≠ 2 → o.tru.length + o.noise.length = 0)) && (decide (o.kind = 4) || gauZ o.gauge)
def isId (q : Int) (x : SeenT) : Bool := decide (x.id = q)
def telE (t : TrackT) (q v : Int) : Int :=
  if v < 1 ∨ 3 < v then 2 else if ¬t.parts.any (isId q) = true then 6 else
    if ¬(t.parts.getD (t.parts.findIdx (isId q)) seen0).verdict = 0 ∨ (t.parts.getD (t.parts.findIdx (isId q)) seen0).cnt + winA t.belt t.belt.gate ≤ t.count then 91 else 0
def verS (x : SeenT) (v : Int) : SeenT := ⟨x.id, x.cnt, v, x.hit⟩
def telT (t : TrackT) (q v : Int) : TrackT := ⟨t.belt, t.count, t.next, t.parts.set (t.parts.findIdx (isId q)) (verS (t.parts.getD (t.parts.findIdx (isId q)) seen0) v)⟩
def tel1 (t : TrackT) (x : ThingT) : TrackT := if x.verdict = 0 ∨ ¬x.due = t.count then t else if telE t x.id x.verdict = 0 then telT t x.id x.verdict else t
def telA (t : TrackT) (l : List ThingT) : TrackT := l.foldl tel1 t
def hereB (b : BeltT) (x : SeenT) (n : Int) : Bool := decide (x.cnt + winA b b.gate ≤ n) && decide (n ≤ x.cnt + winB b b.gate)
def opnB (t : TrackT) (n : Int) : Bool := t.parts.any fun x => !decide (x.verdict = 1) && hereB t.belt x n
def hitS (b : BeltT) (op : Bool) (n : Int) (x : SeenT) : SeenT := ⟨x.id, x.cnt, x.verdict, x.hit || (op && hereB b x n)⟩
def goneB (t : TrackT) : Bool := decide (0 < t.parts.length ∧ (t.parts.getD 0 seen0).cnt + winB t.belt t.belt.gate = t.count + 1)
def hits (t : TrackT) : List SeenT := t.parts.map (hitS t.belt (opnB t (t.count + 1)) (t.count + 1))
def advT (t : TrackT) : TrackT := ⟨t.belt, t.count + 1, t.next, if goneB t = true then (hits t).drop 1 else hits t⟩
def fateS (x : SeenT) : FateT := ⟨x.id, x.verdict, x.hit⟩
def advF (t : TrackT) : List FateT := if goneB t = true then [fateS ((hits t).getD 0 seen0)] else []
def senE (t : TrackT) : Int := if 0 < t.parts.length ∧ (t.parts.getD (t.parts.length - 1) seen0).cnt = t.count then 91 else if t.parts.length = 32 ∨ t.next = 1099511627776 then 9 else 0
def senT (t : TrackT) : TrackT := ⟨t.belt, t.count, t.next + 1, t.parts ++ [⟨t.next, t.count, 0, false⟩]⟩
def takD (l : LineT) (d : DriftT) (hit : Bool) : DriftT :=
  ⟨if hit = true then d.hits + 1 else d.hits, d.rounds + 1, d.alarm || raiB l.p.toNat l.q.toNat l.al.1.toNat l.al.2.toNat (if hit = true then d.hits + 1 else d.hits).toNat (d.rounds + 1).toNat⟩
def drift0 : DriftT := ⟨0, 0, false⟩
def movT (b : BeltT) (op : Bool) (n : Int) (x : ThingT) : ThingT := ⟨x.id, x.front + n, x.len, x.verdict, x.due, x.seq, x.out || (op && (decide (b.gate ≤ x.front + n) && decide (x.front ≤ b.gate + x.len)))⟩
def cntE (w : WorldT) (n : Int) : Int := if ¬(w.line.belt.step - w.line.belt.slip ≤ n ∧ n ≤ w.line.belt.step + w.line.belt.slip) then 2 else if w.track.count = 1099511627776 then 9 else 0
def toldT (w : WorldT) : TrackT := telA w.track w.things
def moved (w : WorldT) (n : Int) : List ThingT := w.things.map (movT w.line.belt (opnB (toldT w) (w.track.count + 1)) n)
def outT (x : ThingT) (f : FateT) : OutT := ⟨x.id, x.seq, f.verdict, f.hit, x.out⟩
def cntO (w : WorldT) (n : Int) : List OutT := if goneB (toldT w) = true then [outT ((moved w n).getD 0 thing0) (fateS ((hits (toldT w)).getD 0 seen0))] else []
def cntW (w : WorldT) (n : Int) : WorldT := ⟨w.line, advT (toldT w), w.books, w.drift, if goneB (toldT w) = true then (moved w n).drop 1 else moved w n⟩
instance (p n : List Int) : Decidable (obsOk p n) := by unfold obsOk; infer_instance
def prtE (w : WorldT) (o : OrderT) : Int := if ¬(obsOk o.tru o.noise ∧ (0 ≤ o.n ∧ o.n ≤ w.line.belt.len)) then 2 else if w.drift.alarm = true then 101 else senE w.track
def prtX (w : WorldT) (o : OrderT) : ThingT := ⟨w.track.next, 0, o.n, 0, w.track.count + w.line.lag, -1, false⟩
def recd (w : WorldT) (o : OrderT) : Prop := rcdE w.books w.track.next (seenL o.tru o.noise) = 0
instance (w : WorldT) (o : OrderT) : Decidable (recd w o) := by unfold recd; infer_instance
def recV (w : WorldT) (o : OrderT) : Int := (meaF (rcdG w.books) (seenL o.tru o.noise)).2.1
def drfS (d : DriftT) : DriftT := if d.rounds = 500 then drift0 else d
def prtW (w : WorldT) (o : OrderT) : WorldT :=
  if recd w o then ⟨w.line, senT w.track, rcdB w.books w.track.next (seenL o.tru o.noise), takD w.line (drfS w.drift) (!decide (recV w o = 1)), w.things ++ [⟨w.track.next, 0, o.n, recV w o, w.track.count + w.line.lag, w.books.next, false⟩]⟩
  else ⟨w.line, senT w.track, w.books, w.drift, w.things ++ [prtX w o]⟩
def rstE (w : WorldT) (user : Int) : Int := if ¬(0 ≤ user ∧ user ≤ (w.books.users.length : Int) - 1) then 6 else if ¬w.books.users.getD user.toNat 0 = 3 then 100 else 0
def rstW (w : WorldT) : WorldT := ⟨w.line, w.track, w.books, drift0, w.things⟩
def actO (o : OrderT) : ActT := ⟨if o.kind ≤ 7 then o.kind - 3 else o.kind - 2, o.user, o.number, o.role, o.gauge, []⟩
def bokW (w : WorldT) (b : BooksT) : WorldT := ⟨w.line, w.track, b, w.drift, w.things⟩
def bokN (b : BooksT) (o : OrderT) : Int := if o.kind = 3 then b.users.length else if o.kind = 4 then b.recipes.length else 0
def stpE (w : WorldT) (o : OrderT) : Int := if o.kind = 1 then cntE w o.n else if o.kind = 2 then prtE w o else if o.kind = 10 then rstE w o.user else doE w.books (actO o)
def stpX (w : WorldT) (o : OrderT) : WorldT := if o.kind = 1 then cntW w o.n else if o.kind = 2 then prtW w o else if o.kind = 10 then rstW w else bokW w (doB w.books (actO o))
def stpN (w : WorldT) (o : OrderT) : Int := if o.kind = 1 then w.track.count + 1 else if o.kind = 2 then w.track.next else if o.kind = 10 then 0 else bokN w.books o
def stpO (w : WorldT) (o : OrderT) : List OutT := if o.kind = 1 then cntO w o.n else []
def stpW (w : WorldT) (o : OrderT) : WorldT := if stpE w o = 0 then stpX w o else w
def stpA (w : WorldT) (o : OrderT) : AnsT := if stpE w o = 0 then ⟨0, stpN w o, stpO w o⟩ else ⟨stpE w o, 0, []⟩
def newT (l : LineT) : WorldT := ⟨l, ⟨l.belt, 0, 0, []⟩, ⟨l.keep, [], [], 0, []⟩, drift0, []⟩
def runW (w : WorldT) : List OrderT → WorldT
  | [] => w
  | o :: l => runW (stpW w o) l
def runA (w : WorldT) : List OrderT → List AnsT
  | [] => []
  | o :: l => stpA w o :: runA (stpW w o) l
end Go.Proofs.Tryz.My
set_option maxRecDepth 100000
set_option maxHeartbeats 0
set_option linter.unusedVariables false
set_option linter.unusedSimpArgs false
namespace Go.Proofs.Tryz.My
open Go Go.Ev
def SeenOK (t : TrackT) (s : SeenT) : Prop :=
  (0 ≤ s.id ∧ s.id < t.next) ∧ (0 ≤ s.cnt ∧ s.cnt ≤ t.count ∧ t.count < s.cnt + winB t.belt t.belt.gate) ∧ s.verdict ≤ 3 ∧ (s.hit = true → s.cnt + winA t.belt t.belt.gate ≤ t.count)
def SeenLt (s s' : SeenT) : Prop := s.id < s'.id ∧ s.cnt < s'.cnt
structure GoodTk (t : TrackT) : Prop where
  bl : beltB t.belt = true
  ct : 0 ≤ t.count ∧ t.count ≤ 1099511627776
  nx : 0 ≤ t.next ∧ t.next ≤ 1099511627776
  ln : t.parts.length ≤ 32
  up : List.Pairwise SeenLt t.parts
  sn : ∀ s, s ∈ t.parts → SeenOK t s
theorem all_rangeN {n : Nat} {p : Nat → Bool} : (List.range n).all p = true ↔ ∀ i, i < n → p i = true := by
  rw [List.all_eq_true]
  exact ⟨fun h i hi => h i (List.mem_range.2 hi), fun h i hi => h i (List.mem_range.1 hi)⟩
theorem trk_good {t : TrackT} : trkE t = 0 ↔ GoodTk t := by
  rw [trkE_zero]
  unfold trkB
  rw [Bool.and_eq_true, sizT_iff, all_rangeN]
  constructor
  · rintro ⟨hb, ⟨hc, hn, hl⟩, h⟩
    have low : ∀ i, i < t.parts.length → -1 ≤ (prevS t.parts i).id ∧ -1 ≤ (prevS t.parts i).cnt := fun i hi => by
      have := prev_low (t := t) (k := i) fun j hj => h j (by omega)
      omega
    have okI := fun i hi => okPt_iff.1 (h i hi)
    refine ⟨hb, hc, hn, hl, ?_, ?_⟩
    · have up : ∀ j, j < t.parts.length → ∀ i, i < j → SeenLt (t.parts.getD i seen0) (t.parts.getD j seen0) := by
        intro j
        induction j with
        | zero => intro _ i hi; exact absurd hi (Nat.not_lt_zero i)
        | succ j ih =>
          intro hj i hi
          have a := okI (j + 1) hj
          rw [prevS_succ] at a
          by_cases e : i = j
          · subst e; exact ⟨a.1, a.2.2.1⟩
          · have := ih (by omega) i (by omega)
            exact ⟨by have := this.1; omega, by have := this.2; omega⟩
      refine List.pairwise_iff_getElem.2 fun i j hi hj hij => ?_
      have := up j hj i hij
      rwa [getD_at hi, getD_at hj] at this
    · intro s hs
      obtain ⟨i, hi, e⟩ := List.getElem_of_mem hs
      have a := okI i hi
      have b := low i hi
      rw [getD_at hi, e] at a
      exact ⟨⟨by omega, a.2.1⟩, ⟨by omega, a.2.2.2.1, a.2.2.2.2.1⟩, a.2.2.2.2.2.1, a.2.2.2.2.2.2⟩
  · intro g
    refine ⟨g.bl, ⟨g.ct, g.nx, g.ln⟩, fun i hi => okPt_iff.2 ?_⟩
    have s := g.sn _ (List.getElem_mem hi)
    rw [getD_at hi]
    obtain ⟨s1, s2, s3, s4⟩ := s
    cases i with
    | zero =>
      rw [prevS_zero]
      exact ⟨by show (-1 : Int) < _; omega, s1.2, by show (-1 : Int) < _; omega, s2.2.1, s2.2.2, s3, s4⟩
    | succ i =>
      rw [prevS_succ, getD_at (show i < t.parts.length by omega)]
      have := List.pairwise_iff_getElem.1 g.up i (i + 1) (by omega) hi (by omega)
      exact ⟨this.1, s1.2, this.2, s2.2.1, s2.2.2, s3, s4⟩
def ThingOK (w : WorldT) (x : ThingT) (s : SeenT) : Prop :=
  x.id = s.id ∧ (0 ≤ x.len ∧ x.len ≤ w.line.belt.len) ∧ ((w.track.count - s.cnt) * (w.line.belt.step - w.line.belt.slip) ≤ x.front ∧ x.front ≤ (w.track.count - s.cnt) * (w.line.belt.step + w.line.belt.slip)) ∧
    x.verdict ≤ 3 ∧ (0 ≤ x.due ∧ x.due ≤ 1099511627876) ∧ (-1 ≤ x.seq ∧ x.seq ≤ w.books.next - 1)
structure GoodW (w : WorldT) : Prop where
  ln : lineE w.line = 0
  bl : w.track.belt = w.line.belt
  kp : w.books.keep = w.line.keep
  lt : w.things.length = w.track.parts.length
  df : driftB w.drift = true
  tk : GoodTk w.track
  bk : GoodB w.books
  th : ∀ i, i < w.things.length → ThingOK w (w.things.getD i thing0) (w.track.parts.getD i seen0)
def SameK (t u : TrackT) : Prop := u.belt = t.belt ∧ u.count = t.count ∧ u.next = t.next ∧ u.parts.length = t.parts.length ∧ ∀ i, (u.parts.getD i seen0).id = (t.parts.getD i seen0).id ∧ (u.parts.getD i seen0).cnt = (t.parts.getD i seen0).cnt ∧ (u.parts.getD i seen0).hit = (t.parts.getD i seen0).hit
theorem SameK.refl (t : TrackT) : SameK t t := ⟨rfl, rfl, rfl, rfl, fun _ => ⟨rfl, rfl, rfl⟩⟩
theorem SameK.trans {t u v : TrackT} (h : SameK t u) (k : SameK u v) : SameK t v :=
  ⟨k.1.trans h.1, k.2.1.trans h.2.1, k.2.2.1.trans h.2.2.1, k.2.2.2.1.trans h.2.2.2.1, fun i => ⟨(k.2.2.2.2 i).1.trans (h.2.2.2.2 i).1, (k.2.2.2.2 i).2.1.trans (h.2.2.2.2 i).2.1, (k.2.2.2.2 i).2.2.trans (h.2.2.2.2 i).2.2⟩⟩
theorem mem_getD {α : Type} {d : α} {l : List α} {i : Nat} (hi : i < l.length) : l.getD i d ∈ l := by rw [getD_at hi]; exact List.getElem_mem hi
end Go.Proofs.Tryz.My
