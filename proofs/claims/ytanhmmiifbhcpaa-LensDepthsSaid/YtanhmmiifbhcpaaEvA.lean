/- Abstract values, and how they stand for values in memory. A helper text: it speaks of no program. -/
import Derived.Deep.Quiet
import Derived.Below
import Derived.Laws.AppendOwn
import Derived.Laws.CopyRow
import Derived.RangeFuncNested
set_option linter.unusedVariables false
set_option linter.unusedSimpArgs false
namespace Go.Ev

/-- Abstract values. 'sl', 'slc', 'pt': memory that nobody writes any more. 'ptr', 'own': places in the rows that the running call owns. -/
inductive AV : Type 1
  | any | tt | ff
  | bool (b : Bool)
  | int (k : IntKind) (n : Int)
  | str (s : ByteArray)
  | nilp | nils | nilf
  | agg (l : List AV)
  | tup (l : List AV)
  | sl {α : Type} (sz : Nat) (d : α) (enc : α → List AV) (l : List α)
  | slc (sz : Nat) (css : List (List AV))
  | pt (cs : List AV) (off : Nat)
  | ptr (id sz i off : Nat)
  | own (id : Nat)
  | fn (f : Fn) (first caps : List AV)

inductive Row : Type 1
  | none
  | cells (ty : TypeId) (cs : List AV)
  | lit (ty : TypeId) (sz : Nat) (css : List (List AV))
  | vec {α : Type} (ty : TypeId) (sz : Nat) (d : α) (enc : α → List AV) (l : List α)
  | ctr (l : Nat) (xs : List (List AV)) (k : Nat) (e : Bool)

/-- What stands for a value and leans on no memory that the running call may write. -/
inductive RepI (F : Nat → Prop) (w : World) : AV → Value → Prop
  | any (v) : RepI F w .any v
  | tt : RepI F w .tt (.bool true)
  | ff : RepI F w .ff (.bool false)
  | bool (b) : RepI F w (.bool b) (.bool b)
  | int (k n) : RepI F w (.int k n) (.int k n)
  | str (s) : RepI F w (.str s) (.string s)
  | nilp : RepI F w .nilp (.pointer none)
  | nils : RepI F w .nils (.slice none 0 0)
  | nilf : RepI F w .nilf .nilFunc
  | agg {xs : List AV} {vs : Array Value} (hl : xs.length = vs.size) (h : ∀ i, i < xs.length → RepI F w (xs.getD i .any) (vs.getD i undef)) : RepI F w (.agg xs) (.agg vs)
  | tup {xs : List AV} {vs : Array Value} (hl : xs.length = vs.size) (h : ∀ i, i < xs.length → RepI F w (xs.getD i .any) (vs.getD i undef)) : RepI F w (.tup xs) (.tuple vs)
  | slnil {α : Type} {sz : Nat} {d : α} {enc : α → List AV} : RepI F w (.sl sz d enc []) (.slice none 0 0)
  | sl {α : Type} {sz : Nat} {d : α} {enc : α → List AV} {l : List α} {b o cap : Nat} (g : Nat → Nat → Value) (hc : l.length ≤ cap)
      (hb : ∀ i j, i < l.length → j < sz → F b ∧ w.cell? ⟨b, o + i * sz + j, none⟩ = some (g i j))
      (h : ∀ i j, i < l.length → j < sz → RepI F w ((enc (l.getD i d)).getD j .any) (g i j)) :
      RepI F w (.sl sz d enc l) (.slice (some ⟨b, o, none⟩) l.length cap)
  | slcnil {sz : Nat} : RepI F w (.slc sz []) (.slice none 0 0)
  | slc {sz : Nat} {css : List (List AV)} {b o cap : Nat} (g : Nat → Nat → Value) (hc : css.length ≤ cap)
      (hb : ∀ i j, i < css.length → j < sz → F b ∧ w.cell? ⟨b, o + i * sz + j, none⟩ = some (g i j))
      (h : ∀ i j, i < css.length → j < sz → RepI F w ((css.getD i []).getD j .any) (g i j)) :
      RepI F w (.slc sz css) (.slice (some ⟨b, o, none⟩) css.length cap)
  | pt {cs : List AV} {off b o : Nat} (g : Nat → Value)
      (hb : ∀ j, j < cs.length → F b ∧ w.cell? ⟨b, o + j, none⟩ = some (g j))
      (h : ∀ j, j < cs.length → RepI F w (cs.getD j .any) (g j)) : RepI F w (.pt cs off) (.pointer (some ⟨b, o + off, none⟩))
  | fn {f : Fn} {xs ys : List AV} {vs us : Array Value} (hl : xs.length = vs.size) (h : ∀ i, i < xs.length → RepI F w (xs.getD i .any) (vs.getD i undef))
      (hm : ys.length = us.size) (k : ∀ i, i < ys.length → RepI F w (ys.getD i .any) (us.getD i undef)) : RepI F w (.fn f xs ys) (.func f vs us)

theorem RepI.mono {F F' : Nat → Prop} {w w' : World} (hF : ∀ b, F b → F' b) (hw : ∀ b o v, F b → w.cell? ⟨b, o, none⟩ = some v → w'.cell? ⟨b, o, none⟩ = some v)
    {x : AV} {v : Value} (h : RepI F w x v) : RepI F' w' x v := by
  induction h with
  | any v => exact .any v
  | tt => exact .tt
  | ff => exact .ff
  | bool b => exact .bool b
  | int k n => exact .int k n
  | str s => exact .str s
  | nilp => exact .nilp
  | nils => exact .nils
  | nilf => exact .nilf
  | agg hl _ ih => exact .agg hl ih
  | tup hl _ ih => exact .tup hl ih
  | slnil => exact .slnil
  | sl g hc hb _ ih => exact .sl g hc (fun i j hi hj => ⟨hF _ (hb i j hi hj).1, hw _ _ _ (hb i j hi hj).1 (hb i j hi hj).2⟩) ih
  | slcnil => exact .slcnil
  | slc g hc hb _ ih => exact .slc g hc (fun i j hi hj => ⟨hF _ (hb i j hi hj).1, hw _ _ _ (hb i j hi hj).1 (hb i j hi hj).2⟩) ih
  | pt g hb _ ih => exact .pt g (fun j hj => ⟨hF _ (hb j hj).1, hw _ _ _ (hb j hj).1 (hb j hj).2⟩) ih
  | fn hl _ hm _ ih ik => exact .fn hl ih hm ik

/-- Only blocks that are there count. -/
theorem RepI.there {F : Nat → Prop} {w : World} {x : AV} {v : Value} (h : RepI F w x v) : RepI (fun b => F b ∧ b < w.heap.size) w x v := by
  have lt : ∀ {b o : Nat} {u : Value}, w.cell? ⟨b, o, none⟩ = some u → b < w.heap.size := fun {b o u} hc => World.block_lt_of_cell? w ⟨b, o, none⟩ hc
  induction h with
  | any v => exact .any v
  | tt => exact .tt
  | ff => exact .ff
  | bool b => exact .bool b
  | int k n => exact .int k n
  | str s => exact .str s
  | nilp => exact .nilp
  | nils => exact .nils
  | nilf => exact .nilf
  | agg hl _ ih => exact .agg hl ih
  | tup hl _ ih => exact .tup hl ih
  | slnil => exact .slnil
  | sl g hc hb _ ih => exact .sl g hc (fun i j hi hj => ⟨⟨(hb i j hi hj).1, lt (hb i j hi hj).2⟩, (hb i j hi hj).2⟩) ih
  | slcnil => exact .slcnil
  | slc g hc hb _ ih => exact .slc g hc (fun i j hi hj => ⟨⟨(hb i j hi hj).1, lt (hb i j hi hj).2⟩, (hb i j hi hj).2⟩) ih
  | pt g hb _ ih => exact .pt g (fun j hj => ⟨⟨(hb j hj).1, lt (hb j hj).2⟩, (hb j hj).2⟩) ih
  | fn hl _ hm _ ih ik => exact .fn hl ih hm ik

/-- Where a row lies: its block (none: a nil slice), and the length and capacity of the slice that it is. -/
structure Hd where
  b : Option Nat
  len : Nat
  cap : Nat

/-- What stands for a value: 'β' says where each row of the call's own lies. -/
inductive Rep (β : Nat → Option Hd) (F : Nat → Prop) (w : World) : AV → Value → Prop
  | imm {x v} (h : RepI F w x v) : Rep β F w x v
  | ptr {id sz i off b : Nat} {hd : Hd} (hb : β id = some hd) (hh : hd.b = some b) : Rep β F w (.ptr id sz i off) (.pointer (some ⟨b, i * sz + off, none⟩))
  | own {id : Nat} {hd : Hd} (hb : β id = some hd) : Rep β F w (.own id) (.slice (hd.b.map fun b => ⟨b, 0, none⟩) hd.len hd.cap)
  | agg {xs : List AV} {vs : Array Value} (hl : xs.length = vs.size) (h : ∀ i, i < xs.length → Rep β F w (xs.getD i .any) (vs.getD i undef)) : Rep β F w (.agg xs) (.agg vs)
  | tup {xs : List AV} {vs : Array Value} (hl : xs.length = vs.size) (h : ∀ i, i < xs.length → Rep β F w (xs.getD i .any) (vs.getD i undef)) : Rep β F w (.tup xs) (.tuple vs)
  | fn {f : Fn} {xs ys : List AV} {vs us : Array Value} (hl : xs.length = vs.size) (h : ∀ i, i < xs.length → Rep β F w (xs.getD i .any) (vs.getD i undef))
      (hm : ys.length = us.size) (k : ∀ i, i < ys.length → Rep β F w (ys.getD i .any) (us.getD i undef)) : Rep β F w (.fn f xs ys) (.func f vs us)

/-- What a block of the immutable ones holds stays. -/
def Keeps (F : Nat → Prop) (w w' : World) : Prop := ∀ (b o : Nat) (v : Value), F b → w.cell? ⟨b, o, none⟩ = some v → w'.cell? ⟨b, o, none⟩ = some v

theorem Keeps.refl (F : Nat → Prop) (w : World) : Keeps F w w := fun _ _ _ _ h => h

/-- The map of rows grows. -/
theorem Rep.grow {β β' : Nat → Option Hd} {F F' : Nat → Prop} {w w' : World} (hβ : ∀ j, β j ≠ none → β' j = β j) (hF : ∀ b, F b → F' b) (hw : Keeps F w w')
    {x : AV} {v : Value} (h : Rep β F w x v) : Rep β' F' w' x v := by
  induction h with
  | imm h => exact .imm (h.mono hF hw)
  | ptr hb hh => exact .ptr ((hβ _ (by simp [hb])).trans hb) hh
  | own hb => exact .own ((hβ _ (by simp [hb])).trans hb)
  | agg hl _ ih => exact .agg hl ih
  | tup hl _ ih => exact .tup hl ih
  | fn hl _ hm _ ih ik => exact .fn hl ih hm ik

/-! ### Whether an abstract value names a row -/
mutual
def AV.names (id : Nat) : AV → Bool
  | .ptr j _ _ _ => Nat.beq j id
  | .own j => Nat.beq j id
  | .agg l => namesL id l
  | .tup l => namesL id l
  | .fn _ a b => namesL id a || namesL id b
  | _ => false
def namesL (id : Nat) : List AV → Bool
  | [] => false
  | a :: l => a.names id || namesL id l
end

theorem namesL_getD {id : Nat} : ∀ {l : List AV}, namesL id l = false → ∀ i, i < l.length → (l.getD i .any).names id = false
  | a :: l, h, 0, _ => by simp [namesL] at h; exact h.1
  | a :: l, h, i + 1, hi => by
    simp [namesL] at h
    have := namesL_getD h.2 i (by simpa using hi)
    simpa using this

/-- The map of rows turns at one row that the abstract value does not name. -/
theorem Rep.turn {β β' : Nat → Option Hd} {F : Nat → Prop} {w : World} {id : Nat} (hβ : ∀ j, j ≠ id → β' j = β j) {x : AV} {v : Value} (h : Rep β F w x v) (hx : x.names id = false) : Rep β' F w x v := by
  induction h with
  | imm h => exact .imm h
  | ptr hb hh => exact .ptr ((hβ _ (fun e => by subst e; simp [AV.names] at hx)).trans hb) hh
  | own hb => exact .own ((hβ _ (fun e => by subst e; simp [AV.names] at hx)).trans hb)
  | agg hl _ ih => exact .agg hl fun i hi => ih i hi (namesL_getD (by simpa [AV.names] using hx) i hi)
  | tup hl _ ih => exact .tup hl fun i hi => ih i hi (namesL_getD (by simpa [AV.names] using hx) i hi)
  | fn hl _ hm _ ih ik =>
    simp [AV.names] at hx
    exact .fn hl (fun i hi => ih i hi (namesL_getD hx.1 i hi)) hm (fun i hi => ik i hi (namesL_getD hx.2 i hi))

/-! ### Closed values -/
mutual
/-- It names no row at all. -/
def AV.closed : AV → Bool
  | .ptr .. => false
  | .own .. => false
  | .agg l => closedL l
  | .tup l => closedL l
  | .fn _ a b => closedL a && closedL b
  | _ => true
def closedL : List AV → Bool
  | [] => true
  | a :: l => a.closed && closedL l
end

theorem closedL_getD : ∀ {l : List AV}, closedL l = true → ∀ i, (l.getD i .any).closed = true
  | [], _, _ => rfl
  | a :: l, h, 0 => by simp [closedL] at h; exact h.1
  | a :: l, h, i + 1 => by
    simp [closedL] at h
    have := closedL_getD h.2 i
    simpa using this

theorem Rep.shut {β : Nat → Option Hd} {F : Nat → Prop} {w : World} {x : AV} {v : Value} (h : Rep β F w x v) (hx : x.closed = true) : RepI F w x v := by
  induction h with
  | imm h => exact h
  | ptr => simp [AV.closed] at hx
  | own => simp [AV.closed] at hx
  | agg hl _ ih => exact .agg hl fun i hi => ih i hi (closedL_getD (by simpa [AV.closed] using hx) i)
  | tup hl _ ih => exact .tup hl fun i hi => ih i hi (closedL_getD (by simpa [AV.closed] using hx) i)
  | fn hl _ hm _ ih ik =>
    simp [AV.closed] at hx
    exact .fn hl (fun i hi => ih i hi (closedL_getD hx.1 i)) hm (fun i hi => ik i hi (closedL_getD hx.2 i))

mutual
/-- It leans on no memory at all. -/
def AV.flat : AV → Bool
  | .any | .tt | .ff | .bool _ | .int _ _ | .str _ | .nilp | .nils | .nilf => true
  | .agg l => flatL l
  | .tup l => flatL l
  | .fn _ a b => flatL a && flatL b
  | _ => false
def flatL : List AV → Bool
  | [] => true
  | a :: l => a.flat && flatL l
end

theorem flatL_getD : ∀ {l : List AV}, flatL l = true → ∀ i, (l.getD i .any).flat = true
  | [], _, _ => rfl
  | a :: l, h, 0 => by simp [flatL] at h; exact h.1
  | a :: l, h, i + 1 => by
    simp [flatL] at h
    have := flatL_getD h.2 i
    simpa using this

theorem RepI.lift {F F' : Nat → Prop} {w w' : World} {x : AV} {v : Value} (h : RepI F w x v) (hx : x.flat = true) : RepI F' w' x v := by
  induction h with
  | any v => exact .any v
  | tt => exact .tt
  | ff => exact .ff
  | bool b => exact .bool b
  | int k n => exact .int k n
  | str s => exact .str s
  | nilp => exact .nilp
  | nils => exact .nils
  | nilf => exact .nilf
  | agg hl _ ih => exact .agg hl fun i hi => ih i hi (flatL_getD (by simpa [AV.flat] using hx) i)
  | tup hl _ ih => exact .tup hl fun i hi => ih i hi (flatL_getD (by simpa [AV.flat] using hx) i)
  | fn hl _ hm _ ih ik =>
    simp [AV.flat] at hx
    exact .fn hl (fun i hi => ih i hi (flatL_getD hx.1 i)) hm (fun i hi => ik i hi (flatL_getD hx.2 i))
  | _ => simp [AV.flat] at hx

/-! ### Constants -/
def AV.ofConst : Value → AV
  | .bool true => .tt
  | .bool false => .ff
  | .int k n => .int k n
  | .string s => .str s
  | .pointer none => .nilp
  | .slice none 0 0 => .nils
  | .nilFunc => .nilf
  | _ => .any
theorem RepI.ofConst {F : Nat → Prop} {w : World} (v : Value) : RepI F w (.ofConst v) v := by
  unfold AV.ofConst
  split <;> constructor

def AV.cells : AV → List AV
  | .agg l => l
  | x => [x]


/-! ### The state of a running call -/
/-- In what code: a function's own; a round of a loop over an iterator, whose numbers alone may be used anew; an iterator's. -/
inductive Md
  | plain
  | round (ks : List Nat)
  | iter
structure St : Type 1 where
  t : List AV
  h : List Row
  n : Md
structure Out : Type 1 where
  v : AV
  rows : List (Nat × Row)
def St.get (S : St) : Operand → AV
  | .tmp i => S.t.getD i .any
  | .const v => AV.ofConst v
  | .global _ => .any
  | .func f => .fn (.func f) [] []
def St.row (S : St) (id : Nat) : Row := S.h.getD id .none
def setRows (h : List Row) : List (Nat × Row) → List Row
  | [] => h
  | (i, r) :: l => setRows (h.set i r) l
def setDst (t : List AV) (dst : Option Nat) (v : AV) : List AV :=
  match dst with
  | some d => t.set d v
  | none => t
def St.put (S : St) (dst : Option Nat) (o : Out) : St := ⟨setDst S.t dst o.v, setRows S.h o.rows, S.n⟩
def hasN (i : Nat) : List Nat → Bool
  | [] => false
  | d :: l => match Nat.beq i d with
    | true => true
    | false => hasN i l
/-- Whether a row's number may be used anew. -/
def mayKill (S : St) (d : Nat) : Bool :=
  match Nat.blt d S.t.length with
  | true => match S.n with
    | .round ks => hasN d ks
    | _ => true
  | false => false

def RowRep (β : Nat → Option Hd) (F : Nat → Prop) (w : World) (id : Nat) : Row → Prop
  | .none => True
  | .ctr _ _ _ _ => ∃ hd, β id = some hd ∧ hd.b = none
  | .cells ty cs => ∃ hd b vs, β id = some hd ∧ hd.b = some b ∧ w.heap[b]? = some (.cells vs ty (0, 0)) ∧ vs.size = cs.length ∧ ∀ i, i < cs.length → Rep β F w (cs.getD i .any) (vs.getD i undef)
  | .lit ty sz css => ∃ hd b vs, β id = some hd ∧ hd.b = some b ∧ w.heap[b]? = some (.cells vs ty (0, 0)) ∧ hd.len = css.length ∧ hd.cap = css.length ∧ vs.size = css.length * sz ∧ css.length ≤ maxLen ∧
      ∀ i j, i < css.length → j < sz → Rep β F w ((css.getD i []).getD j .any) (vs.getD (i * sz + j) undef)
  | .vec ty sz d enc l => ∃ hd, β id = some hd ∧ hd.len = l.length ∧ ((l = [] ∧ hd.b = none ∧ hd.cap = 0) ∨ ∃ b vs, hd.b = some b ∧ w.heap[b]? = some (.cells vs ty (0, 0)) ∧
      l.length ≤ hd.cap ∧ hd.cap ≤ maxLen ∧ vs.size = hd.cap * sz ∧ ∀ i j, i < l.length → j < sz → RepI F w ((enc (l.getD i d)).getD j .any) (vs.getD (i * sz + j) undef))

/-- The block of a row. -/
def blk (β : Nat → Option Hd) (i : Nat) : Option Nat := (β i).bind (·.b)

/-- What the call may not write lies as it lay. -/
structure BelowO (O : Nat → Prop) (w w' : World) : Prop where
  os : w'.os = w.os
  tape : w'.tape = w.tape
  output : w'.output = w.output
  size : w.heap.size ≤ w'.heap.size
  block : ∀ k, ¬ O k → w'.heap[k]? = w.heap[k]?
theorem BelowO.refl (O : Nat → Prop) (w : World) : BelowO O w w := ⟨rfl, rfl, rfl, Nat.le_refl _, fun _ _ => rfl⟩
theorem BelowO.trans {O : Nat → Prop} {a b c : World} (h : BelowO O a b) (k : BelowO O b c) : BelowO O a c :=
  ⟨k.os.trans h.os, k.tape.trans h.tape, k.output.trans h.output, Nat.le_trans h.size k.size, fun i hi => (k.block i hi).trans (h.block i hi)⟩
theorem BelowO.alloc {O : Nat → Prop} {a w : World} (h : BelowO O a w) (hB : ∀ b, w.heap.size ≤ b → O b) (o : Obj) : BelowO O a (w.alloc o) :=
  h.trans ⟨rfl, rfl, rfl, by simp, fun k hk => RowKit.Below.heap_alloc _ _ _ (Nat.lt_of_not_le fun hle => hk (hB k hle))⟩
theorem BelowO.mono {O O' : Nat → Prop} {w w' : World} (h : BelowO O w w') (hO : ∀ b, O b → O' b) : BelowO O' w w' := ⟨h.os, h.tape, h.output, h.size, fun k hk => h.block k fun ho => hk (hO k ho)⟩
theorem BelowO.below {n : Nat} {w w' : World} (h : BelowO (fun b => n ≤ b) w w') : RowKit.Below n w w' := ⟨h.os, h.tape, h.output, h.size, fun k hk => h.block k (by omega)⟩

/-- What was there when the call began: memory that stays, the rows that the caller handed over; the loop whose round it is; of an iterator: what it yields, and to whom. -/
structure Env (P : Program) : Type 1 where
  F : Nat → Prop
  β : Nat → Option Hd
  r : Option Nat
  n : Md
  nr : (∀ ks, n ≠ .round ks) → r = none
  l : Nat
  xs : List (List AV)
  J : Nat → Bool → (Nat → Prop) → World → Prop
  ni : ∀ k e O w, J k e O w → n = .iter
  st : ∀ k e O w w', J k e O w → (∀ b, b < w.heap.size → ¬ O b → w'.heap[b]? = w.heap[b]?) → w'.os = w.os → w'.tape = w.tape → w'.output = w.output → w.heap.size ≤ w'.heap.size →
    J k e (fun b => O b ∨ (w.heap.size ≤ b ∧ b < w'.heap.size)) w'
  rd : ∀ k O W vs x, J k false O W → xs[k]? = some x → (∀ b, O b → b < W.heap.size) → vs.size = x.length → (∀ i, i < x.length → RepI (fun _ => False) W (x.getD i .any) (vs.getD i undef)) →
    YieldAt Fence.wide 0 P l vs W fun e W' => W'.os = W.os ∧ W'.tape = W.tape ∧ W'.output = W.output ∧ W.heap.size ≤ W'.heap.size ∧ (∀ b, O b → W'.heap[b]? = W.heap[b]?) ∧ Keeps F W W' ∧
      ((e = .returned (.bool true) ∧ J (k + 1) false O W') ∨ (e = .returned (.bool false) ∧ J (k + 1) true O W'))
/-- Of a call that is no iterator's. -/
def Env.plain (P : Program) (F : Nat → Prop) (β : Nat → Option Hd) (r : Option Nat) (n : Md) (nr : (∀ ks, n ≠ .round ks) → r = none) : Env P :=
  ⟨F, β, r, n, nr, 0, [], fun _ _ _ _ => False, fun _ _ _ _ h => h.elim, fun _ _ _ _ _ h => h.elim, fun _ _ _ _ _ h => h.elim⟩
abbrev markOf (D : Nat) : Deferred := { target := .collected D, args := #[] }

structure Rel {P : Program} (B : Nat → Prop) (w0 : World) (F0 : Env P) (S : St) (β : Nat → Option Hd) (F : Nat → Prop) (a : Act) (w : World) : Prop where
  len : S.t.length = a.tmps.size
  slots : ∀ i, i < S.t.length → Rep β F w (S.t.getD i .any) (a.tmps.getD i undef)
  marks : ∃ Ds : List Nat, (a.defers = Ds.map markOf ∧ (F0.n ≠ .plain → Ds = [])) ∧ Ds.Nodup ∧ ∀ D ∈ Ds, w.heap[D]? = some (.deferred (some [])) ∧ B D ∧ w0.heap.size ≤ D
  rows : ∀ id, RowRep β F w id (S.row id)
  inj : ∀ i j b, S.row i ≠ .none → S.row j ≠ .none → blk β i = some b → blk β j = some b → i = j
  bF : ∀ i b, S.row i ≠ .none → blk β i = some b → ¬ F b
  bB : ∀ i b, blk β i = some b → B b ∧ b < w.heap.size
  FB : ∀ b, F b → b < w.heap.size ∧ (F0.F b ∨ B b)
  below : BelowO B w0 w
  BW : ∀ b, w.heap.size ≤ b → B b
  top : ∀ j hd, F0.β j = some hd → β j = some hd
  topn : ∀ j, mayKill S j = true → F0.β j = none
  nn : S.n = F0.n
  inc : ∀ b, F0.F b → F b
  keep : Keeps F0.F w0 w
  sol : F0.n ≠ .iter → ∀ (k : Nat) (o : Obj), w0.heap[k]? = some o → o.isCells = false → w.heap[k]? = some o
  yl : ∀ id l xs k e, S.row id = .ctr l xs k e → l = F0.l ∧ xs = F0.xs ∧ ((∀ b, B b) ∧ F0.r = none) ∧ ∃ O, F0.J k e O w ∧ (∀ b, O b → b < w.heap.size) ∧ (∀ i b, S.row i ≠ .none → blk β i = some b → O b) ∧ (∀ b, F b → F0.F b ∨ O b) ∧ (∀ D, markOf D ∈ a.defers → O D) ∧ ∀ id' l' xs' k' e', S.row id' = .ctr l' xs' k' e' → id' = id

theorem Rel.get {P : Program} {B w0} {F0 : Env P} {S β F a w} (h : Rel B w0 F0 S β F a w) (x : Operand) : Rep β F w (S.get x) (a.eval x) := by
  cases x with
  | tmp i =>
    by_cases hi : i < S.t.length
    · exact h.slots i hi
    · have : S.t.getD i .any = .any := by simp [List.getD, List.getElem?_eq_none (Nat.le_of_not_lt hi)]
      show Rep β F w (S.t.getD i .any) _
      rw [this]; exact .imm (.any _)
  | const v => exact .imm (.ofConst v)
  | global g => exact .imm (.any _)
  | func f => exact .imm (.fn rfl (fun i hi => absurd hi (Nat.not_lt_zero i)) rfl (fun i hi => absurd hi (Nat.not_lt_zero i)))

theorem getD_setDst (t : List AV) (dst : Option Nat) (v : AV) (i : Nat) : (setDst t dst v).getD i .any = if dst = some i ∧ i < t.length then v else t.getD i .any := by
  cases dst with
  | none => simp [setDst]
  | some d =>
    simp only [setDst, List.getD, List.getElem?_set]
    by_cases hd : d = i
    · subst hd
      by_cases hl : d < t.length <;> simp [hl]
    · simp [hd]

theorem length_setDst (t : List AV) (dst : Option Nat) (v : AV) : (setDst t dst v).length = t.length := by cases dst <;> simp [setDst]

theorem tmps_put_getD (a : Act) (dst : Option Nat) (v : Value) (i : Nat) : (a.put dst v).tmps.getD i undef = if dst = some i ∧ i < a.tmps.size then v else a.tmps.getD i undef := by
  cases dst with
  | none => simp [Act.put]
  | some d =>
    simp only [Act.put, Array.getD_eq_getD_getElem?, Array.getElem?_setIfInBounds]
    by_cases hd : d = i
    · subst hd
      by_cases hl : d < a.tmps.size <;> simp [hl]
    · simp [hd]

theorem tmps_put_size (a : Act) (dst : Option Nat) (v : Value) : (a.put dst v).tmps.size = a.tmps.size := by cases dst <;> simp [Act.put]
theorem put_defers (a : Act) (dst : Option Nat) (v : Value) : (a.put dst v).defers = a.defers := by cases dst <;> rfl

theorem RowRep.grow {β β' : Nat → Option Hd} {F F' : Nat → Prop} {w w' : World} {id : Nat} (hβ : ∀ j, β j ≠ none → β' j = β j) (hF : ∀ b, F b → F' b) (hw : Keeps F w w')
    (hb : ∀ b, blk β id = some b → w'.heap[b]? = w.heap[b]?) {r : Row} (h : RowRep β F w id r) : RowRep β' F' w' id r := by
  cases r with
  | none => trivial
  | ctr l xs k e => obtain ⟨hd, h1, h2⟩ := h; exact ⟨hd, (hβ _ (by simp [h1])).trans h1, h2⟩
  | cells ty cs =>
    obtain ⟨hd, b, vs, h1, h1', h2, h3, h4⟩ := h
    exact ⟨hd, b, vs, (hβ _ (by simp [h1])).trans h1, h1', (hb b (by simp [blk, h1, h1'])).trans h2, h3, fun i hi => (h4 i hi).grow hβ hF hw⟩
  | lit ty sz css =>
    obtain ⟨hd, b, vs, h1, h1', h2, h3, h4, h5, h6, h7⟩ := h
    exact ⟨hd, b, vs, (hβ _ (by simp [h1])).trans h1, h1', (hb b (by simp [blk, h1, h1'])).trans h2, h3, h4, h5, h6, fun i j hi hj => (h7 i j hi hj).grow hβ hF hw⟩
  | vec ty sz d enc l =>
    obtain ⟨hd, h1, h2, h3⟩ := h
    refine ⟨hd, (hβ _ (by simp [h1])).trans h1, h2, ?_⟩
    rcases h3 with h3 | ⟨b, vs, h4, h5, h6, h7, h8, h9⟩
    · exact .inl h3
    · exact .inr ⟨b, vs, h4, (hb b (by simp [blk, h1, h4])).trans h5, h6, h7, h8, fun i j hi hj => (h9 i j hi hj).mono hF hw⟩

theorem RowRep.some {β : Nat → Option Hd} {F : Nat → Prop} {w : World} {id : Nat} {r : Row} (h : RowRep β F w id r) (hr : r ≠ .none) : ∃ hd, β id = some hd := by
  cases r with
  | none => exact absurd rfl hr
  | ctr l xs k e => obtain ⟨hd, h1, _⟩ := h; exact ⟨hd, h1⟩
  | cells ty cs => obtain ⟨hd, b, vs, h1, _⟩ := h; exact ⟨hd, h1⟩
  | lit ty sz css => obtain ⟨hd, b, vs, h1, _⟩ := h; exact ⟨hd, h1⟩
  | vec ty sz d enc l => obtain ⟨hd, h1, _⟩ := h; exact ⟨hd, h1⟩

theorem rowRep_isCells {β : Nat → Option Hd} {F : Nat → Prop} {w : World} {id : Nat} {r : Row} (h : RowRep β F w id r) (hr : r ≠ .none) {b : Nat} (hb : blk β id = some b) : ∃ vs ty, w.heap[b]? = some (.cells vs ty (0, 0)) := by
  cases r with
  | none => exact absurd rfl hr
  | ctr l xs k e => obtain ⟨hd, h1, h2⟩ := h; simp [blk, h1, h2] at hb
  | cells ty cs => obtain ⟨hd, b', vs, h1, h2, h3, _⟩ := h; simp [blk, h1, h2] at hb; subst hb; exact ⟨_, _, h3⟩
  | lit ty sz css => obtain ⟨hd, b', vs, h1, h2, h3, _⟩ := h; simp [blk, h1, h2] at hb; subst hb; exact ⟨_, _, h3⟩
  | vec ty sz d enc l =>
    obtain ⟨hd, h1, _, h3⟩ := h
    rcases h3 with ⟨_, h4, _⟩ | ⟨b', vs, h4, h5, _⟩
    · simp [blk, h1, h4] at hb
    · simp [blk, h1, h4] at hb; subst hb; exact ⟨_, _, h5⟩

theorem Rel.ylOf {P : Program} {B w0} {F0 : Env P} {S β F a w} (hR : Rel B w0 F0 S β F a w) {S' : St} {β' : Nat → Option Hd} {F' : Nat → Prop} (m : Nat → Nat) (h1 : ∀ id l xs k e, S'.row id = .ctr l xs k e → S.row (m id) = .ctr l xs k e) (hm : ∀ i j, S'.row i ≠ .none → S'.row j ≠ .none → m i = m j → i = j)
    (h2 : ∀ i b, S'.row i ≠ .none → blk β' i = some b → ∃ j, S.row j ≠ .none ∧ blk β j = some b) (h3 : ∀ b, F' b → F b ∨ ∃ j, S.row j ≠ .none ∧ blk β j = some b) :
    ∀ id l xs k e, S'.row id = .ctr l xs k e → l = F0.l ∧ xs = F0.xs ∧ ((∀ b, B b) ∧ F0.r = none) ∧ ∃ O, F0.J k e O w ∧ (∀ b, O b → b < w.heap.size) ∧ (∀ i b, S'.row i ≠ .none → blk β' i = some b → O b) ∧ (∀ b, F' b → F0.F b ∨ O b) ∧ (∀ D, markOf D ∈ a.defers → O D) ∧ ∀ id' l' xs' k' e', S'.row id' = .ctr l' xs' k' e' → id' = id := by
  intro id l xs k e h
  obtain ⟨hl, hx, hz, O, g1, g2, g3, g4, g5, g6⟩ := hR.yl (m id) l xs k e (h1 id l xs k e h)
  refine ⟨hl, hx, hz, O, g1, g2, fun i b hi hbi => ?_, fun b hf => ?_, g5, fun id' l' xs' k' e' h' => hm _ _ (by rw [h']; simp) (by rw [h]; simp) (g6 _ _ _ _ _ (h1 _ _ _ _ _ h'))⟩
  · obtain ⟨j, hj, hbj⟩ := h2 i b hi hbi
    exact g3 j b hj hbj
  · rcases h3 b hf with h | ⟨j, hj, hbj⟩
    · exact g4 b h
    · exact .inr (g3 j b hj hbj)

/-- A step of the world leaves alone what is no row that lives. -/
theorem Rel.solid {P : Program} {B w0} {F0 : Env P} {S β F a w} (hR : Rel B w0 F0 S β F a w) {w' : World} (hchg : ∀ b, b < w.heap.size → (∀ j, S.row j ≠ .none → blk β j ≠ some b) → w'.heap[b]? = w.heap[b]?)
    {k : Nat} {o : Obj} (ho : w.heap[k]? = some o) (hc : o.isCells = false) : w'.heap[k]? = some o :=
  (hchg k (Array.getElem?_eq_some_iff.1 ho).1 fun j hj hb => by
    obtain ⟨vs, ty, h⟩ := rowRep_isCells (hR.rows j) hj hb
    rw [h] at ho; cases ho; cases hc).trans ho

/-- One step of any kind. -/
theorem Rel.step {P : Program} {B w0} {F0 : Env P} {S β F a w} (hR : Rel B w0 F0 S β F a w) {w' : World} {β' : Nat → Option Hd} {F' : Nat → Prop} {dst : Option Nat} {out : Out} {v : Value}
    (hβ : ∀ j, β j ≠ none → β' j = β j) (hF : ∀ b, F b → F' b) (hFB : ∀ b, F' b → b < w'.heap.size ∧ (F0.F b ∨ B b)) (hw : Keeps F w w')
    (hos : w'.os = w.os ∧ w'.tape = w.tape ∧ w'.output = w.output) (hsize : w.heap.size ≤ w'.heap.size) (hv : Rep β' F' w' out.v v) (hrows : ∀ j, RowRep β' F' w' j ((setRows S.h out.rows).getD j .none))
    (hinj : ∀ i j b, (setRows S.h out.rows).getD i .none ≠ .none → (setRows S.h out.rows).getD j .none ≠ .none → blk β' i = some b → blk β' j = some b → i = j)
    (hbF : ∀ i b, (setRows S.h out.rows).getD i .none ≠ .none → blk β' i = some b → ¬ F' b) (hbB : ∀ i b, blk β' i = some b → B b ∧ b < w'.heap.size)
    (hchg : ∀ b, b < w.heap.size → (∀ j, S.row j ≠ .none → blk β j ≠ some b) → w'.heap[b]? = w.heap[b]?)
    (hown : ∀ i b, (setRows S.h out.rows).getD i .none ≠ .none → blk β' i = some b → (∃ j, S.row j ≠ .none ∧ blk β j = some b) ∨ w.heap.size ≤ b)
    (hFn : ∀ b, F' b → F b ∨ (∃ j, S.row j ≠ .none ∧ blk β j = some b) ∨ w.heap.size ≤ b)
    (hctr : ∀ id l xs k e, (setRows S.h out.rows).getD id .none = .ctr l xs k e → S.row id = .ctr l xs k e) :
    Rel B w0 F0 (S.put dst out) β' F' (a.put dst v) w' where
  len := by simp [St.put, length_setDst, tmps_put_size, hR.len]
  slots := by
    intro i hi
    simp only [St.put, length_setDst] at hi
    simp only [St.put, getD_setDst, tmps_put_getD, hR.len]
    split
    · exact hv
    · exact (hR.slots i hi).grow hβ hF hw
  marks := by
    rw [put_defers]
    obtain ⟨Ds, ⟨h1, h0⟩, h2, h3⟩ := hR.marks
    exact ⟨Ds, ⟨h1, h0⟩, h2, fun D hD => ⟨hR.solid hchg (h3 D hD).1 rfl, (h3 D hD).2⟩⟩
  rows := hrows
  inj := hinj
  bF := hbF
  bB := hbB
  FB := hFB
  below := hR.below.trans ⟨hos.1, hos.2.1, hos.2.2, hsize, fun k hk => by
      by_cases hlt : k < w.heap.size
      · exact hchg k hlt fun j _ hb => hk (hR.bB j k hb).1
      · exact absurd (hR.BW k (Nat.le_of_not_lt hlt)) hk⟩
  BW := fun b hb => hR.BW b (Nat.le_trans hsize hb)
  top := fun j hd h => (hβ j (by rw [hR.top j hd h]; simp)).trans (hR.top j hd h)
  topn := fun j hj => hR.topn j (by simpa [St.put, mayKill, length_setDst] using hj)
  nn := hR.nn
  inc := fun b hb => hF b (hR.inc b hb)
  keep := fun b o u hb hc => hw b o u (hR.inc b hb) (hR.keep b o u hb hc)
  sol := fun hn k o ho hc => hR.solid hchg (hR.sol hn k o ho hc) hc
  yl := by
    rw [put_defers]
    intro id l xs k e hid
    obtain ⟨hl, hx, hz, O, h1, h2, h3, h4, h5, h6⟩ := hR.yl id l xs k e (hctr id l xs k e hid)
    have new : ∀ b, b < w'.heap.size → w.heap.size ≤ b → O b ∨ (w.heap.size ≤ b ∧ b < w'.heap.size) := fun b g1 g2 => .inr ⟨g2, g1⟩
    refine ⟨hl, hx, hz, _, F0.st k e O w w' h1 (fun b hb hn => hchg b hb fun j hj hbj => hn (h3 j b hj hbj)) hos.1 hos.2.1 hos.2.2 hsize, fun b hb => ?_, fun i b hi hbi => ?_, fun b hb => ?_, fun D hD => .inl (h5 D hD), fun id' l' xs' k' e' h' => h6 id' l' xs' k' e' (hctr _ _ _ _ _ h')⟩
    · rcases hb with hb | hb
      · exact Nat.lt_of_lt_of_le (h2 b hb) hsize
      · exact hb.2
    · rcases hown i b hi hbi with ⟨j, hj, hbj⟩ | h
      · exact .inl (h3 j b hj hbj)
      · exact new b (hbB i b hbi).2 h
    · rcases hFn b hb with h | ⟨j, hj, hbj⟩ | h
      · exact (h4 b h).imp (fun h => h) .inl
      · exact .inr (.inl (h3 j b hj hbj))
      · exact .inr (new b (hFB b hb).1 h)

/-- A step that leaves memory as it is. -/
theorem Rel.still {P : Program} {B w0} {F0 : Env P} {S β F a w} (hR : Rel B w0 F0 S β F a w) {dst : Option Nat} {x : AV} {v : Value} (hv : Rep β F w x v) : Rel B w0 F0 (S.put dst ⟨x, []⟩) β F (a.put dst v) w :=
  hR.step (fun _ _ => rfl) (fun _ h => h) hR.FB (Keeps.refl _ _) ⟨rfl, rfl, rfl⟩ (Nat.le_refl _) hv hR.rows hR.inj hR.bF hR.bB (fun _ _ _ => rfl) (fun i b hi hb => .inl ⟨i, hi, hb⟩) (fun b hb => .inl hb) (fun id l xs k e h => h)

theorem keeps_alloc (F : Nat → Prop) (w : World) (o : Obj) (h : ∀ b, F b → b < w.heap.size) : Keeps F w (w.alloc o) := fun b o' v hb hc => by
  have := h b hb
  rw [World.cell?_of_block (w := w) (RowKit.Below.heap_alloc w o b this)]; exact hc
theorem block_lt {w : World} {b : Nat} {o : Obj} (h : w.heap[b]? = some o) : b < w.heap.size := by
  rcases Nat.lt_or_ge b w.heap.size with h' | h'
  · exact h'
  · simp [Array.getElem?_eq_none h'] at h
theorem size_alloc (w : World) (o : Obj) : (w.alloc o).heap.size = w.heap.size + 1 := by simp
theorem heap_alloc_self (w : World) (o : Obj) : (w.alloc o).heap[w.heap.size]? = some o := heap_alloc_new w o

theorem getD_set_row (h : List Row) (i : Nat) (r : Row) (j : Nat) : (h.set i r).getD j .none = if i = j ∧ i < h.length then r else h.getD j .none := by
  simp only [List.getD, List.getElem?_set]
  by_cases hd : i = j
  · subst hd
    by_cases hl : i < h.length <;> simp [hl]
  · simp [hd]

theorem row_lt {S : St} {id : Nat} (h : S.row id ≠ .none) : id < S.h.length := by
  rcases Nat.lt_or_ge id S.h.length with h' | h'
  · exact h'
  · exact absurd (by simp [St.row, List.getD, List.getElem?_eq_none h']) h

/-- A new block of the call's own, number 'd' among its rows. -/
theorem Rel.alloc {P : Program} {B w0} {F0 : Env P} {S β F a w} (hR : Rel B w0 F0 S β F a w) {d : Nat} (hd : β d = none) {dst : Option Nat} {x : AV} {v : Value} {r : Row} {vs : Array Value} {ty : TypeId} (len cap : Nat)
    (hv : ∀ β', β' d = some ⟨some w.heap.size, len, cap⟩ → (∀ j, β j ≠ none → β' j = β j) → Rep β' F (w.alloc (.cells vs ty)) x v)
    (hr : ∀ β', β' d = some ⟨some w.heap.size, len, cap⟩ → (∀ j, β j ≠ none → β' j = β j) → Keeps F w (w.alloc (.cells vs ty)) → RowRep β' F (w.alloc (.cells vs ty)) d r) (hnc : ∀ l xs k e, r ≠ .ctr l xs k e) :
    ∃ β', (∀ j, j ≠ d → β' j = β j) ∧ Rel B w0 F0 (S.put dst ⟨x, [(d, r)]⟩) β' F (a.put dst v) (w.alloc (.cells vs ty)) := by
  let β' : Nat → Option Hd := fun j => if j = d then some ⟨some w.heap.size, len, cap⟩ else β j
  have h1 : β' d = some ⟨some w.heap.size, len, cap⟩ := by simp [β']
  have h2 : ∀ j, j ≠ d → β' j = β j := fun j hj => by simp [β', hj]
  have h3 : ∀ j, β j ≠ none → β' j = β j := fun j hj => h2 j (fun e => hj (e ▸ hd))
  have b1 : blk β' d = some w.heap.size := by simp [blk, h1]
  have b2 : ∀ j, j ≠ d → blk β' j = blk β j := fun j hj => by simp [blk, h2 j hj]
  have hk := keeps_alloc F w (.cells vs ty) (fun b hb => (hR.FB b hb).1)
  have hge := hR.BW
  refine ⟨β', h2, hR.step h3 (fun _ h => h) (fun b hb => ⟨?_, (hR.FB b hb).2⟩) hk ⟨rfl, rfl, rfl⟩ (by rw [size_alloc]; omega) (hv β' h1 h3) ?_ ?_ ?_ ?_ (fun b hb _ => RowKit.Below.heap_alloc w _ b hb) ?_ (fun b hb => .inl hb) ?_⟩
  · have := (hR.FB b hb).1; rw [size_alloc]; omega
  · intro j
    simp only [setRows, getD_set_row]
    split
    · rename_i h; obtain ⟨rfl, _⟩ := h; exact hr β' h1 h3 hk
    · rename_i h
      by_cases hj : j = d
      · subst hj
        have : S.h.getD j .none = .none := by
          have : ¬ j < S.h.length := fun hl => h ⟨rfl, hl⟩
          simp [List.getD, List.getElem?_eq_none (Nat.le_of_not_lt this)]
        rw [this]; trivial
      · have := hR.rows j
        exact this.grow h3 (fun _ h => h) hk fun b hb => RowKit.Below.heap_alloc w _ b (hR.bB j b hb).2
  · intro i j b hi hj hbi hbj
    by_cases e : i = d
    · by_cases e' : j = d
      · exact e.trans e'.symm
      · subst e
        rw [b1] at hbi; rw [b2 j e'] at hbj
        have := (hR.bB j b hbj).2
        simp at hbi; omega
    · by_cases e' : j = d
      · subst e'
        rw [b1] at hbj; rw [b2 i e] at hbi
        have := (hR.bB i b hbi).2
        simp at hbj; omega
      · rw [b2 i e] at hbi; rw [b2 j e'] at hbj
        simp only [setRows, getD_set_row] at hi hj
        have ni : ¬ (d = i ∧ d < S.h.length) := fun h => e h.1.symm
        have nj : ¬ (d = j ∧ d < S.h.length) := fun h => e' h.1.symm
        simp only [ni, nj, if_false] at hi hj
        exact hR.inj i j b hi hj hbi hbj
  · intro i b hi hbi hF
    by_cases e : i = d
    · subst e; rw [b1] at hbi; have := (hR.FB b hF).1; simp at hbi; omega
    · rw [b2 i e] at hbi
      simp only [setRows, getD_set_row] at hi
      have ni : ¬ (d = i ∧ d < S.h.length) := fun h => e h.1.symm
      simp only [ni, if_false] at hi
      exact hR.bF i b hi hbi hF
  · intro i b hbi
    rw [size_alloc]
    by_cases e : i = d
    · subst e; rw [b1] at hbi; simp at hbi; exact ⟨hge b (by omega), by omega⟩
    · rw [b2 i e] at hbi; have := hR.bB i b hbi; exact ⟨this.1, by omega⟩
  · intro i b hi hbi
    by_cases e : i = d
    · subst e; rw [b1] at hbi; simp at hbi; exact .inr (by omega)
    · rw [b2 i e] at hbi
      simp only [setRows, getD_set_row] at hi
      have ni : ¬ (d = i ∧ d < S.h.length) := fun h => e h.1.symm
      simp only [ni, if_false] at hi
      exact .inl ⟨i, hi, hbi⟩
  · intro id l xs k e h
    simp only [setRows, getD_set_row] at h
    split at h
    · exact absurd h (hnc l xs k e)
    · exact h

/-- A write into one row of the call's own. -/
theorem Rel.write {P : Program} {B w0} {F0 : Env P} {S β F a w} (hR : Rel B w0 F0 S β F a w) {id b : Nat} (hlive : S.row id ≠ .none) (hb : blk β id = some b) {dst : Option Nat} {x : AV} {v : Value} {r : Row} {w' : World}
    (hos : w'.os = w.os ∧ w'.tape = w.tape ∧ w'.output = w.output ∧ w'.heap.size = w.heap.size) (hother : ∀ k, k ≠ b → w'.heap[k]? = w.heap[k]?)
    (hv : Keeps F w w' → Rep β F w' x v) (hr : Keeps F w w' → RowRep β F w' id r) (hnc : ∀ l xs k e, r ≠ .ctr l xs k e) : Rel B w0 F0 (S.put dst ⟨x, [(id, r)]⟩) β F (a.put dst v) w' := by
  have hk : Keeps F w w' := fun k o u hF hc => by
    have : k ≠ b := fun e => hR.bF id b hlive hb (e ▸ hF)
    rw [World.cell?_of_block (w := w) (hother k this)]; exact hc
  have hl := row_lt hlive
  have hbB := hR.bB id b hb
  refine hR.step (fun _ _ => rfl) (fun _ h => h) (fun k hk => ⟨?_, (hR.FB k hk).2⟩) hk ⟨hos.1, hos.2.1, hos.2.2.1⟩ (by rw [hos.2.2.2]; exact Nat.le_refl _) (hv hk) ?_ ?_ ?_ ?_ (fun k _ hn => hother k fun e => hn id hlive (e ▸ hb)) ?_ (fun k hk => .inl hk) ?_
  · rw [hos.2.2.2]; exact (hR.FB k hk).1
  · intro j
    simp only [setRows, getD_set_row]
    split
    · rename_i h; obtain ⟨rfl, _⟩ := h; exact hr hk
    · rename_i h
      have hj : j ≠ id := fun e => h ⟨e.symm, hl⟩
      by_cases hn : S.row j = .none
      · show RowRep β F w' j (S.row j)
        rw [hn]; trivial
      · refine (hR.rows j).grow (fun _ _ => rfl) (fun _ h => h) hk fun k hbk => hother k fun e => ?_
        subst e
        exact hj (hR.inj j id k hn hlive hbk hb)
  · intro i j k hi hj hbi hbj
    have up : ∀ i, (setRows S.h [(id, r)]).getD i .none ≠ .none → S.row i ≠ .none := fun i hi => by
      by_cases e : i = id
      · rw [e]; exact hlive
      · simp only [setRows, getD_set_row] at hi
        have ni : ¬ (id = i ∧ id < S.h.length) := fun h => e h.1.symm
        simpa [ni, St.row] using hi
    exact hR.inj i j k (up i hi) (up j hj) hbi hbj
  · intro i k hi hbi
    refine hR.bF i k ?_ hbi
    by_cases e : i = id
    · rw [e]; exact hlive
    · simp only [setRows, getD_set_row] at hi
      have ni : ¬ (id = i ∧ id < S.h.length) := fun h => e h.1.symm
      simpa [ni, St.row] using hi
  · intro i k hbi
    rw [hos.2.2.2]; exact hR.bB i k hbi
  · intro i k hi hbi
    refine .inl ⟨i, ?_, hbi⟩
    by_cases e : i = id
    · rw [e]; exact hlive
    · simp only [setRows, getD_set_row] at hi
      have ni : ¬ (id = i ∧ id < S.h.length) := fun h => e h.1.symm
      simpa [ni, St.row] using hi
  · intro id' l xs k e h
    simp only [setRows, getD_set_row] at h
    split at h
    · exact absurd h (hnc l xs k e)
    · exact h

/-- Behind a call that turns nothing that was there. -/
theorem Rel.called {P : Program} {B w0} {F0 : Env P} {S β F a w} (hR : Rel B w0 F0 S β F a w) {w' : World} (hb : RowKit.Below w.heap.size w w') {dst : Option Nat} {x : AV} {v : Value}
    (hv : ∀ F', (∀ b, F b → F' b) → (∀ b, w.heap.size ≤ b → b < w'.heap.size → F' b) → Keeps F w w' → Rep β F' w' x v) :
    ∃ F', Rel B w0 F0 (S.put dst ⟨x, []⟩) β F' (a.put dst v) w' := by
  have hk : Keeps F w w' := fun k o u hF hc => by
    rw [World.cell?_of_block (w := w) (hb.block k (hR.FB k hF).1)]; exact hc
  have hge := hR.BW
  refine ⟨fun b => F b ∨ (w.heap.size ≤ b ∧ b < w'.heap.size), hR.step (fun _ _ => rfl) (fun _ h => .inl h) ?_ hk ⟨hb.os, hb.tape, hb.output⟩ hb.size (hv _ (fun _ h => .inl h) (fun b h1 h2 => .inr ⟨h1, h2⟩) hk) ?_ hR.inj ?_ ?_ (fun b h _ => hb.block b h) (fun i b hi hbi => .inl ⟨i, hi, hbi⟩) (fun b h => h.elim .inl fun h => .inr (.inr h.1)) (fun id l xs k e h => h)⟩
  · intro b hb'
    rcases hb' with h | h
    · have h1 := hR.FB b h; have := hb.size; exact ⟨by omega, h1.2⟩
    · exact ⟨h.2, .inr (hge b h.1)⟩
  · intro j
    exact (hR.rows j).grow (fun _ _ => rfl) (fun _ h => .inl h) hk fun b h => hb.block b (hR.bB j b h).2
  · intro i b hi hbi h
    rcases h with h | h
    · exact hR.bF i b hi hbi h
    · have := (hR.bB i b hbi).2; omega
  · intro i b hbi
    have := hR.bB i b hbi; have := hb.size; exact ⟨‹_ ∧ _›.1, by omega⟩

end Go.Ev
