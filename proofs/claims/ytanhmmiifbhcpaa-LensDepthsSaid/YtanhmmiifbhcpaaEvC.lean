/- The operations on abstract values: what each asks, what it gives. A helper text: it speaks of no program. -/
import Derived.Test.YtanhmmiifbhcpaaEvB
set_option linter.unusedVariables false
set_option linter.unusedSimpArgs false
namespace Go.Ev

/-- A condition: decided at once where the operand is a constant, else asked. -/
def obl (lit : Bool) (c : Prop) [Decidable c] (K : Prop) : Prop :=
  match lit with
  | true => match decide c with
    | true => K
    | false => False
  | false => c ∧ K
theorem obl_iff (lit : Bool) (c : Prop) [Decidable c] (K : Prop) : obl lit c K ↔ c ∧ K := by
  cases lit
  · exact Iff.rfl
  · by_cases h : c <;> simp [obl, h]

def isLit : Operand → Bool
  | .const _ => true
  | _ => false

def AV.toB : AV → Option Bool
  | .tt => some true
  | .ff => some false
  | .bool b => some b
  | _ => none

/-- A test of two values of one kind, by their kinds. -/
def evInt (op : BinOp) (lit : Bool) (k : IntKind) (a : Int) (k' : IntKind) (b : Int) (K : AV → Prop) : Prop :=
  match op with
  | .shl => obl lit (0 ≤ b) (K (.int k (k.wrap (a * 2 ^ min b.toNat k.bits))))
  | .shr => obl lit (0 ≤ b) (K (.int k (a.fdiv (2 ^ min b.toNat k.bits))))
  | op => match decide (k = k') with
    | false => False
    | true => match op with
      | .add => K (.int k (k.wrap (a + b)))
      | .sub => K (.int k (k.wrap (a - b)))
      | .mul => K (.int k (k.wrap (a * b)))
      | .quo => obl lit (b ≠ 0) (K (.int k (k.wrap (a.tdiv b))))
      | .rem => obl lit (b ≠ 0) (K (.int k (a.tmod b)))
      | .and => K (.int k (bits .and k a b))
      | .or => K (.int k (bits .or k a b))
      | .xor => K (.int k (bits .xor k a b))
      | .andNot => K (.int k (bits .andNot k a b))
      | .eql => K (.bool (decide (a = b)))
      | .neq => K (.bool (!decide (a = b)))
      | .lss => K (.bool (decide (a < b)))
      | .leq => K (.bool (decide (a ≤ b)))
      | .gtr => K (.bool (decide (a > b)))
      | .geq => K (.bool (decide (a ≥ b)))
      | _ => False

/-- Equality of two cells that are numbers ('true') or bools. -/
def eqCell : Bool → AV → AV → Option Bool
  | true, .int k a, .int k' b => match decide (k = k') with
    | true => some (decide (a = b))
    | false => none
  | false, .bool a, .bool b => some (a == b)
  | false, .tt, .bool b => some b
  | false, .ff, .bool b => some (!b)
  | false, .bool b, .tt => some b
  | false, .bool b, .ff => some (!b)
  | false, .tt, .tt => some true
  | false, .ff, .ff => some true
  | false, .tt, .ff => some false
  | false, .ff, .tt => some false
  | _, _, _ => none
def eqCells : List Bool → List AV → List AV → Option Bool
  | [], [], [] => some true
  | k :: ks, a :: l, b :: m => match eqCell k a b, eqCells ks l m with
    | some x, some y => some (x && y)
    | _, _ => none
  | _, _, _ => none

mutual
/-- A type whose values are compared cell by cell: numbers, bools, structs of them, every field with a name: which of its cells are numbers. -/
def flatKinds (P : Program) : Nat → TypeId → Option (List Bool)
  | 0, _ => none
  | n + 1, t => match P.underlying t with
    | some (.int _) => match Nat.beq (P.cellsOf t) 1 with
      | true => some [true]
      | false => none
    | some .bool => match Nat.beq (P.cellsOf t) 1 with
      | true => some [false]
      | false => none
    | some (.struct fs) => match P.stoodInHeld t with
      | false => match flatFields P n fs.toList 0 with
        | some ks => match Nat.beq ks.length (P.cellsOf t) with
          | true => some ks
          | false => none
        | none => none
      | true => none
    | _ => none
def flatFields (P : Program) : Nat → List Field → Nat → Option (List Bool)
  | 0, _, _ => none
  | _ + 1, [], _ => some []
  | n + 1, f :: fs, at_ => match (f.name != "_") && Nat.beq f.offset at_ with
    | true => match flatKinds P n f.type with
      | some ks => match flatFields P n fs (at_ + ks.length) with
        | some ls => some (ks ++ ls)
        | none => none
      | none => none
    | false => none
end

/-- '==' gives the one, '!=' the other. -/
def eqPick (op : BinOp) (A C : Prop) : Prop :=
  match op with
  | .eql => A
  | .neq => C
  | _ => False
theorem eqPick_iff {op : BinOp} {A C : Prop} (h : eqPick op A C) : (op = .eql ∧ A) ∨ (op = .neq ∧ C) := by
  cases op <;> first | exact h.elim | exact .inl ⟨rfl, h⟩ | exact .inr ⟨rfl, h⟩

/-- Which cells are numbers. -/
def kindsOf : List AV → List Bool
  | [] => []
  | .int _ _ :: l => true :: kindsOf l
  | _ :: l => false :: kindsOf l
/-- Whether the values of a type are compared cell by cell, with cells of these kinds. -/
def eqOkB (P : Program) (t : TypeId) (ks : List Bool) : Bool :=
  match P.underlying t, P.eqGuardType P.depth t with
  | some (.struct _), false => match flatKinds P 40 t with
    | some ks' => ks' == ks
    | none => false
  | _, _ => false

def evBin (P : Program) (op : BinOp) (t : TypeId) (lit : Bool) (x y : AV) (K : AV → Prop) : Prop :=
  match x with
  | .int k a => match y with
    | .int k' b => evInt op lit k a k' b K
    | _ => False
  | .agg xs => match y with
    | .agg ys => eqOkB P t (kindsOf xs) = true ∧ match eqCells (kindsOf xs) xs ys with
      | some b => eqPick op (K (.bool b)) (K (.bool (!b)))
      | none => False
    | _ => False
  | x => match x.toB, y.toB with
    | some a, some b => match P.underlying t with
      | some .bool => eqPick op (K (.bool (a == b))) (K (.bool (a != b)))
      | _ => False
    | _, _ => match P.underlying t with
      | some (.pointer _) => match x, y with
        | .nilp, .nilp => eqPick op (K .tt) (K .ff)
        | .nilp, .pt (_ :: _) _ => eqPick op (K .ff) (K .tt)
        | .nilp, .ptr .. => eqPick op (K .ff) (K .tt)
        | .pt _ _, .nilp => eqPick op (K .ff) (K .tt)
        | .ptr .., .nilp => eqPick op (K .ff) (K .tt)
        | _, _ => False
      | some (.slice _) => match x, y with
        | .nils, .nils => eqPick op (K .tt) (K .ff)
        | _, _ => False
      | _ => False

def evUn (op : UnOp) (x : AV) (K : AV → Prop) : Prop :=
  match op, x with
  | .not, .tt => K .ff
  | .not, .ff => K .tt
  | .not, .bool b => K (.bool (!b))
  | .neg, .int k n => K (.int k (k.wrap (0 - n)))
  | .xor, .int k n => K (.int k (bits .xor k (if k.signed then -1 else k.max) n))
  | _, _ => False

def isAggD : TypeDesc → Bool
  | .struct _ | .array _ _ => true
  | _ => false
/-- What a load of 'n' cells at 'off' gives. -/
def ldOut (agg : Bool) (n : Nat) (cs : List AV) (off : Nat) : Option AV :=
  match agg with
  | true => match Nat.ble (off + n) cs.length with
    | true => some (.agg ((cs.drop off).take n))
    | false => none
  | false => match Nat.blt off cs.length with
    | true => some (cs.getD off .any)
    | false => none
def setCells (cs : List AV) (off : Nat) (l : List AV) : List AV := cs.take off ++ l ++ cs.drop (off + l.length)
/-- Of one cell, whatever it stands for. -/
def AV.one : AV → Bool
  | .any | .agg _ | .tup _ => false
  | _ => true
def allOne : List AV → Bool
  | [] => true
  | a :: l => a.one && allOne l
/-- The cells of a value whose shape is known. -/
def AV.cells? : AV → Option (List AV)
  | .any => none
  | .tup _ => none
  | .agg l => match allOne l with
    | true => some l
    | false => none
  | x => some [x]
def zeroAV (P : Program) (t : TypeId) : Option (List AV) :=
  match P.info? t with
  | some i => match i.zero with
    | some v => some (v.cells.toList.map AV.ofConst)
    | none => none
  | none => none
def fillAV (place : Nat → Option (Nat × Nat)) (cs : List AV) : List (Nat × AV) → Option (List AV)
  | [] => some cs
  | (i, x) :: rest => match place i with
    | none => none
    | some (off, size) => match x.cells? with
      | none => none
      | some l => match Nat.beq l.length size with
        | false => none
        | true => match Nat.ble (off + size) cs.length with
          | false => none
          | true => fillAV place (setCells cs off l) rest

/-- A bundle: what a slice reads as. -/
structure SlD : Type 1 where
  α : Type
  sz : Nat
  d : α
  enc : α → List AV
  l : List α

def IsSl (r : Nat → Row) (x : AV) (D : SlD) : Prop :=
  match x with
  | .nils => D.l = []
  | .sl sz d enc l => SlD.mk _ sz d enc l = D
  | .slc sz css => sz = D.sz ∧ css = D.l.map D.enc
  | .own id => match r id with
    | .vec _ sz d enc l => SlD.mk _ sz d enc l = D
    | .lit _ sz css => sz = D.sz ∧ css = D.l.map D.enc
    | _ => False
  | _ => False
def ownId : AV → List Nat
  | .own id => [id]
  | _ => []
def Row.tyIs (t : TypeId) : Row → Bool
  | .none => false
  | .cells ty _ => Nat.beq ty t
  | .lit ty _ _ => Nat.beq ty t
  | .vec ty _ _ _ _ => Nat.beq ty t
  | .ctr _ _ _ _ => false
/-- The base of an append: nil, or a row of the call's own of the right type. -/
def baseOk (r : Nat → Row) (e : TypeId) : AV → Bool
  | .nils => true
  | .own id => (r id).tyIs e
  | _ => false

/-- A bound of a slice expression. -/
def bnd (g : Operand → AV) (o : Option Operand) (l : AV) : AV :=
  match o with
  | some y => g y
  | none => l

/-- A byte of a text. -/
def byteAt (s : ByteArray) (i : Nat) : Int := match s[i]? with
  | some b => b.toNat
  | none => 0

/-- What an operation asks, and what it gives: the value, the rows that turn; and which rows it reads. -/
def evOp (P : Program) (dst : Option Nat) (op : Op) (g : Operand → AV) (r : Nat → Row) (K : Out → List Nat → Prop) : Prop :=
  match op with
  | .move x => K ⟨g x, []⟩ []
  | .assign x => K ⟨g x, []⟩ []
  | .pick c a b => match g c with
    | .tt => K ⟨g a, []⟩ []
    | .ff => K ⟨g b, []⟩ []
    | .bool c => (c = true → K ⟨g a, []⟩ []) ∧ (c = false → K ⟨g b, []⟩ [])
    | _ => False
  | .alloc t => match dst, zeroAV P t with
    | some d, some cs => K ⟨.ptr d 0 0 0, [(d, .cells t cs)]⟩ []
    | _, _ => False
  | .box t x => match dst, (g x).cells? with
    | some d, some cs => K ⟨.ptr d 0 0 0, [(d, .cells t cs)]⟩ []
    | _, _ => False
  | .build t parts => match zeroAV P t with
    | none => False
    | some z => match P.underlying t with
      | some (.struct fs) => match fs.toList.all fun f => (P.info? f.type).isSome with
        | true => match fillAV (fun i => (fs.toList.map fun f => (f.offset, P.cellsOf f.type))[i]?) z (parts.toList.map fun p => (p.1, g p.2)) with
          | some cs => K ⟨.agg cs, []⟩ []
          | none => False
        | false => False
      | some (.array _ e) => match P.info? e with
        | some _ => match fillAV (fun i => some (i * P.cellsOf e, P.cellsOf e)) z (parts.toList.map fun p => (p.1, g p.2)) with
          | some cs => K ⟨.agg cs, []⟩ []
          | none => False
        | none => False
      | _ => False
  | .load t x => match P.info? t, P.underlying t with
    | some i, some d => match g x with
      | .pt cs off => match ldOut (isAggD d) i.size cs off with
        | some v => K ⟨v, []⟩ []
        | none => False
      | .ptr id sz j off => match r id with
        | .cells _ cs => match ldOut (isAggD d) i.size cs (j * sz + off) with
          | some v => K ⟨v, []⟩ [id]
          | none => False
        | .vec _ sz' d' enc l => match Nat.beq sz sz' with
          | true => match Nat.beq (enc (l.getD j d')).length sz with
            | true => match ldOut (isAggD d) i.size (enc (l.getD j d')) off with
              | some v => j < l.length ∧ K ⟨v, []⟩ [id]
              | none => False
            | false => False
          | false => False
        | _ => False
      | _ => False
    | _, _ => False
  | .store t x y => match P.info? t with
    | some i => match (g y).cells? with
      | some l => match Nat.beq l.length i.size with
        | true => match g x with
          | .ptr id sz j off => match r id with
            | .cells ty cs => match Nat.ble (j * sz + off + l.length) cs.length with
              | true => K ⟨.any, [(id, .cells ty (setCells cs (j * sz + off) l))]⟩ [id]
              | false => False
            | .vec ty sz' d enc zs => match Nat.beq sz sz' with
              | true => match closedL l with
                | true => match Nat.ble (off + l.length) sz with
                  | true => match Nat.beq (enc (zs.getD j d)).length sz with
                    | true => ∃ y, enc y = setCells (enc (zs.getD j d)) off l ∧ j < zs.length ∧ K ⟨.any, [(id, .vec ty sz d enc (zs.set j y))]⟩ [id]
                    | false => False
                  | false => False
                | false => False
              | false => False
            | _ => False
          | _ => False
        | false => False
      | none => False
    | none => False
  | .index t x i => match g i with
    | .int _ n => match g x with
      | .str s => match P.underlying t with
        | some .string => obl false (0 ≤ n ∧ n < s.size) (K ⟨.int .u8 (byteAt s n.toNat), []⟩ [])
        | _ => False
      | _ => False
    | _ => False
  | .nilCheck x => match g x with
    | .pt (c :: cs) off => K ⟨.pt (c :: cs) off, []⟩ []
    | .ptr id sz j off => K ⟨.ptr id sz j off, []⟩ []
    | _ => False
  | .binOp op t x y _ => evBin P op t (isLit y) (g x) (g y) fun v => K ⟨v, []⟩ []
  | .unOp op _ x => evUn op (g x) fun v => K ⟨v, []⟩ []
  | .convert src t x => match P.underlying src, P.underlying t, g x with
    | some _, some (.int k), .int _ n => K ⟨.int k (k.wrap n), []⟩ []
    | _, _, _ => False
  | .makeFunc f first caps => K ⟨.fn f (first.toList.map g) (caps.toList.map g), []⟩ []
  | .fieldAddr s x f => match P.underlying s with
    | some (.struct fs) => match fs[f]? with
      | some fd => match P.info? fd.type with
        | some i => match Nat.beq i.size 0 with
          | true => False
          | false => match g x with
            | .pt cs off => K ⟨.pt cs (off + fd.offset), []⟩ []
            | .ptr id sz j off => K ⟨.ptr id sz j (off + fd.offset), []⟩ []
            | _ => False
        | none => False
      | none => False
    | _ => False
  | .indexAddr t x i => match g i with
    | .int _ n => match P.underlying t with
      | some (.slice e) => match P.info? e with
        | some inf => match g x with
          | .sl sz d enc l => match Nat.beq sz inf.size with
            | true => obl false (0 ≤ n ∧ n < l.length) (match Nat.beq (enc (l.getD n.toNat d)).length sz with
              | true => K ⟨.pt (enc (l.getD n.toNat d)) 0, []⟩ []
              | false => False)
            | false => False
          | .slc sz css => match Nat.beq sz inf.size with
            | true => obl (isLit i) (0 ≤ n ∧ n < css.length) (match Nat.ble (css.getD n.toNat []).length sz with
              | true => K ⟨.pt (css.getD n.toNat []) 0, []⟩ []
              | false => False)
            | false => False
          | .own id => match r id with
            | .vec _ sz _ _ l => match Nat.beq sz inf.size with
              | true => obl false (0 ≤ n ∧ n < l.length) (K ⟨.ptr id sz n.toNat 0, []⟩ [id])
              | false => False
            | _ => False
          | _ => False
        | none => False
      | some (.array len e) => match P.info? e with
        | some inf => obl (isLit i) (0 ≤ n ∧ n < len) (match g x with
          | .pt cs off => K ⟨.pt cs (off + n.toNat * inf.size), []⟩ []
          | .ptr id sz j off => K ⟨.ptr id sz j (off + n.toNat * inf.size), []⟩ []
          | _ => False)
        | none => False
      | _ => False
    | _ => False
  | .extract x i => match g x with
    | .tup l => match Nat.blt i l.length with
      | true => K ⟨l.getD i .any, []⟩ []
      | false => False
    | _ => False
  | .buildSlice t n parts => match dst, P.underlying t with
    | some d, some (.slice e) => match P.info? e, zeroAV P e with
      | some i, some z => match Nat.beq z.length i.size with
        | true => match Nat.ble (n * i.size) 16777216 && Nat.blt 0 i.size with
          | true => match fillAV (fun j => some (j * i.size, i.size)) (List.replicate n z).flatten (parts.toList.map fun p => (p.1, g p.2)) with
            | some cs => K ⟨.own d, [(d, .lit e i.size ((List.range n).map fun j => (cs.drop (j * i.size)).take i.size))]⟩ []
            | none => False
          | false => False
        | false => False
      | _, _ => False
    | _, _ => False
  | .slice t x lo hi mx => match mx with
    | some _ => False
    | none => match P.underlying t with
      | some (.slice e) => match P.info? e with
        | some inf => match g x with
          | .sl sz d enc l => match Nat.beq sz inf.size with
            | true => match bnd g lo (.int .i64 0), bnd g hi (.int .i64 l.length) with
              | .int _ a, .int _ b => obl false (0 ≤ a ∧ a ≤ b ∧ b ≤ l.length) (K ⟨.sl sz d enc ((l.drop a.toNat).take (b - a).toNat), []⟩ [])
              | _, _ => False
            | false => False
          | _ => False
        | none => False
      | _ => False
  | .makeSlice t len cap => match dst, P.underlying t with
    | some d, some (.slice e) => match P.info? e, zeroAV P e with
      | some i, some z => match Nat.beq z.length i.size with
        | true => match g len, g cap with
          | .int _ n, .int _ c => ∃ (α : Type) (y : α) (enc : α → List AV), enc y = z ∧ n = c ∧ 0 ≤ n ∧ n ≤ 1048576 ∧ i.bytes ≤ 1048576 ∧ K ⟨.own d, [(d, .vec e i.size y enc (List.replicate n.toNat y))]⟩ []
          | _, _ => False
        | false => False
      | _, _ => False
    | _, _ => False
  | .call c => match c.callee with
    | .builtin .len => match c.args.toList, c.argTypes.toList with
      | [x], [t] => match P.underlying t with
        | some (.slice _) => match g x with
          | .nils => K ⟨.int .i64 0, []⟩ []
          | .sl _ _ _ l => K ⟨.int .i64 l.length, []⟩ []
          | .slc _ css => K ⟨.int .i64 css.length, []⟩ []
          | .own id => match r id with
            | .vec _ _ _ _ l => K ⟨.int .i64 l.length, []⟩ [id]
            | .lit _ _ css => K ⟨.int .i64 css.length, []⟩ [id]
            | _ => False
          | _ => False
        | some (.array n _) => K ⟨.int .i64 n, []⟩ []
        | _ => False
      | _, _ => False
    | .builtin .max => match c.args.toList with
      | [x, y] => match g x, g y with
        | .int k a, .int _ b => K ⟨.int k (if b > a then b else a), []⟩ []
        | _, _ => False
      | _ => False
    | .builtin .min => match c.args.toList with
      | [x, y] => match g x, g y with
        | .int k a, .int _ b => K ⟨.int k (if b < a then b else a), []⟩ []
        | _, _ => False
      | _ => False
    | .builtin .append => match c.args.toList, c.argTypes.toList with
      | [s, x], [t, t'] => match dst, P.underlying t, Nat.beq t t' with
        | some d, some (.slice e), true => match P.info? e, zeroAV P e with
          | some i, some z => match Nat.beq z.length i.size with
            | true => match Nat.blt 0 i.size with
              | true => match baseOk r e (g s) with
                | true => ∃ (D : SlD) (l' : List D.α), D.sz = i.size ∧ IsSl r (g s) D ∧ IsSl r (g x) ⟨D.α, D.sz, D.d, D.enc, l'⟩ ∧ (D.l.length + l'.length) * i.bytes ≤ 1099511627776 ∧ D.l.length + l'.length ≤ 1099511627776 ∧
                    (∀ y ∈ D.l ++ l', (D.enc y).length = D.sz ∧ closedL (D.enc y) = true ∧ allOne (D.enc y) = true) ∧
                    K ⟨.own d, ((ownId (g s)).map fun id => (id, .none)) ++ [(d, .vec e D.sz D.d D.enc (D.l ++ l'))]⟩ (ownId (g s) ++ ownId (g x))
                | false => False
              | false => False
            | false => False
          | _, _ => False
        | _, _, _ => False
      | _, _ => False
    | .value f => match g f with
      | .fn (.func h) first caps => match closedL (first ++ c.args.toList.map g ++ caps) with
        | true => fL (first ++ c.args.toList.map g ++ caps) fun ar => ∃ v, PC P h ar v ∧ K ⟨v, []⟩ []
        | false => fL ((first ++ c.args.toList.map g ++ caps).map (closeN 4 r)) fun ar => ∃ v, PC P h ar v ∧ match v.flat with
          | true => K ⟨v, []⟩ ((first ++ c.args.toList.map g ++ caps).flatMap (idsN 4 r))
          | false => False
      | _ => False
    | _ => False
  | _ => False

end Go.Ev
