/- The executor itself. A helper text: it speaks of no program. -/
import Derived.Test.YtanhmmiifbhcpaaEvP
namespace Go.Ev

/-! ### One operation, where no order is drawn -/
def idSet (l : List Nat) (i : Nat) : Bool := l.any fun j => Nat.beq j i
/-- A slice held against nil. -/
def nilCmp {α : Type} (op : BinOp) (l : List α) (K : AV → Prop) : Prop := ∀ b : Bool, (b = true → l = []) → eqPick op (K (.bool b)) (K (.bool !b))
def uOp1 (P : Program) (o : Oper) (S : St) (K : St → Out → Prop) : Prop :=
  match o.op with
  | .makeFunc f xs ys => match (xs.toList.map S.get ++ ys.toList.map S.get).flatMap (idsN 4 S.row) with
    | [] => K S ⟨.fn f (xs.toList.map S.get) (ys.toList.map S.get), []⟩
    | i :: l => fSt (S.freeze (idSet (i :: l))) fun S => K S ⟨.fn f (xs.toList.map S.get) (ys.toList.map S.get), []⟩
  | .binOp op t x y yt => match S.get y with
    | .nils => match S.get x with
      | .sl _ _ _ l => match P.underlying t with
        | some (.slice _) => nilCmp op l fun v => K S ⟨v, []⟩
        | _ => False
      | .own id => match S.row id with
        | .vec _ _ _ _ l => match P.underlying t with
          | some (.slice _) => nilCmp op l fun v => K S ⟨v, []⟩
          | _ => False
        | _ => False
      | _ => evOp P o.dst (.binOp op t x y yt) S.get S.row fun out _ => K S out
    | _ => evOp P o.dst (.binOp op t x y yt) S.get S.row fun out _ => K S out
  | .call c => match c.callee with
    | .value f => match S.get f with
      | .fn (.func _) first caps => match closedL (first ++ c.args.toList.map S.get ++ caps) with
        | true => evOp P o.dst (.call c) S.get S.row fun out _ => K S out
        | false => ∃ frz : Bool, match frz with
          | false => evOp P o.dst (.call c) S.get S.row fun out _ => K S out
          | true => fSt (S.freeze (idSet ((first ++ c.args.toList.map S.get ++ caps).flatMap (idsN 4 S.row)))) fun S => evOp P o.dst (.call c) S.get S.row fun out _ => K S out
      | _ => False
    | _ => evOp P o.dst (.call c) S.get S.row fun out _ => K S out
  | op => evOp P o.dst op S.get S.row fun out _ => K S out
def uOp (P : Program) (o : Oper) (S : St) (K : St → Out → Prop) : Prop :=
  match allocs o.op with
  | true => match o.dst with
    | some d => fSt (S.kill d) fun S => uOp1 P o S K
    | none => uOp1 P o S K
  | false => uOp1 P o S K

def isSrc (all : List Oper) (k : Nat) : Bool := all.any fun o => match o.guard with
  | some (j, _) => Nat.beq j k
  | none => false
def splitOut (src : Bool) (out : Out) (K : Out → Prop) : Prop :=
  match src with
  | true => match out.v with
    | .bool b => (b = true → K ⟨.tt, out.rows⟩) ∧ (b = false → K ⟨.ff, out.rows⟩)
    | _ => K out
  | false => K out

def fSp : List AV → (List AV → Prop) → Prop
  | [], K => K []
  | a :: l, K => fSp l fun l => K (a :: l)
theorem fSp_eq : ∀ (l : List AV) (K : List AV → Prop), fSp l K = K l
  | [], _ => rfl
  | a :: l, K => by simp only [fSp]; rw [fSp_eq l]
/-- What an operation gives is reckoned, and laid down. -/
def fPut (S : St) (dst : Option Nat) (out : Out) (K : St → Prop) : Prop :=
  match dst with
  | some d => fAV out.v fun v => fSp (S.t.set d v) fun t => match out.rows with
    | [] => K ⟨t, S.h⟩
    | r :: rs => fRows (setRows S.h (r :: rs)) fun h => K ⟨t, h⟩
  | none => match out.rows with
    | [] => K S
    | r :: rs => fRows (setRows S.h (r :: rs)) fun h => K ⟨S.t, h⟩
theorem fPut_eq (S : St) (dst : Option Nat) (out : Out) (K : St → Prop) : fPut S dst out K = K (S.put dst out) := by
  obtain ⟨v, rows⟩ := out
  cases dst with
  | none =>
    cases rows with
    | nil => rfl
    | cons r rs => simp only [fPut]; rw [fRows_eq]; rfl
  | some d =>
    simp only [fPut]
    rw [fAV_eq, fSp_eq]
    cases rows with
    | nil => rfl
    | cons r rs => simp only []; rw [fRows_eq]; rfl

def uRun (P : Program) (all : List Oper) : List Oper → Nat → St → (St → Prop) → Prop
  | [], _, S, K => K S
  | o :: l, k, S, K => match gw all.toArray S o with
    | some true => uOp P o S fun S out => splitOut (isSrc all k) out fun out => fPut S o.dst out fun S => uRun P all l (k + 1) S K
    | some false => fPut S o.dst ⟨.tup [], []⟩ fun S => uRun P all l (k + 1) S K
    | none => False

def lexRun (P : Program) (all : List Oper) : List Oper → Nat → St → List (List Nat × List Nat) → (St → Prop) → Prop
  | [], _, S, fps, K => rowsB all fps = true ∧ K S
  | o :: l, k, S, fps, K => match gw all.toArray S o with
    | some true => evOp P o.dst o.op S.get S.row fun out rd => splitOut (isSrc all k) out fun out => fPut S o.dst out fun S => lexRun P all l (k + 1) S (fps ++ [(rd, out.rows.map (·.1))]) K
    | some false => fPut S o.dst ⟨.tup [], []⟩ fun S => lexRun P all l (k + 1) S (fps ++ [([], [])]) K
    | none => False

def allocD (l : List Oper) : List Nat := l.filterMap fun o => match allocs o.op with
  | true => o.dst
  | false => none
/-- What is asked of a region that draws, once and for all. -/
def drawB (ops : Array Oper) : Bool :=
  Region.lexFrom .any ops ops.size 0 (Array.replicate ops.size false) &&
  (List.range ops.size).all fun i => match ops[i]? with
    | none => true
    | some o => !allocs o.op || (List.range ops.size).all fun j => Nat.beq i j || match ops[j]? with
      | none => true
      | some o' => match o.dst, o'.dst with
        | some d, some d' => !(Nat.beq d d')
        | _, _ => true

/-! ### Code -/
inductive Ex
  | norm | ret
  | exit (id : Nat)

def dstsC : Code → List Nat
  | .region _ ops _ => ops.toList.filterMap (·.dst)
  | .seq a b => dstsC a ++ dstsC b
  | .cond _ a b => dstsC a ++ dstsC b
  | .block _ a => dstsC a
  | .loop a => dstsC a
  | .scope a => dstsC a
  | _ => []
def lkV (i : Nat) : List Nat → List AV → Option AV
  | w :: ws, v :: vs => match Nat.beq i w with
    | true => some v
    | false => lkV i ws vs
  | _, _ => none
def lkR (i : Nat) : List Nat → List Row → Option Row
  | w :: ws, v :: vs => match Nat.beq i w with
    | true => some v
    | false => lkR i ws vs
  | _, _ => none
def hasN (i : Nat) : List Nat → Bool
  | [] => false
  | d :: l => match Nat.beq i d with
    | true => true
    | false => hasN i l
def fNs : List Nat → (List Nat → Prop) → Prop
  | [], K => K []
  | d :: l, K => fNs l fun l => K (d :: l)
theorem fNs_eq : ∀ (l : List Nat) (K : List Nat → Prop), fNs l K = K l
  | [], _ => rfl
  | d :: l, K => by simp only [fNs]; rw [fNs_eq l]
def headT (ds ws : List Nat) (vals : List AV) (vt : List Nat) : Nat → List AV → List AV
  | _, [] => []
  | i, a :: l => (match hasN i vt with
    | true => .own i
    | false => match lkV i ws vals with
      | some v => v
      | none => match hasN i ds with
        | true => .any
        | false => a) :: headT ds ws vals vt (i + 1) l
def headH (ds bs : List Nat) (brows : List Row) (vt : List Nat) (vrows : List Row) : Nat → List Row → List Row
  | _, [] => []
  | i, a :: l => (match lkR i vt vrows with
    | some r => r
    | none => match lkR i bs brows with
      | some r => r
      | none => match hasN i ds with
        | true => .none
        | false => a) :: headH ds bs brows vt vrows (i + 1) l
/-- The state at the head of a loop: what the loop's body turns is forgotten, but for what the relation says. -/
def mkHead (ds : List Nat) (S : St) (ws bs : List Nat) (vs : List (Nat × VT)) (vals : List AV) (brows vrows : List Row) : St :=
  ⟨headT ds ws vals (vs.map (·.1)) 0 S.t, headH ds bs brows (vs.map (·.1)) vrows 0 S.h⟩
def atHead (ds : List Nat) (S0 : St) (ws bs : List Nat) (vs : List (Nat × VT)) (S : St) (K : List AV → List Row → List Row → Prop) : Prop :=
  fSt (canonV vs S) fun S => fL (ws.map fun i => S.t.getD i .any) fun vals => fRows (bs.map S.row) fun brows => fRows (vs.map fun v => S.row v.1) fun vrows =>
    K vals brows vrows ∧ maskT (mkHead ds S0 ws bs vs vals brows vrows).t S.t = some (mkHead ds S0 ws bs vs vals brows vrows).t ∧
      maskH (mkHead ds S0 ws bs vs vals brows vrows).h S.h = some (mkHead ds S0 ws bs vs vals brows vrows).h

def unr (f : St → (Ex → St → Prop) → Prop) : Nat → St → (Ex → St → Prop) → Prop
  | 0, _, _ => False
  | n + 1, S, Q => f S fun e S => match e with
    | .norm => unr f n S Q
    | e => Q e S

def ex (P : Program) : Code → St → (Ex → St → Prop) → Prop
  | .skip, S, Q => Q .norm S
  | .label _, S, Q => Q .norm S
  | .region _ ops draw, S, Q => match draw with
    | false => uRun P ops.toList ops.toList 0 S fun S => fSt S (Q .norm)
    | true => drawB ops = true ∧ fSt (S.kills (allocD ops.toList)) fun S => lexRun P ops.toList ops.toList 0 S [] fun S => fSt S (Q .norm)
  | .seq a b, S, Q => ex P a S fun e S => match e with
    | .norm => ex P b S Q
    | e => Q e S
  | .cond c a b, S, Q => match S.get c with
    | .tt => ex P a S Q
    | .ff => ex P b S Q
    | .bool x => (x = true → ex P a S Q) ∧ (x = false → ex P b S Q)
    | _ => False
  | .block id c, S, Q => ex P c S fun e S => match e with
    | .exit i => match Nat.beq i id with
      | true => Q .norm S
      | false => Q (.exit i) S
    | e => Q e S
  | .loop c, S, Q => (∃ n, unr (ex P c) n S Q) ∨
      ∃ (ι : Type) (ws bs : List Nat) (vs : List (Nat × VT)) (V : ι → List AV) (BR VR : ι → List Row) (μ : ι → Nat) (I : ι → Prop), fNs (dstsC c) fun ds => fSt (canonV vs S) fun S0 =>
        (∃ i, atHead ds S0 ws bs vs S fun vals brows vrows => I i ∧ vals = V i ∧ brows = BR i ∧ vrows = VR i) ∧
        ∀ i, I i → fSt (mkHead ds S0 ws bs vs (V i) (BR i) (VR i)) fun S1 => ex P c S1 fun e S2 => match e with
          | .norm => ∃ i', atHead ds S0 ws bs vs S2 fun vals brows vrows => (μ i' < μ i ∧ I i') ∧ vals = V i' ∧ brows = BR i' ∧ vrows = VR i'
          | e => Q e S2
  | .ret, S, Q => Q .ret S
  | .exit id, S, Q => Q (.exit id) S
  | _, _, _ => False

/-! ### What a function hands back -/
def retAV (P : Program) (S : St) : List ResultVar → Option (List AV)
  | [] => some []
  | .tmp t :: l => match retAV P S l with
    | some r => some (closeN 4 S.row (S.t.getD t .any) :: r)
    | none => none
  | .cell x t :: l => match retAV P S l with
    | none => none
    | some r => match P.info? t, P.underlying t with
      | some i, some d => match S.t.getD x .any with
        | .ptr id sz j off => match S.row id with
          | .cells _ cs => match ldOut (isAggD d) i.size cs (j * sz + off) with
            | some v => some (closeN 4 S.row v :: r)
            | none => none
          | _ => none
        | _ => none
      | _, _ => none
def AV.fin1 : AV → AV
  | .tt => .bool true
  | .ff => .bool false
  | x => x
def AV.fin : AV → AV
  | .tt => .bool true
  | .ff => .bool false
  | .tup l => .tup (l.map AV.fin1)
  | x => x
def retOf : List AV → AV
  | [x] => x
  | l => .tup l
/-- The whole body. -/
def body (P : Program) (fn : Func) (args : List AV) (res : AV) : Prop :=
  match fn.body with
  | none => False
  | some c => fSt ⟨args ++ List.replicate (fn.ntmps - args.length) .any, List.replicate fn.ntmps .none⟩ fun S => ex P c S fun e S => match e with
    | .exit _ => False
    | _ => match retAV P S fn.results.toList with
      | some l => fAV (retOf l).fin fun v => v = res
      | none => False

end Go.Ev
