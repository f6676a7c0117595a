/- The executor itself. A helper text: it speaks of no program. -/
import Derived.Test.YtanhmmiifbhcpaaEvPw
set_option linter.unusedVariables false
set_option linter.unusedSimpArgs false
namespace Go.Ev

/-! ### One operation, where no order is drawn -/
def idSet (l : List Nat) (i : Nat) : Bool := l.any fun j => Nat.beq j i
/-- A slice held against nil. -/
def nilCmp {α : Type} (op : BinOp) (l : List α) (K : AV → Prop) : Prop := ∀ b : Bool, (b = true → l = []) → eqPick op (K (.bool b)) (K (.bool !b))
/-- A call that takes over rows: those numbered 'ids'; what is new bears the numbers 'news'. -/
def nodupB : List Nat → Bool
  | [] => true
  | a :: l => match hasN a l with
    | true => false
    | false => nodupB l
def Row.live : Row → Bool
  | .none => false
  | _ => true
def wB (ids news : List Nat) (args' : List AV) (ins outs : List Row) (res : AV) : Bool :=
  nodupB (ids ++ news) && Nat.beq ids.length ins.length && Nat.beq outs.length (ids ++ news).length && underL ids.length args' && ins.all (fun r => underRow ids.length r && r.live) && res.under (ids ++ news).length && outs.all (underRow (ids ++ news).length)
def St.frz (S : St) : List Nat → St
  | [] => S
  | i :: l => S.freeze (idSet (i :: l))
def wOp (P : Program) (c : Call) (f : Operand) (S : St) (K : St → Out → Prop) : Prop :=
  ∃ frz news : List Nat, news.all (mayKill S) = true ∧ fSt ((S.frz frz).kills news) fun S => match S.get f with
    | .fn (.func h) first caps => ∃ (ids : List Nat) (args' : List AV) (ins outs : List Row) (res : AV),
        (PW P h args' ins res outs ∧ first ++ c.args.toList.map S.get ++ caps = renL ids args' ∧ ids.map S.row = ins.map (renRow ids) ∧ wB ids news args' ins outs res = true) ∧
        K S ⟨res.ren (ids ++ news), (ids ++ news).zip (outs.map (renRow (ids ++ news)))⟩
    | _ => False
def uOp1 (P : Program) (o : Oper) (S : St) (K : St → Out → Prop) : Prop :=
  match o.op with
  | .makeFunc f xs ys => match (xs.toList.map S.get ++ ys.toList.map S.get).flatMap (idsN 4 S.row) with
    | [] => K S ⟨.fn f (xs.toList.map S.get) (ys.toList.map S.get), []⟩
    | i :: l => fSt (S.freeze (idSet (i :: l))) fun S => K S ⟨.fn f (xs.toList.map S.get) (ys.toList.map S.get), []⟩
  | .binOp op t x y yt => match S.get y with
    | .nils => match S.get x with
      | .sl _ _ _ l => match P.underlying t with
        | some (.slice _) => nilCmp op l fun v => K S ⟨v, []⟩
        | _ => False
      | .own id => match S.row id with
        | .vec _ _ _ _ l => match P.underlying t with
          | some (.slice _) => nilCmp op l fun v => K S ⟨v, []⟩
          | _ => False
        | _ => False
      | _ => evOp P o.dst (.binOp op t x y yt) S.get S.row fun out _ => K S out
    | _ => evOp P o.dst (.binOp op t x y yt) S.get S.row fun out _ => K S out
  | .call c => match c.callee with
    | .value f => match S.get f with
      | .fn (.func _) first caps => (match closedL (first ++ c.args.toList.map S.get ++ caps) with
        | true => evOp P o.dst (.call c) S.get S.row fun out _ => K S out
        | false => ∃ frz : Bool, match frz with
          | false => evOp P o.dst (.call c) S.get S.row fun out _ => K S out
          | true => fSt (S.freeze (idSet ((first ++ c.args.toList.map S.get ++ caps).flatMap (idsN 4 S.row)))) fun S => evOp P o.dst (.call c) S.get S.row fun out _ => K S out) ∨ wOp P c f S K
      | .fn (.yield l) [] [] => match S.row S.t.length with
        | .ctr l' xs k false => (l = l' ∧ xs[k]? = some (c.args.toList.map S.get) ∧ flatL (c.args.toList.map S.get) = true) ∧ K S ⟨.tt, [(S.t.length, .ctr l' xs (k + 1) false)]⟩ ∧ K S ⟨.ff, [(S.t.length, .ctr l' xs (k + 1) true)]⟩
        | _ => False
      | _ => False
    | _ => evOp P o.dst (.call c) S.get S.row fun out _ => K S out
  | op => evOp P o.dst op S.get S.row fun out _ => K S out
def uOp (P : Program) (o : Oper) (S : St) (K : St → Out → Prop) : Prop :=
  match allocs o.op with
  | true => match o.dst with
    | some d => match mayKill S d with
      | true => fSt (S.kill d) fun S => uOp1 P o S K
      | false => False
    | none => uOp1 P o S K
  | false => uOp1 P o S K

def isSrc (all : List Oper) (k : Nat) : Bool := all.any fun o => match o.guard with
  | some (j, _) => Nat.beq j k
  | none => false
def splitOut (src : Bool) (out : Out) (K : Out → Prop) : Prop :=
  match src with
  | true => match out.v with
    | .bool b => (b = true → K ⟨.tt, out.rows⟩) ∧ (b = false → K ⟨.ff, out.rows⟩)
    | _ => K out
  | false => K out

def fSp : List AV → (List AV → Prop) → Prop
  | [], K => K []
  | a :: l, K => fSp l fun l => K (a :: l)
theorem fSp_eq : ∀ (l : List AV) (K : List AV → Prop), fSp l K = K l
  | [], _ => rfl
  | a :: l, K => by simp only [fSp]; rw [fSp_eq l]
/-- What an operation gives is reckoned, and laid down. -/
def fPut (S : St) (dst : Option Nat) (out : Out) (K : St → Prop) : Prop :=
  match S with
  | ⟨St, Sh, Sn⟩ => match dst with
    | some d => fAV out.v fun v => fSp (St.set d v) fun t => match out.rows with
      | [] => K ⟨t, Sh, Sn⟩
      | r :: rs => fRows (setRows Sh (r :: rs)) fun h => K ⟨t, h, Sn⟩
    | none => match out.rows with
      | [] => K ⟨St, Sh, Sn⟩
      | r :: rs => fRows (setRows Sh (r :: rs)) fun h => K ⟨St, h, Sn⟩
theorem fPut_eq (S : St) (dst : Option Nat) (out : Out) (K : St → Prop) : fPut S dst out K = K (S.put dst out) := by
  obtain ⟨v, rows⟩ := out
  obtain ⟨St, Sh, Sn⟩ := S
  cases dst with
  | none =>
    cases rows with
    | nil => rfl
    | cons r rs => simp only [fPut]; rw [fRows_eq]; rfl
  | some d =>
    simp only [fPut]
    rw [fAV_eq, fSp_eq]
    cases rows with
    | nil => rfl
    | cons r rs => simp only []; rw [fRows_eq]; rfl

def uRun (P : Program) (all : List Oper) : List Oper → Nat → St → (St → Prop) → Prop
  | [], _, S, K => K S
  | o :: l, k, S, K => match gw all.toArray S o with
    | some true => uOp P o S fun S out => splitOut (isSrc all k) out fun out => fPut S o.dst out fun S => uRun P all l (k + 1) S K
    | some false => fPut S o.dst ⟨.tup [], []⟩ fun S => uRun P all l (k + 1) S K
    | none => False

def lexRun (P : Program) (all : List Oper) : List Oper → Nat → St → List (List Nat × List Nat) → (St → Prop) → Prop
  | [], _, S, fps, K => rowsB all fps = true ∧ K S
  | o :: l, k, S, fps, K => match gw all.toArray S o with
    | some true => evOp P o.dst o.op S.get S.row fun out rd => splitOut (isSrc all k) out fun out => fPut S o.dst out fun S => lexRun P all l (k + 1) S (fps ++ [(rd, out.rows.map (·.1))]) K
    | some false => fPut S o.dst ⟨.tup [], []⟩ fun S => lexRun P all l (k + 1) S (fps ++ [([], [])]) K
    | none => False

def allocD (l : List Oper) : List Nat := l.filterMap fun o => match allocs o.op with
  | true => o.dst
  | false => none
/-- What is asked of a region that draws, once and for all. -/
def drawB (ops : Array Oper) : Bool :=
  Region.lexFrom .any ops ops.size 0 (Array.replicate ops.size false) &&
  (List.range ops.size).all fun i => match ops[i]? with
    | none => true
    | some o => !allocs o.op || (List.range ops.size).all fun j => Nat.beq i j || match ops[j]? with
      | none => true
      | some o' => match o.dst, o'.dst with
        | some d, some d' => !(Nat.beq d d')
        | _, _ => true

def Md.calm : Md → Bool
  | .round _ => false
  | _ => true

/-! ### Code -/
inductive Ex
  | norm | ret
  | exit (id : Nat)

def dstsC : Code → List Nat
  | .region _ ops _ => ops.toList.filterMap (·.dst)
  | .seq a b => dstsC a ++ dstsC b
  | .cond _ a b => dstsC a ++ dstsC b
  | .block _ a => dstsC a
  | .loop a => dstsC a
  | .scope a => dstsC a
  | _ => []
def lkV (i : Nat) : List Nat → List AV → Option AV
  | w :: ws, v :: vs => match Nat.beq i w with
    | true => some v
    | false => lkV i ws vs
  | _, _ => none
def lkR (i : Nat) : List Nat → List Row → Option Row
  | w :: ws, v :: vs => match Nat.beq i w with
    | true => some v
    | false => lkR i ws vs
  | _, _ => none
def fNs : List Nat → (List Nat → Prop) → Prop
  | [], K => K []
  | d :: l, K => fNs l fun l => K (d :: l)
theorem fNs_eq : ∀ (l : List Nat) (K : List Nat → Prop), fNs l K = K l
  | [], _ => rfl
  | d :: l, K => by simp only [fNs]; rw [fNs_eq l]
def headT (ds ws : List Nat) (vals : List AV) (vt : List Nat) : Nat → List AV → List AV
  | _, [] => []
  | i, a :: l => (match hasN i vt with
    | true => .own i
    | false => match lkV i ws vals with
      | some v => v
      | none => match hasN i ds with
        | true => .any
        | false => a) :: headT ds ws vals vt (i + 1) l
def headH (ds bs : List Nat) (brows : List Row) (vt : List Nat) (vrows : List Row) : Nat → List Row → List Row
  | _, [] => []
  | i, a :: l => (match lkR i vt vrows with
    | some r => r
    | none => match lkR i bs brows with
      | some r => r
      | none => match hasN i ds with
        | true => .none
        | false => a) :: headH ds bs brows vt vrows (i + 1) l
/-- The state at the head of a loop: what the loop's body turns is forgotten, but for what the relation says. -/
def mkHead (ds : List Nat) (S : St) (ws bs : List Nat) (vs : List (Nat × VT)) (vals : List AV) (brows vrows : List Row) : St :=
  ⟨headT ds ws vals (vs.map (·.1)) 0 S.t, headH ds bs brows (vs.map (·.1)) vrows 0 S.h, S.n⟩
def atHead (ds : List Nat) (S0 : St) (ws bs : List Nat) (vs : List (Nat × VT)) (S : St) (K : List AV → List Row → List Row → Prop) : Prop :=
  fSt (canonV vs S) fun S => fL (ws.map fun i => S.t.getD i .any) fun vals => fRows (bs.map S.row) fun brows => fRows (vs.map fun v => S.row v.1) fun vrows =>
    K vals brows vrows ∧ maskT (mkHead ds S0 ws bs vs vals brows vrows).t S.t = some (mkHead ds S0 ws bs vs vals brows vrows).t ∧
      maskH (mkHead ds S0 ws bs vs vals brows vrows).h S.h = some (mkHead ds S0 ws bs vs vals brows vrows).h

def unr (f : St → (Ex → St → Prop) → Prop) : Nat → St → (Ex → St → Prop) → Prop
  | 0, _, _ => False
  | n + 1, S, Q => f S fun e S => match e with
    | .norm => unr f n S Q
    | e => Q e S

def setPs : List AV → List Nat → List AV → List AV
  | t, p :: ps, x :: xs => setPs (t.set p x) ps xs
  | t, _, _ => t
/-- What an iterator's function value yields, one after the other, as long as it is asked to go on. -/
def SQ (P : Program) (gf : FuncId) (caps : List AV) (xs : List (List AV)) : Prop :=
  ∀ (F : Nat → Prop) (w : World) (us : Array Value) (l : Nat) (J : Nat → Bool → (Nat → Prop) → World → Prop), (∀ b, F b → b < w.heap.size) → us.size = caps.length → (∀ i, i < caps.length → RepI F w (caps.getD i .any) (us.getD i undef)) →
    (∀ k e O w w', J k e O w → (∀ b, b < w.heap.size → ¬ O b → w'.heap[b]? = w.heap[b]?) → w'.os = w.os → w'.tape = w.tape → w'.output = w.output → w.heap.size ≤ w'.heap.size → J k e (fun b => O b ∨ (w.heap.size ≤ b ∧ b < w'.heap.size)) w') →
    (∀ k O W vs x, J k false O W → xs[k]? = some x → (∀ b, O b → b < W.heap.size) → vs.size = x.length → (∀ i, i < x.length → RepI (fun _ => False) W (x.getD i .any) (vs.getD i undef)) →
      YieldAt Fence.wide 0 P l vs W fun e W' => W'.os = W.os ∧ W'.tape = W.tape ∧ W'.output = W.output ∧ W.heap.size ≤ W'.heap.size ∧ (∀ b, O b → W'.heap[b]? = W.heap[b]?) ∧ Keeps F W W' ∧
        ((e = .returned (.bool true) ∧ J (k + 1) false O W') ∨ (e = .returned (.bool false) ∧ J (k + 1) true O W'))) →
    J 0 false (fun _ => False) w →
    (∀ args W, (callFunc gf args).run P W = .ok (.enter gf args) W) ∧ CallsIn Fence.wide 0 P gf (#[.func (.yield l) #[] #[]] ++ us) w fun e W' => (∃ v, e = .returned v) ∧ W'.os = w.os ∧ W'.tape = w.tape ∧ W'.output = w.output ∧ w.heap.size ≤ W'.heap.size ∧
      ∃ O k e', J k e' O W' ∧ (e' = false → k = xs.length)

def ex (P : Program) : Code → St → (Ex → St → Prop) → Prop
  | .skip, S, Q => Q .norm S
  | .label _, S, Q => Q .norm S
  | .region _ ops draw, S, Q => match draw with
    | false => uRun P ops.toList ops.toList 0 S fun S => fSt S (Q .norm)
    | true => (drawB ops && (allocD ops.toList).all (mayKill S) && S.n.calm) = true ∧ fSt (S.kills (allocD ops.toList)) fun S => lexRun P ops.toList ops.toList 0 S [] fun S => fSt S (Q .norm)
  | .seq a b, S, Q => ex P a S fun e S => match e with
    | .norm => ex P b S Q
    | e => Q e S
  | .cond c a b, S, Q => match S.get c with
    | .tt => ex P a S Q
    | .ff => ex P b S Q
    | .bool x => (x = true → ex P a S Q) ∧ (x = false → ex P b S Q)
    | _ => False
  | .block id c, S, Q => ex P c S fun e S => match e with
    | .exit i => match Nat.beq i id with
      | true => Q .norm S
      | false => Q (.exit i) S
    | e => Q e S
  | .loop c, S, Q => (∃ n, unr (ex P c) n S Q) ∨
      ∃ (ι : Type) (ws bs : List Nat) (vs : List (Nat × VT)) (V : ι → List AV) (BR VR : ι → List Row) (μ : ι → Nat) (I : ι → Prop), fNs (dstsC c) fun ds => fSt (canonV vs S) fun S0 =>
        (∃ i, atHead ds S0 ws bs vs S fun vals brows vrows => I i ∧ vals = V i ∧ brows = BR i ∧ vrows = VR i) ∧
        ∀ i, I i → fSt (mkHead ds S0 ws bs vs (V i) (BR i) (VR i)) fun S1 => ex P c S1 fun e S2 => match e with
          | .norm => ∃ i', atHead ds S0 ws bs vs S2 fun vals brows vrows => (μ i' < μ i ∧ I i') ∧ vals = V i' ∧ brows = BR i' ∧ vrows = VR i'
          | e => Q e S2
  | .rangeFunc g ps assign body, S, Q => match S.n with
    | .round _ => False
    | .iter => False
    | .plain => match S.get g with
      | .fn (.func gf) [] caps => closedL caps = true ∧
        ∃ (xs : List (List AV)) (bs : List Nat) (BR : Nat → List Row) (I : Nat → Prop), (SQ P gf caps xs ∧ ∀ x ∈ xs, flatL x = true ∧ x.length = ps.size) ∧
          fNs (ps.toList ++ (dstsC assign ++ dstsC body)) fun ds => ds.all (mayKill S) = true ∧
            (atHead ds S [] bs [] S fun vals brows vrows => I 0 ∧ vals = [] ∧ brows = BR 0 ∧ vrows = []) ∧
            (∀ k x, I k → xs[k]? = some x → fSt ((mkHead ds S [] bs [] [] (BR k) []).kills ds) fun S1 => fSt ⟨setPs S1.t ps.toList x, S1.h, .round ds⟩ fun S2 =>
              ex P assign S2 fun e S3 => match e with
                | .norm => ex P body S3 fun e S4 => match e with
                  | .norm => fRows (bs.map S4.row) fun brows => (I (k + 1) ∧ brows = BR (k + 1)) ∧ maskH ((mkHead ds S [] bs [] [] brows []).kills ds).h S4.h = some ((mkHead ds S [] bs [] [] brows []).kills ds).h
                  | e => Q e ⟨S1.t, S4.h, .plain⟩
                | _ => False) ∧
            (I xs.length → fSt ((mkHead ds S [] bs [] [] (BR xs.length) []).kills ds) (Q .norm))
      | _ => False
  | .ret, S, Q => Q .ret S
  | .exit id, S, Q => Q (.exit id) S
  | _, _, _ => False

/-! ### What a function hands back -/
def retAV (P : Program) (S : St) : List ResultVar → Option (List AV)
  | [] => some []
  | .tmp t :: l => match retAV P S l with
    | some r => some (closeN 4 S.row (S.t.getD t .any) :: r)
    | none => none
  | .cell x t :: l => match retAV P S l with
    | none => none
    | some r => match P.info? t, P.underlying t with
      | some i, some d => match S.t.getD x .any with
        | .ptr id sz j off => match S.row id with
          | .cells _ cs => match ldOut (isAggD d) i.size cs (j * sz + off) with
            | some v => some (closeN 4 S.row v :: r)
            | none => none
          | _ => none
        | _ => none
      | _, _ => none
def AV.fin1 : AV → AV
  | .tt => .bool true
  | .ff => .bool false
  | x => x
def AV.fin : AV → AV
  | .tt => .bool true
  | .ff => .bool false
  | .tup l => .tup (l.map AV.fin1)
  | x => x
def retOf : List AV → AV
  | [x] => x
  | l => .tup l
/-- The whole body. -/
def body (P : Program) (fn : Func) (args : List AV) (res : AV) : Prop :=
  match fn.body with
  | none => False
  | some c => fSt ⟨args ++ List.replicate (fn.ntmps - args.length) .any, List.replicate fn.ntmps .none, .plain⟩ fun S => ex P c S fun e S => match e with
    | .exit _ => False
    | _ => match retAV P S fn.results.toList with
      | some l => fAV (retOf l).fin fun v => v = res
      | none => False
/-- What is handed back, rows and all. -/
def retRaw (P : Program) (S : St) : List ResultVar → Option (List AV)
  | [] => some []
  | .tmp t :: l => match retRaw P S l with
    | some r => some (S.t.getD t .any :: r)
    | none => none
  | .cell x t :: l => match retRaw P S l with
    | none => none
    | some r => match P.info? t, P.underlying t with
      | some i, some d => match S.t.getD x .any with
        | .ptr id sz j off => match S.row id with
          | .cells _ cs => match ldOut (isAggD d) i.size cs (j * sz + off) with
            | some v => some (v :: r)
            | none => none
          | _ => none
        | _ => none
      | _, _ => none
/-- The body of a function that takes over rows. -/
def bodyW (P : Program) (fn : Func) (args : List AV) (ins : List Row) (res : AV) (outs : List Row) : Prop :=
  match fn.body with
  | none => False
  | some c => (underL ins.length args && ins.all (fun r => underRow ins.length r && r.live) && Nat.ble args.length fn.ntmps) = true ∧
    fSt ⟨renL (List.range' fn.ntmps ins.length) args ++ List.replicate (fn.ntmps - args.length) .any, List.replicate fn.ntmps .none ++ ins.map (renRow (List.range' fn.ntmps ins.length)), .plain⟩ fun S => ex P c S fun e S => match e with
    | .exit _ => False
    | _ => match retRaw P S fn.results.toList with
      | some l => ∃ news : List Nat, (nodupB (List.range' fn.ntmps ins.length ++ news) && Nat.beq outs.length (List.range' fn.ntmps ins.length ++ news).length && res.under outs.length && outs.all (underRow outs.length)) = true ∧
          fAV (retOf l).fin fun v => v = res.ren (List.range' fn.ntmps ins.length ++ news) ∧ (List.range' fn.ntmps ins.length ++ news).map S.row = outs.map (renRow (List.range' fn.ntmps ins.length ++ news))
      | none => False
/-- The body of an iterator. -/
def bodyS (P : Program) (fn : Func) (caps : List AV) (xs : List (List AV)) : Prop :=
  match fn.body with
  | none => False
  | some c => Nat.ble (caps.length + 1) fn.ntmps = true ∧ ∀ l : Nat, fSt ⟨(.fn (.yield l) [] [] :: caps) ++ List.replicate (fn.ntmps - (caps.length + 1)) .any, List.replicate fn.ntmps .none ++ [.ctr l xs 0 false], .iter⟩ fun S => ex P c S fun e S => match e with
    | .exit _ => False
    | _ => match retAV P S fn.results.toList with
      | some _ => match S.row S.t.length with
        | .ctr _ _ k e' => e' = false → k = xs.length
        | _ => False
      | none => False

end Go.Ev
