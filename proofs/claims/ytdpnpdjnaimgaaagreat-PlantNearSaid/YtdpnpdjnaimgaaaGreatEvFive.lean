/- A helper text: contracts of functions of the program, and plain lemmas. -/
import Derived.Test.YtdpnpdjnaimgaaaGreatEvSeven
import Derived.OrdersIn
import Derived.Deep.LoopGhost
import Derived.Conc.MuLone
import Derived.RangeFuncLeaves
set_option linter.unusedVariables false
set_option linter.unusedSimpArgs false
/- The executor itself. A helper text: it speaks of no program. -/
namespace Go.Ev
def V3 (l:List Nat) (i:Nat):Bool:=l.any fun j=>Nat.beq j i
def a2u {α:Type} (op:BinOp) (l:List α) (K:AV->Prop):Prop:=∀ b:Bool,(b=true->l=[])->C3 op (K (.bool b)) (K (.bool !b))
def St.frz (S:St):List Nat->St
 | []=>S
 | i :: l=>S.freeze (V3 (i :: l))
def wOp (P:Program) (c:Call) (f:Operand) (S:St) (K:St->Out->Prop):Prop :=
 ∃ frz news:List Nat,news.all (k8 S)=true/\fSt ((S.frz frz).kills news) fun S=>match S.get f with
  | .fn (.func h) first caps=>∃ (ids:List Nat) (args':List AV) (ins outs:List Row) (res:AV),
    (PW P h args' ins res outs/\first++c.args.toList.map S.get++caps=renL ids args'/\ids.map S.row=ins.map (l9 ids)/\wB ids news args' ins outs res=true) /\
    K S ⟨res.ren (ids++news),(ids++news).zip (outs.map (l9 (ids++news)))⟩
  | _=>False
def uOp1 (P:Program) (o:Oper) (S:St) (K:St->Out->Prop):Prop :=
 match o.op with
 | .makeFunc f xs ys=>match (xs.toList.map S.get++ys.toList.map S.get).flatMap (idsN 4 S.row) with
  | []=>K S ⟨.fn f (xs.toList.map S.get) (ys.toList.map S.get),[]⟩
  | i :: l=>fSt (S.freeze (V3 (i :: l))) fun S=>K S ⟨.fn f (xs.toList.map S.get) (ys.toList.map S.get),[]⟩
 | .binOp op t x y yt=>match S.get y with
  | .nils=>match S.get x with
   | .sl _ _ _ l=>match P.underlying t with
    | some (.slice _)=>a2u op l fun v=>K S ⟨v,[]⟩
    | _=>False
   | .own id=>match S.row id with
    | .vec _ _ _ _ l=>match P.underlying t with
     | some (.slice _)=>a2u op l fun v=>K S ⟨v,[]⟩
     | _=>False
    | _=>False
   | _=>evN P o.dst (.binOp op t x y yt) S.get S.row fun out _=>K S out
  | _=>evN P o.dst (.binOp op t x y yt) S.get S.row fun out _=>K S out
 | .call c=>match c.callee with
  | .value f=>match S.get f with
   | .fn (.func _) first caps=>(match s9 (first++c.args.toList.map S.get++caps) with
    | true=>evN P o.dst (.call c) S.get S.row fun out _=>K S out
    | false=>∃ frz:Bool,match frz with
     | false=>evN P o.dst (.call c) S.get S.row fun out _=>K S out
     | true=>fSt (S.freeze (V3 ((first++c.args.toList.map S.get++caps).flatMap (idsN 4 S.row)))) fun S=>evN P o.dst (.call c) S.get S.row fun out _=>K S out)∨wOp P c f S K
   | .fn (.yield l) [] []=>match S.row S.t.length with
    | .ctr l' xs k false=>(l=l'/\xs[k]? = some (c.args.toList.map S.get)/\M4 (c.args.toList.map S.get)=true)/\K S ⟨.tt,[(S.t.length,.ctr l' xs (k + 1) false)]⟩/\K S ⟨.ff,[(S.t.length,.ctr l' xs (k + 1) true)]⟩
    | _=>False
   | _=>False
  | _=>evN P o.dst (.call c) S.get S.row fun out _=>K S out
 | op=>evN P o.dst op S.get S.row fun out _=>K S out
def wOf (P:Program) (o:Oper) (K:St->Out->Prop) (S:St):Prop :=
 match o.op with
 | .call c=>match c.callee with
  | .value f=>wOp P c f S K
  | _=>False
 | _=>False
def a6B (P:Program) (o:Oper) (S:St) (K:St->Out->Prop):Prop:=nOp fSt P o S K (wOf P o K) (uOp1 P o S K)
def b1q:AV->AV
 | .nils => .sl 1 (0:Int) encI []
 | x=>x
def a9j:List AV->Bool
 | []=>false
 | a :: l=>match a with
  | .nils=>true
  | _=>a9j l
def a9k:List AV->List Nat
 | []=>[]
 | a :: l=>match a with
  | .own i=>i :: a9k l
  | _=>a9k l
def appB (op:Op):Bool :=
 match op with
 | .call c=>match c.callee with
  | .builtin .append=>true
  | _=>false
 | _=>false
def unN (o:Oper) (S:St):St :=
 match o.op with
 | .call c=>match c.args.toList with
  | [s,x]=>match S.get s,S.get x with
   | .own id,.own q=>match S.row id,S.row q with
    | .vec _ _ _ _ _,.lit ty sz [cs]=>match a9j cs with
     | true=>⟨S.t,S.h.set q (.lit ty sz [cs.map b1q]),S.n⟩
     | false=>match a9k cs with
      | []=>S
      | i :: l=>S.freeze (V3 (i :: l))
    | _,_=>S
   | _,_=>S
  | _=>S
 | _=>S
def uOpR (P:Program) (o:Oper) (S:St) (K:St->Out->Prop):Prop :=
 match appB o.op with
 | true=>fSt (unN o S) fun S=>a6B P o S K
 | false=>a6B P o S K
def uOp (P:Program) (o:Oper) (S:St) (K:St->Out->Prop):Prop :=
 match E0 o.op with
 | true=>match o.dst with
  | some d=>match k8 S d with
   | true=>fSt (S.kill d) fun S=>uOpR P o S K
   | false=>False
  | none=>uOpR P o S K
 | false=>uOpR P o S K
def a32 (all:List Oper) (k:Nat):Bool:=all.any fun o=>match o.guard with
 | some (j,_)=>Nat.beq j k
 | none=>false
def J3 (src:Bool) (out:Out) (K:Out->Prop):Prop :=
 match src with
 | true=>match out.v with
  | .bool b=>(b=true->K ⟨.tt,out.rows⟩)/\(b=false->K ⟨.ff,out.rows⟩)
  | _=>K out
 | false=>K out
def fSp:List AV->(List AV->Prop)->Prop
 | [],K=>K []
 | a :: l,K=>fSp l fun l=>K (a :: l)
theorem a8k:∀ (l:List AV) (K:List AV->Prop),fSp l K=K l
 | [],_=>rfl
 | a :: l,K=>by simp only [fSp]; rw [a8k l]
def fPut (S:St) (dst:Option Nat) (out:Out) (K:St->Prop):Prop :=
 match S with
 | ⟨St,Sh,Sn⟩=>match dst with
  | some d=>fAV out.v fun v=>fSp (St.set d v) fun t=>match out.rows with
   | []=>K ⟨t,Sh,Sn⟩
   | r :: rs=>a0I (d8 Sh (r :: rs)) fun h=>K ⟨t,h,Sn⟩
  | none=>match out.rows with
   | []=>K ⟨St,Sh,Sn⟩
   | r :: rs=>a0I (d8 Sh (r :: rs)) fun h=>K ⟨St,h,Sn⟩
theorem Z1 (S:St) (dst:Option Nat) (out:Out) (K:St->Prop):fPut S dst out K=K (S.put dst out):=by
 obtain ⟨v,rows⟩:=out
 obtain ⟨St,Sh,Sn⟩:=S
 cases dst with
 | none =>
  cases rows with
  | nil=>rfl
  | cons r rs=>simp only [fPut]; rw [D3]; rfl
 | some d =>
  simp only [fPut]
  rw [M5,a8k]
  cases rows with
  | nil=>rfl
  | cons r rs=>simp only []; rw [D3]; rfl
def uRun (P:Program) (all:List Oper):List Oper->Nat->St->(St->Prop)->Prop
 | [],_,S,K=>K S
 | o :: l,k,S,K=>match gw all.toArray S o with
  | some true=>uOp P o S fun S out=>J3 (a32 all k) out fun out=>fPut S o.dst out fun S=>uRun P all l (k + 1) S K
  | some false=>fPut S o.dst ⟨.tup [],[]⟩ fun S=>uRun P all l (k + 1) S K
  | none=>False
def T5 (P:Program) (all:List Oper):List Oper->Nat->St->List (List Nat×List Nat)->(St->Prop)->Prop
 | [],_,S,fps,K=>a6z all fps=true/\K S
 | o :: l,k,S,fps,K=>match gw all.toArray S o with
  | some true=>evL P o S.get S.row fun out rd=>J3 (a32 all k) out fun out=>fPut S o.dst out fun S=>T5 P all l (k + 1) S (fps++[(rd,out.rows.map (·.1))]) K
  | some false=>fPut S o.dst ⟨.tup [],[]⟩ fun S=>T5 P all l (k + 1) S (fps++[([],[])]) K
  | none=>False
def K3 (P:Program) (l:List Oper):List Nat:=l.filterMap fun o=>match K9 P o with
 | true=>o.dst
 | false=>none
def a33 (P:Program) (ops:Array Oper):Bool :=
 Region.lexFrom .any ops ops.size 0 (Array.replicate ops.size false) &&
 (List.range ops.size).all fun i=>match ops[i]? with
  | none=>true
  | some o => !K9 P o || (List.range ops.size).all fun j=>Nat.beq i j || match ops[j]? with
   | none=>true
   | some o'=>match o.dst,o'.dst with
    | some d,some d' => !(Nat.beq d d')
    | _,_=>true
def Z2 (l:List Oper):Bool:=l.all fun o=>match o.op with
 | .defer _=>false
 | _=>true
inductive Ex
 | norm | ret
 | exit (id:Nat)
def G2:Code->List Nat
 | .region _ ops _=>ops.toList.filterMap (·.dst)
 | .seq a b=>G2 a++G2 b
 | .cond _ a b=>G2 a++G2 b
 | .block _ a=>G2 a
 | .loop a=>G2 a
 | .scope a=>G2 a
 | _=>[]
def lkV (i:Nat):List Nat->List AV->Option AV
 | w :: ws,v :: vs=>match Nat.beq i w with
  | true=>some v
  | false=>lkV i ws vs
 | _,_=>none
def lkR (i:Nat):List Nat->List Row->Option Row
 | w :: ws,v :: vs=>match Nat.beq i w with
  | true=>some v
  | false=>lkR i ws vs
 | _,_=>none
def fNs:List Nat->(List Nat->Prop)->Prop
 | [],K=>K []
 | d :: l,K=>fNs l fun l=>K (d :: l)
theorem a0x:∀ (l:List Nat) (K:List Nat->Prop),fNs l K=K l
 | [],_=>rfl
 | d :: l,K=>by simp only [fNs]; rw [a0x l]
def b4t (ds ws:List Nat) (vals:List AV) (vt:List Nat):Nat->List AV->List AV
 | _,[]=>[]
 | i,a :: l=>(match hasN i vt with
  | true => .own i
  | false=>match lkV i ws vals with
   | some v=>v
   | none=>match hasN i ds with
    | true => .any
    | false=>a) :: b4t ds ws vals vt (i + 1) l
def b4u (ds bs:List Nat) (brows:List Row) (vt:List Nat) (vrows:List Row):Nat->List Row->List Row
 | _,[]=>[]
 | i,a :: l=>(match lkR i vt vrows with
  | some r=>r
  | none=>match lkR i bs brows with
   | some r=>r
   | none=>match hasN i ds with
    | true => .none
    | false=>a) :: b4u ds bs brows vt vrows (i + 1) l
def y6 (ds:List Nat) (S:St) (ws bs:List Nat) (vs:List (Nat×VT)) (vals:List AV) (brows vrows:List Row):St :=
 ⟨b4t ds ws vals (vs.map (·.1)) 0 S.t,b4u ds bs brows (vs.map (·.1)) vrows 0 S.h,S.n⟩
def T6 (ds:List Nat) (S0:St) (ws bs:List Nat) (vs:List (Nat×VT)) (S:St) (K:List AV->List Row->List Row->Prop):Prop :=
 fSt (canonV vs S) fun S=>fL (ws.map fun i=>S.t.getD i .any) fun vals=>a0I (bs.map S.row) fun brows=>a0I (vs.map fun v=>S.row v.1) fun vrows =>
  K vals brows vrows/\a0k (y6 ds S0 ws bs vs vals brows vrows).t S.t=some (y6 ds S0 ws bs vs vals brows vrows).t /\
   V2 (y6 ds S0 ws bs vs vals brows vrows).h S.h=some (y6 ds S0 ws bs vs vals brows vrows).h
def unr (f:St->(Ex->St->Prop)->Prop):Nat->St->(Ex->St->Prop)->Prop
 | 0,_,_=>False
 | n + 1,S,Q=>f S fun e S=>match e with
  | .norm=>unr f n S Q
  | e=>Q e S
def O5:List AV->List Nat->List AV->List AV
 | t,p :: ps,x :: xs=>O5 (t.set p x) ps xs
 | t,_,_=>t
def SQ (P:Program) (gf:FuncId) (caps:List AV) (xs:List (List AV)):Prop :=
 ∀ (F:Nat->Prop) (w:World) (us:Array Value) (l:Nat) (J:Nat->Bool->(Nat->Prop)->World->Prop),(∀ b,F b->b < w.heap.size)->us.size=caps.length->(∀ i,i < caps.length->RepI F w (caps.getD i .any) (us.getD i undef)) ->
  (∀ k e O w w',J k e O w->(∀ b,b < w.heap.size->¬ O b->w'.heap[b]? = w.heap[b]?)->w'.os=w.os->w'.tape=w.tape->w'.output=w.output->w.heap.size<=w'.heap.size->J k e (fun b=>O b∨(w.heap.size<=b/\b < w'.heap.size)) w') ->
  (∀ k O W vs x,J k false O W->xs[k]? = some x->(∀ b,O b->b < W.heap.size)->vs.size=x.length->(∀ i,i < x.length->RepI (fun _=>False) W (x.getD i .any) (vs.getD i undef)) ->
   YieldAt Fence.wide 0 P l vs W fun e W'=>W'.os=W.os/\W'.tape=W.tape/\W'.output=W.output/\W.heap.size<=W'.heap.size/\(∀ b,O b->W'.heap[b]? = W.heap[b]?)/\n4 F W W' /\
    ((e = .returned (.bool true)/\J (k + 1) false O W')∨(e = .returned (.bool false)/\J (k + 1) true O W'))) ->
  J 0 false (fun _=>False) w ->
  (∀ args W,(callFunc gf args).run P W = .ok (.enter gf args) W)/\CallsIn Fence.wide 0 P gf (#[.func (.yield l) #[] #[]]++us) w fun e W'=>(∃ v,e = .returned v)/\W'.os=w.os/\W'.tape=w.tape/\W'.output=w.output/\w.heap.size<=W'.heap.size /\
   ∃ O k e',J k e' O W'/\(e'=false->k=xs.length)
noncomputable def loadOf (ops:List Oper) (d:Nat):Option (TypeId×Operand) :=
 List.rec (motive:=fun _=>Option (TypeId×Operand)) none (fun o _ ih=>match o.op with
  | .load ty x=>match o.dst with
   | some e=>match Nat.beq e d with
    | true=>some (ty,x)
    | false=>ih
   | none=>ih
  | _=>ih) ops
noncomputable def preIds (P:Program) (S:St) (ops:List Oper):List Nat :=
 List.rec (motive:=fun _=>List Nat) [] (fun o _ ih=>match o.op with
  | .call c=>match c.callee with
   | .value _=>match c.args.toList with
    | [.tmp d]=>match P.underlying o.type with
     | some (.struct _)=>match loadOf ops d with
      | some (ty,x)=>match Nat.beq ty o.type with
       | true=>match S.get x with
        | .ptr id _ _ _=>match S.row id with
         | .cells _ cs=>a9k cs
         | _=>ih
        | _=>ih
       | false=>ih
      | none=>ih
     | _=>ih
    | _=>ih
   | _=>ih
  | _=>ih) ops
noncomputable def preF (P:Program) (S:St) (ops:List Oper):St:=S.frz (preIds P S ops)
def ex (P:Program):Code->St->(Ex->St->Prop)->Prop
 | .skip,S,Q=>Q .norm S
 | .label _,S,Q=>Q .norm S
 | .scope c,S,Q=>ex P c S Q
 | .region _ ops draw,S,Q=>match draw with
  | false=>uRun P ops.toList ops.toList 0 S fun S=>fSt S (Q .norm)
  | true=>fSt (preF P S ops.toList) fun S=>(a33 P ops && (K3 P ops.toList).all (k8 S) && Z2 ops.toList)=true/\fSt (S.kills (K3 P ops.toList)) fun S=>T5 P ops.toList ops.toList 0 S [] fun S=>fSt S (Q .norm)
 | .seq a b,S,Q=>ex P a S fun e S=>match e with
  | .norm=>ex P b S Q
  | e=>Q e S
 | .cond c a b,S,Q=>match S.get c with
  | .tt=>ex P a S Q
  | .ff=>ex P b S Q
  | .bool x=>(x=true->ex P a S Q)/\(x=false->ex P b S Q)
  | _=>False
 | .block id c,S,Q=>ex P c S fun e S=>match e with
  | .exit i=>match Nat.beq i id with
   | true=>Q .norm S
   | false=>Q (.exit i) S
  | e=>Q e S
 | .loop c,S,Q=>(∃ n,unr (ex P c) n S Q) ∨
   ∃ (ι:Type) (ws bs:List Nat) (vs:List (Nat×VT)) (V:ι->List AV) (BR VR:ι->List Row) (μ:ι->Nat) (I:ι->Prop),fNs (G2 c) fun ds=>fSt (canonV vs S) fun S0 =>
    (∃ i,T6 ds S0 ws bs vs S fun vals brows vrows=>I i/\vals=V i/\brows=BR i/\vrows=VR i) /\
    ∀ i,I i->fSt (y6 ds S0 ws bs vs (V i) (BR i) (VR i)) fun S1=>ex P c S1 fun e S2=>match e with
     | .norm=>∃ i',T6 ds S0 ws bs vs S2 fun vals brows vrows=>(μ i' < μ i/\I i')/\vals=V i'/\brows=BR i'/\vrows=VR i'
     | e=>Q e S2
 | .rangeFunc g ps assign body,S,Q=>match S.n with
  | .round _=>False
  | .iter=>False
  | .plain=>match S.get g with
   | .fn (.func gf) [] caps=>s9 caps=true /\
    ∃ (xs:List (List AV)) (bs:List Nat) (BR:Nat->List Row) (I:Nat->Prop),(SQ P gf caps xs/\∀ x ∈ xs,M4 x=true/\x.length=ps.size) /\
     fNs (ps.toList++(G2 assign++G2 body)) fun ds=>ds.all (k8 S)=true /\
      (T6 ds S [] bs [] S fun vals brows vrows=>I 0/\vals=[]/\brows=BR 0/\vrows=[]) /\
      (∀ k x,I k->xs[k]? = some x->fSt ((y6 ds S [] bs [] [] (BR k) []).kills ds) fun S1=>fSt ⟨O5 S1.t ps.toList x,S1.h,.round ds⟩ fun S2 =>
       ex P assign S2 fun e S3=>match e with
        | .norm=>ex P body S3 fun e S4=>match e with
         | .norm=>a0I (bs.map S4.row) fun brows=>(I (k + 1)/\brows=BR (k + 1))/\V2 ((y6 ds S [] bs [] [] brows []).kills ds).h S4.h=some ((y6 ds S [] bs [] [] brows []).kills ds).h
         | e=>Q e ⟨S1.t,S4.h,.plain⟩
        | _=>False) /\
      (I xs.length->fSt ((y6 ds S [] bs [] [] (BR xs.length) []).kills ds) (Q .norm))
   | _=>False
 | .ret,S,Q=>Q .ret S
 | .exit id,S,Q=>Q (.exit id) S
 | _,_,_=>False
def K7 (P:Program) (S:St):List ResultVar->Option (List AV)
 | []=>some []
 | .tmp t :: l=>match K7 P S l with
  | some r=>some (o7 4 S.row (S.t.getD t .any) :: r)
  | none=>none
 | .cell x t :: l=>match K7 P S l with
  | none=>none
  | some r=>match P.info? t,P.underlying t with
   | some i,some d=>match S.t.getD x .any with
    | .ptr id sz j off=>match S.row id with
     | .cells _ cs=>match a0g (G7 d) i.size cs (j * sz + off) with
      | some v=>some (o7 4 S.row v :: r)
      | none=>none
     | _=>none
    | _=>none
   | _,_=>none
def AV.fin1:AV->AV
 | .tt => .bool true
 | .ff => .bool false
 | x=>x
def AV.fin:AV->AV
 | .tt => .bool true
 | .ff => .bool false
 | .tup l => .tup (l.map AV.fin1)
 | x=>x
def O6:List AV->AV
 | [x]=>x
 | l => .tup l
def body (P:Program) (fn:Func) (args:List AV) (res:AV):Prop :=
 match fn.body with
 | none=>False
 | some c=>fSt ⟨args++List.replicate (fn.ntmps - args.length) .any,List.replicate fn.ntmps .none,.plain⟩ fun S=>ex P c S fun e S=>match e with
  | .exit _=>False
  | _=>match K7 P S fn.results.toList with
   | some l=>fAV (O6 l).fin fun v=>v=res
   | none=>False
def I3 (P:Program) (S:St):List ResultVar->Option (List AV)
 | []=>some []
 | .tmp t :: l=>match I3 P S l with
  | some r=>some (S.t.getD t .any :: r)
  | none=>none
 | .cell x t :: l=>match I3 P S l with
  | none=>none
  | some r=>match P.info? t,P.underlying t with
   | some i,some d=>match S.t.getD x .any with
    | .ptr id sz j off=>match S.row id with
     | .cells _ cs=>match a0g (G7 d) i.size cs (j * sz + off) with
      | some v=>some (v :: r)
      | none=>none
     | _=>none
    | _=>none
   | _,_=>none
def a9l (P:Program) (fn:Func) (args:List AV) (ins:List Row) (res:AV) (outs:List Row):Prop :=
 match fn.body with
 | none=>False
 | some c=>(F7 ins.length args && ins.all (fun r=>r5 ins.length r && r.live) && Nat.ble args.length fn.ntmps)=true /\
  fSt ⟨renL (List.range' fn.ntmps ins.length) args++List.replicate (fn.ntmps - args.length) .any,List.replicate fn.ntmps .none++ins.map (l9 (List.range' fn.ntmps ins.length)),.plain⟩ fun S=>ex P c S fun e S=>match e with
  | .exit _=>False
  | _=>match I3 P S fn.results.toList with
   | some l=>∃ news:List Nat,(N1 (List.range' fn.ntmps ins.length++news) && Nat.beq outs.length (List.range' fn.ntmps ins.length++news).length && res.under outs.length && outs.all (r5 outs.length))=true /\
     fAV (O6 l).fin fun v=>v=res.ren (List.range' fn.ntmps ins.length++news)/\(List.range' fn.ntmps ins.length++news).map S.row=outs.map (l9 (List.range' fn.ntmps ins.length++news))
   | none=>False
def a9m (P:Program) (fn:Func) (caps:List AV) (xs:List (List AV)):Prop :=
 match fn.body with
 | none=>False
 | some c=>Nat.ble (caps.length + 1) fn.ntmps=true/\∀ l:Nat,fSt ⟨(.fn (.yield l) [] [] :: caps)++List.replicate (fn.ntmps - (caps.length + 1)) .any,List.replicate fn.ntmps .none++[.ctr l xs 0 false],.iter⟩ fun S=>ex P c S fun e S=>match e with
  | .exit _=>False
  | _=>match K7 P S fn.results.toList with
   | some _=>match S.row S.t.length with
    | .ctr _ _ k e'=>e'=false->k=xs.length
    | _=>False
   | none=>False
/- Why the executor is right. A helper text: it speaks of no program. -/
section
variable {P:Program} {B:Nat->Prop} {w0:World} {F0:Env P} {S:St} {β:Nat->Option Hd} {F:Nat->Prop} {a:Act} {w:World} {ops:Array Oper}
theorem r8 (hR:Rel B w0 F0 S β F a w) {o:Oper} (hfree:E0 o.op=true->∀ d,o.dst=some d->β d=none) {K:St->Out->Prop} (h:evN P o.dst o.op S.get S.row fun out _=>K S out) {Q:Exit->Act->World->Prop} :
  o.wp P a w (C4 B w0 F0 o.dst K) Q:=by
 refine Oper.wp_mono ?_ (a9g hR hfree h)
 rintro a' w' ⟨out,rd,hK,β',F',_,hR'⟩
 exact ⟨S,out,hK,β',F',hR'⟩
theorem T7 (hR:Rel B w0 F0 S β F a w) {o:Oper} {op:BinOp} {t yt:TypeId} {x y:Operand} (ho:o.op = .binOp op t x y yt) {e:TypeId} (hu:P.underlying t=some (.slice e)) {α:Type} {l:List α}
  (hy:S.get y = .nils) (hx:∃ p n c,a.eval x = .slice p n c/\(p=none->l=[])) {K:St->Out->Prop} (h:a2u op l fun v=>K S ⟨v,[]⟩) {Q:Exit->Act->World->Prop}:o.wp P a w (C4 B w0 F0 o.dst K) Q:=by
 obtain ⟨p,n,c,hv,hp⟩:=hx
 have hyv:=hR.get y
 rw [hy] at hyv
 have hy':=hyv.nils_inv
 have heq:(Op.equal t (.slice p n c) (.slice none 0 0)).run P w = .ok p.isNone w:=by
  cases p with
  | none=>exact Q7 hu none n c 0 0
  | some q=>exact T0 hu q n c
 have hK:=B2 (h p.isNone (fun hb=>hp (by cases p<;>simp_all)))
 obtain ⟨r,v,h1,h2,h3⟩:=Q2 (β:=β) (F:=F) (K:=fun v=>K S ⟨v,[]⟩) x y heq ⟨nofun,nofun,nofun,nofun⟩ (u3 op t x y nofun nofun) (.imm (.bool _)) (.imm (.bool _)) hK
 refine v7 (s:=do eqGuard op t x y (.slice p n c) (.slice none 0 0); binOp op t (.slice p n c) (.slice none 0 0)) (by simp [execOp,ho,hv,hy']) h1 ?_
 exact ⟨S,_,h3,β,F,hR.still h2⟩
abbrev FW (r:Option Nat):Fence:={ Fence.wide with round:=r }
theorem a8l {r:Option Nat} {f:FuncId} {vs:Array Value} {R:Ending->World->Prop} (h:Calls P f vs w R):CallsIn (FW r) 0 P f vs w R:=callsIn_wide.2 h
theorem D1 {r:Option Nat} {o:Oper} {next:Act->World->Prop} {Q:Exit->Act->World->Prop} (hd:∀ c,o.op ≠ .defer c) (h:o.wp P a w next Q):o.wpIn (FW r) 0 P a w next Q:=by
 refine ⟨fun _ _=>trivial,?_⟩
 rw [Oper.semAt_eq _ _ _ hd]
 unfold Oper.wp at h
 generalize (execOp a.eval o).run P w=res at h ⊢
 have nodepth:∀ {p:Prop},(FW r).depth.isSome=true->p:=fun h=>by cases h
 cases res with
 | ok x w' =>
  cases x<;>first
   | exact h
   | exact h.elim
   | exact ⟨nodepth,a8l h⟩
   | exact ⟨nodepth,fun c cs _=>let ⟨v,w',r,s⟩:=h c cs; ⟨v,w',r,stepsIn_wide.2 s⟩⟩
 | halt x w'=>cases x<;>first | exact h | exact h.elim
theorem a6C (hR:Rel B w0 F0 S β F a w) {o:Oper} {c:Call} {f:Operand} (ho:o.op = .call c) (hb:c.callee = .value f) {fid:FuncId} {first caps:List AV} (hg:S.get f = .fn (.func fid) first caps) :
  ∃ V:Array Value,execOp a.eval o=callFunc fid V/\V.size=(first++c.args.toList.map S.get++caps).length/\∀ i,i < (first++c.args.toList.map S.get++caps).length->Rep β F w ((first++c.args.toList.map S.get++caps).getD i .any) (V.getD i undef):=by
 have hf:=hR.get f
 rw [hg] at hf
 obtain ⟨vs,us,hv,l1,l2,r1,r2⟩:=hf.fn_inv
 obtain ⟨l3,r3⟩:=w7 hR c.args
 refine ⟨vs++c.args.map a.eval++us,?_,by simp [l1,l2],fun i hi => ?_⟩
 ·simp only [execOp,ho,resolve,hb,hv,Deferred.ofValue]
  rfl
 ·by_cases h1:i < first.length
  ·have e1:(first++c.args.toList.map S.get++caps).getD i .any=first.getD i .any:=by simp [List.getD,List.getElem?_append,h1]
   have e2:(vs++c.args.map a.eval++us).getD i undef=vs.getD i undef:=by
    have:i < vs.size:=by omega
    simp [Array.getD_eq_getD_getElem?,Array.getElem?_append,this]
   rw [e1,e2]; exact r1 i h1
  ·by_cases h2:i < first.length + (c.args.toList.map S.get).length
   ·have e1:(first++c.args.toList.map S.get++caps).getD i .any=(c.args.toList.map S.get).getD (i - first.length) .any:=by
     simp only [List.getD,List.append_assoc]
     rw [List.getElem?_append_right (by omega),List.getElem?_append_left (by omega)]
    have e2:(vs++c.args.map a.eval++us).getD i undef=(c.args.map a.eval).getD (i - first.length) undef:=by
     simp only [Array.getD_eq_getD_getElem?,Array.append_assoc]
     rw [Array.getElem?_append_right (by omega),Array.getElem?_append_left (by rw [<- l1,<- l3]; omega),l1]
    rw [e1,e2]; exact r3 _ (by omega)
   ·have e1:(first++c.args.toList.map S.get++caps).getD i .any=caps.getD (i - first.length - (c.args.toList.map S.get).length) .any:=by
     simp only [List.getD,List.append_assoc]
     rw [List.getElem?_append_right (by omega),List.getElem?_append_right (by omega)]
    have e2:(vs++c.args.map a.eval++us).getD i undef=us.getD (i - first.length - (c.args.toList.map S.get).length) undef:=by
     simp only [Array.getD_eq_getD_getElem?,Array.append_assoc]
     rw [Array.getElem?_append_right (by omega),Array.getElem?_append_right (by rw [<- l1,<- l3]; omega),l1,l3]
    rw [e1,e2]
    exact r2 _ (by simp only [List.length_append] at hi; omega)
theorem T8:∀ {l:List Nat},N1 l=true->l.Nodup
 | [],_ => .nil
 | a :: l,h=>by
  have hm:∀ {m:List Nat},hasN a m=false->a ∉ m:=by
   intro m
   induction m with
   | nil=>intro _; simp
   | cons d m ih =>
    intro h
    simp only [hasN] at h
    cases hb:Nat.beq a d with
    | true=>simp [hb] at h
    | false =>
     simp only [hb] at h
     have:=Nat.ne_of_beq_eq_false hb
     simp [this,ih h]
  simp only [N1] at h
  cases hh:hasN a l with
  | true=>simp [hh] at h
  | false=>simp only [hh] at h; exact List.nodup_cons.2 ⟨hm hh,T8 h⟩
theorem a2v {a:Nat}:∀ {m:List Nat},hasN a m=true↔a ∈ m
 | []=>by simp [hasN]
 | d :: m=>by
  simp only [hasN,List.mem_cons]
  cases hb:Nat.beq a d with
  | true=>have:=Nat.eq_of_beq_eq_true hb; simp [this]
  | false =>
   have:=Nat.ne_of_beq_eq_false hb
   simp [this,a2v (m:=m)]
theorem a2w (hR:Rel B w0 F0 S β F a w) {o:Oper} {c:Call} {f:Operand} (ho:o.op = .call c) (hb:c.callee = .value f) {fid:FuncId} {first caps:List AV} (hg:S.get f = .fn (.func fid) first caps) {ids news:List Nat} (hfree:∀ d ∈ news,β d=none)
  {args':List AV} {ins outs:List Row} {res:AV} (hpw:PW P fid args' ins res outs) (hargs:first++c.args.toList.map S.get++caps=renL ids args') (hins:ids.map S.row=ins.map (l9 ids)) (hwb:wB ids news args' ins outs res=true) {Q:Exit->Act->World->Prop} :
  o.wp P a w (fun a' w'=>∃ β' F',Rel B w0 F0 (S.put o.dst ⟨res.ren (ids++news),(ids++news).zip (outs.map (l9 (ids++news)))⟩) β' F' a' w'/\(∀ j,(j ∉ ids++news∨β j≠none)->β' j=β j)/\∀ k,k < ids.length->β (ids.getD k 0)≠none) Q:=by
 simp only [wB,Bool.and_eq_true] at hwb
 obtain ⟨⟨⟨⟨⟨⟨b1,b2⟩,b3⟩,b4⟩,b5⟩,b6⟩,b7⟩:=hwb
 have b2:=Nat.eq_of_beq_eq_true b2
 have b3:=Nat.eq_of_beq_eq_true b3
 obtain ⟨V,hex,hsz,hrep⟩:=a6C hR ho hb hg
 rw [hargs] at hsz hrep
 rw [f9] at hsz hrep
 let βi:Nat->Option Hd:=fun k=>if k < ids.length then β (ids.getD k 0) else none
 have hβi:∀ k,k < ids.length->βi k=β (ids.getD k 0):=fun k hk=>by simp [βi,hk]
 have hβo:∀ k,ids.length<=k->βi k=none:=fun k hk=>by simp [βi,Nat.not_lt.2 hk]
 have hrow:∀ k,k < ids.length->S.row (ids.getD k 0)=l9 ids (ins.getD k .none):=fun k hk=>by
  have:(ids.map S.row).getD k .none=(ins.map (l9 ids)).getD k .none:=by rw [hins]
  simpa [List.getD,List.getElem?_map,hk,b2 ▸ hk] using this
 have hu:∀ k,k < ids.length->r5 ids.length (ins.getD k .none)=true/\ins.getD k .none ≠ .none:=fun k hk=>by
  have hm:ins.getD k .none ∈ ins:=by simp [List.getD,b2 ▸ hk]
  have:=List.all_eq_true.1 b5 _ hm
  simp only [Bool.and_eq_true] at this
  exact ⟨this.1,fun e=>by rw [e] at this; simp [Row.live] at this⟩
 have hlive:∀ k,k < ids.length->S.row (ids.getD k 0) ≠ .none:=fun k hk e=>by
  rw [hrow k hk,A4] at e; exact (hu k hk).2 e
 have hnone:∀ k,ids.length<=k->ins.getD k .none = .none:=fun k hk=>by simp [List.getD,List.getElem?_eq_none (b2 ▸ hk)]
 have hblk:∀ k b,occ βi k b->k < ids.length/\occ β (ids.getD k 0) b:=fun k b hk=>by
  by_cases hlt:k < ids.length
  ·exact ⟨hlt,by simpa [occ,hβi k hlt] using hk⟩
  ·simp [occ,hβo k (Nat.le_of_not_lt hlt)] at hk
 have hnd:=T8 b1
 have idinj:∀ i j,i < ids.length->j < ids.length->ids.getD i 0=ids.getD j 0->i=j:=fun i j hi hj e=>by
  have e':ids[i]=ids[j]:=by simpa [List.getD,hi,hj] using e
  have hp:=List.pairwise_iff_getElem.1 (List.nodup_append.1 hnd).1
  rcases Nat.lt_trichotomy i j with hlt | rfl | hgt
  ·exact absurd e' (hp i j hi hj hlt)
  ·rfl
  ·exact absurd e'.symm (hp j i hj hi hgt)
 have hown:Owned βi F w ins:={
  rows:=fun k=>by
   by_cases hlt:k < ids.length
   ·have:=hR.rows (ids.getD k 0)
    rw [hrow k hlt] at this
    exact T3 hβi hlt (hu k hlt).1 this
   ·rw [hnone k (Nat.le_of_not_lt hlt)]; trivial
  inj:=fun i j b _ _ hbi hbj=>by
   obtain ⟨l1,k1⟩:=hblk i b hbi
   obtain ⟨l2,k2⟩:=hblk j b hbj
   exact idinj i j l1 l2 (hR.inj _ _ b (hlive i l1) (hlive j l2) k1 k2)
  bF:=fun i b _ hbi=>by
   obtain ⟨l1,k1⟩:=hblk i b hbi
   exact hR.bF _ b (hlive i l1) k1
  bB:=fun i b hbi=>(hR.bB _ b (hblk i b hbi).2).2
  dead:=fun i hi=>by
   by_cases hlt:i < ids.length
   ·exact absurd hi (hu i hlt).2
   ·exact hβo i (Nat.le_of_not_lt hlt) }
 obtain ⟨h1,h2⟩:=hpw F w V βi (fun b hb=>(hR.FB b hb).1) hsz (fun i hi=>(hrep i hi).unren hβi (r7 b4 i) (by rw [o8])) hown
 unfold Oper.wp
 rw [hex,h1]
 refine h2.mono ?_
 rintro e w' ⟨v,β',F',rfl,g1,g2,g3,g4,g5,g6,g7,g8,g9⟩
 obtain ⟨β'',F'',hR3,hout⟩:=hR.calledW (dst:=o.dst) hnd hfree (fun k hk=>⟨hβi k hk,hlive k hk⟩) hβo g1 g2 g3 g4 g5 b6 g6 (fun k=>by
  by_cases hk:k < outs.length
  ·exact List.all_eq_true.1 b7 _ (by simp [List.getD,hk])
  ·simp [List.getD,List.getElem?_eq_none (Nat.le_of_not_lt hk),r5]) b3 g7 g8 g9
 exact ⟨β'',F'',hR3,hout,fun k hk=>by
  obtain ⟨hd,h⟩:=(hR.rows (ids.getD k 0)).some (hlive k hk)
  rw [h]; simp⟩
theorem a5c (hR:Rel B w0 F0 S β F a w) {o:Oper} {c:Call} {f:Operand} (ho:o.op = .call c) (hb:c.callee = .value f) {K:St->Out->Prop} (h:wOp P c f S K) {Q:Exit->Act->World->Prop} :
  o.wp P a w (C4 B w0 F0 o.dst K) Q:=by
 obtain ⟨frz,news,hnews,h⟩:=h
 rw [l5] at h
 obtain ⟨S1,F1,hS1,hR1,hk1⟩:∃ S1 F1,S1=S.frz frz/\Rel B w0 F0 S1 β F1 a w/\∀ d,k8 S d=true->F0.β d=none:=by
  cases frz with
  | nil=>exact ⟨_,F,rfl,hR,hR.topn⟩
  | cons i l =>
   obtain ⟨F',hR'⟩:=hR.freeze (V3 (i :: l))
   exact ⟨_,F',rfl,hR',hR.topn⟩
 rw [<- hS1] at h
 obtain ⟨β2,hfree,_,hR2⟩:=hR1.kills news (fun d hd=>hk1 d (List.all_eq_true.1 hnews d hd))
 generalize S1.kills news=S2 at h hR2
 split at h
 ·rename_i fid first caps hg
  obtain ⟨ids,args',ins,outs,res,⟨hpw,hargs,hins,hwb⟩,hK⟩:=h
  refine Oper.wp_mono ?_ (a2w hR2 ho hb hg hfree hpw hargs hins hwb)
  rintro a' w' ⟨β'',F'',hR3,_⟩
  exact ⟨_,_,hK,β'',F'',hR3⟩
 ·exact h.elim
theorem Yl.snd {o:Oper} {out:Out} {rd:List Nat} (hy:Yl P o S out rd) (hR:Rel B w0 F0 S β F a w) (hfree:K9 P o=true->∀ d,o.dst=some d->β d=none) {Q:Exit->Act->World->Prop} :
  o.wp P a w (fun a' w'=>∃ β' F',(∀ j,o.dst≠some j->β' j=β j)/\Rel B w0 F0 (S.put o.dst out) β' F' a' w') Q:=by
 obtain ⟨v0,hf,hy⟩:=hy
 have h:=hy S (fun _ _=>rfl) (fun _ _=>rfl)
 have hfr:E0 o.op=true->∀ d,o.dst=some d->β d=none:=fun ha=>hfree (by simp [K9,ha])
 have hE:evN P o.dst o.op S.get S.row (fun o' d=>o'=⟨v0,out.rows⟩/\d=rd)->o.wp P a w (fun a' w'=>∃ β' F',(∀ j,o.dst≠some j->β' j=β j)/\Rel B w0 F0 (S.put o.dst out) β' F' a' w') Q:=fun h=>by
  refine Oper.wp_mono ?_ (a9g hR hfr h)
  rintro a' w' ⟨out',rd',⟨rfl,h3⟩,β',F',h4,h5⟩
  exact ⟨β',F',h4,h5.fine hf⟩
 unfold evL at h
 split at h
 ·rcases h with h | h
  ·exact hE h
  ·unfold newW at h
   split at h
   ·rename_i c ho
    split at h
    ·rename_i f hb
     split at h
     ·rename_i fid first caps hg
      obtain ⟨nw,ids,args',ins,outs,res,⟨hpw,hargs,hins,hwb⟩,ho2,_⟩:=h
      have hnews:∀ d ∈ a0w nw (O4 P o) o.dst,o.dst=some d/\O4 P o=true:=fun d hd=>by
       unfold a0w at hd
       split at hd
       ·split at hd
        ·rename_i hal
         split at hd
         ·rename_i d' hd'
          obtain rfl:=List.mem_singleton.1 hd
          exact ⟨hd',hal⟩
         ·cases hd
        ·cases hd
       ·cases hd
      refine Oper.wp_mono ?_ (a2w hR ho hb hg (fun d hd=>hfree (by simp [K9,(hnews d hd).2]) d (hnews d hd).1) hpw hargs hins hwb)
      rintro a' w' ⟨β'',F'',hR3,hout,hlive⟩
      refine ⟨β'',F'',fun j hj=>hout j ?_,?_⟩
      ·by_cases hm:j ∈ ids++a0w nw (O4 P o) o.dst
       ·rcases List.mem_append.1 hm with hm | hm
        ·right
         obtain ⟨k,hk,e⟩:=List.getElem_of_mem hm
         have:=hlive k hk
         simpa [List.getD,hk,e] using this
        ·exact absurd (hnews j hm).1 hj
       ·exact .inl hm
      ·have hR4:Rel B w0 F0 (S.put o.dst ⟨v0,out.rows⟩) β'' F'' a' w':=by
        rw [<- ho2]
        exact hR3
       exact hR4.fine hf
     ·exact h.elim
    ·exact h.elim
   ·exact h.elim
 ·split at h
  ·rename_i hn
   rcases h with h | h
   ·exact hE h
   ·unfold newC at h
    split at h
    ·rename_i c ho
     split at h
     ·rename_i f hb
      split at h
      ·rename_i fid first caps hg
       split at h
       ·rename_i d hd
        obtain ⟨row,⟨hpw,hcl,hrow⟩,ho2,_⟩:=h
        obtain ⟨V,hex,hsz,hrep⟩:=a6C hR ho hb hg
        have hown:Owned (fun _=>none) F w []:={
         rows:=fun k=>by simp [j8]
         inj:=fun i j b hi _ _ _=>absurd rfl hi
         bF:=fun i b hi _=>absurd rfl hi
         bB:=fun i b h=>by simp [occ] at h
         dead:=fun _ _=>rfl }
        obtain ⟨h1,h2⟩:=hpw F w V (fun _=>none) (fun b hb=>(hR.FB b hb).1) hsz (fun i hi => .imm ((hrep i hi).shut (t9 hcl i))) hown
        unfold Oper.wp
        rw [hex,h1]
        refine h2.mono ?_
        rintro e w' ⟨v,β',F',rfl,g1,g2,g3,g4,g5,g6,g7,g8,g9⟩
        have hu:∀ n,r5 n row=true:=fun n=>by cases row<;>first | rfl | (simp [b1p] at hrow)
        have hren:∀ ids,l9 ids row=row:=fun ids=>by cases row<;>first | rfl | (simp [b1p] at hrow)
        obtain ⟨β'',F'',hR3,hout⟩:=hR.calledW (ids:=[]) (news:=[d]) (dst:=o.dst) (by simp) (by intro d' hd'; simp at hd'; subst hd'; exact hfree (by simp [K9,hn]) _ hd) (fun k hk=>absurd hk (Nat.not_lt_zero k)) (fun _ _=>rfl) g1 g2 g3 g4 g5 rfl g6 (fun k=>by
         rcases k with _ | k
         ·exact hu _
         ·rfl) rfl g7 g8 g9
        refine ⟨β'',F'',fun j hj=>hout j (.inl (by simp; rintro rfl; exact hj hd)),?_⟩
        have hR4:Rel B w0 F0 (S.put o.dst ⟨v0,out.rows⟩) β'' F'' (a.put o.dst v) w':=by
         rw [<- ho2]
         simpa [AV.ren,hren] using hR3
        exact hR4.fine hf
       ·exact h.elim
      ·exact h.elim
     ·exact h.elim
    ·exact h.elim
  ·exact hE h
theorem a5d {o:Oper} {K:St->Out->Prop} (h:uOp1 P o S K):∀ c,o.op ≠ .defer c:=by
 intro c e
 unfold uOp1 at h
 rw [e] at h
 exact h
theorem Rel.yielded (hR:Rel B w0 F0 S β F a w) {id l:Nat} {xs:List (List AV)} {k:Nat} (hrow:S.row id = .ctr l xs k false) {O:Nat->Prop} (hOs:∀ b,O b->b < w.heap.size) (hlive:∀ i b,S.row i ≠ .none->occ β i b->O b) (hFO:∀ b,F b->F0.F b∨O b)
  (hm:∀ D,B1 D ∈ a.defers->O D) (huniq:∀ id' l' xs' k' e',S.row id' = .ctr l' xs' k' e'->id'=id) (hl:l=F0.l) (hx:xs=F0.xs) (hB:∀ b,B b) (hr:F0.r=none) {w':World} (hos:w'.os=w.os/\w'.tape=w.tape/\w'.output=w.output) (hsize:w.heap.size<=w'.heap.size)
  (hO:∀ b,O b->w'.heap[b]? = w.heap[b]?) (hk0:n4 F0.F w w') {e:Bool} (hJ:F0.J (k + 1) e O w'):Rel B w0 F0 ⟨S.t,S.h.set id (.ctr l xs (k + 1) e),S.n⟩ β F a w':=by
 have hk:n4 F w w':=fun b o u hb hcell=>by
  rcases hFO b hb with h | h
  ·exact hk0 b o u h hcell
  ·rw [World.cell?_of_block (w:=w) (hO b h)]; exact hcell
 have rowE:∀ j,(St.row ⟨S.t,S.h.set id (.ctr l xs (k + 1) e),S.n⟩ j)=if id=j/\id < S.h.length then .ctr l xs (k + 1) e else S.row j:=fun j=>d6 _ _ _ _
 have lv:∀ j,(St.row ⟨S.t,S.h.set id (.ctr l xs (k + 1) e),S.n⟩ j) ≠ .none->S.row j ≠ .none:=fun j hj=>by
  rw [rowE] at hj
  split at hj
  ·rename_i hc; rw [<- hc.1,hrow]; simp
  ·exact hj
 exact {
  len:=hR.len
  slots:=fun i hi=>(hR.slots i hi).grow (fun _ _=>rfl) (fun _ h=>h) hk
  marks:=by
   obtain ⟨Ds,⟨h1,h0⟩,h2,h3⟩:=hR.marks
   refine ⟨Ds,⟨h1,h0⟩,h2,fun D hD=>⟨?_,(h3 D hD).2⟩⟩
   have hD':B1 D ∈ a.defers:=by rw [h1]; exact List.mem_map_of_mem hD
   rw [hO D (hm D hD')]
   exact (h3 D hD).1
  rows:=fun j=>by
   rw [rowE]
   split
   ·rename_i hc
    have:=hR.rows id
    rw [hrow] at this
    rw [<- hc.1]
    exact this
   ·by_cases hn:S.row j = .none
    ·rw [hn]; trivial
    ·exact (hR.rows j).grow (fun _ _=>rfl) (fun _ h=>h) hk fun b hb=>hO b (hlive j b hn hb)
  inj:=fun i j b hi hj=>hR.inj i j b (lv i hi) (lv j hj)
  bF:=fun i b hi=>hR.bF i b (lv i hi)
  bB:=fun i b h=>⟨hB b,Nat.lt_of_lt_of_le (hR.bB i b h).2 hsize⟩
  FB:=fun b h=>⟨Nat.lt_of_lt_of_le (hR.FB b h).1 hsize,.inr (hB b)⟩
  below:=hR.below.trans ⟨hos.1,hos.2.1,hos.2.2,hsize,fun k hkB=>absurd (hB k) hkB⟩
  BW:=fun b h=>hB b
  top:=hR.top
  topn:=hR.topn
  nn:=hR.nn
  inc:=hR.inc
  keep:=fun b o u hb hcell=>hk b o u (hR.inc b hb) (hR.keep b o u hb hcell)
  sol:=fun hn=>absurd (F0.ni _ _ _ _ hJ) hn
  yl:=fun id' l' xs' k' e' h=>by
   have un:∀ id' l' xs' k' e',(St.row ⟨S.t,S.h.set id (.ctr l xs (k + 1) e),S.n⟩ id') = .ctr l' xs' k' e'->id'=id:=fun id' l' xs' k' e' h=>by
    rw [rowE] at h
    split at h
    ·rename_i hc; exact hc.1.symm
    ·exact huniq _ _ _ _ _ h
   obtain rfl:=un _ _ _ _ _ h
   rw [rowE,if_pos ⟨rfl,P4 (by rw [hrow]; simp)⟩] at h
   cases h
   exact ⟨hl,hx,⟨hB,hr⟩,O,hJ,fun b hb=>Nat.lt_of_lt_of_le (hOs b hb) hsize,fun i b hi hb=>hlive i b (lv i hi) hb,hFO,hm,un⟩ }
theorem a34 (hR:Rel B w0 F0 S β F a w) {o:Oper} {c:Call} {f:Operand} (ho:o.op = .call c) (hb:c.callee = .value f) {l:Nat} (hg:S.get f = .fn (.yield l) [] []) {xs:List (List AV)} {k:Nat} (hrow:S.row S.t.length = .ctr l xs k false)
  (hx:xs[k]? = some (c.args.toList.map S.get)) (hfl:M4 (c.args.toList.map S.get)=true) {K:St->Out->Prop} (h1:K S ⟨.tt,[(S.t.length,.ctr l xs (k + 1) false)]⟩) (h2:K S ⟨.ff,[(S.t.length,.ctr l xs (k + 1) true)]⟩) {Q:Exit->Act->World->Prop} :
  o.wpIn (FW F0.r) 0 P a w (C4 B w0 F0 o.dst K) Q:=by
 obtain ⟨hl,hxs,⟨hB,hr⟩,O,g1,g2,g3,g4,g5,g6⟩:=hR.yl _ _ _ _ _ hrow
 have hf:=hR.get f
 rw [hg] at hf
 obtain ⟨vs,us,hv,l1,l2,_,_⟩:=hf.fn_inv
 obtain rfl:vs=#[]:=Array.eq_empty_of_size_eq_zero l1.symm
 obtain rfl:us=#[]:=Array.eq_empty_of_size_eq_zero l2.symm
 obtain ⟨l3,r3⟩:=w7 hR c.args
 have hex:execOp a.eval o=Instr.yield l (c.args.map a.eval):=by
  simp only [execOp,ho,resolve,hb,hv,Deferred.ofValue]
  simp [invoke]
 have hcl:∀ i,((c.args.toList.map S.get).getD i .any).flat=true:=B0 hfl
 have flatClosed:∀ {x:AV} {v:Value},Rep β F w x v->x.flat=true->RepI (fun _=>False) w x v:=by
  intro x v h
  induction h with
  | imm h=>intro hx; exact h.lift hx
  | ptr=>intro hx; simp [AV.flat] at hx
  | own=>intro hx; simp [AV.flat] at hx
  | mem=>intro hx; simp [AV.flat] at hx
  | mptr=>intro hx; simp [AV.flat] at hx
  | agg hl _ ih=>intro hx; exact .agg hl fun i hi=>ih i hi (B0 (by simpa [AV.flat] using hx) i)
  | tup hl _ ih=>intro hx; exact .tup hl fun i hi=>ih i hi (B0 (by simpa [AV.flat] using hx) i)
  | fn hl _ hm _ ih ik =>
   intro hx
   simp [AV.flat] at hx
   exact .fn hl (fun i hi=>ih i hi (B0 hx.1 i)) hm (fun i hi=>ik i hi (B0 hx.2 i))
 obtain ⟨fn,tmps,assign,body,hy,hround⟩:=F0.rd k O w (c.args.map a.eval) _ g1 (hxs ▸ hx) g2 l3.symm (fun i hi=>flatClosed (r3 i hi) (hcl i))
 rw [<- hl] at hy hround
 refine ⟨fun _ _=>trivial,?_⟩
 rw [Oper.semAt_eq _ _ _ (fun d e=>by rw [ho] at e; cases e),hex,hy]
 refine ⟨fun h=>(by cases h),?_⟩
 rw [hr]
 refine RoundIn.mono hround ?_
 rintro e W' ⟨q1,q2,q3,q4,q5,q6,q7⟩
 have step:∀ (e':Bool) (x:AV) (v:Value),F0.J (k + 1) e' O W'->RepI F W' x v->K S ⟨x,[(S.t.length,.ctr l xs (k + 1) e')]⟩->C4 B w0 F0 o.dst K (a.put o.dst v) W':=fun e' x v hJ hv hK=>by
  have:=hR.yielded hrow g2 g3 g4 g5 g6 hl hxs hB hr ⟨q1,q2,q3⟩ q4 q5 q6 hJ
  exact ⟨S,_,hK,β,F,this.still (dst:=o.dst) (.imm hv)⟩
 rcases q7 with ⟨rfl,hJ⟩ | ⟨rfl,hJ⟩
 ·exact step false .tt _ hJ .tt h1
 ·exact step true .ff _ hJ .ff h2
theorem b1r (hR:Rel B w0 F0 S β F a w) {o:Oper} (hfree:E0 o.op=true->∀ d,o.dst=some d->β d=none) {K:St->Out->Prop} (h:uOp1 P o S K) {Q:Exit->Act->World->Prop} :
  o.wpIn (FW F0.r) 0 P a w (C4 B w0 F0 o.dst K) Q:=by
 have hnd:=a5d h
 unfold uOp1 at h
 split at h
 ·rename_i f xs ys ho
  refine D1 hnd ?_
  split at h
  ·have ho':execOp a.eval o=(do pure (.value (<- Instr.makeFunc f (xs.map a.eval) (ys.map a.eval)))):=by simp [execOp,ho]
   obtain ⟨h1,h2⟩:=w7 hR xs
   obtain ⟨h3,h4⟩:=w7 hR ys
   exact v7 ho' (v := .func f (xs.map a.eval) (ys.map a.eval)) (w':=w) (by simp [Instr.makeFunc]) ⟨S,_,h,β,F,hR.still (.fn h1 h2 h3 h4)⟩
  ·rename_i i l hids
   rw [l5] at h
   obtain ⟨F',hR'⟩:=hR.freeze (V3 (i :: l))
   have ho':execOp a.eval o=(do pure (.value (<- Instr.makeFunc f (xs.map a.eval) (ys.map a.eval)))):=by simp [execOp,ho]
   obtain ⟨h1,h2⟩:=w7 hR' xs
   obtain ⟨h3,h4⟩:=w7 hR' ys
   exact v7 ho' (v := .func f (xs.map a.eval) (ys.map a.eval)) (w':=w) (by simp [Instr.makeFunc]) ⟨_,_,h,β,F',hR'.still (.fn h1 h2 h3 h4)⟩
 ·rename_i op t x y yt ho
  refine D1 hnd ?_
  split at h
  ·rename_i hy
   split at h
   ·rename_i α sz d enc l hx
    split at h
    ·rename_i e hu
     refine T7 hR ho hu hy ?_ h
     have:=hR.get x
     rw [hx] at this
     rcases this.sl_inv with ⟨h1,x0,c0,h2⟩ | ⟨b,ob,cap,g,h1,_⟩
     ·exact ⟨_,_,_,h2,fun _=>h1⟩
     ·exact ⟨_,_,_,h1,fun e=>by cases e⟩
    ·exact h.elim
   ·rename_i id hx
    split at h
    ·rename_i α ty sz d enc l hr
     split at h
     ·rename_i e hu
      refine T7 hR ho hu hy ?_ h
      have:=hR.get x
      rw [hx] at this
      obtain ⟨hd,hβ,hv⟩:=this.own_inv
      obtain ⟨_,q⟩:=G9 hR hr hβ
      refine ⟨_,_,_,hv,fun e => ?_⟩
      rcases q with ⟨q,_⟩ | ⟨b,vs,q,_⟩
      ·exact q
      ·rw [q] at e; cases e
     ·exact h.elim
    ·exact h.elim
   ·rw [<- ho] at h
    exact r8 hR hfree h
  ·rw [<- ho] at h
   exact r8 hR hfree h
 ·rename_i c ho
  split at h
  ·rename_i f hc
   split at h
   ·rename_i fid first caps hg
    refine D1 hnd ?_
    rcases h with h | h
    ·split at h
     ·rw [<- ho] at h
      exact r8 hR hfree h
     ·obtain ⟨frz,h⟩:=h
      split at h
      ·rw [<- ho] at h
       exact r8 hR hfree h
      ·rw [l5,<- ho] at h
       obtain ⟨F',hR'⟩:=hR.freeze (V3 (_:List Nat))
       exact r8 hR' hfree h
    ·exact a5c hR ho hc h
   ·rename_i l hg
    split at h
    ·rename_i l' xs k hrow
     obtain ⟨⟨rfl,hx,hfl⟩,h1,h2⟩:=h
     exact a34 hR ho hc hg hrow hx hfl h1 h2
    ·exact h.elim
   ·exact h.elim
  ·rw [<- ho] at h
   exact D1 hnd (r8 hR hfree h)
 ·exact D1 hnd (r8 hR hfree h)
theorem b0f {x:AV} {v:Value} (h:Rep β F w x v):Rep β F w (b1q x) v:=by
 cases x with
 | nils=>rw [h.nils_inv]; exact .imm .slnil
 | _=>exact h
theorem b0g:b1q .any = .any:=rfl
theorem Rel.unN (hR:Rel B w0 F0 S β F a w) (o:Oper):∃ F',Rel B w0 F0 (unN o S) β F' a w:=by
 unfold Ev.unN
 repeat' split
 all_goals first | exact ⟨F,hR⟩ | exact hR.freeze _ | skip
 rename_i hq _ _
 refine ⟨F,?_⟩
 have hrow:∀ (q:Nat) (r:Row) (j:Nat),(⟨S.t,S.h.set q r,S.n⟩:St).row j=if q=j/\q < S.h.length then r else S.row j:=fun q r j=>by
  show (S.h.set q r).getD j .none=_
  rw [d6]; rfl
 have hlq:=P4 (S:=S) (by rw [hq]; simp)
 refine hR.trade rfl rfl (fun i hi=>hR.slots i hi) (fun j => ?_) (fun i j b hi hj=>hR.inj i j b ?_ ?_) (fun i b hi hb=>⟨i,?_,hb⟩) (fun i b hb=>⟨i,hb⟩) hR.top (fun id l xs k e h => ?_)
 ·rw [hrow]
  split
  ·rename_i e
   have this:=hR.rows j
   rw [<- e.1,hq] at this
   rw [<- e.1]
   obtain ⟨hd,b,vs,e1,em,e2,e3,e4,e5,e6,e7,e8⟩:=this
   refine ⟨hd,b,vs,e1,em,e2,e3,e4,e5,e6,e7,fun i k hi hk => ?_⟩
   have hi0:i=0:=by simpa using hi
   subst hi0
   have:=e8 0 k (by simp) hk
   simp only [List.getD_cons_zero] at this ⊢
   rw [d5 _ b0g]
   exact b0f this
  ·exact hR.rows j
 ·rw [hrow] at hi
  split at hi
  ·rename_i e; rw [<- e.1,hq]; simp
  ·exact hi
 ·rw [hrow] at hj
  split at hj
  ·rename_i e; rw [<- e.1,hq]; simp
  ·exact hj
 ·rw [hrow] at hi
  split at hi
  ·rename_i e; rw [<- e.1,hq]; simp
  ·exact hi
 ·rw [hrow] at h
  split at h
  ·cases h
  ·exact h
theorem a35 (hR:Rel B w0 F0 S β F a w) {o:Oper} (hfree:E0 o.op=true->∀ d,o.dst=some d->β d=none) {K:St->Out->Prop} (h:a6B P o S K) {Q:Exit->Act->World->Prop} :
  o.wpIn (FW F0.r) 0 P a w (C4 B w0 F0 o.dst K) Q :=
 b3g (fun S K=>l5 S K) hR hfree (fun hnd h=>D1 hnd h) (fun h=>b1r hR hfree h) (fun hc S' β' hR' hw=>by
  obtain ⟨c,f,ho,hb⟩:=hc
  unfold wOf at hw
  rw [ho] at hw
  simp only [hb] at hw
  exact D1 (fun c e=>by rw [ho] at e; cases e) (a5c hR' ho hb hw)) h
theorem a2x (hR:Rel B w0 F0 S β F a w) {o:Oper} (hfree:E0 o.op=true->∀ d,o.dst=some d->β d=none) {K:St->Out->Prop} (h:uOpR P o S K) {Q:Exit->Act->World->Prop} :
  o.wpIn (FW F0.r) 0 P a w (C4 B w0 F0 o.dst K) Q:=by
 unfold uOpR at h
 split at h
 ·rw [l5] at h
  obtain ⟨F',hR'⟩:=hR.unN o
  exact a35 hR' hfree h
 ·exact a35 hR hfree h
theorem b3h (hR:Rel B w0 F0 S β F a w) {o:Oper} {K:St->Out->Prop} (h:uOp P o S K) {Q:Exit->Act->World->Prop}:o.wpIn (FW F0.r) 0 P a w (C4 B w0 F0 o.dst K) Q:=by
 unfold uOp at h
 split at h
 ·rename_i ha
  split at h
  ·rename_i d hd
   split at h
   ·rename_i hlt
    rw [l5] at h
    obtain ⟨β',h1,h2,hR'⟩:=hR.kill d (hR.topn d hlt)
    exact a2x hR' (fun _ d' hd'=>by rw [hd] at hd'; cases hd'; exact h1) h
   ·exact h.elim
  ·rename_i hd
   exact a2x hR (fun _ d' hd'=>by rw [hd] at hd'; cases hd') h
 ·rename_i ha
  exact a2x hR (fun ha'=>by rw [ha] at ha'; cases ha') h
theorem Q3 {src:Bool} {out:Out} {K:Out->Prop} (h:J3 src out K):∃ v,Fine out.v v/\K ⟨v,out.rows⟩:=by
 unfold J3 at h
 split at h
 ·split at h
  ·rename_i b hb
   rw [hb]
   cases b
   ·exact ⟨.ff,.ff,h.2 rfl⟩
   ·exact ⟨.tt,.tt,h.1 rfl⟩
  ·exact ⟨_,.same _,h⟩
 ·exact ⟨_,.same _,h⟩
theorem a2y {K:St->Prop} {Q:Exit->Act->World->Prop} (hQ:∀ S β F a w,Rel B w0 F0 S β F a w->K S->Q .normal a w):∀ (l:List Oper) (k:Nat) {S:St} {β:Nat->Option Hd} {F:Nat->Prop} {a:Act} {w:World},(∀ j,l[j]? = ops[k + j]?) ->
  Rel B w0 F0 S β F a w->uRun P ops.toList l k S K->wpOpsIn (FW F0.r) 0 P ops Q (List.range' k l.length) a w
 | [],k,S,β,F,a,w,_,hR,h=>hQ _ _ _ _ _ hR h
 | o :: l,k,S,β,F,a,w,hl,hR,h=>by
  have h0:ops[k]? = some o:=by simpa using (hl 0).symm
  have hl':∀ j,l[j]? = ops[k + 1 + j]? := fun j=>by have:=hl (j + 1); simpa [Nat.add_assoc,Nat.add_comm 1 j] using this
  simp only [List.length_cons,List.range'_succ]
  simp only [wpOpsIn,h0]
  simp only [uRun,Array.toArray_toList] at h
  split at h
  ·rename_i hg
   rw [L7 hR hg]
   simp only [if_true]
   refine Oper.wpIn_mono ?_ (b3h hR h)
   rintro a' w' ⟨S',out,hK,β',F',hR'⟩
   obtain ⟨v,hf,hK⟩:=Q3 hK
   rw [Z1] at hK
   exact a2y hQ l (k + 1) hl' (Rel.fine (x:=out.v) (rows:=out.rows) hR' hf) hK
  ·rename_i hg
   rw [L7 hR hg]
   simp only [Bool.false_eq_true,if_false]
   rw [Z1] at h
   exact ⟨fun _ _=>trivial,a2y hQ l (k + 1) hl' (hR.still (.imm RepI.undef)) h⟩
  ·exact h.elim
theorem T9 {K:St->Prop}:∀ (l:List Oper) (k:Nat) {S:St} {fps:List (List Nat×List Nat)},T5 P ops.toList l k S fps K->∃ fps' Sf,Chain P ops k l S fps' Sf/\a6z ops.toList (fps++fps')=true/\K Sf/\fps'.length=l.length
 | [],k,S,fps,h=>⟨[],S,.nil k S,by simpa using h.1,h.2,rfl⟩
 | o :: l,k,S,fps,h=>by
  simp only [T5,Array.toArray_toList] at h
  split at h
  ·rename_i hg
   obtain ⟨out,rd,hK,hloc⟩:=b0e h
   obtain ⟨v,hf,hK⟩:=Q3 hK
   rw [Z1] at hK
   obtain ⟨fps',Sf,h1,h2,h3,h4⟩:=T9 l (k + 1) hK
   exact ⟨(rd,out.rows.map (·.1)) :: fps',Sf,.run (out:=⟨v,out.rows⟩) hg ⟨out.v,hf,fun S' h1 h2=>hloc S'.get S'.row h1 h2⟩ h1,by simpa using h2,h3,by simp [h4]⟩
  ·rename_i hg
   rw [Z1] at h
   obtain ⟨fps',Sf,h1,h2,h3,h4⟩:=T9 l (k + 1) h
   exact ⟨([],[]) :: fps',Sf,.skip hg h1,by simpa using h2,h3,by simp [h4]⟩
  ·exact h.elim
theorem Rel.otherK (hR:Rel B w0 F0 S β F a w) {w':World} (hos:w'.os=w.os/\w'.tape=w.tape/\w'.output=w.output) (hsize:w.heap.size<=w'.heap.size) {O:Nat->Prop} (hO:∀ b,b < w.heap.size->¬ O b->w'.heap[b]? = w.heap[b]?) (hOB:∀ b,O b->B b) (hO0:∀ b,O b->w0.heap.size<=b)
  (hlive:∀ i b,S.row i ≠ .none->occ β i b->¬ O b) (hk:n4 F w w') (hm:∀ D,B1 D ∈ a.defers->¬ O D) (hc:∀ id l xs k e,S.row id ≠ .ctr l xs k e):Rel B w0 F0 S β F a w':=by
 exact {
  len:=hR.len
  slots:=fun i hi=>(hR.slots i hi).grow (fun _ _=>rfl) (fun _ h=>h) hk
  marks:=by
   obtain ⟨Ds,⟨h1,h0⟩,h2,h3⟩:=hR.marks
   refine ⟨Ds,⟨h1,h0⟩,h2,fun D hD=>⟨?_,(h3 D hD).2⟩⟩
   have hD':B1 D ∈ a.defers:=by rw [h1]; exact List.mem_map_of_mem hD
   rw [hO D (Array.getElem?_eq_some_iff.1 (h3 D hD).1).1 (hm D hD')]
   exact (h3 D hD).1
  rows:=fun i=>by
   by_cases hn:S.row i = .none
   ·rw [hn]; trivial
   ·exact (hR.rows i).grow (fun _ _=>rfl) (fun _ h=>h) hk fun b hb=>hO b (hR.bB i b hb).2 (hlive i b hn hb)
  inj:=hR.inj
  bF:=hR.bF
  bB:=fun i b h=>⟨(hR.bB i b h).1,Nat.lt_of_lt_of_le (hR.bB i b h).2 hsize⟩
  FB:=fun b h=>⟨Nat.lt_of_lt_of_le (hR.FB b h).1 hsize,(hR.FB b h).2⟩
  below:=hR.below.trans ⟨hos.1,hos.2.1,hos.2.2,hsize,fun k hkB=>by
   by_cases hlt:k < w.heap.size
   ·exact hO k hlt fun h=>hkB (hOB k h)
   ·exact absurd (hR.BW k (Nat.le_of_not_lt hlt)) hkB⟩
  BW:=fun b h=>hR.BW b (Nat.le_trans hsize h)
  top:=hR.top
  topn:=hR.topn
  nn:=hR.nn
  inc:=hR.inc
  keep:=fun b o u hb hcell=>hk b o u (hR.inc b hb) (hR.keep b o u hb hcell)
  sol:=fun hn k o ho hnc=>by
   have h1:=hR.sol hn k o ho hnc
   rw [hO k (Array.getElem?_eq_some_iff.1 h1).1 fun h => ?_]
   ·exact h1
   ·have:=hO0 k h; have:=(Array.getElem?_eq_some_iff.1 ho).1; omega
  yl:=fun id l xs k e h=>absurd h (hc id l xs k e) }
theorem Rel.other (hR:Rel B w0 F0 S β F a w) {w':World} (hos:w'.os=w.os/\w'.tape=w.tape/\w'.output=w.output) (hsize:w.heap.size<=w'.heap.size) {O:Nat->Prop} (hO:∀ b,b < w.heap.size->¬ O b->w'.heap[b]? = w.heap[b]?) (hOB:∀ b,O b->B b) (hO0:∀ b,O b->w0.heap.size<=b)
  (hlive:∀ i b,S.row i ≠ .none->occ β i b->¬ O b) (hF:∀ b,F b->¬ O b) (hm:∀ D,B1 D ∈ a.defers->¬ O D) (hc:∀ id l xs k e,S.row id ≠ .ctr l xs k e):Rel B w0 F0 S β F a w' :=
 hR.otherK hos hsize hO hOB hO0 hlive (fun b o u hb hcell=>by rw [World.cell?_of_block (w:=w) (hO b (hR.FB b hb).1 (hF b hb))]; exact hcell) hm hc
theorem Rel.drew (hR:Rel B w0 F0 S β F a w) (n:Nat):Rel B w0 F0 S β F a { w with drawn:=w.drawn + n } where
 len:=hR.len
 slots:=fun i hi=>Rep.grow (β:=β) (β':=β) (F:=F) (F':=F) (w:=w) (w':={ w with drawn:=w.drawn + n }) (fun _ _=>rfl) (fun _ h=>h) (fun _ _ _ _ h=>h) (hR.slots i hi)
 marks:=hR.marks
 rows:=fun i=>j8.grow (β:=β) (β':=β) (F:=F) (F':=F) (w:=w) (w':={ w with drawn:=w.drawn + n }) (fun _ _=>rfl) (fun _ h=>h) (fun _ _ _ _ h=>h) (fun _ _=>rfl) (hR.rows i)
 inj:=hR.inj
 bF:=hR.bF
 bB:=hR.bB
 FB:=hR.FB
 below:=hR.below.trans ⟨rfl,rfl,rfl,Nat.le_refl _,fun _ _=>rfl⟩
 BW:=hR.BW
 top:=hR.top
 topn:=hR.topn
 nn:=hR.nn
 inc:=hR.inc
 keep:=hR.keep
 sol:=hR.sol
 yl:=fun id l xs k e h=>by
  obtain ⟨h1,h2,hz,O,h3,h4,h5,h6,h7,h8⟩:=hR.yl id l xs k e h
  have hsz:({ w with drawn:=w.drawn + n }:World).heap.size=w.heap.size:=rfl
  refine ⟨h1,h2,hz,_,F0.st k e O w { w with drawn:=w.drawn + n } h3 (fun _ _ _=>rfl) rfl rfl rfl (Nat.le_refl _),fun b hb => ?_,fun i b hi hb => .inl (h5 i b hi hb),fun b hb=>(h6 b hb).imp (fun h=>h) .inl,fun D hD => .inl (h7 D hD),h8⟩
  rcases hb with hb | hb
  ·exact h4 b hb
  ·exact hb.2
theorem a8m {fps:List (List Nat×List Nat)} (h:a6z ops.toList fps=true) (i j:Nat) (oj:Oper) (hi:i < ops.size) (hj:ops[j]? = some oj) (hij:i < j) (hno:∀ e ∈ oj.after,Region.binds .any e=true->e.on≠i) (hn2:¬Hop ops oj i) :
  (∀ x ∈ (fps.getD i ([],[])).2,x ∉ (fps.getD j ([],[])).1/\x ∉ (fps.getD j ([],[])).2)/\∀ x ∈ (fps.getD i ([],[])).1,x ∉ (fps.getD j ([],[])).2:=by
 have hj':j < ops.size:=(Array.getElem?_eq_some_iff.1 hj).1
 simp only [a6z,List.all_eq_true,List.mem_range,Array.length_toList] at h
 have h1:=h j hj' i hi
 have hb:Nat.ble j i=false:=by
  cases hc:Nat.ble j i with
  | false=>rfl
  | true=>have:=Nat.le_of_ble_eq_true hc; omega
 rw [hb] at h1
 simp only [Array.getElem?_toList,hj,Bool.or_eq_true,Bool.and_eq_true] at h1
 rcases h1 with h1 | ⟨h1,h2⟩ | h1
 ·obtain ⟨e,he,hbe⟩:=Array.any_eq_true'.1 h1
  simp only [Bool.and_eq_true,beq_iff_eq] at hbe
  exact absurd hbe.2 (hno e he hbe.1)
 rotate_left
 ·obtain ⟨e,he,hbe⟩:=Array.any_eq_true'.1 h1
  simp only [Bool.and_eq_true] at hbe
  obtain ⟨hb,hbe⟩:=hbe
  split at hbe
  ·rename_i om hom
   obtain ⟨e',he',hbe'⟩:=Array.any_eq_true'.1 hbe
   simp only [Bool.and_eq_true,beq_iff_eq] at hbe'
   exact absurd ⟨e,he,hb,om,by simpa using hom,e',he',hbe'.1,hbe'.2⟩ hn2
  ·cases hbe
 ·refine ⟨fun x hx => ?_,fun x hx => ?_⟩
  ·have:=List.all_eq_true.1 h1 x hx
   simp at this
   exact this
  ·have:=List.all_eq_true.1 h2 x hx
   simpa using this
theorem a5e (h:Z2 ops.toList=true) (i:Nat) (o:Oper) (ho:ops[i]? = some o) (c:Call):o.op ≠ .defer c:=by
 intro e
 have:=List.all_eq_true.1 h o (by simpa using Array.mem_of_getElem? ho)
 rw [e] at this
 simp at this
theorem K4 {r:Option Nat} (hnd:∀ (i:Nat) (o:Oper),ops[i]? = some o->∀ c,o.op ≠ .defer c) {fp:Nat->List Nat×List Nat} {Q:St->Prop} {Q':Exit->Act->World->Prop} (hdst:∀ (i j:Nat) (oi oj:Oper) (d:Nat),ops[i]? = some oi->ops[j]? = some oj->i≠j->oi.dst=some d->oj.dst=some d->K9 P oi=true->False)
  (hQ:∀ S β F a w,Rel B w0 F0 S β F a w->Q S->Q' .normal a w):∀ (fuel:Nat) (listed:Array Bool) (S:St) (β:Nat->Option Hd) (F:Nat->Prop) (a:Act) (w:World),Free P ops listed β->Rel B w0 F0 S β F a w ->
   anyA P ops fp Q fuel listed S->wpAnyIn (FW r) 0 P .any ops Q' fuel listed a w
 | 0,_,_,_,_,_,_,_,hR,h=>⟨h.1,hQ _ _ _ _ _ hR h.2⟩
 | fuel + 1,listed,S,β,F,a,w,hfr,hR,h=>by
  refine ⟨fun h0=>hQ _ _ _ _ _ hR (h.1 h0),fun i hi => ?_⟩
  have h2:=h.2 i hi
  obtain ⟨hun,o,ho,_⟩:=mem_ready.1 hi
  have hun':listed.getD i true=false:=hun
  unfold aOp at h2
  unfold wpOpIn
  simp only [ho] at h2 ⊢
  have hfree:K9 P o=true->∀ d,o.dst=some d->β d=none:=fun ha d hd=>hfr i o d ho hun' ha hd
  have keep:∀ β',(∀ j,o.dst≠some j->β' j=β j)->Free P ops (listed.setIfInBounds i true) β':=fun β' hβ' k ok d hk hunk hak hdk=>by
   have hki:k≠i:=fun e=>by
    subst e
    have hlt:k < listed.size:=by
     rcases Nat.lt_or_ge k listed.size with h' | h'
     ·exact h'
     ·simp [Array.getElem?_eq_none h'] at hun'
    simp [hlt] at hunk
   rw [hβ' d fun e=>hdst k i ok o d hk ho hki hdk e hak]
   exact hfr k ok d hk (by rw [getD_set_ne true (Ne.symm hki)] at hunk; exact hunk) hak hdk
  rcases h2 with ⟨h1,out,rd,hy,_,hK⟩ | ⟨h1,hK⟩
  ·rw [L7 hR h1]
   simp only [if_true]
   refine D1 (hnd i o ho) (Oper.wp_mono ?_ (hy.snd hR hfree))
   rintro a' w' ⟨β',F',hβ',hR'⟩
   exact K4 hnd hdst hQ fuel _ _ β' F' a' w' (keep β' hβ') hR' hK
  ·rw [L7 hR h1]
   simp only [Bool.false_eq_true,if_false]
   exact ⟨fun _ _=>trivial,K4 hnd hdst hQ fuel _ _ β F _ w (keep β fun _ _=>rfl) (hR.still (.imm RepI.undef)) hK⟩
theorem Rel.preF (hR:Rel B w0 F0 S β F a w) (P:Program) (ops:List Oper):∃ F',Rel B w0 F0 (preF P S ops) β F' a w:=by
 unfold Ev.preF
 cases preIds P S ops with
 | nil=>exact ⟨F,hR⟩
 | cons i l=>exact hR.freeze _
theorem a2z (hm:P.follows .mixedOrders=true) {id:Nat} {K:St->Prop} {Q:Exit->Act->World->Prop} (hQ:∀ S β F a w,Rel B w0 F0 S β F a w->K S->Q .normal a w) (hR:Rel B w0 F0 S β F a w) (hd:(a33 P ops && (K3 P ops.toList).all (k8 S) && Z2 ops.toList)=true)
  (h:T5 P ops.toList ops.toList 0 (S.kills (K3 P ops.toList)) [] K):(Code.region id ops true).wpIn (FW F0.r) 0 P Q a w:=by
 simp only [a33,Bool.and_eq_true] at hd
 obtain ⟨⟨⟨hlex,hdst⟩,hal0⟩,hnd⟩:=hd
 obtain ⟨fps,Sf,hch,hrows,hK,hlen⟩:=T9 ops.toList 0 h
 simp only [List.nil_append] at hrows
 obtain ⟨β',hfree,_,hR'⟩:=hR.kills (K3 P ops.toList) (fun d hd=>hR.topn d (List.all_eq_true.1 hal0 d hd))
 refine wpIn_region_any hm (K4 (a5e hnd) (fp:=fun i=>fps.getD i ([],[])) (Q:=K) ?_ hQ _ _ _ β' F _ _ ?_ (hR'.drew 1) ?_)
 ·intro i j oi oj d hi hj hij hdi hdj hal
  have hi':=(Array.getElem?_eq_some_iff.1 hi).1
  have hj':=(Array.getElem?_eq_some_iff.1 hj).1
  simp only [List.all_eq_true,List.mem_range] at hdst
  have h1:=hdst i hi'
  simp only [hi,hal,Bool.not_true,Bool.false_or,List.all_eq_true,List.mem_range] at h1
  have h2:=h1 j hj'
  have hne:Nat.beq i j=false:=by
   cases hc:Nat.beq i j with
   | false=>rfl
   | true=>exact absurd (Nat.eq_of_beq_eq_true hc) hij
  simp only [hne,Bool.false_or,hj,hdi,hdj,Nat.beq_refl,Bool.not_true,Bool.false_eq_true] at h2
 ·intro i o d ho _ hal hdd
  refine hfree d ?_
  simp only [K3,List.mem_filterMap]
  exact ⟨o,by simpa using Array.mem_of_getElem? ho,by simp [hal,hdd]⟩
 ·have:=a6A (P:=P) (fp:=fun i=>fps.getD i ([],[])) (Q:=K) (ops:=ops) (fun i j oi oj hi hj hij hno hn2=>a8m hrows i j oj (Array.getElem?_eq_some_iff.1 hi).1 hj hij hno hn2)
   ops.toList 0 (Array.replicate ops.size false) _ fps Sf (fun j=>by simp) (fun j hj=>absurd hj (Nat.not_lt_zero j)) (fun j _=>by simp only [Array.getD_eq_getD_getElem?,Array.getElem?_replicate]; split<;>rfl) (fun m om hm=>absurd hm (Nat.not_lt_zero m)) (fun j hj=>by simp) (by simpa using hlex) hch hK
  simpa using this
end
/- What the law of a range over a function leans on. A helper text: it speaks of no program. -/
section
variable {P:Program} {B:Nat->Prop} {w0:World} {F0:Env P} {S:St} {β:Nat->Option Hd} {F:Nat->Prop} {a:Act} {w:World} {ops:Array Oper}
theorem Rel.noctr (hR:Rel B w0 F0 S β F a w) (h:F0.n = .plain):∀ id l xs k e,S.row id ≠ .ctr l xs k e:=fun id l xs k e hr=>by
 obtain ⟨_,_,_,O,hJ,_⟩:=hR.yl id l xs k e hr
 have:=F0.ni _ _ _ _ hJ
 rw [h] at this; cases this
theorem a1O (d e:Nat) (x:AV):s7 d (s7 e x)=s7 e (s7 d x):=by
 unfold s7
 cases h1:x.names d<;>cases h2:x.names e<;>simp [h1,h2,AV.names]
theorem a1P (d:Nat) (x:AV):s7 d (s7 d x)=s7 d x:=by
 unfold s7
 cases h1:x.names d<;>simp [h1,AV.names]
theorem a5f (d e:Nat) (r:Row):k9 d (k9 e r)=k9 e (k9 d r):=by
 cases r<;>simp [k9,a1O d e]
theorem a5g (d:Nat) (r:Row):k9 d (k9 d r)=k9 d r:=by
 cases r<;>simp [k9,a1P d]
theorem b0h (S:St) (d:Nat):(S.kill d).kill d=S.kill d:=by
 have h1:(s7 d ∘ s7 d)=s7 d:=funext (a1P d)
 have h2:(k9 d ∘ k9 d)=k9 d:=funext (a5g d)
 simp only [St.kill,List.map_map,List.map_set,h1,h2,k9,List.set_set]
theorem b0i (S:St) (d e:Nat):(S.kill e).kill d=(S.kill d).kill e:=by
 have h1:(s7 d ∘ s7 e)=(s7 e ∘ s7 d):=funext (a1O d e)
 have h2:(k9 d ∘ k9 e)=(k9 e ∘ k9 d):=funext (a5f d e)
 simp only [St.kill,List.map_map,List.map_set,h1,h2,k9]
 by_cases h:e=d
 ·subst h; rfl
 ·rw [List.set_comm _ _ h]
theorem a0y (S:St) (d:Nat):∀ l,(S.kill d).kills l=(S.kills l).kill d
 | []=>rfl
 | e :: l=>by
  simp only [St.kills]
  rw [b0i,a0y (S.kill e) d l]
theorem a2A:∀ (l:List Nat) (S:St),(S.kills l).kills l=S.kills l
 | [],_=>rfl
 | d :: l,S=>by
  simp only [St.kills]
  rw [a0y S d l,b0h,a0y,a2A l]
theorem a9n:∀ (l:List Nat) (S:St),(S.kills l).n=S.n
 | [],_=>rfl
 | d :: l,S=>by simp only [St.kills]; rw [a9n l]; rfl
theorem a0o:∀ (l:List Nat) {S T:St},S.t=T.t->(S.kills l).t=(T.kills l).t
 | [],_,_,h=>h
 | d :: l,S,T,h=>by simp only [St.kills]; exact a0o l (by simp [St.kill,h])
theorem U0:∀ (t:List AV) (ps:List Nat) (xs:List AV),(O5 t ps xs).length=t.length
 | t,[],xs=>by simp [O5]
 | t,p :: ps,[]=>by simp [O5]
 | t,p :: ps,x :: xs=>by simp [O5,U0 (t.set p x) ps xs]
theorem a36 {F:Nat->Prop}:∀ (ps:List Nat) (xs:List AV) (vs:List Value) (t:List AV) (tm:Array Value),xs.length=vs.length->(∀ i,i < xs.length->Rep β F w (xs.getD i .any) (vs.getD i undef))->t.length=tm.size ->
  (∀ i,i < t.length->Rep β F w (t.getD i .any) (tm.getD i undef)) ->
  ((ps.zip vs).foldl (fun t (p,v)=>t.setIfInBounds p v) tm).size=tm.size/\∀ i,i < t.length->Rep β F w ((O5 t ps xs).getD i .any) (((ps.zip vs).foldl (fun t (p,v)=>t.setIfInBounds p v) tm).getD i undef)
 | [],xs,vs,t,tm,_,_,_,h=>by
  have e:O5 t [] xs=t:=by simp [O5]
  rw [e]; exact ⟨rfl,h⟩
 | p :: ps,[],[],t,tm,_,_,_,h=>by
  have e:O5 t (p :: ps) []=t:=by simp [O5]
  rw [e]; exact ⟨rfl,h⟩
 | p :: ps,x :: xs,v :: vs,t,tm,hl,hx,ht,h=>by
  simp only [O5,List.zip_cons_cons,List.foldl_cons]
  have h0:=hx 0 (by simp)
  simp only [List.getD_cons_zero] at h0
  have:=a36 ps xs vs (t.set p x) (tm.setIfInBounds p v) (by simpa using hl) (fun i hi=>by have:=hx (i + 1) (by simpa using hi); simpa using this) (by simpa using ht) (fun i hi=>by
   simp only [List.length_set] at hi
   rw [C1]
   simp only [Array.getD_eq_getD_getElem?,Array.getElem?_setIfInBounds]
   by_cases e:p=i
   ·subst e
    simp [hi,ht ▸ hi]; exact h0
   ·have:=h i hi
    simpa [e,Array.getD_eq_getD_getElem?] using this)
  exact ⟨by rw [this.1]; simp,fun i hi=>this.2 i (by simpa using hi)⟩
theorem U1 {F:Nat->Prop} {k:Nat} {o o':Obj} (hk:w.heap[k]? = some o) (hc:o.isCells=false):n4 F w (w.putObj k o'):=fun b ob v _ hcell=>by
 have hne:b≠k:=fun e=>by
  subst e
  cases o<;>simp [World.cell?,hk,Obj.isCells] at hcell hc
 rw [World.cell?_of_block (w:=w) (World.putObj_heap_other hne)]; exact hcell
theorem Rel.back (hR:Rel B w0 F0 S β F a w) (hpl:F0.n = .plain) {w':World} {β':Nat->Option Hd} {F':Nat->Prop} {h':List Row} (hβ:∀ j,β j≠none->β' j=β j) (hF:∀ b,F b->F' b) (hk:n4 F w w')
  (hos:w'.os=w.os/\w'.tape=w.tape/\w'.output=w.output) (hsize:w.heap.size<=w'.heap.size) (hrows:∀ id,j8 β' F' w' id (h'.getD id .none)) (hinj:∀ i j b,h'.getD i .none ≠ .none->h'.getD j .none ≠ .none->occ β' i b->occ β' j b->i=j)
  (hbF:∀ i b,h'.getD i .none ≠ .none->occ β' i b->¬ F' b) (hbB:∀ i b,occ β' i b->B b/\b < w'.heap.size) (hFB:∀ b,F' b->b < w'.heap.size/\(F0.F b∨B b)) (hchg:∀ b,b < w.heap.size->¬ B b->w'.heap[b]? = w.heap[b]?)
  (hns:∀ (k:Nat) (o:Obj),w.heap[k]? = some o->o.isCells=false->(k < w0.heap.size∨B1 k ∈ a.defers)->w'.heap[k]? = some o) (hc:∀ id l xs k e,h'.getD id .none ≠ .ctr l xs k e):Rel B w0 F0 ⟨S.t,h',S.n⟩ β' F' a w' where
 len:=hR.len
 slots:=fun i hi=>(hR.slots i hi).grow hβ hF hk
 marks:=by
  obtain ⟨Ds,⟨h1,h0⟩,h2,h3⟩:=hR.marks
  exact ⟨Ds,⟨h1,h0⟩,h2,fun D hD=>⟨hns D _ (h3 D hD).1 rfl (.inr (by rw [h1]; exact List.mem_map_of_mem hD)),(h3 D hD).2⟩⟩
 rows:=hrows
 inj:=hinj
 bF:=hbF
 bB:=hbB
 FB:=hFB
 below:=hR.below.trans ⟨hos.1,hos.2.1,hos.2.2,hsize,fun k hkB=>by
  by_cases hlt:k < w.heap.size
  ·exact hchg k hlt hkB
  ·exact absurd (hR.BW k (Nat.le_of_not_lt hlt)) hkB⟩
 BW:=fun b h=>hR.BW b (Nat.le_trans hsize h)
 top:=fun j hd h=>(hβ j (by rw [hR.top j hd h]; simp)).trans (hR.top j hd h)
 topn:=hR.topn
 nn:=hR.nn
 inc:=fun b h=>hF b (hR.inc b h)
 keep:=fun b o u hb hcell=>hk b o u (hR.inc b hb) (hR.keep b o u hb hcell)
 sol:=fun hn k o ho hc=>hns k o (hR.sol hn k o ho hc) hc (.inl (Array.getElem?_eq_some_iff.1 ho).1)
 yl:=fun id l xs k e h=>absurd h (hc id l xs k e)
theorem G3 {b:Frame} {k:List Item} {cs:List Frame} {a:Act} {w:World} {c:Code}:step P (lone (b.atR a (.code (.scope c) :: k)) cs w) = .next (lone (b.atR a (.code c :: .inScope c :: k)) cs w) :=
 step_lone_go (by simp [stepG,stepG.exec,Frame.atR])
theorem a3H {b:Frame} {k:List Item} {cs:List Frame} {a:Act} {w:World} {c:Code}:step P (lone (b.atR a (.inScope c :: k)) cs w) = .next (lone (b.atR a k) cs w) :=
 step_lone_go (by simp [stepG,stepG.exec,Frame.atR])
theorem a2B {Fc:Fence} {n:Nat} {Q:Exit->Act->World->Prop} {a:Act} {w:World} {c:Code} (h:c.wpIn Fc n P Q a w) (hg:∀ l a w,¬Q (.goto l) a w):(Code.scope c).wpIn Fc n P Q a w:=by
 intro b k cs hro hb hr
 have h0:(lone (b.atR a (.code (.scope c) :: k)) cs w).fenced P Fc:=fenced_calm hb hr rfl
 obtain ⟨e,a₁,w₁,hq,harr⟩:=h b (.inScope c :: k) cs hro hb hr
 cases e with
 | normal=>exact ⟨.normal,a₁,w₁,hq,.head h0 G3 (StepsIn.trans harr (.one (fenced_calm hb hr rfl) a3H))⟩
 | exit id =>
  have hx:exitTo id (.inScope c :: k)=exitTo id k:=by simp [exitTo]
  exact ⟨.exit id,a₁,w₁,hq,fun k' hk => .head h0 G3 (harr.1 k' (by rw [hx]; exact hk)),
   fun hr' hk=>let ⟨k₁,h1,h2⟩:=harr.2 hr' (by rw [hx]; exact hk); ⟨k₁,h1,.head h0 G3 h2⟩⟩
 | goto l=>exact absurd hq (hg _ _ _)
 | ret=>exact ⟨_,a₁,w₁,hq,.of_steps (.one h0 G3) harr⟩
 | panic ch=>exact ⟨_,a₁,w₁,hq,.of_steps (.one h0 G3) harr⟩
 | outgrown=>exact ⟨_,a₁,w₁,hq,.of_steps (.one h0 G3) harr⟩
theorem E9 {Fc:Fence} {n:Nat} {Q:Exit->Act->World->Prop} {a:Act} {w:World} {c:Code} (I:Nat->Act->World->Prop) (n₀:Nat) (h₀:I n₀ a w)
  (round:∀ m a w,I m a w->c.wpIn Fc n P (Exit.then (fun a' w'=>∃ n',n' < m/\I n' a' w') Q) a w):(Code.loop c).wpIn Fc n P Q a w:=by
 refine wpIn_loop (fun a w=>∃ n,I n a w) (fun a w=>leastOf (fun n=>I n a w)) ⟨n₀,h₀⟩ ?_
 intro a w hI
 refine wpIn_mono (round _ a w (leastOf_spec hI).1) ?_
 intro e a' w' hq
 cases e with
 | normal =>
  obtain ⟨n',hlt,hI'⟩:=hq
  exact show (∃ n,I n a' w')/\leastOf (fun n=>I n a' w') < leastOf (fun n=>I n a w) from ⟨⟨n',hI'⟩,Nat.lt_of_le_of_lt ((leastOf_spec ⟨n',hI'⟩).2 n' hI') hlt⟩
 | exit id=>exact hq
 | goto l=>exact hq
 | ret=>exact hq
 | panic ch=>exact hq
 | outgrown=>exact hq
end
/- Why the executor is right (last part). A helper text: it speaks of no program. -/
section
variable {P:Program} {B:Nat->Prop} {w0:World} {F0:Env P} {S:St} {β:Nat->Option Hd} {F:Nat->Prop} {a:Act} {w:World}
def Aft (B:Nat->Prop) (w0:World) (F0:Env P) (Q:Ex->St->Prop):Exit->Act->World->Prop
 | .normal,a,w=>∃ S,Q .norm S/\∃ β F,Rel B w0 F0 S β F a w
 | .ret,a,w=>∃ S,Q .ret S/\∃ β F,Rel B w0 F0 S β F a w
 | .exit i,a,w=>∃ S,Q (.exit i) S/\∃ β F,Rel B w0 F0 S β F a w
 | _,_,_=>False
theorem Aft.norm {Q:Ex->St->Prop} (hR:Rel B w0 F0 S β F a w) (h:Q .norm S):Aft B w0 F0 Q .normal a w:=⟨S,h,β,F,hR⟩
theorem b1s (ds:List Nat) (S:St) (ws bs:List Nat) (vs:List (Nat×VT)) (vals:List AV) (brows vrows:List Row):(y6 ds S ws bs vs vals brows vrows).n=S.n:=rfl
theorem b1t (t:Nat) (V:VT) (S:St):(canonS t V S).n=S.n:=by
 unfold canonS
 split
 ·split
  ·rfl
  ·split<;>rfl
 ·split<;>rfl
 ·rfl
theorem b1u (t b c:Nat) (V:VT) (S:St):(canonB t b c V S).n=S.n:=by
 unfold canonB
 repeat' split
 all_goals rfl
theorem b1v (t:Nat) (V:VT) (S:St):(canon1 t V S).n=S.n:=by
 unfold canon1
 split
 ·exact b1t t V S
 ·exact b1u _ _ _ V S
theorem a2C:∀ (l:List (Nat×VT)) (S:St),(canonV l S).n=S.n
 | [],_=>rfl
 | (t,V) :: l,S=>by simp only [canonV]; rw [a2C l,b1v]
theorem N2 {ds ws bs:List Nat} {S0:St} {vs:List (Nat×VT)} {K:List AV->List Row->List Row->Prop} (hn:S0.n=F0.n) (hR:Rel B w0 F0 S β F a w) (h:T6 ds S0 ws bs vs S K) :
  ∃ vals brows vrows,K vals brows vrows/\∃ β',Rel B w0 F0 (y6 ds S0 ws bs vs vals brows vrows) β' F a w:=by
 unfold T6 at h
 rw [l5,H8,D3,D3] at h
 obtain ⟨β',hR'⟩:=hR.canonV vs
 exact ⟨_,_,_,h.1,β',hR'.mask (by rw [b1s,hn,hR'.nn]) h.2.1 h.2.2⟩
theorem b3i {c:Code} (ih:∀ {S:St} {β:Nat->Option Hd} {F:Nat->Prop} {a:Act} {w:World} {Q:Ex->St->Prop},ex P c S Q->Rel B w0 F0 S β F a w->c.wpIn (FW F0.r) 0 P (Aft B w0 F0 Q) a w) {Q:Ex->St->Prop} :
  ∀ (n:Nat) {S:St} {β:Nat->Option Hd} {F:Nat->Prop} {a:Act} {w:World},unr (ex P c) n S Q->Rel B w0 F0 S β F a w->(Code.loop c).wpIn (FW F0.r) 0 P (Aft B w0 F0 Q) a w:=by
 intro n S β F a w h hR
 refine E9 (fun n a w=>∃ S,unr (ex P c) n S Q/\∃ β F,Rel B w0 F0 S β F a w) n ⟨S,h,β,F,hR⟩ ?_
 rintro n a w ⟨S,h,β,F,hR⟩
 cases n with
 | zero=>exact h.elim
 | succ n =>
  refine wpIn_mono (ih h hR) ?_
  rintro e a' w' hq
  cases e with
  | normal =>
   obtain ⟨S',h1,β',F',h2⟩:=hq
   exact ⟨n,Nat.lt_succ_self n,S',h1,β',F',h2⟩
  | ret=>exact hq
  | exit i=>exact hq
  | goto l=>exact hq
  | panic ch=>exact hq
  | outgrown=>exact hq
theorem Rel.kills':∀ (l:List Nat) {S:St} {β:Nat->Option Hd},(∀ d ∈ l,F0.β d=none)->Rel B w0 F0 S β F a w->∃ β',(∀ d ∈ l,β' d=none)/\(∀ j,β' j=β j∨β' j=none)/\Rel B w0 F0 (S.kills l) β' F a w
 | [],_,β,_,hR=>⟨β,by simp,fun _ => .inl rfl,hR⟩
 | d :: l,S,β,hd0,hR=>by
  obtain ⟨β1,h1,h2,hR1⟩:=hR.kill d (hd0 d (by simp))
  obtain ⟨β2,h3,h4,hR2⟩:=Rel.kills' l (fun x hx=>hd0 x (by simp [hx])) hR1
  refine ⟨β2,fun x hx => ?_,fun j => ?_,hR2⟩
  ·rcases List.mem_cons.1 hx with rfl | hx
   ·rcases h4 x with h | h
    ·rw [h]; exact h1
    ·exact h
   ·exact h3 x hx
  ·rcases h4 j with h | h
   ·by_cases e:j=d
    ·subst e; exact .inr (h.trans h1)
    ·exact .inl (h.trans (h2 j e))
   ·exact .inr h
theorem Rel.marked (hR:Rel B w0 F0 S β F a w) (hpl:F0.n = .plain) {D:Nat} (hD:w.heap[D]? = some (.deferred (some []))) (hB:B D) (hge:w0.heap.size<=D) (hfresh:B1 D ∉ a.defers):Rel B w0 F0 S β F { a with defers:=B1 D :: a.defers } w :=
 { hR with
  len:=hR.len
  slots:=hR.slots
  marks:=by
   obtain ⟨Ds,⟨h1,h0⟩,h2,h3⟩:=hR.marks
   refine ⟨D :: Ds,⟨by simp [h1],fun h=>absurd hpl h⟩,List.nodup_cons.2 ⟨fun h=>hfresh (by rw [h1]; exact List.mem_map_of_mem h),h2⟩,fun D' hD' => ?_⟩
   rcases List.mem_cons.1 hD' with rfl | h
   ·exact ⟨hD,hB,hge⟩
   ·exact h3 D' h
  yl:=fun id l xs k e h=>absurd h (hR.noctr hpl id l xs k e) }
theorem a3I {g:Operand} {ps:Array Tmp} {assign bodyC:Code}
    (ihA:∀ {B:Nat->Prop} {w0:World} {F0:Env P} {S:St} {β:Nat->Option Hd} {F:Nat->Prop} {a:Act} {w:World} {Q:Ex->St->Prop},ex P assign S Q->Rel B w0 F0 S β F a w->assign.wpIn (FW F0.r) 0 P (Aft B w0 F0 Q) a w)
    (ihB:∀ {B:Nat->Prop} {w0:World} {F0:Env P} {S:St} {β:Nat->Option Hd} {F:Nat->Prop} {a:Act} {w:World} {Q:Ex->St->Prop},ex P bodyC S Q->Rel B w0 F0 S β F a w->bodyC.wpIn (FW F0.r) 0 P (Aft B w0 F0 Q) a w)
    {Q:Ex->St->Prop} (h:ex P (.rangeFunc g ps assign bodyC) S Q) (hR:Rel B w0 F0 S β F a w):(Code.rangeFunc g ps assign bodyC).wpIn (FW F0.r) 0 P (Aft B w0 F0 Q) a w:=by
  simp only [ex] at h
  split at h
  · exact h.elim
  · exact h.elim
  rename_i hn
  split at h
  case h_2=>exact h.elim
  rename_i gf caps hg
  obtain ⟨hcl,xs,bs,BR,I,⟨hsq,hfl⟩,h⟩:=h
  rw [a0x] at h
  generalize ps.toList++(G2 assign++G2 bodyC)=ds at h
  obtain ⟨hkill,hentry,hround,hdone⟩:=h
  have hpl:F0.n = .plain:=hR.nn ▸ hn
  have hr:F0.r=none:=F0.nr (by intro ks e; rw [hpl] at e; cases e)
  have hkill':∀ d ∈ ds,F0.β d=none:=fun d hd=>hR.topn d (List.all_eq_true.1 hkill d hd)
  obtain ⟨vals,brows,vrows,⟨hI0,rfl,rfl,rfl⟩,β0,hRA0⟩:=N2 hR.nn hR hentry
  obtain ⟨β1,_,_,hRA⟩:=hRA0.kills ds hkill'
  let A:Nat->St:=fun k=>(y6 ds S [] bs [] [] (BR k) []).kills ds
  have hAn:∀ k,(A k).n = .plain:=fun k=>(a9n ds _).trans hn
  have hAt:∀ k,(A k).t=(A 0).t:=fun k=>a0o ds rfl
  have hAid:∀ k,(A k).kills ds=A k:=fun k=>a2A ds _
  replace hRA:Rel B w0 F0 (A 0) β1 F a w:=hRA
  -- the iterator's value
  have hf:=hR.get g
  rw [hg] at hf
  obtain ⟨vs0,us,hv,l1,l2,_,r2⟩:=hf.fn_inv
  obtain rfl:vs0=#[]:=Array.eq_empty_of_size_eq_zero l1.symm
  rw [hr]
  refine wpIn_rangeFunc ?_
  intro fn hfn
  obtain ⟨rc,hrc⟩:∃ rc:LoopState->Option Code->Loop,rc=fun st pe=>{ state:=st,pending:=pe,fn,tmps:=a.tmps,params:=ps,assign,body:=bodyC,defers:=w.heap.size }:=⟨_,rfl⟩
  obtain ⟨W1,hW1⟩:∃ W1,(w.alloc (.deferred (some []))).alloc (.loop (rc .ready none))=W1:=⟨_,rfl⟩
  have hL1:W1.heap[w.heap.size + 1]? = some (.loop (rc .ready none)):=by
    rw [<- hW1]; have:=World.alloc_heap_new (w.alloc (.deferred (some []))) (.loop (rc .ready none)); rwa [World.size_alloc] at this
  have hD1:W1.heap[w.heap.size]? = some (.deferred (some [])):=by
    rw [<- hW1]; exact (RowKit.Below.heap_alloc _ _ _ (by simp)).trans (World.alloc_heap_new w _)
  have hold1:∀ b,b < w.heap.size->W1.heap[b]? = w.heap[b]? := fun b hb=>by
    rw [<- hW1]; exact (RowKit.Below.heap_alloc _ _ _ (by simp; omega)).trans (RowKit.Below.heap_alloc _ _ _ hb)
  have hos1:W1.os=w.os/\W1.tape=w.tape/\W1.output=w.output:=by rw [<- hW1]; exact ⟨rfl,rfl,rfl⟩
  have hsz1:W1.heap.size=w.heap.size + 2:=by rw [<- hW1]; simp
  have hw0:w0.heap.size<=w.heap.size:=hR.below.size
  have hcells:∀ {k:Nat} {o:Obj},w.heap[k]? = some o->k < w.heap.size:=fun h=>(Array.getElem?_eq_some_iff.1 h).1
  have hmk:∀ D,B1 D ∈ a.defers->D < w.heap.size:=fun D hD=>by
    obtain ⟨Ds,⟨h1,h0⟩,h2,h3⟩:=hR.marks
    rw [h1] at hD
    obtain ⟨D',hD',e⟩:=List.mem_map.1 hD
    have:D'=D:=by simpa [B1] using e
    subst this
    exact hcells (h3 D' hD').1
  -- the invariant
  let J:Nat->Bool->(Nat->Prop)->World->Prop:=fun k e O W=>∃ S' β' F',Rel B w0 F0 S' β' F' a W/\(∀ b,F b->F' b)/\(∀ b,O b->w.heap.size + 2<=b)/\(∀ i b,occ β' i b->¬ O b/\b≠w.heap.size + 1/\b≠w.heap.size) /\
    (∀ b,F' b->¬ O b/\b≠w.heap.size + 1/\b≠w.heap.size)/\W.heap[w.heap.size]? = some (.deferred (some []))/\w.heap.size + 2<=W.heap.size /\
    ((e=false/\S'=A k/\I k/\W.heap[w.heap.size + 1]? = some (.loop (rc .ready none))) ∨
     (e=true/\∃ c,W.heap[w.heap.size + 1]? = some (.loop (rc .done (some c)))/\((c = .ret/\Q .ret S')∨∃ i,c = .exit i/\Q (.exit i) S')))
  have hJ0:J 0 false (fun _=>False) W1:=by
    refine ⟨A 0,β1,F,hRA.other hos1 (by omega) (O:=fun _=>False) (fun b hb _=>hold1 b hb) (fun _ h=>h.elim) (fun _ h=>h.elim) (fun _ _ _ _ h=>h) (fun _ _ h=>h) (fun _ _ h=>h) (hRA.noctr hpl),fun _ h=>h,fun _ h=>h.elim,fun i b hb => ?_,fun b hb => ?_,hD1,by omega,.inl ⟨rfl,rfl,hI0,hL1⟩⟩
    · have:=(hRA.bB i b hb).2; exact ⟨fun h=>h,by omega,by omega⟩
    · have:=(hRA.FB b hb).1; exact ⟨fun h=>h,by omega,by omega⟩
  have hst:∀ k e O W W',J k e O W->(∀ b,b < W.heap.size->¬ O b->W'.heap[b]? = W.heap[b]?)->W'.os=W.os->W'.tape=W.tape->W'.output=W.output->W.heap.size<=W'.heap.size->J k e (fun b=>O b∨(W.heap.size<=b/\b < W'.heap.size)) W':=by
    rintro k e O W W' ⟨S',β',F',hR',j1,j2,j3,j4,j5,j6,j7⟩ h1 h2 h3 h4 h5
    have o1:¬ O (w.heap.size + 1):=fun h=>by have:=j2 _ h; omega
    have o2:¬ O w.heap.size:=fun h=>by have:=j2 _ h; omega
    refine ⟨S',β',F',hR'.other ⟨h2,h3,h4⟩ h5 h1 (fun b hb=>hR.BW b (by have:=j2 b hb; omega)) (fun b hb=>by have:=j2 b hb; omega) (fun i b _ hb=>(j3 i b hb).1) (fun b hb=>(j4 b hb).1) (fun D hD h=>by have:=j2 D h; have:=hmk D hD; omega) (hR'.noctr hpl),j1,?_,?_,?_,?_,by omega,?_⟩
    · rintro b (h | h)
      · exact j2 b h
      · omega
    · intro i b hb
      have:=(hR'.bB i b hb).2
      exact ⟨fun h=>h.elim (j3 i b hb).1 fun h=>by omega,(j3 i b hb).2⟩
    · intro b hb
      have:=(hR'.FB b hb).1
      exact ⟨fun h=>h.elim (j4 b hb).1 fun h=>by omega,(j4 b hb).2⟩
    · rw [h1 _ (by omega) o2]; exact j5
    · rcases j7 with ⟨e1,e2,e3,e4⟩ | ⟨e1,c,e2,e3⟩
      · exact .inl ⟨e1,e2,e3,by rw [h1 _ (by omega) o1]; exact e4⟩
      · exact .inr ⟨e1,c,by rw [h1 _ (by omega) o1]; exact e2,e3⟩
  -- one round
  have hrd:∀ k O W vs x,J k false O W->xs[k]? = some x->(∀ b,O b->b < W.heap.size)->vs.size=x.length->(∀ i,i < x.length->RepI (fun _=>False) W (x.getD i .any) (vs.getD i undef)) ->
      YieldAt Fence.wide 0 P (w.heap.size + 1) vs W fun e W'=>W'.os=W.os/\W'.tape=W.tape/\W'.output=W.output/\W.heap.size<=W'.heap.size/\(∀ b,O b->W'.heap[b]? = W.heap[b]?)/\n4 F W W' /\
        ((e = .returned (.bool true)/\J (k + 1) false O W')∨(e = .returned (.bool false)/\J (k + 1) true O W')):=by
    rintro k O W vs x ⟨S',β',F1,hR1,j1,j2,j3,j4,j5,j6,j7⟩ hx hOs hvs hrep
    rcases j7 with ⟨_,rfl,hIk,hl⟩ | ⟨e1,_⟩
    case inr=>cases e1
    have hxm:x ∈ xs:=List.mem_of_getElem? hx
    obtain ⟨hxf,hxl⟩:=hfl x hxm
    have hy:=run_yield (P:=P) (args:=vs) hl (by rw [hrc,hvs]; exact hxl)
    rw [hrc] at hy
    refine ⟨fn,_,assign,bodyC,hy,roundIn_of_wpIn hfn ?_⟩
    clear hy
    obtain ⟨β2,k1,k2,hR2⟩:=Rel.kills' ds hkill' hR1
    rw [hAid] at hR2
    have b2:∀ i b,occ β2 i b->occ β' i b:=fun i b hb=>by
      rcases k2 i with h | h
      · simpa [occ,h] using hb
      · simp [occ,h] at hb
    have hlrW:w.heap.size + 1 < W.heap.size:=by omega
    let Br:Nat->Prop:=fun b=>W.heap.size<=b∨∃ i,occ β2 i b
    let E:Env P:=Env.plain P F1 β2 (some (w.heap.size + 1)) (.round ds) (fun h=>absurd rfl (h ds))
    have hBrO:∀ b,Br b->¬ O b/\b≠w.heap.size + 1/\b≠w.heap.size:=fun b hb=>by
      rcases hb with h | ⟨i,h⟩
      · exact ⟨fun ho=>by have:=hOs b ho; omega,by omega,by omega⟩
      · exact j3 i b (b2 i b h)
    have hBrB:∀ b,Br b->B b:=fun b hb=>by
      rcases hb with h | ⟨i,h⟩
      · exact hR2.BW b h
      · exact (hR2.bB i b h).1
    have hset:=a36 (β:=β2) (w:=W) (F:=F1) ps.toList x vs.toList (A k).t a.tmps (by simp [hvs]) (fun i hi => .imm (by
      have:=(hrep i hi).mono (F':=F1) (w':=W) (fun _ h=>h.elim) (fun _ _ _ h _=>h.elim)
      simpa [Array.getD_eq_getD_getElem?,List.getD_eq_getElem?_getD] using this)) hR2.len hR2.slots
    have hfold:(ps.zip vs).foldl (fun tmps (t,a)=>tmps.setIfInBounds t a) a.tmps=(ps.toList.zip vs.toList).foldl (fun t (p,v)=>t.setIfInBounds p v) a.tmps:=by
      rw [<- Array.foldl_toList,Array.toList_zip]
    rw [<- hfold] at hset
    have hRr:Rel Br W E ⟨O5 (A k).t ps.toList x,(A k).h,.round ds⟩ β2 F1 { tmps:=(ps.zip vs).foldl (fun tmps (t,a)=>tmps.setIfInBounds t a) a.tmps,defers:=[] } W:={
      len:=by rw [U0,hset.1]; exact hR2.len
      slots:=fun i hi=>hset.2 i (by simpa [U0] using hi)
      marks:=⟨[],⟨rfl,fun _=>rfl⟩,.nil,by simp⟩
      rows:=hR2.rows
      inj:=hR2.inj
      bF:=hR2.bF
      bB:=fun i b h=>⟨.inr ⟨i,h⟩,(hR2.bB i b h).2⟩
      FB:=fun b h=>⟨(hR2.FB b h).1,.inl h⟩
      below := .refl _ _
      BW:=fun b h => .inl h
      top:=fun _ _ h=>h
      topn:=fun j hj=>by
        simp only [k8] at hj
        split at hj
        · exact k1 j (a2v.1 hj)
        · cases hj
      nn:=rfl
      inc:=fun _ h=>h
      keep:=n4.refl _ _
      sol:=fun _ _ _ h _=>h
      yl:=fun id l xs k' e h=>absurd h (hR2.noctr hpl id l xs k' e) }
    have hex:=hround k x hIk hx
    rw [l5,l5] at hex
    refine wpIn_mono (ihA hex hRr) ?_
    rintro e a1 Wa hq
    cases e with
    | ret=>obtain ⟨S3,hb,_⟩:=hq; exact hb.elim
    | exit i=>obtain ⟨S3,hb,_⟩:=hq; exact hb.elim
    | goto l=>exact hq.elim
    | panic ch=>exact hq.elim
    | outgrown=>exact hq.elim
    | normal =>
    obtain ⟨S3,hb,β3,F3,hR3⟩:=hq
    simp only [] at hb
    have hla:Wa.heap[w.heap.size + 1]? = some (.loop (rc .ready none)):=by rw [hR3.below.block _ fun h=>(hBrO _ h).2.1 rfl]; exact hl
    refine ⟨_,run_beginRound hla (by rw [hrc]),?_⟩
    obtain ⟨W2,hW2⟩:∃ W2,Wa.putObj (w.heap.size + 1) (.loop { rc .ready none with state := .busy })=W2:=⟨_,rfl⟩
    rw [hW2]
    have hl2:W2.heap[w.heap.size + 1]? = some (.loop { rc .ready none with state := .busy }):=by rw [<- hW2]; exact World.putObj_heap_same (Array.getElem?_eq_some_iff.1 hla).1
    have hoth2:∀ b,b≠w.heap.size + 1->W2.heap[b]? = Wa.heap[b]? := fun b hb=>by rw [<- hW2]; exact World.putObj_heap_other hb
    have hsz2:W2.heap.size=Wa.heap.size:=by rw [<- hW2]; simp
    have hos2:W2.os=Wa.os/\W2.tape=Wa.tape/\W2.output=Wa.output:=by rw [<- hW2]; exact ⟨rfl,rfl,rfl⟩
    have hk2:∀ {G:Nat->Prop},n4 G Wa W2:=fun {G}=>by rw [<- hW2]; exact U1 hla rfl
    have hsz3:=hR3.below.size
    let Br2:Nat->Prop:=fun b=>W2.heap.size<=b∨(∃ i,occ β3 i b)∨B1 b ∈ a1.defers
    have hmk3:∀ D,B1 D ∈ a1.defers->Br D/\Wa.heap[D]? = some (.deferred (some [])):=fun D hD=>by
      obtain ⟨Ds,⟨h1,h0⟩,h2,h3⟩:=hR3.marks
      rw [h1] at hD
      obtain ⟨D',hD',e⟩:=List.mem_map.1 hD
      have:D'=D:=by simpa [B1] using e
      subst this
      exact ⟨(h3 D' hD').2.1,(h3 D' hD').1⟩
    have hBr2:∀ b,Br2 b->Br b:=fun b hb=>by
      rcases hb with h | ⟨i,h⟩ | h
      · exact .inl (by omega)
      · exact (hR3.bB i b h).1
      · exact (hmk3 b h).1
    let E2:Env P:=Env.plain P F3 (fun j=>if hasN j ds=true then none else β3 j) (some (w.heap.size + 1)) (.round ds) (fun h=>absurd rfl (h ds))
    have hRr2:Rel Br2 W2 E2 S3 β3 F3 a1 W2:={
      len:=hR3.len
      slots:=fun i hi=>(hR3.slots i hi).grow (fun _ _=>rfl) (fun _ h=>h) hk2
      marks:=by
        obtain ⟨Ds,⟨h1,h0⟩,h2,h3⟩:=hR3.marks
        obtain rfl:=h0 (by intro h; cases h)
        exact ⟨[],⟨h1,fun _=>rfl⟩,.nil,by simp⟩
      rows:=fun j=>(hR3.rows j).grow (fun _ _=>rfl) (fun _ h=>h) hk2 fun b hb=>hoth2 b (hBrO b (hR3.bB j b hb).1).2.1
      inj:=hR3.inj
      bF:=hR3.bF
      bB:=fun i b h=>⟨.inr (.inl ⟨i,h⟩),by rw [hsz2]; exact (hR3.bB i b h).2⟩
      FB:=fun b h=>⟨by rw [hsz2]; exact (hR3.FB b h).1,.inl h⟩
      below := .refl _ _
      BW:=fun b h => .inl h
      top:=fun j hd h=>by
        have h:(if hasN j ds=true then none else β3 j)=some hd:=h
        split at h
        · cases h
        · exact h
      topn:=fun j hj=>by
        have hn3:S3.n = .round ds:=hR3.nn
        simp only [k8,hn3] at hj
        split at hj
        · show (if hasN j ds=true then none else β3 j)=none
          rw [if_pos hj]
        · cases hj
      nn:=hR3.nn
      inc:=fun _ h=>h
      keep:=n4.refl _ _
      sol:=fun _ _ _ h _=>h
      yl:=fun id l xs k' e h=>by obtain ⟨_,_,_,O',hJ',_⟩:=hR3.yl id l xs k' e h; exact hJ'.elim }
    refine wpIn_mono (ihB hb hRr2) ?_
    -- the round's end
    have fin:∀ (S4:St) (β4:Nat->Option Hd) (F4:Nat->Prop) (a2:Act) (W3:World) (jump:Option Code),Rel Br2 W2 E2 S4 β4 F4 a2 W3 ->
        ∃ W4,(Instr.endRound (w.heap.size + 1) jump).run P W3 = .ok (.bool jump.isNone) W4/\(W4.os=W.os/\W4.tape=W.tape/\W4.output=W.output)/\W.heap.size<=W4.heap.size/\(∀ b,O b->W4.heap[b]? = W.heap[b]?)/\n4 F W W4 /\
          Rel B w0 F0 ⟨(A k).t,S4.h,.plain⟩ β4 F4 a W4/\(∀ b,F b->F4 b)/\(∀ i b,occ β4 i b->¬ O b/\b≠w.heap.size + 1/\b≠w.heap.size)/\(∀ b,F4 b->¬ O b/\b≠w.heap.size + 1/\b≠w.heap.size) /\
          W4.heap[w.heap.size]? = some (.deferred (some []))/\W4.heap[w.heap.size + 1]? = some (.loop (rc (if jump.isNone then .ready else .done) jump)):=by
      intro S4 β4 F4 a2 W3 jump hR4
      have nlr:¬ Br2 (w.heap.size + 1):=fun h=>(hBrO _ (hBr2 _ h)).2.1 rfl
      have hl3:W3.heap[w.heap.size + 1]? = some (.loop { rc .ready none with state := .busy }):=by rw [hR4.below.block _ nlr]; exact hl2
      have hend:=run_endRound (P:=P) jump hl3
      rw [hrc] at hend
      obtain ⟨W4,hW4⟩:∃ W4,W3.putObj (w.heap.size + 1) (.loop (rc (if jump.isNone then .ready else .done) jump))=W4:=⟨_,rfl⟩
      have hoth4:∀ b,b≠w.heap.size + 1->W4.heap[b]? = W3.heap[b]? := fun b hb=>by rw [<- hW4]; exact World.putObj_heap_other hb
      have hl4:W4.heap[w.heap.size + 1]? = some (.loop (rc (if jump.isNone then .ready else .done) jump)):=by rw [<- hW4]; exact World.putObj_heap_same (Array.getElem?_eq_some_iff.1 hl3).1
      have hk4:∀ {G:Nat->Prop},n4 G W3 W4:=fun {G}=>by rw [<- hW4]; exact U1 hl3 rfl
      have hsz4:W4.heap.size=W3.heap.size:=by rw [<- hW4]; simp
      have hos4:W4.os=W3.os/\W4.tape=W3.tape/\W4.output=W3.output:=by rw [<- hW4]; exact ⟨rfl,rfl,rfl⟩
      have hszR:=hR4.below.size
      have same:∀ b,¬ Br b->b≠w.heap.size + 1->W4.heap[b]? = W.heap[b]? := fun b hb hne=>by
        rw [hoth4 b hne,hR4.below.block b fun h=>hb (hBr2 b h),hoth2 b hne,hR3.below.block b hb]
      have hinc:∀ b,F1 b->F4 b:=fun b h=>hR4.inc b (hR3.inc b h)
      have hkeep:n4 F1 W W4:=fun b o u hb hc=>hk4 (G:=fun _=>True) b o u trivial (hR4.keep b o u (hR3.inc b hb) (hk2 (G:=fun _=>True) b o u trivial (hR3.keep b o u hb hc)))
      have hbB:∀ i b,occ β4 i b->Br b/\b < W3.heap.size:=fun i b h=>⟨hBr2 b (hR4.bB i b h).1,(hR4.bB i b h).2⟩
      have hFB:∀ b,F4 b->b < W3.heap.size/\(F1 b∨Br b):=fun b h=>by
        obtain ⟨h1,h2⟩:=hR4.FB b h
        refine ⟨h1,?_⟩
        rcases h2 with h2 | h2
        · exact (hR3.FB b h2).2
        · exact .inr (hBr2 b h2)
      refine ⟨W4,by rw [<- hW4,hrc]; exact hend,?_,by omega,fun b hb=>same b (fun h=>(hBrO b h).1 hb) (by have:=j2 b hb; omega),fun b o u hb hc=>hkeep b o u (j1 b hb) hc,?_,fun b hb=>hinc b (j1 b hb),fun i b h=>hBrO b (hbB i b h).1,fun b h=>(hFB b h).2.elim (j4 b) (hBrO b),?_,hl4⟩
      · have e1:=hR4.below
        have e2:=hR3.below
        exact ⟨hos4.1.trans (e1.os.trans (hos2.1.trans e2.os)),hos4.2.1.trans (e1.tape.trans (hos2.2.1.trans e2.tape)),hos4.2.2.trans (e1.output.trans (hos2.2.2.trans e2.output))⟩
      · have key:=hR2.back hpl (w':=W4) (β':=β4) (F':=F4) (h':=S4.h) (fun j hj => ?_) hinc hkeep ?_ (by omega) (fun id => ?_) hR4.inj hR4.bF (fun i b h=>⟨hBrB b (hbB i b h).1,by rw [hsz4]; exact (hbB i b h).2⟩) (fun b h => ?_) (fun b hb hnB => ?_) (fun q o ho hc hq => ?_) (fun id l xs' k' e h => ?_)
        · rw [hAn] at key; exact key
        · have hnd:hasN j ds=false:=by
            cases hh:hasN j ds with
            | false=>rfl
            | true=>exact absurd (k1 j (a2v.1 hh)) hj
          cases hb2:β2 j with
          | none=>exact absurd hb2 hj
          | some hd =>
            have h3:=hR3.top j hd hb2
            refine hR4.top j hd ?_
            show (if hasN j ds=true then none else β3 j)=some hd
            rw [hnd]; simpa using h3
        · have e1:=hR4.below
          have e2:=hR3.below
          exact ⟨hos4.1.trans (e1.os.trans (hos2.1.trans e2.os)),hos4.2.1.trans (e1.tape.trans (hos2.2.1.trans e2.tape)),hos4.2.2.trans (e1.output.trans (hos2.2.2.trans e2.output))⟩
        · exact (hR4.rows id).grow (fun _ _=>rfl) (fun _ h=>h) hk4 fun b hb=>hoth4 b (hBrO b (hbB id b hb).1).2.1
        · obtain ⟨h1,h2⟩:=hFB b h
          refine ⟨by omega,?_⟩
          rcases h2 with h2 | h2
          · exact (hR2.FB b h2).2
          · exact .inr (hBrB b h2)
        · refine same b (fun h=>hnB (hBrB b h)) fun e=>hnB ?_
          rw [e]; exact hR.BW _ (by omega)
        · have hlt:q < w.heap.size:=by
            rcases hq with h | h
            · omega
            · exact hmk q h
          have h3:=hR3.sol (by intro h; cases h) q o ho hc
          rw [hoth4 q (by omega)]
          refine hR4.sol (by intro h; cases h) q o ?_ hc
          rw [hoth2 q (by omega)]
          exact h3
        · obtain ⟨_,_,_,O',hJ',_⟩:=hR4.yl id l xs' k' e h
          exact hJ'.elim
      · rw [same _ (fun h=>(hBrO _ h).2.2 rfl) (by omega)]; exact j5
    rintro e a2 W3 hq
    cases e with
    | normal =>
      obtain ⟨S4,h4,β4,F4,hR4⟩:=hq
      simp only [] at h4
      rw [D3] at h4
      obtain ⟨⟨hIk',hbr⟩,hmask⟩:=h4
      obtain ⟨W4,q1,q2,q3,q4,q5,q6,q7,q8,q9,q10,q11⟩:=fin S4 β4 F4 a2 W3 none hR4
      refine ⟨_,W4,q1,q2.1,q2.2.1,q2.2.2,q3,q4,q5,.inl ⟨rfl,A (k + 1),β4,F4,?_,q7,j2,q8,q9,q10,by omega,.inl ⟨rfl,rfl,hIk',q11⟩⟩⟩
      rw [hbr] at hmask
      have hm2:=a0u hmask
      have:Rel B w0 F0 ⟨(A k).t,(A (k + 1)).h,.plain⟩ β4 F4 a W4:=q6.forget rfl rfl fun i=>(hm2 i).symm
      rw [hAt k,<- hAt (k + 1),<- hAn (k + 1)] at this
      exact this
    | ret =>
      obtain ⟨S4,h4,β4,F4,hR4⟩:=hq
      obtain ⟨W4,q1,q2,q3,q4,q5,q6,q7,q8,q9,q10,q11⟩:=fin S4 β4 F4 a2 W3 (some .ret) hR4
      exact ⟨_,W4,q1,q2.1,q2.2.1,q2.2.2,q3,q4,q5,.inr ⟨rfl,_,β4,F4,q6,q7,j2,q8,q9,q10,by omega,.inr ⟨rfl,.ret,q11,.inl ⟨rfl,h4⟩⟩⟩⟩
    | exit i =>
      obtain ⟨S4,h4,β4,F4,hR4⟩:=hq
      obtain ⟨W4,q1,q2,q3,q4,q5,q6,q7,q8,q9,q10,q11⟩:=fin S4 β4 F4 a2 W3 (some (.exit i)) hR4
      exact ⟨_,W4,q1,q2.1,q2.2.1,q2.2.2,q3,q4,q5,.inr ⟨rfl,_,β4,F4,q6,q7,j2,q8,q9,q10,by omega,.inr ⟨rfl,.exit i,q11,.inr ⟨i,rfl,h4⟩⟩⟩⟩
    | goto l=>exact hq.elim
    | panic ch=>exact hq.elim
    | outgrown=>exact hq.elim
  obtain ⟨eg,hcall⟩:=hsq F W1 us (w.heap.size + 1) J (fun b hb=>by have:=(hR.FB b hb).1; omega) l2.symm (fun i hi=>by
    have hi':=(r2 i hi).shut (t9 hcl i)
    exact hi'.mono (fun _ h=>h) (fun b o u hb hc=>by rw [World.cell?_of_block (w:=w) (hold1 b (hR.FB b hb).1)]; exact hc)) hst hrd hJ0
  refine ⟨w.heap.size + 1,[B1 w.heap.size],W1,{ target := .fn (.func gf) us,args:=#[.func (.yield (w.heap.size + 1)) #[] #[]] },W1,gf,#[.func (.yield (w.heap.size + 1)) #[] #[]]++us,W1,?_,?_,?_,?_,fun h=>(by cases h),?_⟩
  · rw [<- hW1,hrc]; exact run_enterLoop_outer _ _ _ _ _
  · simp only [resolve,hv]
    simp [go_sem]
  · intro f' _; trivial
  · simp [invoke,go_sem,eg]
  · refine CallsIn.mono hcall ?_
    rintro e W2 ⟨⟨v,rfl⟩,_,_,_,hszW,O,k,e',⟨S',β',F',hR',j1,j2,j3,j4,j5,j6,j7⟩,hk⟩
    have hfresh:B1 w.heap.size ∉ a.defers:=fun h=>by have:=hmk _ h; omega
    have after:∀ (o:Obj),(∃ r:Loop,W2.heap[w.heap.size + 1]? = some (.loop r))->Rel B w0 F0 S' β' F' { a with defers:=[B1 w.heap.size]++a.defers } (W2.putObj (w.heap.size + 1) o):=fun o ⟨r,hl⟩=>by
      have h1:Rel B w0 F0 S' β' F' a (W2.putObj (w.heap.size + 1) o):=hR'.other ⟨rfl,rfl,rfl⟩ (by simp) (O:=fun b=>b=w.heap.size + 1) (fun b _ hb=>World.putObj_heap_other hb) (fun b e=>by rw [e]; exact hR.BW _ (by omega)) (fun b e=>by omega)
        (fun i b _ hb e=>(j3 i b hb).2.1 e) (fun b hb e=>(j4 b hb).2.1 e) (fun D hD e=>by have:=hmk D hD; omega) (hR'.noctr hpl)
      exact h1.marked hpl ((World.putObj_heap_other (by omega)).trans j5) (hR.BW _ (Nat.le_refl _)) hw0 hfresh
    rcases j7 with ⟨rfl,rfl,hIk,hl⟩ | ⟨rfl,c,hl,hc⟩
    · obtain rfl:=hk rfl
      refine ⟨none,_,by have:=run_endLoop (P:=P) hl (by rw [hrc]; simp); rw [hrc] at this; exact this,?_⟩
      have hd:=hdone hIk
      rw [l5] at hd
      exact ⟨_,hd,β',F',after _ ⟨_,hl⟩⟩
    · refine ⟨some c,_,by have:=run_endLoop (P:=P) hl (by rw [hrc]; simp); rw [hrc] at this; exact this,?_⟩
      rcases hc with ⟨rfl,hq⟩ | ⟨i,rfl,hq⟩
      · exact wpIn_ret ⟨S',hq,β',F',after _ ⟨_,hl⟩⟩
      · exact wpIn_exit ⟨S',hq,β',F',after _ ⟨_,hl⟩⟩
theorem a8n (hm:P.follows .mixedOrders=true):∀ (c:Code) {B:Nat->Prop} {w0:World} {F0:Env P} {S:St} {β:Nat->Option Hd} {F:Nat->Prop} {a:Act} {w:World} {Q:Ex->St->Prop},ex P c S Q->Rel B w0 F0 S β F a w->c.wpIn (FW F0.r) 0 P (Aft B w0 F0 Q) a w:=by
 intro c
 induction c with
 | skip=>intro B w0 F0 S β F a w Q h hR; exact wpIn_skip (.norm hR h)
 | label l=>intro B w0 F0 S β F a w Q h hR; exact wpIn_label (.norm hR h)
 | ret=>intro B w0 F0 S β F a w Q h hR; exact wpIn_ret ⟨S,h,β,F,hR⟩
 | exit i=>intro B w0 F0 S β F a w Q h hR; exact wpIn_exit ⟨S,h,β,F,hR⟩
 | region id ops draw =>
  intro B w0 F0 S β F a w Q h hR
  cases draw with
  | false =>
   refine wpIn_region ?_
   rw [List.range_eq_range']
   have:=a2y (P:=P) (ops:=ops) (K:=fun S=>fSt S (Q .norm)) (Q:=Aft B w0 F0 Q) (fun S β F a w hR h=>by rw [l5] at h; exact .norm hR h) ops.toList 0 (by simp) hR h
   simpa using this
  | true =>
   simp only [ex,l5] at h
   obtain ⟨F',hR'⟩:=hR.preF P ops.toList
   obtain ⟨h1,h2⟩:=h
   exact a2z (K:=fun S=>Q .norm S) hm (fun S β F a w hR h => .norm hR h) hR' h1 (by simpa only [l5] using h2)
 | seq x y ihx ihy =>
  intro B w0 F0 S β F a w Q h hR
  refine wpIn_seq (wpIn_mono (ihx h hR) ?_)
  rintro e a' w' hq
  cases e with
  | normal=>obtain ⟨S',h1,β',F',h2⟩:=hq; exact ihy h1 h2
  | ret=>exact hq
  | exit i=>exact hq
  | goto l=>exact hq
  | panic ch=>exact hq
  | outgrown=>exact hq
 | cond c x y ihx ihy =>
  intro B w0 F0 S β F a w Q h hR
  simp only [ex] at h
  have hc:=hR.get c
  split at h
  ·rename_i e; rw [e] at hc; exact wpIn_cond_true hc.tt_inv (ihx h hR)
  ·rename_i e; rw [e] at hc; exact wpIn_cond_false hc.ff_inv (ihy h hR)
  ·rename_i b e
   rw [e] at hc
   exact wpIn_cond_split hc.bool_inv (fun hb=>ihx (h.1 hb) hR) fun hb=>ihy (h.2 hb) hR
  ·exact h.elim
 | scope x ih =>
  intro B w0 F0 S β F a w Q h hR
  exact a2B (ih h hR) (fun _ _ _ q=>q)
 | block id x ih =>
  intro B w0 F0 S β F a w Q h hR
  refine wpIn_block (wpIn_mono (ih h hR) ?_)
  rintro e a' w' hq
  cases e with
  | normal=>exact hq
  | ret=>exact hq
  | exit i =>
   obtain ⟨S',h1,β',F',h2⟩:=hq
   simp only [] at h1
   cases hb:Nat.beq i id with
   | true =>
    rw [hb] at h1
    have:=Nat.eq_of_beq_eq_true hb
    simp only [Exit.inBlock,this,if_true]
    exact ⟨S',h1,β',F',h2⟩
   | false =>
    rw [hb] at h1
    have:=Nat.ne_of_beq_eq_false hb
    simp only [Exit.inBlock,this,if_false]
    exact ⟨S',h1,β',F',h2⟩
  | goto l=>exact hq
  | panic ch=>exact hq
  | outgrown=>exact hq
 | loop x ih =>
  intro B w0 F0 S β F a w Q h hR
  rcases h with ⟨n,h⟩ | ⟨ι,ws,bs,vs,V,BR,VR,μ,I,h⟩
  ·exact b3i ih n h hR
  ·rw [a0x,l5] at h
   obtain ⟨⟨i,h0⟩,hstep⟩:=h
   have hn0:(Ev.canonV vs S).n=F0.n:=(a2C vs S).trans hR.nn
   obtain ⟨vals,brows,vrows,⟨hI,rfl,rfl,rfl⟩,β',hR'⟩:=N2 hn0 hR h0
   refine E9 (fun n a w=>∃ i,μ i=n/\I i/\∃ β F,Rel B w0 F0 (y6 (G2 x) (Ev.canonV vs S) ws bs vs (V i) (BR i) (VR i)) β F a w) (μ i) ⟨i,rfl,hI,β',F,hR'⟩ ?_
   rintro n a w ⟨i,rfl,hI,β',F,hR'⟩
   have h1:=hstep i hI
   rw [l5] at h1
   refine wpIn_mono (ih h1 hR') ?_
   rintro e a' w' hq
   cases e with
   | normal =>
    obtain ⟨S',⟨i',h1⟩,β',F',h2⟩:=hq
    obtain ⟨vals,brows,vrows,⟨⟨hlt,hI'⟩,rfl,rfl,rfl⟩,β',hR'⟩:=N2 hn0 h2 h1
    exact ⟨_,hlt,i',rfl,hI',β',F',hR'⟩
   | ret=>exact hq
   | exit i=>exact hq
   | goto l=>exact hq
   | panic ch=>exact hq
   | outgrown=>exact hq
 | rangeFunc g ps assign bodyC ihA ihB =>
  intro B w0 F0 S β F a w Q h hR
  exact a3I ihA ihB h hR
 | _=>intro B w0 F0 S β F a w Q h; exact h.elim
end
/- A function's contract from its body. A helper text: it speaks of no program. -/
section
variable {P:Program} {B:Nat->Prop} {w0:World} {F0:Env P} {S:St} {β:Nat->Option Hd} {F:Nat->Prop} {a:Act} {w:World}
def resM (tmps:Array Value):ResultVar->Sem Value
 | .tmp t=>pure (tmps.getD t undef)
 | .cell a t=>do loadVar t (<- asAddr (tmps.getD a undef))
theorem a1i (hR:Rel B w0 F0 S β F a w):∀ (l:List ResultVar) {r:List AV},K7 P S l=some r ->
  ∃ vs,(l.mapM (resM a.tmps)).run P w = .ok vs w/\vs.length=r.length/\∀ i,i < r.length->RepI (fun b=>F b∨a0J S β b) w (r.getD i .any) (vs.getD i undef)
 | [],r,h=>by
  simp only [K7,Option.some.injEq] at h
  subst h
  exact ⟨[],by simp,rfl,fun i hi=>absurd hi (Nat.not_lt_zero i)⟩
 | .tmp t :: l,r,h=>by
  simp only [K7] at h
  split at h
  ·rename_i r' hr
   simp only [Option.some.injEq] at h
   subst h
   obtain ⟨vs,h1,h2,h3⟩:=a1i hR l hr
   refine ⟨a.tmps.getD t undef :: vs,by simp [List.mapM_cons,h1,resM],by simp [h2],fun i hi => ?_⟩
   cases i with
   | zero=>exact r9 hR 4 (hR.get (.tmp t))
   | succ i=>exact h3 i (by simpa using hi)
  ·cases h
 | .cell x t :: l,r,h=>by
  simp only [K7] at h
  split at h
  ·cases h
  ·rename_i r' hr
   obtain ⟨vs,h1,h2,h3⟩:=a1i hR l hr
   split at h
   ·rename_i i d hi hd
    split at h
    ·rename_i id sz j off hx
     split at h
     ·rename_i ty cs hrow
      split at h
      ·rename_i v hv
       simp only [Option.some.injEq] at h
       subst h
       have hx':=hR.get (.tmp x)
       rw [show S.get (.tmp x) = .ptr id sz j off from hx] at hx'
       have hrow':=hR.rows id
       rw [hrow] at hrow'
       obtain ⟨hd',b,ws,e1,em,e2,e3,e4,e5⟩:=hrow'
       obtain ⟨hd'',b',e6,e7,e8⟩:∃ hd b,β id=some hd/\hd.b=some b/\a.tmps.getD x undef = .pointer (some ⟨b,j * sz + off,none⟩):=hx'.ptr_inv
       rw [e1] at e6; cases e6
       rw [e2] at e7; cases e7
       have hcell:∀ k,k < cs.length->w.cell? ⟨b,0 + k,none⟩=some (ws.getD k undef):=fun k hk=>by rw [Nat.zero_add]; exact t7 e3 (by omega)
       obtain ⟨u,hu1,hu2⟩:=M7 hi hd (b:=b) (o:=0) (off:=j * sz + off) hcell e5 hv
       refine ⟨u :: vs,?_,by simp [h2],fun i hi => ?_⟩
       ·have:(resM a.tmps (.cell x t)).run P w = .ok u w:=by
         rw [Nat.zero_add] at hu1
         simp only [resM,e8]
         simpa [Instr.loadAt,Instr.sureAddr,asAddr] using hu1
        simp [List.mapM_cons,h1,this]
       ·cases i with
        | zero=>exact r9 hR 4 hu2
        | succ i=>exact h3 i (by simpa using hi)
      ·cases h
     ·cases h
    ·cases h
   ·cases h
theorem AV.fin1_rep {x:AV} {v:Value} (h:RepI F w x v):RepI F w x.fin1 v:=by
 cases h<;>first | exact .bool _ | (simp only [AV.fin1]; constructor<;>assumption)
theorem AV.fin_rep {x:AV} {v:Value} (h:RepI F w x v):RepI F w x.fin v:=by
 cases h with
 | tt=>exact .bool true
 | ff=>exact .bool false
 | tup hl hh =>
  refine .tup (by simpa using hl) fun i hi => ?_
  simp only [List.length_map] at hi
  rw [d5 _ rfl]
  exact AV.fin1_rep (hh i hi)
 | _=>(try simp only [AV.fin]); constructor<;>assumption
theorem X1 (hR:Rel B w0 F0 S β F a w) {fn:Func} {r:List AV} (h:K7 P S fn.results.toList=some r) :
  ∃ v,(results fn a.tmps).run P w = .ok v w/\RepI (fun b=>F b∨a0J S β b) w (O6 r).fin v:=by
 obtain ⟨vs,h1,h2,h3⟩:=a1i hR _ h
 have hm:(fn.results.mapM (resM a.tmps)).run P w = .ok vs.toArray w:=by
  rw [Array.mapM_eq_mapM_toList]
  simp [h1]
 refine ⟨if h:vs.toArray.size=1 then vs.toArray[0] else .tuple vs.toArray,?_,AV.fin_rep ?_⟩
 ·have e:results fn a.tmps=(do let vs <- fn.results.mapM (resM a.tmps); pure (if h:vs.size=1 then vs[0] else .tuple vs)):=by
   unfold results
   congr 1
  rw [e,Sem.run_bind,hm]
  rfl
 ·cases r with
  | nil =>
   have:vs=[]:=by simpa using h2
   subst this
   exact .tup rfl fun i hi=>absurd hi (Nat.not_lt_zero i)
  | cons x l =>
   cases l with
   | nil =>
    obtain ⟨v,rfl⟩:∃ v,vs=[v]:=by
     match vs,h2 with
     | [v],_=>exact ⟨v,rfl⟩
    exact h3 0 (by simp)
   | cons y l =>
    have:vs.toArray.size≠1:=by simp [h2]
    rw [dif_neg this]
    exact .tup (by simp [h2]) fun i hi=>by
     have:=h3 i hi
     simpa [Array.getD_eq_getD_getElem?,List.getD_eq_getElem?_getD] using this
theorem a0z (hR:Rel B w0 F0 S β F a w):∀ (l:List ResultVar) {r:List AV},I3 P S l=some r ->
  ∃ vs,(l.mapM (resM a.tmps)).run P w = .ok vs w/\vs.length=r.length/\∀ i,i < r.length->Rep β F w (r.getD i .any) (vs.getD i undef)
 | [],r,h=>by
  simp only [I3,Option.some.injEq] at h
  subst h
  exact ⟨[],by simp,rfl,fun i hi=>absurd hi (Nat.not_lt_zero i)⟩
 | .tmp t :: l,r,h=>by
  simp only [I3] at h
  split at h
  ·rename_i r' hr
   simp only [Option.some.injEq] at h
   subst h
   obtain ⟨vs,h1,h2,h3⟩:=a0z hR l hr
   refine ⟨a.tmps.getD t undef :: vs,by simp [List.mapM_cons,h1,resM],by simp [h2],fun i hi => ?_⟩
   cases i with
   | zero=>exact hR.get (.tmp t)
   | succ i=>exact h3 i (by simpa using hi)
  ·cases h
 | .cell x t :: l,r,h=>by
  simp only [I3] at h
  split at h
  ·cases h
  ·rename_i r' hr
   obtain ⟨vs,h1,h2,h3⟩:=a0z hR l hr
   split at h
   ·rename_i i d hi hd
    split at h
    ·rename_i id sz j off hx
     split at h
     ·rename_i ty cs hrow
      split at h
      ·rename_i v hv
       simp only [Option.some.injEq] at h
       subst h
       have hx':=hR.get (.tmp x)
       rw [show S.get (.tmp x) = .ptr id sz j off from hx] at hx'
       have hrow':=hR.rows id
       rw [hrow] at hrow'
       obtain ⟨hd',b,ws,e1,em,e2,e3,e4,e5⟩:=hrow'
       obtain ⟨hd'',b',e6,e7,e8⟩:∃ hd b,β id=some hd/\hd.b=some b/\a.tmps.getD x undef = .pointer (some ⟨b,j * sz + off,none⟩):=hx'.ptr_inv
       rw [e1] at e6; cases e6
       rw [e2] at e7; cases e7
       have hcell:∀ k,k < cs.length->w.cell? ⟨b,0 + k,none⟩=some (ws.getD k undef):=fun k hk=>by rw [Nat.zero_add]; exact t7 e3 (by omega)
       obtain ⟨u,hu1,hu2⟩:=M7 hi hd (b:=b) (o:=0) (off:=j * sz + off) hcell e5 hv
       refine ⟨u :: vs,?_,by simp [h2],fun i hi => ?_⟩
       ·have:(resM a.tmps (.cell x t)).run P w = .ok u w:=by
         rw [Nat.zero_add] at hu1
         simp only [resM,e8]
         simpa [Instr.loadAt,Instr.sureAddr,asAddr] using hu1
        simp [List.mapM_cons,h1,this]
       ·cases i with
        | zero=>exact hu2
        | succ i=>exact h3 i (by simpa using hi)
      ·cases h
     ·cases h
    ·cases h
   ·cases h
theorem AV.fin1_repW {x:AV} {v:Value} (h:Rep β F w x v):Rep β F w x.fin1 v:=by
 cases x<;>first | exact h | (rw [h.tt_inv]; exact .imm (.bool true)) | (rw [h.ff_inv]; exact .imm (.bool false))
theorem AV.fin_repW {x:AV} {v:Value} (h:Rep β F w x v):Rep β F w x.fin v:=by
 cases x with
 | tt=>rw [h.tt_inv]; exact .imm (.bool true)
 | ff=>rw [h.ff_inv]; exact .imm (.bool false)
 | tup l =>
  obtain ⟨vs,rfl,hl,hr⟩:=h.tup_inv
  refine .tup (by simpa using hl) fun i hi => ?_
  simp only [List.length_map] at hi
  rw [d5 _ rfl]
  exact AV.fin1_repW (hr i hi)
 | _=>exact h
theorem a0T (hR:Rel B w0 F0 S β F a w) {fn:Func} {r:List AV} (h:I3 P S fn.results.toList=some r) :
  ∃ v,(results fn a.tmps).run P w = .ok v w/\Rep β F w (O6 r).fin v:=by
 obtain ⟨vs,h1,h2,h3⟩:=a0z hR _ h
 have hm:(fn.results.mapM (resM a.tmps)).run P w = .ok vs.toArray w:=by
  rw [Array.mapM_eq_mapM_toList]
  simp [h1]
 refine ⟨if h:vs.toArray.size=1 then vs.toArray[0] else .tuple vs.toArray,?_,AV.fin_repW ?_⟩
 ·have e:results fn a.tmps=(do let vs <- fn.results.mapM (resM a.tmps); pure (if h:vs.size=1 then vs[0] else .tuple vs)):=by
   unfold results
   congr 1
  rw [e,Sem.run_bind,hm]
  rfl
 ·cases r with
  | nil =>
   have:vs=[]:=by simpa using h2
   subst this
   exact .tup rfl fun i hi=>absurd hi (Nat.not_lt_zero i)
  | cons x l =>
   cases l with
   | nil =>
    obtain ⟨v,rfl⟩:∃ v,vs=[v]:=by
     match vs,h2 with
     | [v],_=>exact ⟨v,rfl⟩
    exact h3 0 (by simp)
   | cons y l =>
    have:vs.toArray.size≠1:=by simp [h2]
    rw [dif_neg this]
    exact .tup (by simp [h2]) fun i hi=>by
     have:=h3 i hi
     simpa [Array.getD_eq_getD_getElem?,List.getD_eq_getElem?_getD] using this
theorem Rel.takeD {t:Array Value} {d:Deferred} {ds:List Deferred} (hR:Rel B w0 F0 S β F { tmps:=t,defers:=d :: ds } w) :
  ∃ D,d.target = .collected D/\(Instr.takeDeferred D).run P w = .ok [] (w.putObj D (.deferred none))/\Rel B w0 F0 S β F { tmps:=t,defers:=ds } (w.putObj D (.deferred none)):=by
 obtain ⟨Ds,⟨h1,h0⟩,h2,h3⟩:=hR.marks
 cases Ds with
 | nil=>simp at h1
 | cons D Ds =>
  simp only [List.map_cons,List.cons.injEq] at h1
  obtain ⟨rfl,rfl⟩:=h1
  have hpl:F0.n = .plain:=by
   by_cases h:F0.n = .plain
   ·exact h
   ·exact absurd (h0 h) (by simp)
  obtain ⟨hn1,hn2⟩:=List.nodup_cons.1 h2
  obtain ⟨hD,hB,hge⟩:=h3 D (by simp)
  refine ⟨D,rfl,run_takeDeferred hD,?_⟩
  have hR1:Rel B w0 F0 S β F { tmps:=t,defers:=Ds.map B1 } w :=
   { hR with
    len:=hR.len
    slots:=hR.slots
    marks:=⟨Ds,⟨rfl,fun h=>absurd hpl h⟩,hn2,fun D' hD'=>h3 D' (by simp [hD'])⟩
    yl:=fun id l xs k e h=>absurd h (hR.noctr hpl id l xs k e) }
  refine hR1.otherK ⟨rfl,rfl,rfl⟩ (by simp) (O:=fun b=>b=D) (fun b _ hb=>World.putObj_heap_other hb) (fun b e=>by rw [e]; exact hB) (fun b e=>by rw [e]; exact hge) (fun i b hi hb e => ?_) (U1 hD rfl) (fun D' hD' e => ?_) (hR.noctr hpl)
  ·subst e
   obtain ⟨vs,ty,hc⟩:=W6 (hR.rows i) hi hb
   rw [hD] at hc; cases hc
  ·obtain ⟨D'',h4,h5⟩:=List.mem_map.1 hD'
   have:D''=D':=by simpa [B1] using h5
   subst this
   subst e
   exact hn1 h4
theorem L8 {fn:Func} {t:Array Value} {R:Ending->World->Prop}:∀ (ds:List Deferred) {w:World},Rel B w0 F0 S β F { tmps:=t,defers:=ds } w->(∀ w',Rel B w0 F0 S β F { tmps:=t,defers:=[] } w'->∃ v,(results fn t).run P w' = .ok v w'/\R (.returned v) w') ->
  LeavesInM Fence.wide 0 P fn t R ds .returning w
 | [],w,hR,h=>h w hR
 | d :: ds,w,hR,h=>by
  obtain ⟨D,h1,h2,h3⟩:=hR.takeD
  exact ⟨by simp,.inl ⟨D,_,h1,h2,L8 ds h3 h⟩⟩
theorem a8o (hm:P.follows .mixedOrders=true) {f:FuncId} {fn:Func} {args:List AV} {res:AV} (hf:P.funcs[f]? = some fn) (hname:(fn.name == "runtime.NumGoroutine")=false) (h:body P fn args res):PC P f args res:=by
 intro F w vs hF hsz hargs
 unfold body at h
 split at h
 ·exact h.elim
 ·rename_i c hb
  refine .inl ⟨Go.MuLone.run_callFunc_enter hf hname hb vs w,callsIn_wide.1 (callsIn_of_wp_marks (n:=0) hf hb trivial ?_)⟩
  rw [l5] at h
  have hR:Rel (fun b=>w.heap.size<=b) w (Env.plain P F (fun _=>none) none .plain (fun _=>rfl)) ⟨args++List.replicate (fn.ntmps - args.length) .any,List.replicate fn.ntmps .none,.plain⟩ (fun _=>none) F { tmps:=vs++Array.replicate (fn.ntmps - vs.size) undef,defers:=[] } w:={
   len:=by simp [hsz]
   slots:=fun i hi=>by
    by_cases hlt:i < args.length
    ·have:=hargs i hlt
     have e1:(args++List.replicate (fn.ntmps - args.length) AV.any).getD i .any=args.getD i .any:=by simp [List.getD,List.getElem?_append,hlt]
     have e2:(vs++Array.replicate (fn.ntmps - vs.size) undef).getD i undef=vs.getD i undef:=by
      simp [Array.getD_eq_getD_getElem?,Array.getElem?_append,show i < vs.size by omega]
     rw [e1,e2]
     exact .imm this
    ·have e1:(args++List.replicate (fn.ntmps - args.length) AV.any).getD i .any = .any:=by
      simp only [List.getD,List.getElem?_append,hlt,if_false,List.getElem?_replicate]
      split<;>rfl
     rw [e1]
     exact .imm (.any _)
   marks:=⟨[],⟨rfl,fun _=>rfl⟩,.nil,by simp⟩
   rows:=fun i=>by
    have:(St.row ⟨args++List.replicate (fn.ntmps - args.length) .any,List.replicate fn.ntmps .none,.plain⟩ i) = .none:=by
     simp only [St.row,List.getD,List.getElem?_replicate]
     split<;>rfl
    rw [this]; trivial
   inj:=fun i j b _ _ h=>by simp [occ] at h
   bF:=fun i b _ h=>by simp [occ] at h
   bB:=fun i b h=>by simp [occ] at h
   FB:=fun b hb=>⟨hF b hb,.inl hb⟩
   below := .refl _ _
   BW:=fun _ h=>h
   top:=fun _ _ h=>by cases h
   topn:=fun _ _=>rfl
   nn:=rfl
   inc:=fun _ h=>h
   keep:=n4.refl _ _
   sol:=fun _ _ _ h _=>h
   yl:=fun id l xs k e h=>by
    have:(St.row ⟨args++List.replicate (fn.ntmps - args.length) .any,List.replicate fn.ntmps .none,.plain⟩ id) = .none:=by
     simp only [St.row,List.getD,List.getElem?_replicate]
     split<;>rfl
    rw [this] at h; cases h }
  refine wpIn_mono (a8n hm c h hR) ?_
  have fin:∀ {S β F' a' w'} {r:List AV},Rel (fun b=>w.heap.size<=b) w (Env.plain P F (fun _=>none) none .plain (fun _=>rfl)) S β F' a' w'->K7 P S fn.results.toList=some r->fAV (O6 r).fin (fun v=>v=res) ->
    LeavesInM Fence.wide 0 P fn a'.tmps (fun e w'=>∃ v,e = .returned v/\RowKit.Below w.heap.size w w'/\RepI (fun b=>F b∨w.heap.size<=b) w' res v) a'.defers .returning w':=by
   intro S β F' a' w' r hR' hr hv
   rw [M5] at hv
   obtain ⟨t,ds⟩:=a'
   refine L8 ds hR' fun w'' hR'' => ?_
   obtain ⟨v,h1,h2⟩:=X1 hR'' hr
   rw [hv] at h2
   exact ⟨v,h1,v,rfl,hR''.below.below,h2.mono (fun b hb=>by
    rcases hb with hb | ⟨i,_,hb⟩
    ·exact (hR''.FB b hb).2
    ·exact .inr (hR''.bB i b hb).1) (fun _ _ _ _ h=>h)⟩
  rintro e a' w' hq
  cases e with
  | normal =>
   obtain ⟨S',h1,β',F',hR'⟩:=hq
   simp only [] at h1
   split at h1
   ·exact fin hR' ‹_› h1
   ·exact h1.elim
  | ret =>
   obtain ⟨S',h1,β',F',hR'⟩:=hq
   simp only [] at h1
   split at h1
   ·exact fin hR' ‹_› h1
   ·exact h1.elim
  | exit i=>obtain ⟨S',h1,_⟩:=hq; exact h1.elim
  | goto l=>exact hq.elim
  | panic ch=>exact hq.elim
  | outgrown=>exact hq.elim
theorem a1Q (s n k:Nat) (h:k < n):(List.range' s n).getD k 0=s + k:=by
 simp [List.getD,h]
theorem a8p (hm:P.follows .mixedOrders=true) {f:FuncId} {fn:Func} {args:List AV} {ins outs:List Row} {res:AV} (hf:P.funcs[f]? = some fn) (hname:(fn.name == "runtime.NumGoroutine")=false) (h:a9l P fn args ins res outs):PW P f args ins res outs:=by
 intro F w vs β hF hsz hargs hown
 unfold a9l at h
 split at h
 ·exact h.elim
 rename_i c hb
 obtain ⟨hchk,h⟩:=h
 simp only [Bool.and_eq_true] at hchk
 obtain ⟨⟨c1,c2⟩,c3⟩:=hchk
 have c3:=Nat.le_of_ble_eq_true c3
 refine ⟨Go.MuLone.run_callFunc_enter hf hname hb vs w,callsIn_wide.1 (callsIn_of_wp_marks (n:=0) hf hb trivial ?_)⟩
 rw [l5] at h
 obtain ⟨sh,hsh⟩:∃ sh,List.range' fn.ntmps ins.length=sh:=⟨_,rfl⟩
 rw [hsh] at h
 have shl:sh.length=ins.length:=by rw [<- hsh]; simp
 have shk:∀ k,k < ins.length->sh.getD k 0=fn.ntmps + k:=fun k hk=>by rw [<- hsh]; exact a1Q _ _ _ hk
 have hins:∀ k,k < ins.length->r5 ins.length (ins.getD k .none)=true/\ins.getD k .none ≠ .none:=fun k hk=>by
  have hmem:ins.getD k .none ∈ ins:=by simp [List.getD,hk]
  have:=List.all_eq_true.1 c2 _ hmem
  simp only [Bool.and_eq_true] at this
  exact ⟨this.1,fun e=>by rw [e] at this; simp [Row.live] at this⟩
 let β0:Nat->Option Hd:=fun j=>if fn.ntmps<=j then β (j - fn.ntmps) else none
 have b0:∀ k,β0 (fn.ntmps + k)=β k:=fun k=>by simp [β0]
 have b0':∀ j,j < fn.ntmps->β0 j=none:=fun j hj=>by simp [β0,Nat.not_le.2 hj]
 have b0s:∀ i b,occ β0 i b->fn.ntmps<=i/\occ β (i - fn.ntmps) b:=fun i b hb=>by
  by_cases hle:fn.ntmps<=i
  ·exact ⟨hle,by simpa [occ,β0,hle] using hb⟩
  ·simp [occ,β0,hle] at hb
 have hrow:∀ (t:List AV) id,(St.row ⟨t,List.replicate fn.ntmps .none++ins.map (l9 sh),.plain⟩ id)=if fn.ntmps<=id then l9 sh (ins.getD (id - fn.ntmps) .none) else .none:=fun t id=>by
  simp only [St.row,List.getD]
  by_cases hle:fn.ntmps<=id
  ·rw [List.getElem?_append_right (by simpa using hle)]
   simp only [List.length_replicate,List.getElem?_map,hle,if_true]
   cases ins[id - fn.ntmps]? <;> simp [l9]
  ·rw [List.getElem?_append_left (by simpa using hle)]
   simp [hle,List.getElem?_replicate,Nat.lt_of_not_le hle]
 have hR:Rel (fun b=>w.heap.size<=b∨inB β b) w (Env.plain P F β0 none .plain (fun _=>rfl)) ⟨renL sh args++List.replicate (fn.ntmps - args.length) .any,List.replicate fn.ntmps .none++ins.map (l9 sh),.plain⟩ β0 F { tmps:=vs++Array.replicate (fn.ntmps - vs.size) undef,defers:=[] } w:={
  len:=by simp [hsz,f9]
  slots:=fun i hi=>by
   by_cases hlt:i < args.length
   ·have:=hargs i hlt
    have e1:(renL sh args++List.replicate (fn.ntmps - args.length) AV.any).getD i .any=(args.getD i .any).ren sh:=by
     rw [<- o8]
     simp [List.getD,List.getElem?_append,f9,hlt]
    have e2:(vs++Array.replicate (fn.ntmps - vs.size) undef).getD i undef=vs.getD i undef:=by
     simp [Array.getD_eq_getD_getElem?,Array.getElem?_append,show i < vs.size by omega]
    rw [e1,e2]
    exact this.ren (n:=ins.length) (fun k hk hd h=>by rw [shk k hk,b0]; exact h) (r7 c1 i)
   ·have e1:(renL sh args++List.replicate (fn.ntmps - args.length) AV.any).getD i .any = .any:=by
     simp only [List.getD,List.getElem?_append,f9,hlt,if_false,List.getElem?_replicate]
     split<;>rfl
    rw [e1]
    exact .imm (.any _)
  marks:=⟨[],⟨rfl,fun _=>rfl⟩,.nil,by simp⟩
  rows:=fun id=>by
   rw [hrow]
   split
   ·rename_i hle
    by_cases hlt:id - fn.ntmps < ins.length
    ·have:=a0v (ids:=sh) (n:=ins.length) (β':=β0) (fun k hk hd h=>by rw [shk k hk,b0]; exact h) hlt (hown.rows (id - fn.ntmps)) (hins _ hlt).1
     rw [shk _ hlt,show fn.ntmps + (id - fn.ntmps)=id by omega] at this
     exact this
    ·have:ins.getD (id - fn.ntmps) .none = .none:=by simp [List.getD,List.getElem?_eq_none (Nat.le_of_not_lt hlt)]
     rw [this]; trivial
   ·trivial
  inj:=fun i j b hi hj hbi hbj=>by
   obtain ⟨h1,h2⟩:=b0s i b hbi
   obtain ⟨h3,h4⟩:=b0s j b hbj
   rw [hrow,if_pos h1] at hi
   rw [hrow,if_pos h3] at hj
   have:=hown.inj _ _ b (fun e=>hi (A4.2 e)) (fun e=>hj (A4.2 e)) h2 h4
   omega
  bF:=fun i b hi hbi=>by
   obtain ⟨h1,h2⟩:=b0s i b hbi
   rw [hrow,if_pos h1] at hi
   exact hown.bF _ b (fun e=>hi (A4.2 e)) h2
  bB:=fun i b h=>⟨.inr ⟨_,(b0s i b h).2⟩,hown.bB _ b (b0s i b h).2⟩
  FB:=fun b hb=>⟨hF b hb,.inl hb⟩
  below := .refl _ _
  BW:=fun _ h => .inl h
  top:=fun _ _ h=>h
  topn:=fun j hj=>by
   simp only [k8] at hj
   split at hj
   ·rename_i hlt
    simp only [List.length_append,f9,List.length_replicate,Nat.blt_eq] at hlt
    exact b0' j (by omega)
   ·cases hj
  nn:=rfl
  inc:=fun _ h=>h
  keep:=n4.refl _ _
  sol:=fun _ _ _ h _=>h
  yl:=fun id l xs k e h=>by
   rw [hrow] at h
   split at h
   ·by_cases hlt:id - fn.ntmps < ins.length
    ·have hu:=(hins _ hlt).1
     cases hr:ins.getD (id - fn.ntmps) .none<;>rw [hr] at h hu<;>simp [l9,r5] at h hu
    ·have:ins.getD (id - fn.ntmps) .none = .none:=by simp [List.getD,List.getElem?_eq_none (Nat.le_of_not_lt hlt)]
     rw [this] at h; cases h
   ·cases h }
 refine wpIn_mono (a8n hm c h hR) ?_
 have fin:∀ {S β1 F' a' w'} {l:List AV},Rel (fun b=>w.heap.size<=b∨inB β b) w (Env.plain P F β0 none .plain (fun _=>rfl)) S β1 F' a' w'->I3 P S fn.results.toList=some l ->
   (∃ news:List Nat,(N1 (sh++news) && Nat.beq outs.length (sh++news).length && res.under outs.length && outs.all (r5 outs.length))=true/\fAV (O6 l).fin fun v=>v=res.ren (sh++news)/\(sh++news).map S.row=outs.map (l9 (sh++news))) ->
   LeavesInM Fence.wide 0 P fn a'.tmps (fun e w'=>∃ v β' F',e = .returned v/\BelowO (fun b=>w.heap.size<=b∨inB β b) w w'/\(∀ k hd,β k=some hd->β' k=some hd)/\(∀ b,F b->F' b) /\
    (∀ b,F' b->b < w'.heap.size/\(F b∨w.heap.size<=b∨inB β b))/\Rep β' F' w' res v/\(∀ k,j8 β' F' w' k (outs.getD k .none)) /\
    (∀ i j b,outs.getD i .none ≠ .none->outs.getD j .none ≠ .none->occ β' i b->occ β' j b->i=j)/\(∀ i b,outs.getD i .none ≠ .none->occ β' i b->¬ F' b) /\
    (∀ i b,occ β' i b->b < w'.heap.size/\(w.heap.size<=b∨inB β b))) a'.defers .returning w':=by
  rintro S β1 F' a' w' l hR' hl ⟨news,hck,hv⟩
  rw [M5] at hv
  obtain ⟨hv,hmap⟩:=hv
  simp only [Bool.and_eq_true] at hck
  obtain ⟨⟨⟨d1,d2⟩,d3⟩,d4⟩:=hck
  have d2:=Nat.eq_of_beq_eq_true d2
  have hnd:=T8 d1
  obtain ⟨t,ds⟩:=a'
  refine L8 ds hR' fun w'' hR'' => ?_
  obtain ⟨v,h1,h2⟩:=a0T hR'' hl
  rw [hv] at h2
  obtain ⟨al,hal⟩:∃ al,sh++news=al:=⟨_,rfl⟩
  rw [hal] at hnd d2 h2 hmap
  have alk:∀ k,k < ins.length->al.getD k 0=fn.ntmps + k:=fun k hk=>by
   rw [<- shk k hk,<- hal]
   simp [List.getD,List.getElem?_append,shl,hk]
  have insl:ins.length<=al.length:=by rw [<- hal,List.length_append,shl]; omega
  let β2:Nat->Option Hd:=fun k=>if k < al.length then β1 (al.getD k 0) else none
  have e2:∀ k,k < outs.length->β2 k=β1 (al.getD k 0):=fun k hk=>by simp [β2,<- d2,hk]
  have hb2:∀ k b,occ β2 k b->k < outs.length/\occ β1 (al.getD k 0) b:=fun k b hb=>by
   by_cases hlt:k < outs.length
   ·exact ⟨hlt,by simpa [occ,e2 k hlt] using hb⟩
   ·simp [occ,β2,<- d2,hlt] at hb
  have hrowO:∀ k,k < outs.length->S.row (al.getD k 0)=l9 al (outs.getD k .none):=fun k hk=>by
   have:(al.map S.row).getD k .none=(outs.map (l9 al)).getD k .none:=by rw [hmap]
   simpa [List.getD,List.getElem?_map,hk,d2 ▸ hk] using this
  have hlive:∀ k,outs.getD k .none ≠ .none->k < outs.length/\S.row (al.getD k 0) ≠ .none:=fun k hk=>by
   by_cases hlt:k < outs.length
   ·exact ⟨hlt,by rw [hrowO k hlt]; exact fun e=>hk (A4.1 e)⟩
   ·exact absurd (by simp [List.getD,List.getElem?_eq_none (Nat.le_of_not_lt hlt)]) hk
  refine ⟨v,h1,v,β2,F',rfl,hR''.below,fun k hd hk => ?_,hR''.inc,hR''.FB,h2.unren e2 d3 rfl,fun k => ?_,fun i j b hi hj hbi hbj => ?_,fun i b hi hbi => ?_,fun i b hbi => ?_⟩
  ·have hlt:k < ins.length:=by
    rcases Nat.lt_or_ge k ins.length with h | h
    ·exact h
    ·have:=hown.dead k (by simp [List.getD,List.getElem?_eq_none h])
     rw [this] at hk; cases hk
   have:=hR''.top (fn.ntmps + k) hd (by show β0 (fn.ntmps + k)=some hd; rw [b0]; exact hk)
   rw [e2 k (by omega),alk k hlt]
   exact this
  ·by_cases hlt:k < outs.length
   ·have:=hR''.rows (al.getD k 0)
    rw [hrowO k hlt] at this
    exact T3 e2 hlt (List.all_eq_true.1 d4 _ (by simp [List.getD,hlt])) this
   ·have:outs.getD k .none = .none:=by simp [List.getD,List.getElem?_eq_none (Nat.le_of_not_lt hlt)]
    rw [this]; trivial
  ·obtain ⟨l1,r1⟩:=hlive i hi
   obtain ⟨l2,r2⟩:=hlive j hj
   have heq:=hR''.inj _ _ b r1 r2 (hb2 i b hbi).2 (hb2 j b hbj).2
   have li:i < al.length:=by omega
   have lj:j < al.length:=by omega
   have e':al[i]=al[j]:=by simpa [List.getD,li,lj] using heq
   have hp:=List.pairwise_iff_getElem.1 hnd
   rcases Nat.lt_trichotomy i j with hlt | rfl | hgt
   ·exact absurd e' (hp i j li lj hlt)
   ·rfl
   ·exact absurd e'.symm (hp j i lj li hgt)
  ·exact hR''.bF _ b (hlive i hi).2 (hb2 i b hbi).2
  ·have:=hR''.bB _ b (hb2 i b hbi).2
   exact ⟨this.2,this.1⟩
 rintro e a' w' hq
 cases e with
 | normal =>
  obtain ⟨S',h1,β',F',hR'⟩:=hq
  simp only [] at h1
  split at h1
  ·exact fin hR' ‹_› h1
  ·exact h1.elim
 | ret =>
  obtain ⟨S',h1,β',F',hR'⟩:=hq
  simp only [] at h1
  split at h1
  ·exact fin hR' ‹_› h1
  ·exact h1.elim
 | exit i=>obtain ⟨S',h1,_⟩:=hq; exact h1.elim
 | goto l=>exact hq.elim
 | panic ch=>exact hq.elim
 | outgrown=>exact hq.elim
theorem a8q (hm:P.follows .mixedOrders=true) {f:FuncId} {fn:Func} {caps:List AV} {xs:List (List AV)} (hf:P.funcs[f]? = some fn) (hname:(fn.name == "runtime.NumGoroutine")=false) (h:a9m P fn caps xs):SQ P f caps xs:=by
  intro F w us l J hF hsz hreps hst hrd hJ0
  unfold a9m at h
  split at h
  · exact h.elim
  rename_i c hb
  obtain ⟨hle,h⟩:=h
  have hle:=Nat.le_of_ble_eq_true hle
  have h:=h l
  rw [l5] at h
  refine ⟨fun args W=>Go.MuLone.run_callFunc_enter hf hname hb args W,callsIn_of_wp_marks (n:=0) hf hb trivial ?_⟩
  let E:Env P:=⟨F,fun _=>none,none,.iter,fun _=>rfl,l,xs,J,fun _ _ _ _ _=>rfl,hst,hrd⟩
  let β0:Nat->Option Hd:=fun j=>if j=fn.ntmps then some ⟨none,0,0,noM⟩ else none
  have nob:∀ i b,¬ occ β0 i b:=fun i b hb=>by
    by_cases e:i=fn.ntmps<;>simp [occ,β0,e] at hb
  have hrow:∀ (t:List AV) id,(St.row ⟨t,List.replicate fn.ntmps .none++[.ctr l xs 0 false],.iter⟩ id)=if id=fn.ntmps then .ctr l xs 0 false else .none:=fun t id=>by
    simp only [St.row,List.getD]
    rcases Nat.lt_trichotomy id fn.ntmps with hlt | rfl | hgt
    · rw [List.getElem?_append_left (by simpa using hlt)]
      simp [Nat.ne_of_lt hlt,hlt]
    · rw [List.getElem?_append_right (by simp)]
      simp
    · rw [List.getElem?_append_right (by simp; omega)]
      have:([Row.ctr l xs 0 false]:List Row)[id - (List.replicate fn.ntmps Row.none).length]? = none:=List.getElem?_eq_none (by simp; omega)
      rw [this]
      simp [Nat.ne_of_gt hgt]
  have hR:Rel (fun _=>True) w E ⟨(AV.fn (.yield l) [] [] :: caps)++List.replicate (fn.ntmps - (caps.length + 1)) AV.any,List.replicate fn.ntmps .none++[.ctr l xs 0 false],.iter⟩ β0 F { tmps:=(#[Value.func (.yield l) #[] #[]]++us)++Array.replicate (fn.ntmps - (#[Value.func (.yield l) #[] #[]]++us).size) undef,defers:=[] } w:={
    len:=by simp [hsz]; omega
    slots:=fun i hi=>by
      cases i with
      | zero =>
        have e2:((#[Value.func (.yield l) #[] #[]]++us)++Array.replicate (fn.ntmps - (#[Value.func (.yield l) #[] #[]]++us).size) undef).getD 0 undef = .func (.yield l) #[] #[]:=by
          simp [Array.getD_eq_getD_getElem?,Array.getElem?_append]
        show Rep β0 F w (.fn (.yield l) [] []) _
        rw [e2]
        exact .imm (.fn rfl (fun i hi=>absurd hi (Nat.not_lt_zero i)) rfl (fun i hi=>absurd hi (Nat.not_lt_zero i)))
      | succ i =>
        by_cases hlt:i < caps.length
        · have e1:((AV.fn (.yield l) [] [] :: caps)++List.replicate (fn.ntmps - (caps.length + 1)) AV.any).getD (i + 1) .any=caps.getD i .any:=by
            simp [List.getD,List.getElem?_append,hlt]
          have e2:((#[Value.func (.yield l) #[] #[]]++us)++Array.replicate (fn.ntmps - (#[Value.func (.yield l) #[] #[]]++us).size) undef).getD (i + 1) undef=us.getD i undef:=by
            have h1:i < us.size:=by omega
            simp only [Array.getD_eq_getD_getElem?]
            rw [Array.getElem?_append_left (by simp; omega),Array.getElem?_append_right (by simp)]
            simp
          rw [e1,e2]
          exact .imm (hreps i hlt)
        · have e1:((AV.fn (.yield l) [] [] :: caps)++List.replicate (fn.ntmps - (caps.length + 1)) AV.any).getD (i + 1) .any = .any:=by
            simp only [List.getD]
            rw [List.getElem?_append_right (by simp; omega),List.getElem?_replicate]
            split<;>rfl
          rw [e1]
          exact .imm (.any _)
    marks:=⟨[],⟨rfl,fun _=>rfl⟩,.nil,by simp⟩
    rows:=fun id=>by
      rw [hrow]
      split
      · rename_i e; rw [e]; exact ⟨⟨none,0,0,noM⟩,by simp [β0],rfl,rfl⟩
      · trivial
    inj:=fun i j b _ _ hbi _=>absurd hbi (nob i b)
    bF:=fun i b _ hbi=>absurd hbi (nob i b)
    bB:=fun i b h=>absurd h (nob i b)
    FB:=fun b hb=>⟨hF b hb,.inl hb⟩
    below := .refl _ _
    BW:=fun _ _=>trivial
    top:=fun _ _ h=>by cases h
    topn:=fun _ _=>rfl
    nn:=rfl
    inc:=fun _ h=>h
    keep:=n4.refl _ _
    sol:=fun _ _ _ h _=>h
    yl:=fun id l' xs' k e h=>by
      rw [hrow] at h
      split at h
      · rename_i hid
        cases h
        refine ⟨rfl,rfl,⟨fun _=>trivial,rfl⟩,fun _=>False,hJ0,fun _ h=>h.elim,fun i b _ hb=>absurd hb (nob i b),fun _ h => .inl h,fun D hD=>by simp at hD,fun id' l' xs' k' e' h' => ?_⟩
        rw [hrow] at h'
        split at h'
        · rename_i e; rw [e,hid]
        · cases h'
      · cases h }
  refine wpIn_mono (a8n hm c h hR) ?_
  have fin:∀ {S β1 F' a' w'} {r:List AV},Rel (fun _=>True) w E S β1 F' a' w'->K7 P S fn.results.toList=some r->(match S.row S.t.length with
        | .ctr _ _ k e'=>e'=false->k=xs.length
        | _=>False) ->
      LeavesInM Fence.wide 0 P fn a'.tmps (fun e W'=>(∃ v,e = .returned v)/\W'.os=w.os/\W'.tape=w.tape/\W'.output=w.output/\w.heap.size<=W'.heap.size/\∃ O k e',J k e' O W'/\(e'=false->k=xs.length)) a'.defers .returning w':=by
    intro S β1 F' a' w' r hR' hr hk
    obtain ⟨t,ds⟩:=a'
    refine L8 ds hR' fun w'' hR'' => ?_
    obtain ⟨v,h1,h2⟩:=X1 hR'' hr
    split at hk
    · rename_i l' xs' k e' hrw
      obtain ⟨_,_,_,O,g1,_⟩:=hR''.yl _ _ _ _ _ hrw
      exact ⟨v,h1,⟨v,rfl⟩,hR''.below.os,hR''.below.tape,hR''.below.output,hR''.below.size,O,k,e',g1,hk⟩
    · exact hk.elim
  rintro e a' w' hq
  cases e with
  | normal =>
    obtain ⟨S',h1,β',F',hR'⟩:=hq
    simp only [] at h1
    split at h1
    · exact fin hR' ‹_› h1
    · exact h1.elim
  | ret =>
    obtain ⟨S',h1,β',F',hR'⟩:=hq
    simp only [] at h1
    split at h1
    · exact fin hR' ‹_› h1
    · exact h1.elim
  | exit i=>obtain ⟨S',h1,_⟩:=hq; exact h1.elim
  | goto l=>exact hq.elim
  | panic ch=>exact hq.elim
  | outgrown=>exact hq.elim
end

end Go.Ev
