/- Helper lemmas. -/
import Derived.Test.YtdpnpdjnaimgaaaGreatEvSeven
import Derived.OrdersIn
import Derived.Conc.MuLone
import Derived.RangeFuncLeaves
set_option linter.unusedVariables false
set_option linter.unusedSimpArgs false
/- The executor itself. A helper text: it speaks of no program. -/
namespace Go.Ev
def gW(l:List Nat)(i:Nat):Bool:=l.any fun j=>Nat.beq j i
def qM{α:Type}(op:BinOp)(l:List α)(K:AV->Prop):Prop:=∀ b:Bool,(b=true->l=[])->R5 op (K (.bool b)) (K (.bool !b))
def St.frz(S:St):List Nat->St
 | []=>S
 | i :: l=>S.freeze (gW (i :: l))
def SL(P:Program)(c:Call)(f:Operand)(S:St)(K:St->Out->Prop):Prop :=
 ∃ frz news:List Nat,news.all (A8 S)=true/\iD ((S.frz frz).kills news) fun S=>match S.get f with
  | .fn (.func h) first A6=>∃ (ids:List Nat) (N4:List AV) (ins n7:List Row) (res:AV),
    (PW P h N4 ins res n7/\first++c.args.toList.map S.get++A6=aX ids N4/\ids.map S.row=ins.map (C1 ids)/\wB ids news N4 ins n7 res=true) /\
    K S ⟨res.ren (ids++news),(ids++news).zip (n7.map (C1 (ids++news)))⟩
  | _=>False
def qN(P:Program)(o:Oper)(S:St)(K:St->Out->Prop):Prop :=
 match o.op with
 | .makeFunc f xs ys=>match (xs.toList.map S.get++ys.toList.map S.get).flatMap (M3 4 S.row)with
  | []=>K S ⟨.fn f (xs.toList.map S.get) (ys.toList.map S.get),[]⟩
  | i :: l=>iD (S.freeze (gW (i :: l))) fun S=>K S ⟨.fn f (xs.toList.map S.get) (ys.toList.map S.get),[]⟩
 | .binOp op t x y yt=>match S.get y with
  | .nils=>match S.get x with
   | .sl _ _ _ l=>match P.underlying t with
    | some (.slice _)=>qM op l fun v=>K S ⟨v,[]⟩
    | _=>False
   | .own id=>match S.row id with
    | .vec _ _ _ _ l=>match P.underlying t with
     | some (.slice _)=>qM op l fun v=>K S ⟨v,[]⟩
     | _=>False
    | _=>False
   | _=>fk P o.dst (.binOp op t x y yt) S.get S.row fun out _=>K S out
  | _=>fk P o.dst (.binOp op t x y yt) S.get S.row fun out _=>K S out
 | .call c=>match c.callee with
  | .value f=>match S.get f with
   | .fn (.func _) first A6=>(match F9 (first++c.args.toList.map S.get++A6)with
    | true=>fk P o.dst (.call c) S.get S.row fun out _=>K S out
    | false=>∃ frz:Bool,match frz with
     | false=>fk P o.dst (.call c) S.get S.row fun out _=>K S out
     | true=>iD (S.freeze (gW ((first++c.args.toList.map S.get++A6).flatMap (M3 4 S.row)))) fun S=>fk P o.dst (.call c) S.get S.row fun out _=>K S out)∨SL P c f S K
   | .fn (.yield l) [] []=>match S.row S.t.length with
    | .ctr l' xs k false=>(l=l'/\xs[k]? = some (c.args.toList.map S.get)/\ow (c.args.toList.map S.get)=true)/\K S ⟨.tt,[(S.t.length,.ctr l' xs (k+1) false)]⟩/\K S ⟨.ff,[(S.t.length,.ctr l' xs (k+1) true)]⟩
    | _=>False
   | _=>False
  | _=>fk P o.dst (.call c) S.get S.row fun out _=>K S out
 | op=>fk P o.dst op S.get S.row fun out _=>K S out
def Vj(P:Program)(o:Oper)(K:St->Out->Prop)(S:St):Prop :=
 match o.op with
 | .call c=>match c.callee with
  | .value f=>SL P c f S K
  | _=>False
 | _=>False
def zi(P:Program)(o:Oper)(S:St)(K:St->Out->Prop):Prop:=Vg iD P o S K (Vj P o K) (qN P o S K)
def lP:AV->AV
 | .nils => .sl 1 (0:Int) aR []
 | x=>x
def wD:List AV->Bool
 | []=>false
 | a :: l=>match a with
  | .nils=>true
  | _=>wD l
def Em:List AV->List Nat
 | []=>[]
 | a :: l=>match a with
  | .own i=>i :: Em l
  | _=>Em l
def TX(op:Op):Bool :=
 match op with
 | .call c=>match c.callee with
  | .builtin .append=>true
  | _=>false
 | _=>false
def En:List (List AV)->Bool
 | []=>false
 | cs :: l=>match wD cs with
  | true=>true
  | false=>En l
def Ct:List (List AV)->List (List AV)
 | []=>[]
 | cs :: l=>cs.map lP :: Ct l
def unN(o:Oper)(S:St):St :=
 match o.op with
 | .call c=>match c.args.toList with
  | [s,x]=>match S.get s,S.get x with
   | .own id,.own q=>match S.row id,S.row q with
    | .vec _ _ _ _ _,.lit ty sz [cs]=>match wD cs with
     | true=>⟨S.t,S.h.set q (.lit ty sz [cs.map lP]),S.n⟩
     | false=>match Em cs with
      | []=>S
      | i :: l=>S.freeze (gW (i :: l))
    | .vec _ _ _ _ _,.lit ty sz (cs :: Yr :: D5)=>match En (cs :: Yr :: D5)with
     | true=>⟨S.t,S.h.set q (.lit ty sz (Ct (cs :: Yr :: D5))),S.n⟩
     | false=>S
    | _,_=>S
   | _,_=>S
  | _=>S
 | _=>S
def Cu(P:Program)(o:Oper)(S:St)(K:St->Out->Prop):Prop :=
 match TX o.op with
 | true=>iD (unN o S) fun S=>zi P o S K
 | false=>zi P o S K
def TY(P:Program)(o:Oper)(S:St)(K:St->Out->Prop):Prop :=
 match X1 o.op with
 | true=>match o.dst with
  | some d=>match A8 S d with
   | true=>iD (S.kill d) fun S=>Cu P o S K
   | false=>False
  | none=>Cu P o S K
 | false=>Cu P o S K
def uA(all:List Oper)(k:Nat):Bool:=all.any fun o=>match o.guard with
 | some (j,_)=>Nat.beq j k
 | none=>false
def bQ(src:Bool)(out:Out)(K:Out->Prop):Prop :=
 match src with
 | true=>match out.v with
  | .bool b=>(b=true->K ⟨.tt,out.rows⟩)/\(b=false->K ⟨.ff,out.rows⟩)
  | _=>K out
 | false=>K out
def Vk:List AV->(List AV->Prop)->Prop
 | [],K=>K []
 | a :: l,K=>Vk l fun l=>K (a :: l)
theorem Cv:∀ (l:List AV) (K:List AV->Prop),Vk l K=K l
 | [],_=>rfl
 | a :: l,K=>by simp only[Vk];rw[Cv l]
def pG(S:St)(dst:Option Nat)(out:Out)(K:St->Prop):Prop :=
 match S with
 | ⟨St,Sh,Sn⟩=>match dst with
  | some d=>BP out.v fun v=>Vk (St.set d v) fun t=>match out.rows with
   | []=>K ⟨t,Sh,Sn⟩
   | r :: rs=>lu (u6 Sh (r :: rs)) fun h=>K ⟨t,h,Sn⟩
  | none=>match out.rows with
   | []=>K ⟨St,Sh,Sn⟩
   | r :: rs=>lu (u6 Sh (r :: rs)) fun h=>K ⟨St,h,Sn⟩
theorem jm(S:St)(dst:Option Nat)(out:Out)(K:St->Prop):pG S dst out K=K (S.put dst out):=by
 obtain⟨v,rows⟩:=out;obtain⟨St,Sh,Sn⟩:=S;cases dst with
 | none =>
  cases rows with
  | nil=>rfl
  | cons r rs=>simp only[pG];rw[U5];rfl
 | some d =>
  simp only[pG];rw[cX,Cv];cases rows with
  | nil=>rfl
  | cons r rs=>simp only[];rw[U5];rfl
def Cw(P:Program)(all:List Oper):List Oper->Nat->St->(St->Prop)->Prop
 | [],_,S,K=>K S
 | o :: l,k,S,K=>match gw all.toArray S o with
  | some true=>TY P o S fun S out=>bQ (uA all k) out fun out=>pG S o.dst out fun S=>Cw P all l (k+1) S K
  | some false=>pG S o.dst ⟨.tup [],[]⟩ fun S=>Cw P all l (k+1) S K
  | none=>False
def gj(P:Program)(all:List Oper):List Oper->Nat->St->List (List Nat×List Nat)->(St->Prop)->Prop
 | [],_,S,cI,K=>zg all cI=true/\K S
 | o :: l,k,S,cI,K=>match gw all.toArray S o with
  | some true=>Gd P o S.get S.row fun out rd=>bQ (uA all k) out fun out=>pG S o.dst out fun S=>gj P all l (k+1) S (cI++[(rd,out.rows.map (·.1))]) K
  | some false=>pG S o.dst ⟨.tup [],[]⟩ fun S=>gj P all l (k+1) S (cI++[([],[])]) K
  | none=>False
def cB(P:Program)(l:List Oper):List Nat:=l.filterMap fun o=>match cK P o with
 | true=>o.dst
 | false=>none
def uB(P:Program)(ops:Array Oper):Bool :=
 Region.lexFrom .any ops ops.size 0 (Array.replicate ops.size false) &&
 (List.range ops.size).all fun i=>match ops[i]? with
  | none=>true
  | some o => !cK P o || (List.range ops.size).all fun j=>Nat.beq i j || match ops[j]? with
   | none=>true
   | some o'=>match o.dst,o'.dst with
    | some d,some d' => !(Nat.beq d d')
    | _,_=>true
def jn(l:List Oper):Bool:=l.all fun o=>match o.op with
 | .defer _=>false
 | _=>true
inductive Ex
 | norm|ret
 | exit (id:Nat)
def Z9:Code->List Nat
 | .region _ ops _=>ops.toList.filterMap (·.dst)
 | .seq a b=>Z9 a++Z9 b
 | .cond _ a b=>Z9 a++Z9 b
 | .block _ a=>Z9 a
 | .loop a=>Z9 a
 | .scope a=>Z9 a
 | _=>[]
def Ys(i:Nat):List Nat->List AV->Option AV
 | w :: ws,v :: vs=>match Nat.beq i w with
  | true=>some v
  | false=>Ys i ws vs
 | _,_=>none
def WA(i:Nat):List Nat->List Row->Option Row
 | w :: ws,v :: vs=>match Nat.beq i w with
  | true=>some v
  | false=>WA i ws vs
 | _,_=>none
def SM:List Nat->(List Nat->Prop)->Prop
 | [],K=>K []
 | d :: l,K=>SM l fun l=>K (d :: l)
theorem kE:∀ (l:List Nat) (K:List Nat->Prop),SM l K=K l
 | [],_=>rfl
 | d :: l,K=>by simp only[SM];rw[kE l]
def PB(ds ws:List Nat)(P9:List AV)(vt:List Nat):Nat->List AV->List AV
 | _,[]=>[]
 | i,a :: l=>(match ig i vt with
  | true => .own i
  | false=>match Ys i ws P9 with
   | some v=>v
   | none=>match ig i ds with
    | true => .any
    | false=>a) :: PB ds ws P9 vt (i+1) l
def PD(ds bs:List Nat)(E9:List Row)(vt:List Nat)(I0:List Row):Nat->List Row->List Row
 | _,[]=>[]
 | i,a :: l=>(match WA i vt I0 with
  | some r=>r
  | none=>match WA i bs E9 with
   | some r=>r
   | none=>match ig i ds with
    | true => .none
    | false=>a) :: PD ds bs E9 vt I0 (i+1) l
def M5(ds:List Nat)(S:St)(ws bs:List Nat)(vs:List (Nat×VT))(P9:List AV)(E9 I0:List Row):St :=
 ⟨PB ds ws P9 (vs.map (·.1)) 0 S.t,PD ds bs E9 (vs.map (·.1)) I0 0 S.h,S.n⟩
def gp(ds:List Nat)(S0:St)(ws bs:List Nat)(vs:List (Nat×VT))(S:St)(K:List AV->List Row->List Row->Prop):Prop :=
 iD (canonV vs S) fun S=>fL (ws.map fun i=>S.t.getD i .any) fun P9=>lu (bs.map S.row) fun E9=>lu (vs.map fun v=>S.row v.1) fun I0 =>
  K P9 E9 I0/\jY (M5 ds S0 ws bs vs P9 E9 I0).t S.t=some (M5 ds S0 ws bs vs P9 E9 I0).t /\
   gV (M5 ds S0 ws bs vs P9 E9 I0).h S.h=some (M5 ds S0 ws bs vs P9 E9 I0).h
def Nb(f:St->(Ex->St->Prop)->Prop):Nat->St->(Ex->St->Prop)->Prop
 | 0,_,_=>False
 | n+1,S,Q=>f S fun e S=>match e with
  | .norm=>Nb f n S Q
  | e=>Q e S
def dR:List AV->List Nat->List AV->List AV
 | t,p :: ps,x :: xs=>dR (t.set p x) ps xs
 | t,_,_=>t
def SQ(P:Program)(gf:FuncId)(A6:List AV)(xs:List (List AV)):Prop :=
 ∀ (F:Nat->Prop) (w:World) (us:Array Value) (l:Nat) (J:Nat->Bool->(Nat->Prop)->World->Prop),(∀ b,F b->b<w.heap.size)->us.size=A6.length->(∀ i,i<A6.length->v7 F w (A6.getD i .any) (us.getD i undef)) ->
  (∀ k e O w w',J k e O w->(∀ b,b<w.heap.size->¬ O b->w'.heap[b]? = w.heap[b]?)->w'.os=w.os->w'.tape=w.tape->w'.output=w.output->w.heap.size<=w'.heap.size->J k e (fun b=>O b∨(w.heap.size<=b/\b<w'.heap.size)) w') ->
  (∀ k O W vs x,J k false O W->xs[k]? = some x->(∀ b,O b->b<W.heap.size)->vs.size=x.length->(∀ i,i<x.length->v7 (fun _=>False) W (x.getD i .any) (vs.getD i undef)) ->
   YieldAt Fence.wide 0 P l vs W fun e W'=>W'.os=W.os/\W'.tape=W.tape/\W'.output=W.output/\W.heap.size<=W'.heap.size/\(∀ b,O b->W'.heap[b]? = W.heap[b]?)/\C5 F W W' /\
    ((e = .returned (.bool true)/\J (k+1) false O W')∨(e = .returned (.bool false)/\J (k+1) true O W'))) ->
  J 0 false (fun _=>False) w ->
  (∀ args W,(callFunc gf args).run P W = .ok (.enter gf args) W)/\CallsIn Fence.wide 0 P gf (#[.func (.yield l) #[] #[]]++us) w fun e W'=>(∃ v,e = .returned v)/\W'.os=w.os/\W'.tape=w.tape/\W'.output=w.output/\w.heap.size<=W'.heap.size /\
   ∃ O k e',J k e' O W'/\(e'=false->k=xs.length)
noncomputable def Qu (ops:List Oper) (d:Nat):Option (TypeId×Operand) :=
 List.rec (motive:=fun _=>Option (TypeId×Operand)) none (fun o _ ih=>match o.op with
  | .load ty x=>match o.dst with
   | some e=>match Nat.beq e d with
    | true=>some (ty,x)
    | false=>ih
   | none=>ih
  | _=>ih) ops
noncomputable def Jl (P:Program) (S:St) (ops:List Oper):List Nat :=
 List.rec (motive:=fun _=>List Nat) [] (fun o _ ih=>match o.op with
  | .call c=>match c.callee with
   | .value _=>match c.args.toList with
    | [.tmp d]=>match P.underlying o.type with
     | some (.struct _)=>match Qu ops d with
      | some (ty,x)=>match Nat.beq ty o.type with
       | true=>match S.get x with
        | .ptr id _ _ _=>match S.row id with
         | .cells _ cs=>Em cs
         | _=>ih
        | _=>ih
       | false=>ih
      | none=>ih
     | _=>ih
    | _=>ih
   | _=>ih
  | _=>ih) ops
noncomputable def preF (P:Program) (S:St) (ops:List Oper):St:=S.frz (Jl P S ops)
def ex(P:Program):Code->St->(Ex->St->Prop)->Prop
 | .skip,S,Q=>Q .norm S
 | .label _,S,Q=>Q .norm S
 | .scope c,S,Q=>ex P c S Q
 | .region _ ops draw,S,Q=>match draw with
  | false=>Cw P ops.toList ops.toList 0 S fun S=>iD S (Q .norm)
  | true=>iD (preF P S ops.toList) fun S=>(uB P ops && (cB P ops.toList).all (A8 S) && jn ops.toList)=true/\iD (S.kills (cB P ops.toList)) fun S=>gj P ops.toList ops.toList 0 S [] fun S=>iD S (Q .norm)
 | .seq a b,S,Q=>ex P a S fun e S=>match e with
  | .norm=>ex P b S Q
  | e=>Q e S
 | .cond c a b,S,Q=>match S.get c with
  | .tt=>ex P a S Q
  | .ff=>ex P b S Q
  | .bool x=>(x=true->ex P a S Q)/\(x=false->ex P b S Q)
  | _=>False
 | .block id c,S,Q=>ex P c S fun e S=>match e with
  | .exit i=>match Nat.beq i id with
   | true=>Q .norm S
   | false=>Q (.exit i) S
  | e=>Q e S
 | .loop c,S,Q=>(∃ n,Nb (ex P c) n S Q) ∨
   ∃ (ι:Type) (ws bs:List Nat) (vs:List (Nat×VT)) (V:ι->List AV) (BR VR:ι->List Row) (μ:ι->Nat) (I:ι->Prop),SM (Z9 c) fun ds=>iD (canonV vs S) fun S0 =>
    (∃ i,gp ds S0 ws bs vs S fun P9 E9 I0=>I i/\P9=V i/\E9=BR i/\I0=VR i) /\
    ∀ i,I i->iD (M5 ds S0 ws bs vs (V i) (BR i) (VR i)) fun S1=>ex P c S1 fun e S2=>match e with
     | .norm=>∃ i',gp ds S0 ws bs vs S2 fun P9 E9 I0=>(μ i' < μ i/\I i')/\P9=V i'/\E9=BR i'/\I0=VR i'
     | e=>Q e S2
 | .rangeFunc g ps assign body,S,Q=>match S.n with
  | .round _=>False
  | .iter=>False
  | .plain=>match S.get g with
   | .fn (.func gf) [] A6=>F9 A6=true /\
    ∃ (xs:List (List AV)) (bs:List Nat) (BR:Nat->List Row) (I:Nat->Prop),(SQ P gf A6 xs/\∀ x ∈ xs,ow x=true/\x.length=ps.size) /\
     SM (ps.toList++(Z9 assign++Z9 body)) fun ds=>ds.all (A8 S)=true /\
      (gp ds S [] bs [] S fun P9 E9 I0=>I 0/\P9=[]/\E9=BR 0/\I0=[]) /\
      (∀ k x,I k->xs[k]? = some x->iD ((M5 ds S [] bs [] [] (BR k) []).kills ds) fun S1=>iD ⟨dR S1.t ps.toList x,S1.h,.round ds⟩ fun S2 =>
       ex P assign S2 fun e S3=>match e with
        | .norm=>ex P body S3 fun e S4=>match e with
         | .norm=>lu (bs.map S4.row) fun E9=>(I (k+1)/\E9=BR (k+1))/\gV ((M5 ds S [] bs [] [] E9 []).kills ds).h S4.h=some ((M5 ds S [] bs [] [] E9 []).kills ds).h
         | e=>Q e ⟨S1.t,S4.h,.plain⟩
        | _=>False) /\
      (I xs.length->iD ((M5 ds S [] bs [] [] (BR xs.length) []).kills ds) (Q .norm))
   | _=>False
 | .ret,S,Q=>Q .ret S
 | .exit id,S,Q=>Q (.exit id) S
 | _,_,_=>False
def cJ(P:Program)(S:St):List ResultVar->Option (List AV)
 | []=>some []
 | .tmp t :: l=>match cJ P S l with
  | some r=>some (D6 4 S.row (S.t.getD t .any) :: r)
  | none=>none
 | .cell x t :: l=>match cJ P S l with
  | none=>none
  | some r=>match P.info? t,P.underlying t with
   | some i,some d=>match S.t.getD x .any with
    | .ptr id sz j off=>match S.row id with
     | .cells _ cs=>match jT (aw d) i.size cs (j*sz+off)with
      | some v=>some (D6 4 S.row v :: r)
      | none=>none
     | _=>none
    | _=>none
   | _,_=>none
def AV.fin1:AV->AV
 | .tt => .bool true
 | .ff => .bool false
 | x=>x
def AV.fin:AV->AV
 | .tt => .bool true
 | .ff => .bool false
 | .tup l => .tup (l.map AV.fin1)
 | x=>x
def dS:List AV->AV
 | [x]=>x
 | l => .tup l
def body(P:Program)(fn:Func)(args:List AV)(res:AV):Prop :=
 match fn.body with
 | none=>False
 | some c=>iD ⟨args++List.replicate (fn.ntmps-args.length) .any,List.replicate fn.ntmps .none,.plain⟩ fun S=>ex P c S fun e S=>match e with
  | .exit _=>False
  | _=>match cJ P S fn.results.toList with
   | some l=>BP (dS l).fin fun v=>v=res
   | none=>False
def bh(P:Program)(S:St):List ResultVar->Option (List AV)
 | []=>some []
 | .tmp t :: l=>match bh P S l with
  | some r=>some (S.t.getD t .any :: r)
  | none=>none
 | .cell x t :: l=>match bh P S l with
  | none=>none
  | some r=>match P.info? t,P.underlying t with
   | some i,some d=>match S.t.getD x .any with
    | .ptr id sz j off=>match S.row id with
     | .cells _ cs=>match jT (aw d) i.size cs (j*sz+off)with
      | some v=>some (v :: r)
      | none=>none
     | _=>none
    | _=>none
   | _,_=>none
def Eo(P:Program)(fn:Func)(args:List AV)(ins:List Row)(res:AV)(n7:List Row):Prop :=
 match fn.body with
 | none=>False
 | some c=>(Z0 ins.length args && ins.all (fun r=>E4 ins.length r && r.live) && Nat.ble args.length fn.ntmps)=true /\
  iD ⟨aX (List.range' fn.ntmps ins.length) args++List.replicate (fn.ntmps-args.length) .any,List.replicate fn.ntmps .none++ins.map (C1 (List.range' fn.ntmps ins.length)),.plain⟩ fun S=>ex P c S fun e S=>match e with
  | .exit _=>False
  | _=>match bh P S fn.results.toList with
   | some l=>∃ news:List Nat,(di (List.range' fn.ntmps ins.length++news) && Nat.beq n7.length (List.range' fn.ntmps ins.length++news).length && res.under n7.length && n7.all (E4 n7.length))=true /\
     BP (dS l).fin fun v=>v=res.ren (List.range' fn.ntmps ins.length++news)/\(List.range' fn.ntmps ins.length++news).map S.row=n7.map (C1 (List.range' fn.ntmps ins.length++news))
   | none=>False
def Ep(P:Program)(fn:Func)(A6:List AV)(xs:List (List AV)):Prop :=
 match fn.body with
 | none=>False
 | some c=>Nat.ble (A6.length+1) fn.ntmps=true/\∀ l:Nat,iD ⟨(.fn (.yield l) [] [] :: A6)++List.replicate (fn.ntmps-(A6.length+1)) .any,List.replicate fn.ntmps .none++[.ctr l xs 0 false],.iter⟩ fun S=>ex P c S fun e S=>match e with
  | .exit _=>False
  | _=>match cJ P S fn.results.toList with
   | some _=>match S.row S.t.length with
    | .ctr _ _ k e'=>e'=false->k=xs.length
    | _=>False
   | none=>False
/- Why the executor is right. A helper text: it speaks of no program. -/
section
variable {P:Program}{B:Nat->Prop}{w0:World}{F0:Env P}{S:St}{β:Nat->Option Hd}{F:Nat->Prop}{a:Act}{w:World}{ops:Array Oper}
theorem F2(hR:Rel B w0 F0 S β F a w){o:Oper}(B3:X1 o.op=true->∀ d,o.dst=some d->β d=none){K:St->Out->Prop}(h:fk P o.dst o.op S.get S.row fun out _=>K S out){Q:Exit->Act->World->Prop} :
  o.wp P a w (R6 B w0 F0 o.dst K) Q:=by
 refine Oper.wp_mono ?_ (Eh hR B3 h);rintro a' w' ⟨out,rd,hK,β',F',_,O5⟩;exact⟨S,out,hK,β',F',O5⟩
theorem IB(hR:Rel B w0 F0 S β F a w){o:Oper}{op:BinOp}{t yt:TypeId}{x y:Operand}(ho:o.op = .binOp op t x y yt){e:TypeId}(hu:P.underlying t=some (.slice e)){α:Type}{l:List α}
  (hy:S.get y = .nils) (hx:∃ p n c,a.eval x = .slice p n c/\(p=none->l=[])) {K:St->Out->Prop} (h:qM op l fun v=>K S ⟨v,[]⟩) {Q:Exit->Act->World->Prop}:o.wp P a w (R6 B w0 F0 o.dst K) Q:=by
 obtain⟨p,n,c,hv,hp⟩:=hx;have IQ:=hR.get y;rw[hy]at IQ;have VJ:=IQ.nils_inv;have heq:(Op.equal t (.slice p n c) (.slice none 0 0)).run P w = .ok p.isNone w:=by
  cases p with
  | none=>exact fc hu none n c 0 0
  | some q=>exact fW hu q n c
 have hK:=P6 (h p.isNone (fun hb=>hp (by cases p<;>simp_all)));obtain⟨r,v,h1,h2,h3⟩:=eD (β:=β) (F:=F) (K:=fun v=>K S ⟨v,[]⟩) x y heq ⟨nofun,nofun,nofun,nofun⟩ (H3 op t x y nofun nofun) (.imm (.bool _)) (.imm (.bool _)) hK;refine K5 (s:=do eqGuard op t x y (.slice p n c) (.slice none 0 0);binOp op t (.slice p n c) (.slice none 0 0)) (by simp[execOp,ho,hv,VJ]) h1 ?_;exact⟨S,_,h3,β,F,hR.still h2⟩
abbrev FW(r:Option Nat):Fence:={ Fence.wide with round:=r }
theorem Cx{r:Option Nat}{f:FuncId}{vs:Array Value}{R:Ending->World->Prop}(h:Calls P f vs w R):CallsIn (FW r) 0 P f vs w R:=callsIn_wide.2 h
theorem U0{r:Option Nat}{o:Oper}{next:Act->World->Prop}{Q:Exit->Act->World->Prop}(hd:∀ c,o.op ≠ .defer c)(h:o.wp P a w next Q):o.wpIn (FW r) 0 P a w next Q:=by
 refine⟨fun _ _=>trivial,?_⟩;rw[Oper.semAt_eq _ _ _ hd];unfold Oper.wp at h;generalize (execOp a.eval o).run P w=res at h ⊢;have Er:∀ {p:Prop},(FW r).depth.isSome=true->p:=fun h=>by cases h
 cases res with
 | ok x w' =>
  cases x<;>first
   | exact h
   | exact h.elim
   | exact⟨Er,Cx h⟩
   | exact⟨Er,fun c cs _=>let ⟨v,w',r,s⟩:=h c cs;⟨v,w',r,stepsIn_wide.2 s⟩⟩
 | halt x w'=>cases x<;>first|exact h|exact h.elim
theorem zj(hR:Rel B w0 F0 S β F a w){o:Oper}{c:Call}{f:Operand}(ho:o.op = .call c)(hb:c.callee = .value f){fX:FuncId}{first A6:List AV}(hg:S.get f = .fn (.func fX) first A6) :
  ∃ V:Array Value,execOp a.eval o=callFunc fX V/\V.size=(first++c.args.toList.map S.get++A6).length/\∀ i,i<(first++c.args.toList.map S.get++A6).length->B4 β F w ((first++c.args.toList.map S.get++A6).getD i .any) (V.getD i undef):=by
 have hf:=hR.get f;rw[hg]at hf;obtain⟨vs,us,hv,l1,l2,r1,r2⟩:=hf.fn_inv;obtain⟨l3,r3⟩:=L0 hR c.args;refine⟨vs++c.args.map a.eval++us,?_,by simp[l1,l2],fun i hi=>?_⟩
 ·simp only[execOp,ho,resolve,hb,hv,Deferred.ofValue];rfl
 ·by_cases h1:i<first.length
  ·have e1:(first++c.args.toList.map S.get++A6).getD i .any=first.getD i .any:=by simp[List.getD,List.getElem?_append,h1]
   have e2:(vs++c.args.map a.eval++us).getD i undef=vs.getD i undef:=by
    have:i<vs.size:=by omega
    simp[Array.getD_eq_getD_getElem?,Array.getElem?_append,this]
   rw[e1,e2];exact r1 i h1
  ·by_cases h2:i<first.length+(c.args.toList.map S.get).length
   ·have e1:(first++c.args.toList.map S.get++A6).getD i .any=(c.args.toList.map S.get).getD (i-first.length) .any:=by
     simp only[List.getD,List.append_assoc];rw[List.getElem?_append_right va5,List.getElem?_append_left va5]
    have e2:(vs++c.args.map a.eval++us).getD i undef=(c.args.map a.eval).getD (i-first.length) undef:=by
     simp only[Array.getD_eq_getD_getElem?,Array.append_assoc];rw[Array.getElem?_append_right va5,Array.getElem?_append_left (by rw[<- l1,<- l3];omega),l1]
    rw[e1,e2];exact r3 _ va5
   ·have e1:(first++c.args.toList.map S.get++A6).getD i .any=A6.getD (i-first.length-(c.args.toList.map S.get).length) .any:=by
     simp only[List.getD,List.append_assoc];rw[List.getElem?_append_right va5,List.getElem?_append_right va5]
    have e2:(vs++c.args.map a.eval++us).getD i undef=us.getD (i-first.length-(c.args.toList.map S.get).length) undef:=by
     simp only[Array.getD_eq_getD_getElem?,Array.append_assoc];rw[Array.getElem?_append_right va5,Array.getElem?_append_right (by rw[<- l1,<- l3];omega),l1,l3]
    rw[e1,e2];exact r2 _ (by simp only[List.length_append]at hi;omega)
theorem gv:∀ {l:List Nat},di l=true->l.Nodup
 | [],_ => .nil
 | a :: l,h=>by
  have hm:∀ {m:List Nat},ig a m=false->a ∉ m:=by
   intro m
   induction m with
   | nil=>intro _;simp
   | cons d m ih =>
    intro h;simp only[ig]at h;cases hb:Nat.beq a d with
    | true=>simp[hb]at h
    | false =>
     simp only[hb]at h;have:=Nat.ne_of_beq_eq_false hb;simp[this,ih h]
  simp only[di]at h;cases hh:ig a l with
  | true=>simp[hh]at h
  | false=>simp only[hh]at h;exact List.nodup_cons.2 ⟨hm hh,gv h⟩
theorem qO{a:Nat}:∀ {m:List Nat},ig a m=true↔a ∈ m
 | []=>by simp[ig]
 | d :: m=>by
  simp only[ig,List.mem_cons];cases hb:Nat.beq a d with
  | true=>have:=zA8 hb;simp[this]
  | false =>
   have:=Nat.ne_of_beq_eq_false hb;simp[this,qO (m:=m)]
theorem qP(hR:Rel B w0 F0 S β F a w){o:Oper}{c:Call}{f:Operand}(ho:o.op = .call c)(hb:c.callee = .value f){fX:FuncId}{first A6:List AV}(hg:S.get f = .fn (.func fX) first A6){ids news:List Nat}(B3:∀ d ∈ news,β d=none)
  {N4:List AV} {ins n7:List Row} {res:AV} (Qv:PW P fX N4 ins res n7) (R0:first++c.args.toList.map S.get++A6=aX ids N4) (qQ:ids.map S.row=ins.map (C1 ids)) (SN:wB ids news N4 ins n7 res=true) {Q:Exit->Act->World->Prop} :
  o.wp P a w (fun a' w'=>∃ β' F',Rel B w0 F0 (S.put o.dst ⟨res.ren (ids++news),(ids++news).zip (n7.map (C1 (ids++news)))⟩) β' F' a' w'/\(∀ j,(j ∉ ids++news∨β j≠none)->β' j=β j)/\∀ k,k<ids.length->β (ids.getD k 0)≠none) Q:=by
 simp only[wB,zA2]at SN;obtain⟨⟨⟨⟨⟨⟨b1,b2⟩,b3⟩,b4⟩,b5⟩,b6⟩,b7⟩:=SN;have b2:=zA8 b2;have b3:=zA8 b3;obtain⟨V,hex,H5,L4⟩:=zj hR ho hb hg;rw[R0]at H5 L4;rw[u9]at H5 L4
 let βi:Nat->Option Hd:=fun k=>if k<ids.length then β (ids.getD k 0)else none
 have Gb:∀ k,k<ids.length->βi k=β (ids.getD k 0):=fun k hk=>by simp[βi,hk]
 have TH:∀ k,ids.length<=k->βi k=none:=fun k hk=>by simp[βi,Nat.not_lt.2 hk]
 have C2:∀ k,k<ids.length->S.row (ids.getD k 0)=C1 ids (ins.getD k .none):=fun k hk=>by
  have:(ids.map S.row).getD k .none=(ins.map (C1 ids)).getD k .none:=by rw[qQ]
  simpa[List.getD,List.getElem?_map,hk,b2 ▸ hk]using this
 have hu:∀ k,k<ids.length->E4 ids.length (ins.getD k .none)=true/\ins.getD k .none ≠ .none:=fun k hk=>by
  have hm:ins.getD k .none ∈ ins:=by simp[List.getD,b2 ▸ hk]
  have:=List.all_eq_true.1 b5 _ hm;simp only[zA2]at this;exact⟨this.1,fun e=>by rw[e]at this;simp[Row.live]at this⟩
 have C0:∀ k,k<ids.length->S.row (ids.getD k 0) ≠ .none:=fun k hk e=>by
  rw[C2 k hk,O8]at e;exact(hu k hk).2 e
 have TZ:∀ k,ids.length<=k->ins.getD k .none = .none:=fun k hk=>by simp[List.getD,zA7 (b2 ▸ hk)]
 have lE:∀ k b,y0 βi k b->k<ids.length/\y0 β (ids.getD k 0) b:=fun k b hk=>by
  by_cases A2:k<ids.length
  ·exact⟨A2,by simpa[y0,Gb k A2]using hk⟩
  ·simp[y0,TH k (Nat.le_of_not_lt A2)]at hk
 have dc:=gv b1;have Ua:∀ i j,i<ids.length->j<ids.length->ids.getD i 0=ids.getD j 0->i=j:=fun i j hi hj e=>by
  have e':ids[i]=ids[j]:=by simpa[List.getD,hi,hj]using e
  have hp:=List.pairwise_iff_getElem.1 (List.nodup_append.1 dc).1;rcases Nat.lt_trichotomy i j with A2|rfl|tv
  ·exact absurd e' (hp i j hi hj A2)
  ·rfl
  ·exact absurd e'.symm (hp j i hj hi tv)
 have O0:yW βi F w ins:={
  rows:=fun k=>by
   by_cases A2:k<ids.length
   ·have:=hR.rows (ids.getD k 0);rw[C2 k A2]at this;exact gh Gb A2 (hu k A2).1 this
   ·rw[TZ k (Nat.le_of_not_lt A2)];trivial
  inj:=fun i j b _ _ B9 U4=>by
   obtain⟨l1,k1⟩:=lE i b B9;obtain⟨l2,k2⟩:=lE j b U4;exact Ua i j l1 l2 (hR.inj _ _ b (C0 i l1) (C0 j l2) k1 k2)
  bF:=fun i b _ B9=>by
   obtain⟨l1,k1⟩:=lE i b B9;exact hR.bF _ b (C0 i l1) k1
  bB:=fun i b B9=>(hR.bB _ b (lE i b B9).2).2
  dead:=fun i hi=>by
   by_cases A2:i<ids.length
   ·exact absurd hi (hu i A2).2
   ·exact TH i (Nat.le_of_not_lt A2) }
 obtain⟨h1,h2⟩:=Qv F w V βi (fun b hb=>(hR.FB b hb).1) H5 (fun i hi=>(L4 i hi).unren Gb (E8 b4 i) (by rw[D7])) O0;unfold Oper.wp;rw[hex,h1];refine h2.mono ?_;rintro e w' ⟨v,β',F',rfl,g1,g2,g3,g4,g5,g6,g7,g8,g9⟩;obtain⟨β'',Je,iy,tD⟩:=hR.calledW (dst:=o.dst) dc B3 (fun k hk=>⟨Gb k hk,C0 k hk⟩) TH g1 g2 g3 g4 g5 b6 g6 (fun k=>by
  by_cases hk:k<n7.length
  ·exact List.all_eq_true.1 b7 _ (by simp[List.getD,hk])
  ·simp[List.getD,zA7 (Nat.le_of_not_lt hk),E4]) b3 g7 g8 g9
 exact⟨β'',Je,iy,tD,fun k hk=>by
  obtain⟨hd,h⟩:=(hR.rows (ids.getD k 0)).some (C0 k hk)
  rw[h];simp⟩
theorem wE(hR:Rel B w0 F0 S β F a w){o:Oper}{c:Call}{f:Operand}(ho:o.op = .call c)(hb:c.callee = .value f){K:St->Out->Prop}(h:SL P c f S K){Q:Exit->Act->World->Prop} :
  o.wp P a w (R6 B w0 F0 o.dst K) Q:=by
 obtain⟨frz,news,V0,h⟩:=h;rw[B5]at h;obtain⟨S1,F1,Vi,jK,ZG⟩:∃ S1 F1,S1=S.frz frz/\Rel B w0 F0 S1 β F1 a w/\∀ d,A8 S d=true->F0.β d=none:=by
  cases frz with
  | nil=>exact⟨_,F,rfl,hR,hR.topn⟩
  | cons i l =>
   obtain⟨F',O5⟩:=hR.freeze (gW (i :: l));exact⟨_,F',rfl,O5,hR.topn⟩
 rw[<- Vi]at h;obtain⟨β2,B3,_,lI⟩:=jK.kills news (fun d hd=>ZG d (List.all_eq_true.1 V0 d hd));generalize S1.kills news=S2 at h lI;split at h
 ·rename_i fX first A6 hg
  obtain⟨ids,N4,ins,n7,res,⟨Qv,R0,qQ,SN⟩,hK⟩:=h;refine Oper.wp_mono ?_ (qP lI ho hb hg B3 Qv R0 qQ SN);rintro a' w' ⟨β'',Je,iy,_⟩;exact⟨_,_,hK,β'',Je,iy⟩
 ·exact h.elim
theorem Yl.snd{o:Oper}{out:Out}{rd:List Nat}(hy:Yl P o S out rd)(hR:Rel B w0 F0 S β F a w)(B3:cK P o=true->∀ d,o.dst=some d->β d=none){Q:Exit->Act->World->Prop} :
  o.wp P a w (fun a' w'=>∃ β' F',(∀ j,o.dst≠some j->β' j=β j)/\Rel B w0 F0 (S.put o.dst out) β' F' a' w') Q:=by
 obtain⟨v0,hf,hy⟩:=hy;have h:=hy S (fun _ _=>rfl) (fun _ _=>rfl);have El:X1 o.op=true->∀ d,o.dst=some d->β d=none:=fun ha=>B3 (by simp[cK,ha])
 have hE:fk P o.dst o.op S.get S.row (fun o' d=>o'=⟨v0,out.rows⟩/\d=rd)->o.wp P a w (fun a' w'=>∃ β' F',(∀ j,o.dst≠some j->β' j=β j)/\Rel B w0 F0 (S.put o.dst out) β' F' a' w') Q:=fun h=>by
  refine Oper.wp_mono ?_ (Eh hR El h);rintro a' w' ⟨ZH,rd',⟨rfl,h3⟩,β',F',h4,h5⟩;exact⟨β',F',h4,h5.fine hf⟩
 unfold Gd at h;split at h
 ·rcases h with h|h
  ·exact hE h
  ·unfold Jk at h;split at h
   ·rename_i c ho;split at h
    ·rename_i f hb;split at h
     ·rename_i fX first A6 hg
      obtain⟨nw,ids,N4,ins,n7,res,⟨Qv,R0,qQ,SN⟩,tn,_⟩:=h;have V0:∀ d ∈ kD nw (dQ P o) o.dst,o.dst=some d/\dQ P o=true:=fun d hd=>by
       unfold kD at hd;split at hd
       ·split at hd
        ·rename_i yK;split at hd
         ·rename_i d' hd';obtain rfl:=List.mem_singleton.1 hd;exact⟨hd',yK⟩
         ·cases hd
        ·cases hd
       ·cases hd
      refine Oper.wp_mono ?_ (qP hR ho hb hg (fun d hd=>B3 (by simp[cK,(V0 d hd).2]) d (V0 d hd).1) Qv R0 qQ SN);rintro a' w' ⟨β'',Je,iy,tD,C0⟩;refine⟨β'',Je,fun j hj=>tD j ?_,?_⟩
      ·by_cases hm:j ∈ ids++kD nw (dQ P o) o.dst
       ·rcases List.mem_append.1 hm with hm|hm
        ·right
         obtain⟨k,hk,e⟩:=List.getElem_of_mem hm;have:=C0 k hk;simpa[List.getD,hk,e]using this
        ·exact absurd (V0 j hm).1 hj
       ·exact .inl hm
      ·have oQ:Rel B w0 F0 (S.put o.dst ⟨v0,out.rows⟩) β'' Je a' w':=by
        rw[<- tn];exact iy
       exact oQ.fine hf
     ·exact h.elim
    ·exact h.elim
   ·exact h.elim
 ·split at h
  ·rename_i hn;rcases h with h|h
   ·exact hE h
   ·unfold Ji at h;split at h
    ·rename_i c ho;split at h
     ·rename_i f hb;split at h
      ·rename_i fX first A6 hg
       split at h
       ·rename_i d hd;obtain⟨row,⟨Qv,Y7,C2⟩,tn,_⟩:=h;obtain⟨V,hex,H5,L4⟩:=zj hR ho hb hg;have O0:yW (fun _=>none) F w []:={
         rows:=fun k=>by simp[A3]
         inj:=fun i j b hi _ _ _=>absurd rfl hi
         bF:=fun i b hi _=>absurd rfl hi
         bB:=fun i b h=>by simp[y0]at h
         dead:=fun _ _=>rfl }
        obtain⟨h1,h2⟩:=Qv F w V (fun _=>none) (fun b hb=>(hR.FB b hb).1) H5 (fun i hi => .imm ((L4 i hi).shut (G5 Y7 i))) O0;unfold Oper.wp;rw[hex,h1];refine h2.mono ?_;rintro e w' ⟨v,β',F',rfl,g1,g2,g3,g4,g5,g6,g7,g8,g9⟩;have hu:∀ n,E4 n row=true:=fun n=>by cases row<;>first|rfl|(simp[Jh]at C2)
        have WB:∀ ids,C1 ids row=row:=fun ids=>by cases row<;>first|rfl|(simp[Jh]at C2)
        obtain⟨β'',Je,iy,tD⟩:=hR.calledW (ids:=[]) (news:=[d]) (dst:=o.dst) va9 (by intro d' hd'; simp at hd'; subst hd'; exact B3 (by simp[cK,hn]) _ hd) (fun k hk=>absurd hk (zB3 k)) (fun _ _=>rfl) g1 g2 g3 g4 g5 rfl g6 (fun k=>by
         rcases k with _|k
         ·exact hu _
         ·rfl) rfl g7 g8 g9
        refine⟨β'',Je,fun j hj=>tD j (.inl (by simp;rintro rfl;exact hj hd)),?_⟩;have oQ:Rel B w0 F0 (S.put o.dst ⟨v0,out.rows⟩) β'' Je (a.put o.dst v) w':=by
         rw[<- tn];simpa[AV.ren,WB]using iy
        exact oQ.fine hf
       ·exact h.elim
      ·exact h.elim
     ·exact h.elim
    ·exact h.elim
  ·exact hE h
theorem wF{o:Oper}{K:St->Out->Prop}(h:qN P o S K):∀ c,o.op ≠ .defer c:=by
 intro c e;unfold qN at h;rw[e]at h;exact h
theorem Rel.yielded(hR:Rel B w0 F0 S β F a w){id l:Nat}{xs:List (List AV)}{k:Nat}(C2:S.row id = .ctr l xs k false){O:Nat->Prop}(WC:∀ b,O b->b<w.heap.size)(C0:∀ i b,S.row i ≠ .none->y0 β i b->O b)(Yt:∀ b,F b->F0.F b∨O b)
  (hm:∀ D,P5 D ∈ a.defers->O D) (Ub:∀ oF l' yx k' e',S.row oF = .ctr l' yx k' e'->oF=id) (hl:l=F0.l) (hx:xs=F0.xs) (hB:∀ b,B b) (hr:F0.r=none) {w':World} (kq:w'.os=w.os/\w'.tape=w.tape/\w'.output=w.output) (av:w.heap.size<=w'.heap.size)
  (hO:∀ b,O b->w'.heap[b]? = w.heap[b]?) (Uc:C5 F0.F w w') {e:Bool} (hJ:F0.J (k+1) e O w'):Rel B w0 F0 ⟨S.t,S.h.set id (.ctr l xs (k+1) e),S.n⟩ β F a w':=by
 have hk:C5 F w w':=fun b o u hb I5=>by
  rcases Yt b hb with h|h
  ·exact Uc b o u h I5
  ·rw[World.cell?_of_block (w:=w) (hO b h)];exact I5
 have Nc:∀ j,(St.row ⟨S.t,S.h.set id (.ctr l xs (k+1) e),S.n⟩ j)=if id=j/\id<S.h.length then .ctr l xs (k+1) e else S.row j:=fun j=>s9 _ _ _ _
 have lv:∀ j,(St.row ⟨S.t,S.h.set id (.ctr l xs (k+1) e),S.n⟩ j) ≠ .none->S.row j ≠ .none:=fun j hj=>by
  rw[Nc]at hj;split at hj
  ·rename_i hc;rw[<- hc.1,C2];simp
  ·exact hj
 exact {
  len:=hR.len
  slots:=fun i hi=>(hR.slots i hi).grow (fun _ _=>rfl) (fun _ h=>h) hk
  marks:=by
   obtain⟨Ds,⟨h1,h0⟩,h2,h3⟩:=hR.marks;refine⟨Ds,⟨h1,h0⟩,h2,fun D hD=>⟨?_,(h3 D hD).2⟩⟩;have Es:P5 D ∈ a.defers:=by rw[h1];exact List.mem_map_of_mem hD
   rw[hO D (hm D Es)];exact(h3 D hD).1
  rows:=fun j=>by
   rw[Nc];split
   ·rename_i hc;have:=hR.rows id;rw[C2]at this;rw[<- hc.1];exact this
   ·by_cases hn:S.row j = .none
    ·rw[hn];trivial
    ·exact(hR.rows j).grow (fun _ _=>rfl) (fun _ h=>h) hk fun b hb=>hO b (C0 j b hn hb)
  inj:=fun i j b hi hj=>hR.inj i j b (lv i hi) (lv j hj)
  bF:=fun i b hi=>hR.bF i b (lv i hi)
  bB:=fun i b h=>⟨hB b,zB5 (hR.bB i b h).2 av⟩
  FB:=fun b h=>⟨zB5 (hR.FB b h).1 av,.inr (hB b)⟩
  below:=hR.below.trans ⟨kq.1,kq.2.1,kq.2.2,av,fun k Qw=>absurd (hB k) Qw⟩
  BW:=fun b h=>hB b
  top:=hR.top
  topn:=hR.topn
  nn:=hR.nn
  inc:=hR.inc
  keep:=fun b o u hb I5=>hk b o u (hR.inc b hb) (hR.keep b o u hb I5)
  sol:=fun hn=>absurd (F0.ni _ _ _ _ hJ) hn
  yl:=fun oF l' yx k' e' h=>by
   have un:∀ oF l' yx k' e',(St.row ⟨S.t,S.h.set id (.ctr l xs (k+1) e),S.n⟩ oF) = .ctr l' yx k' e'->oF=id:=fun oF l' yx k' e' h=>by
    rw[Nc]at h;split at h
    ·rename_i hc;exact hc.1.symm
    ·exact Ub _ _ _ _ _ h
   obtain rfl:=un _ _ _ _ _ h;rw[Nc,if_pos ⟨rfl,fV (by rw[C2];simp)⟩]at h;cases h
   exact⟨hl,hx,⟨hB,hr⟩,O,hJ,fun b hb=>zB5 (WC b hb) av,fun i b hi hb=>C0 i b (lv i hi) hb,Yt,hm,un⟩ }
theorem uC(hR:Rel B w0 F0 S β F a w){o:Oper}{c:Call}{f:Operand}(ho:o.op = .call c)(hb:c.callee = .value f){l:Nat}(hg:S.get f = .fn (.yield l) [] []){xs:List (List AV)}{k:Nat}(C2:S.row S.t.length = .ctr l xs k false)
  (hx:xs[k]? = some (c.args.toList.map S.get)) (IU:ow (c.args.toList.map S.get)=true) {K:St->Out->Prop} (h1:K S ⟨.tt,[(S.t.length,.ctr l xs (k+1) false)]⟩) (h2:K S ⟨.ff,[(S.t.length,.ctr l xs (k+1) true)]⟩) {Q:Exit->Act->World->Prop} :
  o.wpIn (FW F0.r) 0 P a w (R6 B w0 F0 o.dst K) Q:=by
 obtain⟨hl,SO,⟨hB,hr⟩,O,g1,g2,g3,g4,g5,g6⟩:=hR.yl _ _ _ _ _ C2;have hf:=hR.get f;rw[hg]at hf;obtain⟨vs,us,hv,l1,l2,_,_⟩:=hf.fn_inv;obtain rfl:vs=#[]:=Array.eq_empty_of_size_eq_zero l1.symm;obtain rfl:us=#[]:=Array.eq_empty_of_size_eq_zero l2.symm;obtain⟨l3,r3⟩:=L0 hR c.args;have hex:execOp a.eval o=Instr.yield l (c.args.map a.eval):=by
  simp only[execOp,ho,resolve,hb,hv,Deferred.ofValue];simp[invoke]
 have Y7:∀ i,((c.args.toList.map S.get).getD i .any).flat=true:=P4 IU;have Cy:∀ {x:AV} {v:Value},B4 β F w x v->x.flat=true->v7 (fun _=>False) w x v:=by
  intro x v h
  induction h with
  | imm h=>intro hx;exact h.lift hx
  | ptr=>intro hx;simp[AV.flat]at hx
  | own=>intro hx;simp[AV.flat]at hx
  | mem=>intro hx;simp[AV.flat]at hx
  | mptr=>intro hx;simp[AV.flat]at hx
  | agg hl _ ih=>intro hx;exact .agg hl fun i hi=>ih i hi (P4 (by simpa[AV.flat]using hx) i)
  | tup hl _ ih=>intro hx;exact .tup hl fun i hi=>ih i hi (P4 (by simpa[AV.flat]using hx) i)
  | fn hl _ hm _ ih ik =>
   intro hx;simp[AV.flat]at hx;exact .fn hl (fun i hi=>ih i hi (P4 hx.1 i)) hm (fun i hi=>ik i hi (P4 hx.2 i))
 obtain⟨fn,tmps,assign,body,hy,wG⟩:=F0.rd k O w (c.args.map a.eval) _ g1 (SO ▸ hx) g2 l3.symm (fun i hi=>Cy (r3 i hi) (Y7 i));rw[<- hl]at hy wG;refine⟨fun _ _=>trivial,?_⟩;rw[Oper.semAt_eq _ _ _ (fun d e=>by rw[ho]at e;cases e),hex,hy];refine⟨fun h=>(by cases h),?_⟩;rw[hr];refine RoundIn.mono wG ?_;rintro e W' ⟨q1,q2,q3,q4,q5,q6,q7⟩;have step:∀ (e':Bool) (x:AV) (v:Value),F0.J (k+1) e' O W'->v7 F W' x v->K S ⟨x,[(S.t.length,.ctr l xs (k+1) e')]⟩->R6 B w0 F0 o.dst K (a.put o.dst v) W':=fun e' x v hJ hv hK=>by
  have:=hR.yielded C2 g2 g3 g4 g5 g6 hl SO hB hr ⟨q1,q2,q3⟩ q4 q5 q6 hJ;exact⟨S,_,hK,β,F,this.still (dst:=o.dst) (.imm hv)⟩
 rcases q7 with ⟨rfl,hJ⟩|⟨rfl,hJ⟩
 ·exact step false .tt _ hJ .tt h1
 ·exact step true .ff _ hJ .ff h2
theorem Jm(hR:Rel B w0 F0 S β F a w){o:Oper}(B3:X1 o.op=true->∀ d,o.dst=some d->β d=none){K:St->Out->Prop}(h:qN P o S K){Q:Exit->Act->World->Prop} :
  o.wpIn (FW F0.r) 0 P a w (R6 B w0 F0 o.dst K) Q:=by
 have dc:=wF h;unfold qN at h;split at h
 ·rename_i f xs ys ho;refine U0 dc ?_;split at h
  ·have M4:execOp a.eval o=(do pure (.value (<- Instr.makeFunc f (xs.map a.eval) (ys.map a.eval)))):=by simp[execOp,ho]
   obtain⟨h1,h2⟩:=L0 hR xs;obtain⟨h3,h4⟩:=L0 hR ys;exact K5 M4 (v := .func f (xs.map a.eval) (ys.map a.eval)) (w':=w) (by simp[Instr.makeFunc]) ⟨S,_,h,β,F,hR.still (.fn h1 h2 h3 h4)⟩
  ·rename_i i l TB;rw[B5]at h;obtain⟨F',O5⟩:=hR.freeze (gW (i :: l));have M4:execOp a.eval o=(do pure (.value (<- Instr.makeFunc f (xs.map a.eval) (ys.map a.eval)))):=by simp[execOp,ho]
   obtain⟨h1,h2⟩:=L0 O5 xs;obtain⟨h3,h4⟩:=L0 O5 ys;exact K5 M4 (v := .func f (xs.map a.eval) (ys.map a.eval)) (w':=w) (by simp[Instr.makeFunc]) ⟨_,_,h,β,F',O5.still (.fn h1 h2 h3 h4)⟩
 ·rename_i op t x y yt ho;refine U0 dc ?_;split at h
  ·rename_i hy;split at h
   ·rename_i α sz d enc l hx;split at h
    ·rename_i e hu;refine IB hR ho hu hy ?_ h;have:=hR.get x;rw[hx]at this;rcases this.sl_inv with ⟨h1,x0,c0,h2⟩|⟨b,ob,cap,g,h1,_⟩
     ·exact⟨_,_,_,h2,fun _=>h1⟩
     ·exact⟨_,_,_,h1,fun e=>by cases e⟩
    ·exact h.elim
   ·rename_i id hx;split at h
    ·rename_i α ty sz d enc l hr;split at h
     ·rename_i e hu;refine IB hR ho hu hy ?_ h;have:=hR.get x;rw[hx]at this;obtain⟨hd,hβ,hv⟩:=this.own_inv;obtain⟨_,q⟩:=ay hR hr hβ;refine⟨_,_,_,hv,fun e=>?_⟩;rcases q with ⟨q,_⟩|⟨b,vs,q,_⟩
      ·exact q
      ·rw[q]at e;cases e
     ·exact h.elim
    ·exact h.elim
   ·rw[<- ho]at h;exact F2 hR B3 h
  ·rw[<- ho]at h;exact F2 hR B3 h
 ·rename_i c ho;split at h
  ·rename_i f hc;split at h
   ·rename_i fX first A6 hg
    refine U0 dc ?_;rcases h with h|h
    ·split at h
     ·rw[<- ho]at h;exact F2 hR B3 h
     ·obtain⟨frz,h⟩:=h;split at h
      ·rw[<- ho]at h;exact F2 hR B3 h
      ·rw[B5,<- ho]at h;obtain⟨F',O5⟩:=hR.freeze (gW (_:List Nat));exact F2 O5 B3 h
    ·exact wE hR ho hc h
   ·rename_i l hg;split at h
    ·rename_i l' xs k C2;obtain⟨⟨rfl,hx,IU⟩,h1,h2⟩:=h;exact uC hR ho hc hg C2 hx IU h1 h2
    ·exact h.elim
   ·exact h.elim
  ·rw[<- ho]at h;exact U0 dc (F2 hR B3 h)
 ·exact U0 dc (F2 hR B3 h)
theorem Gh{x:AV}{v:Value}(h:B4 β F w x v):B4 β F w (lP x) v:=by
 cases x with
 | nils=>rw[h.nils_inv];exact .imm .slnil
 | _=>exact h
theorem Gi:lP .any = .any:=rfl
theorem uD:∀ l:List (List AV),Ct l=l.map fun cs=>cs.map lP
 | []=>rfl
 | cs :: l=>congrArg (cs.map lP :: ·) (uD l)
theorem Rel.unLit(hR:Rel B w0 F0 S β F a w){q:Nat}{ty:TypeId}{sz:Nat}{D5:List (List AV)}(hq:S.row q = .lit ty sz D5):Rel B w0 F0 ⟨S.t,S.h.set q (.lit ty sz (D5.map fun cs=>cs.map lP)),S.n⟩ β F a w:=by
 have C2:∀ (q:Nat) (r:Row) (j:Nat),(⟨S.t,S.h.set q r,S.n⟩:St).row j=if q=j/\q<S.h.length then r else S.row j:=fun q r j=>by
  show(S.h.set q r).getD j .none=_
  rw[s9];rfl
 have hg:∀ i,(D5.map fun cs=>cs.map lP).getD i []=(D5.getD i []).map lP:=by
  intro i;simp only[List.getD,List.getElem?_map];cases D5[i]? <;> simp
 refine hR.trade rfl rfl (fun i hi=>hR.slots i hi) (fun j=>?_) (fun i j b hi hj=>hR.inj i j b ?_ ?_) (fun i b hi hb=>⟨i,?_,hb⟩) (fun i b hb=>⟨i,hb⟩) hR.top (fun id l xs k e h=>?_)
 ·rw[C2];split
  ·rename_i e;have this:=hR.rows j;rw[<- e.1,hq]at this;rw[<- e.1];obtain⟨hd,b,vs,e1,em,e2,e3,e4,e5,e6,e7,e8⟩:=this;exact⟨hd,b,vs,e1,em,e2,e3,by simpa using e4,by simpa using e5,by simpa using e6,by simpa using e7,fun i k hi hk=>by
    rw[hg,s7 _ Gi]
    exact Gh (e8 i k (by simpa using hi) hk)⟩
  ·exact hR.rows j
 ·rw[C2]at hi;split at hi
  ·rename_i e;rw[<- e.1,hq];simp
  ·exact hi
 ·rw[C2]at hj;split at hj
  ·rename_i e;rw[<- e.1,hq];simp
  ·exact hj
 ·rw[C2]at hi;split at hi
  ·rename_i e;rw[<- e.1,hq];simp
  ·exact hi
 ·rw[C2]at h;split at h
  ·cases h
  ·exact h
theorem Rel.unN(hR:Rel B w0 F0 S β F a w)(o:Oper):∃ F',Rel B w0 F0 (unN o S) β F' a w:=by
 unfold Ev.unN
 repeat' split
 all_goals first|exact⟨F,hR⟩|exact hR.freeze _|exact⟨F,hR.unLit (by assumption)⟩|(rw[uD];exact⟨F,hR.unLit (by assumption)⟩)
theorem uE(hR:Rel B w0 F0 S β F a w){o:Oper}(B3:X1 o.op=true->∀ d,o.dst=some d->β d=none){K:St->Out->Prop}(h:zi P o S K){Q:Exit->Act->World->Prop} :
  o.wpIn (FW F0.r) 0 P a w (R6 B w0 F0 o.dst K) Q :=
 Na (fun S K=>B5 S K) hR B3 (fun dc h=>U0 dc h) (fun h=>Jm hR B3 h) (fun hc S' β' O5 hw=>by
  obtain⟨c,f,ho,hb⟩:=hc;unfold Vj at hw;rw[ho]at hw;simp only[hb]at hw
  exact U0 (fun c e=>by rw[ho]at e;cases e) (wE O5 ho hb hw)) h
theorem qR(hR:Rel B w0 F0 S β F a w){o:Oper}(B3:X1 o.op=true->∀ d,o.dst=some d->β d=none){K:St->Out->Prop}(h:Cu P o S K){Q:Exit->Act->World->Prop} :
  o.wpIn (FW F0.r) 0 P a w (R6 B w0 F0 o.dst K) Q:=by
 unfold Cu at h;split at h
 ·rw[B5]at h;obtain⟨F',O5⟩:=hR.unN o;exact uE O5 B3 h
 ·exact uE hR B3 h
theorem Nd(hR:Rel B w0 F0 S β F a w){o:Oper}{K:St->Out->Prop}(h:TY P o S K){Q:Exit->Act->World->Prop}:o.wpIn (FW F0.r) 0 P a w (R6 B w0 F0 o.dst K) Q:=by
 unfold TY at h;split at h
 ·rename_i ha;split at h
  ·rename_i d hd;split at h
   ·rename_i A2;rw[B5]at h;obtain⟨β',h1,h2,O5⟩:=hR.kill d (hR.topn d A2);exact qR O5 (fun _ d' hd'=>by rw[hd]at hd'; cases hd'; exact h1) h
   ·exact h.elim
  ·rename_i hd;exact qR hR (fun _ d' hd'=>by rw[hd]at hd'; cases hd') h
 ·rename_i ha;exact qR hR (fun Qx=>by rw[ha]at Qx; cases Qx) h
theorem eE{src:Bool}{out:Out}{K:Out->Prop}(h:bQ src out K):∃ v,yS out.v v/\K ⟨v,out.rows⟩:=by
 unfold bQ at h;split at h
 ·split at h
  ·rename_i b hb;rw[hb];cases b
   ·exact⟨.ff,.ff,h.2 rfl⟩
   ·exact⟨.tt,.tt,h.1 rfl⟩
  ·exact⟨_,.same _,h⟩
 ·exact⟨_,.same _,h⟩
theorem qS{K:St->Prop}{Q:Exit->Act->World->Prop}(hQ:∀ S β F a w,Rel B w0 F0 S β F a w->K S->Q .normal a w):∀ (l:List Oper) (k:Nat) {S:St} {β:Nat->Option Hd} {F:Nat->Prop} {a:Act} {w:World},(∀ j,l[j]? = ops[k+j]?) ->
  Rel B w0 F0 S β F a w->Cw P ops.toList l k S K->wpOpsIn (FW F0.r) 0 P ops Q (List.range' k l.length) a w
 | [],k,S,β,F,a,w,_,hR,h=>hQ _ _ _ _ _ hR h
 | o :: l,k,S,β,F,a,w,hl,hR,h=>by
  have h0:ops[k]? = some o:=by simpa using (hl 0).symm
  have lC:∀ j,l[j]? = ops[k+1+j]? := fun j=>by have:=hl (j+1);simpa[Nat.add_assoc,Nat.add_comm 1 j]using this
  simp only[zB2,List.range'_succ];simp only[wpOpsIn,h0];simp only[Cw,Array.toArray_toList]at h;split at h
  ·rename_i hg;rw[cR hR hg];simp only[if_true];refine Oper.wpIn_mono ?_ (Nd hR h);rintro a' w' ⟨S',out,hK,β',F',O5⟩;obtain⟨v,hf,hK⟩:=eE hK;rw[jm]at hK;exact qS hQ l (k+1) lC (Rel.fine (x:=out.v) (rows:=out.rows) O5 hf) hK
  ·rename_i hg;rw[cR hR hg];simp only[zB0,if_false];rw[jm]at h;exact⟨fun _ _=>trivial,qS hQ l (k+1) lC (hR.still (.imm v7.undef)) h⟩
  ·exact h.elim
theorem IW{K:St->Prop}:∀ (l:List Oper) (k:Nat) {S:St} {cI:List (List Nat×List Nat)},gj P ops.toList l k S cI K->∃ lO Sf,oP P ops k l S lO Sf/\zg ops.toList (cI++lO)=true/\K Sf/\lO.length=l.length
 | [],k,S,cI,h=>⟨[],S,.nil k S,by simpa using h.1,h.2,rfl⟩
 | o :: l,k,S,cI,h=>by
  simp only[gj,Array.toArray_toList]at h;split at h
  ·rename_i hg;obtain⟨out,rd,hK,WD⟩:=Ge h;obtain⟨v,hf,hK⟩:=eE hK;rw[jm]at hK;obtain⟨lO,Sf,h1,h2,h3,h4⟩:=IW l (k+1) hK;exact⟨(rd,out.rows.map (·.1)) :: lO,Sf,.run (out:=⟨v,out.rows⟩) hg ⟨out.v,hf,fun S' h1 h2=>WD S'.get S'.row h1 h2⟩ h1,by simpa using h2,h3,by simp[h4]⟩
  ·rename_i hg;rw[jm]at h;obtain⟨lO,Sf,h1,h2,h3,h4⟩:=IW l (k+1) h;exact⟨([],[]) :: lO,Sf,.skip hg h1,by simpa using h2,h3,by simp[h4]⟩
  ·exact h.elim
theorem Rel.otherK(hR:Rel B w0 F0 S β F a w){w':World}(kq:w'.os=w.os/\w'.tape=w.tape/\w'.output=w.output)(av:w.heap.size<=w'.heap.size){O:Nat->Prop}(hO:∀ b,b<w.heap.size->¬ O b->w'.heap[b]? = w.heap[b]?)(WE:∀ b,O b->B b)(WG:∀ b,O b->w0.heap.size<=b)
  (C0:∀ i b,S.row i ≠ .none->y0 β i b->¬ O b) (hk:C5 F w w') (hm:∀ D,P5 D ∈ a.defers->¬ O D) (hc:∀ id l xs k e,S.row id ≠ .ctr l xs k e):Rel B w0 F0 S β F a w':=by
 exact {
  len:=hR.len
  slots:=fun i hi=>(hR.slots i hi).grow (fun _ _=>rfl) (fun _ h=>h) hk
  marks:=by
   obtain⟨Ds,⟨h1,h0⟩,h2,h3⟩:=hR.marks;refine⟨Ds,⟨h1,h0⟩,h2,fun D hD=>⟨?_,(h3 D hD).2⟩⟩;have Es:P5 D ∈ a.defers:=by rw[h1];exact List.mem_map_of_mem hD
   rw[hO D (Array.getElem?_eq_some_iff.1 (h3 D hD).1).1 (hm D Es)];exact(h3 D hD).1
  rows:=fun i=>by
   by_cases hn:S.row i = .none
   ·rw[hn];trivial
   ·exact(hR.rows i).grow (fun _ _=>rfl) (fun _ h=>h) hk fun b hb=>hO b (hR.bB i b hb).2 (C0 i b hn hb)
  inj:=hR.inj
  bF:=hR.bF
  bB:=fun i b h=>⟨(hR.bB i b h).1,zB5 (hR.bB i b h).2 av⟩
  FB:=fun b h=>⟨zB5 (hR.FB b h).1 av,(hR.FB b h).2⟩
  below:=hR.below.trans ⟨kq.1,kq.2.1,kq.2.2,av,fun k Qw=>by
   by_cases A2:k<w.heap.size
   ·exact hO k A2 fun h=>Qw (WE k h)
   ·exact absurd (hR.BW k (Nat.le_of_not_lt A2)) Qw⟩
  BW:=fun b h=>hR.BW b (Nat.le_trans av h)
  top:=hR.top
  topn:=hR.topn
  nn:=hR.nn
  inc:=hR.inc
  keep:=fun b o u hb I5=>hk b o u (hR.inc b hb) (hR.keep b o u hb I5)
  sol:=fun hn k o ho yB=>by
   have h1:=hR.sol hn k o ho yB;rw[hO k (Array.getElem?_eq_some_iff.1 h1).1 fun h=>?_]
   ·exact h1
   ·have:=WG k h;have:=(Array.getElem?_eq_some_iff.1 ho).1;omega
  yl:=fun id l xs k e h=>absurd h (hc id l xs k e) }
theorem Rel.other(hR:Rel B w0 F0 S β F a w){w':World}(kq:w'.os=w.os/\w'.tape=w.tape/\w'.output=w.output)(av:w.heap.size<=w'.heap.size){O:Nat->Prop}(hO:∀ b,b<w.heap.size->¬ O b->w'.heap[b]? = w.heap[b]?)(WE:∀ b,O b->B b)(WG:∀ b,O b->w0.heap.size<=b)
  (C0:∀ i b,S.row i ≠ .none->y0 β i b->¬ O b) (hF:∀ b,F b->¬ O b) (hm:∀ D,P5 D ∈ a.defers->¬ O D) (hc:∀ id l xs k e,S.row id ≠ .ctr l xs k e):Rel B w0 F0 S β F a w' :=
 hR.otherK kq av hO WE WG C0 (fun b o u hb I5=>by rw[World.cell?_of_block (w:=w) (hO b (hR.FB b hb).1 (hF b hb))];exact I5) hm hc
theorem Rel.drew(hR:Rel B w0 F0 S β F a w)(n:Nat):Rel B w0 F0 S β F a { w with drawn:=w.drawn+n } where
 len:=hR.len
 slots:=fun i hi=>B4.grow (β:=β) (β':=β) (F:=F) (F':=F) (w:=w) (w':={ w with drawn:=w.drawn+n }) (fun _ _=>rfl) (fun _ h=>h) (fun _ _ _ _ h=>h) (hR.slots i hi)
 marks:=hR.marks
 rows:=fun i=>A3.grow (β:=β) (β':=β) (F:=F) (F':=F) (w:=w) (w':={ w with drawn:=w.drawn+n }) (fun _ _=>rfl) (fun _ h=>h) (fun _ _ _ _ h=>h) (fun _ _=>rfl) (hR.rows i)
 inj:=hR.inj
 bF:=hR.bF
 bB:=hR.bB
 FB:=hR.FB
 below:=hR.below.trans ⟨rfl,rfl,rfl,Nat.le_refl _,fun _ _=>rfl⟩
 BW:=hR.BW
 top:=hR.top
 topn:=hR.topn
 nn:=hR.nn
 inc:=hR.inc
 keep:=hR.keep
 sol:=hR.sol
 yl:=fun id l xs k e h=>by
  obtain⟨h1,h2,hz,O,h3,h4,h5,h6,h7,h8⟩:=hR.yl id l xs k e h;have H5:({ w with drawn:=w.drawn+n }:World).heap.size=w.heap.size:=rfl;refine⟨h1,h2,hz,_,F0.st k e O w { w with drawn:=w.drawn+n } h3 (fun _ _ _=>rfl) rfl rfl rfl (Nat.le_refl _),fun b hb=>?_,fun i b hi hb => .inl (h5 i b hi hb),fun b hb=>(h6 b hb).imp (fun h=>h) .inl,fun D hD => .inl (h7 D hD),h8⟩;rcases hb with hb|hb
  ·exact h4 b hb
  ·exact hb.2
theorem Cz{cI:List (List Nat×List Nat)}(h:zg ops.toList cI=true)(i j:Nat)(oj:Oper)(hi:i<ops.size)(hj:ops[j]? = some oj)(zk:i<j)(uz:∀ e ∈ oj.after,Region.binds .any e=true->e.on≠i)(Ga:¬TS ops oj i) :
  (∀ x ∈ (cI.getD i ([],[])).2,x ∉ (cI.getD j ([],[])).1/\x ∉ (cI.getD j ([],[])).2)/\∀ x ∈ (cI.getD i ([],[])).1,x ∉ (cI.getD j ([],[])).2:=by
 have lh:j<ops.size:=(Array.getElem?_eq_some_iff.1 hj).1;simp only[zg,List.all_eq_true,List.mem_range,Array.length_toList]at h;have h1:=h j lh i hi;have hb:Nat.ble j i=false:=by
  cases hc:Nat.ble j i with
  | false=>rfl
  | true=>have:=Nat.le_of_ble_eq_true hc;omega
 rw[hb]at h1;simp only[Array.getElem?_toList,hj,zA9,zA2]at h1;rcases h1 with h1|⟨h1,h2⟩|h1
 ·obtain⟨e,he,Ek⟩:=Array.any_eq_true'.1 h1;simp only[zA2,beq_iff_eq]at Ek;exact absurd Ek.2 (uz e he Ek.1)
 rotate_left
 ·obtain⟨e,he,Ek⟩:=Array.any_eq_true'.1 h1;simp only[zA2]at Ek;obtain⟨hb,Ek⟩:=Ek;split at Ek
  ·rename_i om Gg;obtain⟨e',Wx,Qy⟩:=Array.any_eq_true'.1 Ek;simp only[zA2,beq_iff_eq]at Qy;exact absurd ⟨e,he,hb,om,by simpa using Gg,e',Wx,Qy.1,Qy.2⟩ Ga
  ·cases Ek
 ·refine⟨fun x hx=>?_,fun x hx=>?_⟩
  ·have:=List.all_eq_true.1 h1 x hx;simp at this;exact this
  ·have:=List.all_eq_true.1 h2 x hx;simpa using this
theorem wH(h:jn ops.toList=true)(i:Nat)(o:Oper)(ho:ops[i]? = some o)(c:Call):o.op ≠ .defer c:=by
 intro e;have:=List.all_eq_true.1 h o (by simpa using Array.mem_of_getElem? ho);rw[e]at this;simp at this
theorem cC{r:Option Nat}(dc:∀ (i:Nat) (o:Oper),ops[i]? = some o->∀ c,o.op ≠ .defer c){fp:Nat->List Nat×List Nat}{Q:St->Prop}{Q':Exit->Act->World->Prop}(qL:∀ (i j:Nat) (oi oj:Oper) (d:Nat),ops[i]? = some oi->ops[j]? = some oj->i≠j->oi.dst=some d->oj.dst=some d->cK P oi=true->False)
  (hQ:∀ S β F a w,Rel B w0 F0 S β F a w->Q S->Q' .normal a w):∀ (fuel:Nat) (E5:Array Bool) (S:St) (β:Nat->Option Hd) (F:Nat->Prop) (a:Act) (w:World),TR P ops E5 β->Rel B w0 F0 S β F a w ->
   Gf P ops fp Q fuel E5 S->wpAnyIn (FW r) 0 P .any ops Q' fuel E5 a w
 | 0,_,_,_,_,_,_,_,hR,h=>⟨h.1,hQ _ _ _ _ _ hR h.2⟩
 | fuel+1,E5,S,β,F,a,w,El,hR,h=>by
  refine⟨fun h0=>hQ _ _ _ _ _ hR (h.1 h0),fun i hi=>?_⟩;have h2:=h.2 i hi;obtain⟨Pz,o,ho,_⟩:=mem_ready.1 hi;have Ud:E5.getD i true=false:=Pz;unfold aOp at h2;unfold wpOpIn;simp only[ho]at h2 ⊢;have B3:cK P o=true->∀ d,o.dst=some d->β d=none:=fun ha d hd=>El i o d ho Ud ha hd
  have keep:∀ β',(∀ j,o.dst≠some j->β' j=β j)->TR P ops (E5.setIfInBounds i true) β':=fun β' nc k ok d hk Qz Yu Yv=>by
   have yu:k≠i:=fun e=>by
    subst e;have A2:k<E5.size:=by
     rcases Nat.lt_or_ge k E5.size with h' | h'
     ·exact h'
     ·simp[Array.getElem?_eq_none h']at Ud
    simp[A2]at Qz
   rw[nc d fun e=>qL k i ok o d hk ho yu Yv e Yu];exact El k ok d hk (by rw[getD_set_ne true (Ne.symm yu)]at Qz;exact Qz) Yu Yv
  rcases h2 with ⟨h1,out,rd,hy,_,hK⟩|⟨h1,hK⟩
  ·rw[cR hR h1];simp only[if_true];refine U0 (dc i o ho) (Oper.wp_mono ?_ (hy.snd hR B3));rintro a' w' ⟨β',F',nc,O5⟩;exact cC dc qL hQ fuel _ _ β' F' a' w' (keep β' nc) O5 hK
  ·rw[cR hR h1];simp only[zB0,if_false];exact⟨fun _ _=>trivial,cC dc qL hQ fuel _ _ β F _ w (keep β fun _ _=>rfl) (hR.still (.imm v7.undef)) hK⟩
theorem Rel.preF(hR:Rel B w0 F0 S β F a w)(P:Program)(ops:List Oper):∃ F',Rel B w0 F0 (preF P S ops) β F' a w:=by
 unfold Ev.preF;cases Jl P S ops with
 | nil=>exact⟨F,hR⟩
 | cons i l=>exact hR.freeze _
theorem qT(hm:P.follows .mixedOrders=true){id:Nat}{K:St->Prop}{Q:Exit->Act->World->Prop}(hQ:∀ S β F a w,Rel B w0 F0 S β F a w->K S->Q .normal a w)(hR:Rel B w0 F0 S β F a w)(hd:(uB P ops && (cB P ops.toList).all (A8 S) && jn ops.toList)=true)
  (h:gj P ops.toList ops.toList 0 (S.kills (cB P ops.toList)) [] K):(Code.region id ops true).wpIn (FW F0.r) 0 P Q a w:=by
 simp only[uB,zA2]at hd;obtain⟨⟨⟨WH,qL⟩,WI⟩,dc⟩:=hd;obtain⟨cI,Sf,Qt,iC,hK,hlen⟩:=IW ops.toList 0 h;simp only[List.nil_append]at iC;obtain⟨β',B3,_,O5⟩:=hR.kills (cB P ops.toList) (fun d hd=>hR.topn d (List.all_eq_true.1 WI d hd));refine wpIn_region_any hm (cC (wH dc) (fp:=fun i=>cI.getD i ([],[])) (Q:=K) ?_ hQ _ _ _ β' F _ _ ?_ (O5.drew 1) ?_)
 ·intro i j oi oj d hi hj zk ZI TW yK;have bO:=(Array.getElem?_eq_some_iff.1 hi).1;have lh:=(Array.getElem?_eq_some_iff.1 hj).1;simp only[List.all_eq_true,List.mem_range]at qL;have h1:=qL i bO;simp only[hi,yK,Bool.not_true,Bool.false_or,List.all_eq_true,List.mem_range]at h1;have h2:=h1 j lh;have aW:Nat.beq i j=false:=by
   cases hc:Nat.beq i j with
   | false=>rfl
   | true=>exact absurd (zA8 hc) zk
  simp only[aW,Bool.false_or,hj,ZI,TW,Nat.beq_refl,Bool.not_true,zB0]at h2
 ·intro i o d ho _ yK ZJ;refine B3 d ?_;simp only[cB,List.mem_filterMap];exact⟨o,by simpa using Array.mem_of_getElem? ho,by simp[yK,ZJ]⟩
 ·have:=zh (P:=P) (fp:=fun i=>cI.getD i ([],[])) (Q:=K) (ops:=ops) (fun i j oi oj hi hj zk uz Ga=>Cz iC i j oj (Array.getElem?_eq_some_iff.1 hi).1 hj zk uz Ga)
   ops.toList 0 (Array.replicate ops.size false) _ cI Sf (fun j=>by simp) (fun j hj=>absurd hj (zB3 j)) (fun j _=>by simp only[Array.getD_eq_getD_getElem?,Array.getElem?_replicate];split<;>rfl) (fun m om hm=>absurd hm (zB3 m)) (fun j hj=>by simp) (by simpa using WH) Qt hK
  simpa using this
end
/- What the law of a range over a function leans on. A helper text: it speaks of no program. -/
section
variable {P:Program}{B:Nat->Prop}{w0:World}{F0:Env P}{S:St}{β:Nat->Option Hd}{F:Nat->Prop}{a:Act}{w:World}{ops:Array Oper}
theorem Rel.noctr(hR:Rel B w0 F0 S β F a w)(h:F0.n = .plain):∀ id l xs k e,S.row id ≠ .ctr l xs k e:=fun id l xs k e hr=>by
 obtain⟨_,_,_,O,hJ,_⟩:=hR.yl id l xs k e hr;have:=F0.ni _ _ _ _ hJ;rw[h]at this;cases this
theorem oR(d e:Nat)(x:AV):F7 d (F7 e x)=F7 e (F7 d x):=by
 unfold F7;cases h1:x.names d<;>cases h2:x.names e<;>simp[h1,h2,AV.names]
theorem oS(d:Nat)(x:AV):F7 d (F7 d x)=F7 d x:=by
 unfold F7;cases h1:x.names d<;>simp[h1,AV.names]
theorem wI(d e:Nat)(r:Row):B1 d (B1 e r)=B1 e (B1 d r):=by
 cases r<;>simp[B1,oR d e]
theorem wJ(d:Nat)(r:Row):B1 d (B1 d r)=B1 d r:=by
 cases r<;>simp[B1,oS d]
theorem Gj(S:St)(d:Nat):(S.kill d).kill d=S.kill d:=by
 have h1:(F7 d ∘ F7 d)=F7 d:=funext (oS d);have h2:(B1 d ∘ B1 d)=B1 d:=funext (wJ d);simp only[St.kill,List.map_map,List.map_set,h1,h2,B1,List.set_set]
theorem Gk(S:St)(d e:Nat):(S.kill e).kill d=(S.kill d).kill e:=by
 have h1:(F7 d ∘ F7 e)=(F7 e ∘ F7 d):=funext (oR d e);have h2:(B1 d ∘ B1 e)=(B1 e ∘ B1 d):=funext (wI d e);simp only[St.kill,List.map_map,List.map_set,h1,h2,B1];by_cases h:e=d
 ·subst h;rfl
 ·rw[List.set_comm _ _ h]
theorem kF(S:St)(d:Nat):∀ l,(S.kill d).kills l=(S.kills l).kill d
 | []=>rfl
 | e :: l=>by
  simp only[St.kills];rw[Gk,kF (S.kill e) d l]
theorem qU:∀ (l:List Nat) (S:St),(S.kills l).kills l=S.kills l
 | [],_=>rfl
 | d :: l,S=>by
  simp only[St.kills];rw[kF S d l,Gj,kF,qU l]
theorem Et:∀ (l:List Nat) (S:St),(S.kills l).n=S.n
 | [],_=>rfl
 | d :: l,S=>by simp only[St.kills];rw[Et l];rfl
theorem kg:∀ (l:List Nat) {S T:St},S.t=T.t->(S.kills l).t=(T.kills l).t
 | [],_,_,h=>h
 | d :: l,S,T,h=>by simp only[St.kills];exact kg l (by simp[St.kill,h])
theorem gy:∀ (t:List AV) (ps:List Nat) (xs:List AV),(dR t ps xs).length=t.length
 | t,[],xs=>by simp[dR]
 | t,p :: ps,[]=>by simp[dR]
 | t,p :: ps,x :: xs=>by simp[dR,gy (t.set p x) ps xs]
theorem uF{F:Nat->Prop}:∀ (ps:List Nat) (xs:List AV) (vs:List Value) (t:List AV) (tm:Array Value),xs.length=vs.length->(∀ i,i<xs.length->B4 β F w (xs.getD i .any) (vs.getD i undef))->t.length=tm.size ->
  (∀ i,i<t.length->B4 β F w (t.getD i .any) (tm.getD i undef)) ->
  ((ps.zip vs).foldl (fun t (p,v)=>t.setIfInBounds p v) tm).size=tm.size/\∀ i,i<t.length->B4 β F w ((dR t ps xs).getD i .any) (((ps.zip vs).foldl (fun t (p,v)=>t.setIfInBounds p v) tm).getD i undef)
 | [],xs,vs,t,tm,_,_,_,h=>by
  have e:dR t [] xs=t:=by simp[dR]
  rw[e];exact⟨rfl,h⟩
 | p :: ps,[],[],t,tm,_,_,_,h=>by
  have e:dR t (p :: ps) []=t:=by simp[dR]
  rw[e];exact⟨rfl,h⟩
 | p :: ps,x :: xs,v :: vs,t,tm,hl,hx,ht,h=>by
  simp only[dR,List.zip_cons_cons,List.foldl_cons];have h0:=hx 0 va9;simp only[List.getD_cons_zero]at h0;have:=uF ps xs vs (t.set p x) (tm.setIfInBounds p v) (by simpa using hl) (fun i hi=>by have:=hx (i+1) (by simpa using hi);simpa using this) (by simpa using ht) (fun i hi=>by
   simp only[List.length_set]at hi;rw[Q9];simp only[Array.getD_eq_getD_getElem?,Array.getElem?_setIfInBounds];by_cases e:p=i
   ·subst e;simp[hi,ht ▸ hi];exact h0
   ·have:=h i hi
    simpa[e,Array.getD_eq_getD_getElem?]using this)
  exact⟨by rw[this.1];simp,fun i hi=>this.2 i (by simpa using hi)⟩
theorem gz{F:Nat->Prop}{k:Nat}{o o':Obj}(hk:w.heap[k]? = some o)(hc:o.isCells=false):C5 F w (w.putObj k o'):=fun b ob v _ I5=>by
 have aW:b≠k:=fun e=>by
  subst e;cases o<;>simp[World.cell?,hk,Obj.isCells]at I5 hc
 rw[World.cell?_of_block (w:=w) (World.putObj_heap_other aW)];exact I5
theorem Rel.back(hR:Rel B w0 F0 S β F a w)(pB:F0.n = .plain){w':World}{β':Nat->Option Hd}{F':Nat->Prop}{h':List Row}(hβ:∀ j,β j≠none->β' j=β j)(hF:∀ b,F b->F' b)(hk:C5 F w w')
  (kq:w'.os=w.os/\w'.tape=w.tape/\w'.output=w.output) (av:w.heap.size<=w'.heap.size) (iC:∀ id,A3 β' F' w' id (h'.getD id .none)) (pA:∀ i j b,h'.getD i .none ≠ .none->h'.getD j .none ≠ .none->y0 β' i b->y0 β' j b->i=j)
  (Tj:∀ i b,h'.getD i .none ≠ .none->y0 β' i b->¬ F' b) (yp:∀ i b,y0 β' i b->B b/\b<w'.heap.size) (PT:∀ b,F' b->b<w'.heap.size/\(F0.F b∨B b)) (yz:∀ b,b<w.heap.size->¬ B b->w'.heap[b]? = w.heap[b]?)
  (Yw:∀ (k:Nat) (o:Obj),w.heap[k]? = some o->o.isCells=false->(k<w0.heap.size∨P5 k ∈ a.defers)->w'.heap[k]? = some o) (hc:∀ id l xs k e,h'.getD id .none ≠ .ctr l xs k e):Rel B w0 F0 ⟨S.t,h',S.n⟩ β' F' a w' where
 len:=hR.len
 slots:=fun i hi=>(hR.slots i hi).grow hβ hF hk
 marks:=by
  obtain⟨Ds,⟨h1,h0⟩,h2,h3⟩:=hR.marks;exact⟨Ds,⟨h1,h0⟩,h2,fun D hD=>⟨Yw D _ (h3 D hD).1 rfl (.inr (by rw[h1];exact List.mem_map_of_mem hD)),(h3 D hD).2⟩⟩
 rows:=iC
 inj:=pA
 bF:=Tj
 bB:=yp
 FB:=PT
 below:=hR.below.trans ⟨kq.1,kq.2.1,kq.2.2,av,fun k Qw=>by
  by_cases A2:k<w.heap.size
  ·exact yz k A2 Qw
  ·exact absurd (hR.BW k (Nat.le_of_not_lt A2)) Qw⟩
 BW:=fun b h=>hR.BW b (Nat.le_trans av h)
 top:=fun j hd h=>(hβ j (by rw[hR.top j hd h];simp)).trans (hR.top j hd h)
 topn:=hR.topn
 nn:=hR.nn
 inc:=fun b h=>hF b (hR.inc b h)
 keep:=fun b o u hb I5=>hk b o u (hR.inc b hb) (hR.keep b o u hb I5)
 sol:=fun hn k o ho hc=>Yw k o (hR.sol hn k o ho hc) hc (.inl (Array.getElem?_eq_some_iff.1 ho).1)
 yl:=fun id l xs k e h=>absurd h (hc id l xs k e)
theorem aa{b:Frame}{k:List Item}{cs:List Frame}{a:Act}{w:World}{c:Code}:step P (lone (b.atR a (.code (.scope c) :: k)) cs w) = .next (lone (b.atR a (.code c :: .inScope c :: k)) cs w) :=
 step_lone_go (by simp[stepG,stepG.exec,Frame.atR])
theorem tE{b:Frame}{k:List Item}{cs:List Frame}{a:Act}{w:World}{c:Code}:step P (lone (b.atR a (.inScope c :: k)) cs w) = .next (lone (b.atR a k) cs w) :=
 step_lone_go (by simp[stepG,stepG.exec,Frame.atR])
theorem qV{Fc:Fence}{n:Nat}{Q:Exit->Act->World->Prop}{a:Act}{w:World}{c:Code}(h:c.wpIn Fc n P Q a w)(hg:∀ l a w,¬Q (.goto l) a w):(Code.scope c).wpIn Fc n P Q a w:=by
 intro b k cs ZK hb hr;have h0:(lone (b.atR a (.code (.scope c) :: k)) cs w).fenced P Fc:=fenced_calm hb hr rfl;obtain⟨e,a₁,w₁,hq,Gl⟩:=h b (.inScope c :: k) cs ZK hb hr;cases e with
 | normal=>exact⟨.normal,a₁,w₁,hq,.head h0 aa (StepsIn.trans Gl (.one (fenced_calm hb hr rfl) tE))⟩
 | exit id =>
  have hx:exitTo id (.inScope c :: k)=exitTo id k:=by simp[exitTo]
  exact⟨.exit id,a₁,w₁,hq,fun k' hk => .head h0 aa (Gl.1 k' (by rw[hx];exact hk)),
   fun PY hk=>let ⟨k₁,h1,h2⟩:=Gl.2 PY (by rw[hx];exact hk);⟨k₁,h1,.head h0 aa h2⟩⟩
 | goto l=>exact absurd hq (hg _ _ _)
 | ret=>exact⟨_,a₁,w₁,hq,.of_steps (.one h0 aa) Gl⟩
 | panic ch=>exact⟨_,a₁,w₁,hq,.of_steps (.one h0 aa) Gl⟩
 | outgrown=>exact⟨_,a₁,w₁,hq,.of_steps (.one h0 aa) Gl⟩
theorem Y5{Fc:Fence}{n:Nat}{Q:Exit->Act->World->Prop}{a:Act}{w:World}{c:Code}(I:Nat->Act->World->Prop)(n₀:Nat)(h₀:I n₀ a w)
  (round:∀ m a w,I m a w->c.wpIn Fc n P (Exit.then (fun a' w'=>∃ n',n' < m/\I n' a' w') Q) a w):(Code.loop c).wpIn Fc n P Q a w:=by
 refine wpIn_loop (fun a w=>∃ n,I n a w) (fun a w=>leastOf (fun n=>I n a w)) ⟨n₀,h₀⟩ ?_;intro a w hI;refine wpIn_mono (round _ a w (leastOf_spec hI).1) ?_;intro e a' w' hq;cases e with
 | normal =>
  obtain⟨n',A2,QA⟩:=hq;exact show(∃ n,I n a' w')/\leastOf (fun n=>I n a' w')<leastOf (fun n=>I n a w) from⟨⟨n',QA⟩,Nat.lt_of_le_of_lt ((leastOf_spec ⟨n',QA⟩).2 n' QA) A2⟩
 | exit id=>exact hq
 | goto l=>exact hq
 | ret=>exact hq
 | panic ch=>exact hq
 | outgrown=>exact hq
end
/- Why the executor is right (last part). A helper text: it speaks of no program. -/
section
variable {P:Program}{B:Nat->Prop}{w0:World}{F0:Env P}{S:St}{β:Nat->Option Hd}{F:Nat->Prop}{a:Act}{w:World}
def Gm(B:Nat->Prop)(w0:World)(F0:Env P)(Q:Ex->St->Prop):Exit->Act->World->Prop
 | .normal,a,w=>∃ S,Q .norm S/\∃ β F,Rel B w0 F0 S β F a w
 | .ret,a,w=>∃ S,Q .ret S/\∃ β F,Rel B w0 F0 S β F a w
 | .exit i,a,w=>∃ S,Q (.exit i) S/\∃ β F,Rel B w0 F0 S β F a w
 | _,_,_=>False
theorem Gm.norm{Q:Ex->St->Prop}(hR:Rel B w0 F0 S β F a w)(h:Q .norm S):Gm B w0 F0 Q .normal a w:=⟨S,h,β,F,hR⟩
theorem Jn(ds:List Nat)(S:St)(ws bs:List Nat)(vs:List (Nat×VT))(P9:List AV)(E9 I0:List Row):(M5 ds S ws bs vs P9 E9 I0).n=S.n:=rfl
theorem Jo(t:Nat)(V:VT)(S:St):(canonS t V S).n=S.n:=by
 unfold canonS;split
 ·split
  ·rfl
  ·split<;>rfl
 ·split<;>rfl
 ·rfl
theorem Jp(t b c:Nat)(V:VT)(S:St):(canonB t b c V S).n=S.n:=by
 unfold canonB
 repeat' split
 all_goals rfl
theorem Jq(t:Nat)(V:VT)(S:St):(canon1 t V S).n=S.n:=by
 unfold canon1;split
 ·exact Jo t V S
 ·exact Jp _ _ _ V S
theorem qW:∀ (l:List (Nat×VT)) (S:St),(canonV l S).n=S.n
 | [],_=>rfl
 | (t,V) :: l,S=>by simp only[canonV];rw[qW l,Jq]
theorem dj{ds ws bs:List Nat}{S0:St}{vs:List (Nat×VT)}{K:List AV->List Row->List Row->Prop}(hn:S0.n=F0.n)(hR:Rel B w0 F0 S β F a w)(h:gp ds S0 ws bs vs S K) :
  ∃ P9 E9 I0,K P9 E9 I0/\∃ β',Rel B w0 F0 (M5 ds S0 ws bs vs P9 E9 I0) β' F a w:=by
 unfold gp at h;rw[B5,aZ,U5,U5]at h;obtain⟨β',O5⟩:=hR.canonV vs;exact⟨_,_,_,h.1,β',O5.mask (by rw[Jn,hn,O5.nn]) h.2.1 h.2.2⟩
theorem Nf{c:Code}(ih:∀ {S:St} {β:Nat->Option Hd} {F:Nat->Prop} {a:Act} {w:World} {Q:Ex->St->Prop},ex P c S Q->Rel B w0 F0 S β F a w->c.wpIn (FW F0.r) 0 P (Gm B w0 F0 Q) a w){Q:Ex->St->Prop} :
  ∀ (n:Nat) {S:St} {β:Nat->Option Hd} {F:Nat->Prop} {a:Act} {w:World},Nb (ex P c) n S Q->Rel B w0 F0 S β F a w->(Code.loop c).wpIn (FW F0.r) 0 P (Gm B w0 F0 Q) a w:=by
 intro n S β F a w h hR;refine Y5 (fun n a w=>∃ S,Nb (ex P c) n S Q/\∃ β F,Rel B w0 F0 S β F a w) n ⟨S,h,β,F,hR⟩ ?_;rintro n a w ⟨S,h,β,F,hR⟩;cases n with
 | zero=>exact h.elim
 | succ n =>
  refine wpIn_mono (ih h hR) ?_;rintro e a' w' hq;cases e with
  | normal =>
   obtain⟨S',h1,β',F',h2⟩:=hq;exact⟨n,Nat.lt_succ_self n,S',h1,β',F',h2⟩
  | ret=>exact hq
  | exit i=>exact hq
  | goto l=>exact hq
  | panic ch=>exact hq
  | outgrown=>exact hq
theorem Rel.kills':∀ (l:List Nat) {S:St} {β:Nat->Option Hd},(∀ d ∈ l,F0.β d=none)->Rel B w0 F0 S β F a w->∃ β',(∀ d ∈ l,β' d=none)/\(∀ j,β' j=β j∨β' j=none)/\Rel B w0 F0 (S.kills l) β' F a w
 | [],_,β,_,hR=>⟨β,by simp,fun _ => .inl rfl,hR⟩
 | d :: l,S,β,aC,hR=>by
  obtain⟨β1,h1,h2,jK⟩:=hR.kill d (aC d va9);obtain⟨β2,h3,h4,lI⟩:=Rel.kills' l (fun x hx=>aC x (by simp[hx])) jK;refine⟨β2,fun x hx=>?_,fun j=>?_,lI⟩
  ·rcases List.mem_cons.1 hx with rfl|hx
   ·rcases h4 x with h|h
    ·rw[h];exact h1
    ·exact h
   ·exact h3 x hx
  ·rcases h4 j with h|h
   ·by_cases e:j=d
    ·subst e;exact .inr (h.trans h1)
    ·exact .inl (h.trans (h2 j e))
   ·exact .inr h
theorem Rel.marked(hR:Rel B w0 F0 S β F a w)(pB:F0.n = .plain){D:Nat}(hD:w.heap[D]? = some (.deferred (some [])))(hB:B D)(PU:w0.heap.size<=D)(CA:P5 D ∉ a.defers):Rel B w0 F0 S β F { a with defers:=P5 D :: a.defers } w :=
 { hR with
  len:=hR.len
  slots:=hR.slots
  marks:=by
   obtain⟨Ds,⟨h1,h0⟩,h2,h3⟩:=hR.marks;refine⟨D :: Ds,⟨by simp[h1],fun h=>absurd pB h⟩,List.nodup_cons.2 ⟨fun h=>CA (by rw[h1];exact List.mem_map_of_mem h),h2⟩,fun D' Es => ?_⟩;rcases List.mem_cons.1 Es with rfl|h
   ·exact⟨hD,hB,PU⟩
   ·exact h3 D' h
  yl:=fun id l xs k e h=>absurd h (hR.noctr pB id l xs k e) }
theorem tF{g:Operand}{ps:Array Tmp}{assign lQ:Code}
    (Vl:∀ {B:Nat->Prop} {w0:World} {F0:Env P} {S:St} {β:Nat->Option Hd} {F:Nat->Prop} {a:Act} {w:World} {Q:Ex->St->Prop},ex P assign S Q->Rel B w0 F0 S β F a w->assign.wpIn (FW F0.r) 0 P (Gm B w0 F0 Q) a w)
    (Vm:∀ {B:Nat->Prop} {w0:World} {F0:Env P} {S:St} {β:Nat->Option Hd} {F:Nat->Prop} {a:Act} {w:World} {Q:Ex->St->Prop},ex P lQ S Q->Rel B w0 F0 S β F a w->lQ.wpIn (FW F0.r) 0 P (Gm B w0 F0 Q) a w)
    {Q:Ex->St->Prop} (h:ex P (.rangeFunc g ps assign lQ) S Q) (hR:Rel B w0 F0 S β F a w):(Code.rangeFunc g ps assign lQ).wpIn (FW F0.r) 0 P (Gm B w0 F0 Q) a w:=by
  simp only[ex]at h;split at h
  · exact h.elim
  · exact h.elim
  rename_i hn;split at h
  case h_2=>exact h.elim
  rename_i gf A6 hg;obtain⟨Y7,xs,bs,BR,I,⟨ZL,IU⟩,h⟩:=h;rw[kE]at h;generalize ps.toList++(Z9 assign++Z9 lQ)=ds at h;obtain⟨Ue,QB,wG,Uf⟩:=h;have pB:F0.n = .plain:=hR.nn ▸ hn;have hr:F0.r=none:=F0.nr (by intro ks e;rw[pB]at e;cases e);have Jr:∀ d ∈ ds,F0.β d=none:=fun d hd=>hR.topn d (List.all_eq_true.1 Ue d hd)
  obtain⟨P9,E9,I0,⟨ZM,rfl,rfl,rfl⟩,β0,WJ⟩:=dj hR.nn hR QB;obtain⟨β1,_,_,SP⟩:=WJ.kills ds Jr
  let A:Nat->St:=fun k=>(M5 ds S [] bs [] [] (BR k) []).kills ds
  have Yx:∀ k,(A k).n = .plain:=fun k=>(Et ds _).trans hn
  have Yy:∀ k,(A k).t=(A 0).t:=fun k=>kg ds rfl
  have WK:∀ k,(A k).kills ds=A k:=fun k=>qU ds _
  replace SP:Rel B w0 F0 (A 0) β1 F a w:=SP
  -- the QC value
  have hf:=hR.get g;rw[hg]at hf;obtain⟨PE,us,hv,l1,l2,_,r2⟩:=hf.fn_inv;obtain rfl:PE=#[]:=Array.eq_empty_of_size_eq_zero l1.symm;rw[hr];refine wpIn_rangeFunc ?_;intro fn ZN;obtain⟨rc,Mw⟩:∃ rc:LoopState->Option Code->Loop,rc=fun st pe=>{ state:=st,pending:=pe,fn,tmps:=a.tmps,params:=ps,assign,body:=lQ,defers:=w.heap.size }:=⟨_,rfl⟩
  obtain⟨W1,BV⟩:∃ W1,(w.alloc (.deferred (some []))).alloc (.loop (rc .ready none))=W1:=⟨_,rfl⟩
  have ZO:W1.heap[w.heap.size+1]? = some (.loop (rc .ready none)):=by
    rw[<- BV];have:=World.alloc_heap_new (w.alloc (.deferred (some []))) (.loop (rc .ready none));rwa[World.size_alloc]at this
  have ZP:W1.heap[w.heap.size]? = some (.deferred (some [])):=by
    rw[<- BV];exact(RowKit.Below.heap_alloc _ _ _ va9).trans (World.alloc_heap_new w _)
  have PF:∀ b,b<w.heap.size->W1.heap[b]? = w.heap[b]? := fun b hb=>by
    rw[<- BV];exact(RowKit.Below.heap_alloc _ _ _ (by simp;omega)).trans (RowKit.Below.heap_alloc _ _ _ hb)
  have WL:W1.os=w.os/\W1.tape=w.tape/\W1.output=w.output:=by rw[<- BV];exact⟨rfl,rfl,rfl⟩
  have Ng:W1.heap.size=w.heap.size+2:=by rw[<- BV];simp
  have SK:w0.heap.size<=w.heap.size:=hR.below.size;have QD:∀ {k:Nat} {o:Obj},w.heap[k]? = some o->k<w.heap.size:=fun h=>(Array.getElem?_eq_some_iff.1 h).1
  have Nh:∀ D,P5 D ∈ a.defers->D<w.heap.size:=fun D hD=>by
    obtain⟨Ds,⟨h1,h0⟩,h2,h3⟩:=hR.marks;rw[h1]at hD;obtain⟨D',Es,e⟩:=List.mem_map.1 hD;have:D'=D:=by simpa[P5]using e
    subst this;exact QD (h3 D' Es).1
  -- the invariant
  let J:Nat->Bool->(Nat->Prop)->World->Prop:=fun k e O W=>∃ S' β' F',Rel B w0 F0 S' β' F' a W/\(∀ b,F b->F' b)/\(∀ b,O b->w.heap.size+2<=b)/\(∀ i b,y0 β' i b->¬ O b/\b≠w.heap.size+1/\b≠w.heap.size) /\
    (∀ b,F' b->¬ O b/\b≠w.heap.size+1/\b≠w.heap.size)/\W.heap[w.heap.size]? = some (.deferred (some []))/\w.heap.size+2<=W.heap.size /\
    ((e=false/\S'=A k/\I k/\W.heap[w.heap.size+1]? = some (.loop (rc .ready none))) ∨
     (e=true/\∃ c,W.heap[w.heap.size+1]? = some (.loop (rc .done (some c)))/\((c = .ret/\Q .ret S')∨∃ i,c = .exit i/\Q (.exit i) S')))
  have WM:J 0 false (fun _=>False) W1:=by
    refine⟨A 0,β1,F,SP.other WL va5 (O:=fun _=>False) (fun b hb _=>PF b hb) (fun _ h=>h.elim) (fun _ h=>h.elim) (fun _ _ _ _ h=>h) (fun _ _ h=>h) (fun _ _ h=>h) (SP.noctr pB),fun _ h=>h,fun _ h=>h.elim,fun i b hb=>?_,fun b hb=>?_,ZP,va5,.inl ⟨rfl,rfl,ZM,ZO⟩⟩
    · have:=(SP.bB i b hb).2;exact⟨fun h=>h,va5,va5⟩
    · have:=(SP.FB b hb).1;exact⟨fun h=>h,va5,va5⟩
  have yH:∀ k e O W W',J k e O W->(∀ b,b<W.heap.size->¬ O b->W'.heap[b]? = W.heap[b]?)->W'.os=W.os->W'.tape=W.tape->W'.output=W.output->W.heap.size<=W'.heap.size->J k e (fun b=>O b∨(W.heap.size<=b/\b<W'.heap.size)) W':=by
    rintro k e O W W' ⟨S',β',F',O5,j1,j2,j3,j4,j5,j6,j7⟩ h1 h2 h3 h4 h5;have o1:¬ O (w.heap.size+1):=fun h=>by have:=j2 _ h;omega
    have o2:¬ O w.heap.size:=fun h=>by have:=j2 _ h;omega
    refine⟨S',β',F',O5.other ⟨h2,h3,h4⟩ h5 h1 (fun b hb=>hR.BW b (by have:=j2 b hb;omega)) (fun b hb=>by have:=j2 b hb;omega) (fun i b _ hb=>(j3 i b hb).1) (fun b hb=>(j4 b hb).1) (fun D hD h=>by have:=j2 D h;have:=Nh D hD;omega) (O5.noctr pB),j1,?_,?_,?_,?_,va5,?_⟩
    · rintro b (h|h)
      · exact j2 b h
      · omega
    · intro i b hb
      have:=(O5.bB i b hb).2;exact⟨fun h=>h.elim (j3 i b hb).1 fun h=>by omega,(j3 i b hb).2⟩
    · intro b hb
      have:=(O5.FB b hb).1;exact⟨fun h=>h.elim (j4 b hb).1 fun h=>by omega,(j4 b hb).2⟩
    · rw[h1 _ va5 o2];exact j5
    · rcases j7 with ⟨e1,e2,e3,e4⟩|⟨e1,c,e2,e3⟩
      · exact .inl ⟨e1,e2,e3,by rw[h1 _ va5 o1];exact e4⟩
      · exact .inr ⟨e1,c,by rw[h1 _ va5 o1];exact e2,e3⟩
  -- one round
  have TV:∀ k O W vs x,J k false O W->xs[k]? = some x->(∀ b,O b->b<W.heap.size)->vs.size=x.length->(∀ i,i<x.length->v7 (fun _=>False) W (x.getD i .any) (vs.getD i undef)) ->
      YieldAt Fence.wide 0 P (w.heap.size+1) vs W fun e W'=>W'.os=W.os/\W'.tape=W.tape/\W'.output=W.output/\W.heap.size<=W'.heap.size/\(∀ b,O b->W'.heap[b]? = W.heap[b]?)/\C5 F W W' /\
        ((e = .returned (.bool true)/\J (k+1) false O W')∨(e = .returned (.bool false)/\J (k+1) true O W')):=by
    rintro k O W vs x ⟨S',β',F1,jK,j1,j2,j3,j4,j5,j6,j7⟩ hx WC Ci L4;rcases j7 with ⟨_,rfl,WN,hl⟩|⟨e1,_⟩
    case inr=>cases e1
    have ZQ:x ∈ xs:=List.mem_of_getElem? hx;obtain⟨hxf,ZR⟩:=IU x ZQ;have hy:=run_yield (P:=P) (args:=vs) hl (by rw[Mw,Ci];exact ZR);rw[Mw]at hy;refine⟨fn,_,assign,lQ,hy,roundIn_of_wpIn ZN ?_⟩;clear hy;obtain⟨β2,k1,k2,lI⟩:=Rel.kills' ds Jr jK;rw[WK]at lI;have b2:∀ i b,y0 β2 i b->y0 β' i b:=fun i b hb=>by
      rcases k2 i with h|h
      · simpa[y0,h]using hb
      · simp[y0,h]at hb
    have ZS:w.heap.size+1<W.heap.size:=by omega
    let Br:Nat->Prop:=fun b=>W.heap.size<=b∨∃ i,y0 β2 i b
    let E:Env P:=Env.plain P F1 β2 (some (w.heap.size+1)) (.round ds) (fun h=>absurd rfl (h ds))
    have zm:∀ b,Br b->¬ O b/\b≠w.heap.size+1/\b≠w.heap.size:=fun b hb=>by
      rcases hb with h|⟨i,h⟩
      · exact⟨fun ho=>by have:=WC b ho;omega,va5,va5⟩
      · exact j3 i b (b2 i b h)
    have QE:∀ b,Br b->B b:=fun b hb=>by
      rcases hb with h|⟨i,h⟩
      · exact lI.BW b h
      · exact(lI.bB i b h).1
    have ID:=uF (β:=β2) (w:=W) (F:=F1) ps.toList x vs.toList (A k).t a.tmps (by simp[Ci]) (fun i hi => .imm (by
      have:=(L4 i hi).mono (F':=F1) (w':=W) (fun _ h=>h.elim) (fun _ _ _ h _=>h.elim)
      simpa[Array.getD_eq_getD_getElem?,List.getD_eq_getElem?_getD]using this)) lI.len lI.slots
    have qq:(ps.zip vs).foldl (fun tmps (t,a)=>tmps.setIfInBounds t a) a.tmps=(ps.toList.zip vs.toList).foldl (fun t (p,v)=>t.setIfInBounds p v) a.tmps:=by
      rw[<- Array.foldl_toList,Array.toList_zip]
    rw[<- qq]at ID;have ZT:Rel Br W E ⟨dR (A k).t ps.toList x,(A k).h,.round ds⟩ β2 F1 { tmps:=(ps.zip vs).foldl (fun tmps (t,a)=>tmps.setIfInBounds t a) a.tmps,defers:=[] } W:={
      len:=by rw[gy,ID.1];exact lI.len
      slots:=fun i hi=>ID.2 i (by simpa[gy]using hi)
      marks:=⟨[],⟨rfl,fun _=>rfl⟩,.nil,by simp⟩
      rows:=lI.rows
      inj:=lI.inj
      bF:=lI.bF
      bB:=fun i b h=>⟨.inr ⟨i,h⟩,(lI.bB i b h).2⟩
      FB:=fun b h=>⟨(lI.FB b h).1,.inl h⟩
      below := .refl _ _
      BW:=fun b h => .inl h
      top:=fun _ _ h=>h
      topn:=fun j hj=>by
        simp only[A8]at hj;split at hj
        · exact k1 j (qO.1 hj)
        · cases hj
      nn:=rfl
      inc:=fun _ h=>h
      keep:=C5.refl _ _
      sol:=fun _ _ _ h _=>h
      yl:=fun id l xs k' e h=>absurd h (lI.noctr pB id l xs k' e) }
    have hex:=wG k x WN hx;rw[B5,B5]at hex;refine wpIn_mono (Vl hex ZT) ?_;rintro e a1 Wa hq;cases e with
    | ret=>obtain⟨S3,hb,_⟩:=hq;exact hb.elim
    | exit i=>obtain⟨S3,hb,_⟩:=hq;exact hb.elim
    | goto l=>exact hq.elim
    | panic ch=>exact hq.elim
    | outgrown=>exact hq.elim
    | normal =>
    obtain⟨S3,hb,β3,F3,iy⟩:=hq;simp only[]at hb;have WO:Wa.heap[w.heap.size+1]? = some (.loop (rc .ready none)):=by rw[iy.below.block _ fun h=>(zm _ h).2.1 rfl];exact hl
    refine⟨_,run_beginRound WO (by rw[Mw]),?_⟩;obtain⟨W2,SR⟩:∃ W2,Wa.putObj (w.heap.size+1) (.loop { rc .ready none with state := .busy })=W2:=⟨_,rfl⟩
    rw[SR];have IF:W2.heap[w.heap.size+1]? = some (.loop { rc .ready none with state := .busy }):=by rw[<- SR];exact World.putObj_heap_same (Array.getElem?_eq_some_iff.1 WO).1
    have Js:∀ b,b≠w.heap.size+1->W2.heap[b]? = Wa.heap[b]? := fun b hb=>by rw[<- SR];exact World.putObj_heap_other hb
    have Cd:W2.heap.size=Wa.heap.size:=by rw[<- SR];simp
    have Gn:W2.os=Wa.os/\W2.tape=Wa.tape/\W2.output=Wa.output:=by rw[<- SR];exact⟨rfl,rfl,rfl⟩
    have FV:∀ {G:Nat->Prop},C5 G Wa W2:=fun {G}=>by rw[<- SR];exact gz WO rfl
    have ZU:=iy.below.size
    let Vn:Nat->Prop:=fun b=>W2.heap.size<=b∨(∃ i,y0 β3 i b)∨P5 b ∈ a1.defers
    have WQ:∀ D,P5 D ∈ a1.defers->Br D/\Wa.heap[D]? = some (.deferred (some [])):=fun D hD=>by
      obtain⟨Ds,⟨h1,h0⟩,h2,h3⟩:=iy.marks;rw[h1]at hD;obtain⟨D',Es,e⟩:=List.mem_map.1 hD;have:D'=D:=by simpa[P5]using e
      subst this;exact⟨(h3 D' Es).2.1,(h3 D' Es).1⟩
    have Ni:∀ b,Vn b->Br b:=fun b hb=>by
      rcases hb with h|⟨i,h⟩|h
      · exact .inl va5
      · exact(iy.bB i b h).1
      · exact(WQ b h).1
    let E2:Env P:=Env.plain P F3 (fun j=>if ig j ds=true then none else β3 j) (some (w.heap.size+1)) (.round ds) (fun h=>absurd rfl (h ds))
    have WR:Rel Vn W2 E2 S3 β3 F3 a1 W2:={
      len:=iy.len
      slots:=fun i hi=>(iy.slots i hi).grow (fun _ _=>rfl) (fun _ h=>h) FV
      marks:=by
        obtain⟨Ds,⟨h1,h0⟩,h2,h3⟩:=iy.marks;obtain rfl:=h0 (by intro h;cases h);exact⟨[],⟨h1,fun _=>rfl⟩,.nil,by simp⟩
      rows:=fun j=>(iy.rows j).grow (fun _ _=>rfl) (fun _ h=>h) FV fun b hb=>Js b (zm b (iy.bB j b hb).1).2.1
      inj:=iy.inj
      bF:=iy.bF
      bB:=fun i b h=>⟨.inr (.inl ⟨i,h⟩),by rw[Cd];exact(iy.bB i b h).2⟩
      FB:=fun b h=>⟨by rw[Cd];exact(iy.FB b h).1,.inl h⟩
      below := .refl _ _
      BW:=fun b h => .inl h
      top:=fun j hd h=>by
        have h:(if ig j ds=true then none else β3 j)=some hd:=h;split at h
        · cases h
        · exact h
      topn:=fun j hj=>by
        have ZV:S3.n = .round ds:=iy.nn;simp only[A8,ZV]at hj;split at hj
        · show(if ig j ds=true then none else β3 j)=none
          rw[if_pos hj]
        · cases hj
      nn:=iy.nn
      inc:=fun _ h=>h
      keep:=C5.refl _ _
      sol:=fun _ _ _ h _=>h
      yl:=fun id l xs k' e h=>by obtain⟨_,_,_,O',WS,_⟩:=iy.yl id l xs k' e h;exact WS.elim }
    refine wpIn_mono (Vm hb WR) ?_
    -- the Vo end
    have fin:∀ (S4:St) (β4:Nat->Option Hd) (F4:Nat->Prop) (a2:Act) (W3:World) (jump:Option Code),Rel Vn W2 E2 S4 β4 F4 a2 W3 ->
        ∃ W4,(Instr.endRound (w.heap.size+1) jump).run P W3 = .ok (.bool jump.isNone) W4/\(W4.os=W.os/\W4.tape=W.tape/\W4.output=W.output)/\W.heap.size<=W4.heap.size/\(∀ b,O b->W4.heap[b]? = W.heap[b]?)/\C5 F W W4 /\
          Rel B w0 F0 ⟨(A k).t,S4.h,.plain⟩ β4 F4 a W4/\(∀ b,F b->F4 b)/\(∀ i b,y0 β4 i b->¬ O b/\b≠w.heap.size+1/\b≠w.heap.size)/\(∀ b,F4 b->¬ O b/\b≠w.heap.size+1/\b≠w.heap.size) /\
          W4.heap[w.heap.size]? = some (.deferred (some []))/\W4.heap[w.heap.size+1]? = some (.loop (rc (if jump.isNone then .ready else .done) jump)):=by
      intro S4 β4 F4 a2 W3 jump oQ;have ZW:¬ Vn (w.heap.size+1):=fun h=>(zm _ (Ni _ h)).2.1 rfl
      have WT:W3.heap[w.heap.size+1]? = some (.loop { rc .ready none with state := .busy }):=by rw[oQ.below.block _ ZW];exact IF
      have Ug:=run_endRound (P:=P) jump WT;rw[Mw]at Ug;obtain⟨W4,SS⟩:∃ W4,W3.putObj (w.heap.size+1) (.loop (rc (if jump.isNone then .ready else .done) jump))=W4:=⟨_,rfl⟩
      have Jt:∀ b,b≠w.heap.size+1->W4.heap[b]? = W3.heap[b]? := fun b hb=>by rw[<- SS];exact World.putObj_heap_other hb
      have ZX:W4.heap[w.heap.size+1]? = some (.loop (rc (if jump.isNone then .ready else .done) jump)):=by rw[<- SS];exact World.putObj_heap_same (Array.getElem?_eq_some_iff.1 WT).1
      have Yz:∀ {G:Nat->Prop},C5 G W3 W4:=fun {G}=>by rw[<- SS];exact gz WT rfl
      have WU:W4.heap.size=W3.heap.size:=by rw[<- SS];simp
      have Gp:W4.os=W3.os/\W4.tape=W3.tape/\W4.output=W3.output:=by rw[<- SS];exact⟨rfl,rfl,rfl⟩
      have ZY:=oQ.below.size;have same:∀ b,¬ Br b->b≠w.heap.size+1->W4.heap[b]? = W.heap[b]? := fun b hb aW=>by
        rw[Jt b aW,oQ.below.block b fun h=>hb (Ni b h),Js b aW,iy.below.block b hb]
      have Uh:∀ b,F1 b->F4 b:=fun b h=>oQ.inc b (iy.inc b h)
      have qI:C5 F1 W W4:=fun b o u hb hc=>Yz (G:=fun _=>True) b o u trivial (oQ.keep b o u (iy.inc b hb) (FV (G:=fun _=>True) b o u trivial (iy.keep b o u hb hc)))
      have yp:∀ i b,y0 β4 i b->Br b/\b<W3.heap.size:=fun i b h=>⟨Ni b (oQ.bB i b h).1,(oQ.bB i b h).2⟩
      have PT:∀ b,F4 b->b<W3.heap.size/\(F1 b∨Br b):=fun b h=>by
        obtain⟨h1,h2⟩:=oQ.FB b h;refine⟨h1,?_⟩;rcases h2 with h2|h2
        · exact(iy.FB b h2).2
        · exact .inr (Ni b h2)
      refine⟨W4,by rw[<- SS,Mw];exact Ug,?_,va5,fun b hb=>same b (fun h=>(zm b h).1 hb) (by have:=j2 b hb;omega),fun b o u hb hc=>qI b o u (j1 b hb) hc,?_,fun b hb=>Uh b (j1 b hb),fun i b h=>zm b (yp i b h).1,fun b h=>(PT b h).2.elim (j4 b) (zm b),?_,ZX⟩
      · have e1:=oQ.below
        have e2:=iy.below;exact⟨Gp.1.trans (e1.os.trans (Gn.1.trans e2.os)),Gp.2.1.trans (e1.tape.trans (Gn.2.1.trans e2.tape)),Gp.2.2.trans (e1.output.trans (Gn.2.2.trans e2.output))⟩
      · have key:=lI.back pB (w':=W4) (β':=β4) (F':=F4) (h':=S4.h) (fun j hj=>?_) Uh qI ?_ va5 (fun id=>?_) oQ.inj oQ.bF (fun i b h=>⟨QE b (yp i b h).1,by rw[WU];exact(yp i b h).2⟩) (fun b h=>?_) (fun b hb YA=>?_) (fun q o ho hc hq=>?_) (fun id l yx k' e h=>?_)
        · rw[Yx]at key;exact key
        · have dc:ig j ds=false:=by
            cases hh:ig j ds with
            | false=>rfl
            | true=>exact absurd (k1 j (qO.1 hh)) hj
          cases dA:β2 j with
          | none=>exact absurd dA hj
          | some hd =>
            have h3:=iy.top j hd dA;refine oQ.top j hd ?_;show(if ig j ds=true then none else β3 j)=some hd
            rw[dc];simpa using h3
        · have e1:=oQ.below
          have e2:=iy.below;exact⟨Gp.1.trans (e1.os.trans (Gn.1.trans e2.os)),Gp.2.1.trans (e1.tape.trans (Gn.2.1.trans e2.tape)),Gp.2.2.trans (e1.output.trans (Gn.2.2.trans e2.output))⟩
        · exact(oQ.rows id).grow (fun _ _=>rfl) (fun _ h=>h) Yz fun b hb=>Jt b (zm b (yp id b hb).1).2.1
        · obtain⟨h1,h2⟩:=PT b h
          refine⟨va5,?_⟩;rcases h2 with h2|h2
          · exact(lI.FB b h2).2
          · exact .inr (QE b h2)
        · refine same b (fun h=>YA (QE b h)) fun e=>YA ?_
          rw[e];exact hR.BW _ va5
        · have A2:q<w.heap.size:=by
            rcases hq with h|h
            · omega
            · exact Nh q h
          have h3:=iy.sol (by intro h;cases h) q o ho hc;rw[Jt q va5];refine oQ.sol (by intro h;cases h) q o ?_ hc;rw[Js q va5];exact h3
        · obtain⟨_,_,_,O',WS,_⟩:=oQ.yl id l yx k' e h
          exact WS.elim
      · rw[same _ (fun h=>(zm _ h).2.2 rfl) va5];exact j5
    rintro e a2 W3 hq;cases e with
    | normal =>
      obtain⟨S4,h4,β4,F4,oQ⟩:=hq;simp only[]at h4;rw[U5]at h4;obtain⟨⟨WV,ZZ⟩,PG⟩:=h4;obtain⟨W4,q1,q2,q3,q4,q5,q6,q7,q8,q9,Ui,Uj⟩:=fin S4 β4 F4 a2 W3 none oQ;refine⟨_,W4,q1,q2.1,q2.2.1,q2.2.2,q3,q4,q5,.inl ⟨rfl,A (k+1),β4,F4,?_,q7,j2,q8,q9,Ui,va5,.inl ⟨rfl,rfl,WV,Uj⟩⟩⟩;rw[ZZ]at PG;have wK:=kA PG;have:Rel B w0 F0 ⟨(A k).t,(A (k+1)).h,.plain⟩ β4 F4 a W4:=q6.forget rfl rfl fun i=>(wK i).symm
      rw[Yy k,<- Yy (k+1),<- Yx (k+1)]at this;exact this
    | ret =>
      obtain⟨S4,h4,β4,F4,oQ⟩:=hq;obtain⟨W4,q1,q2,q3,q4,q5,q6,q7,q8,q9,Ui,Uj⟩:=fin S4 β4 F4 a2 W3 (some .ret) oQ;exact⟨_,W4,q1,q2.1,q2.2.1,q2.2.2,q3,q4,q5,.inr ⟨rfl,_,β4,F4,q6,q7,j2,q8,q9,Ui,va5,.inr ⟨rfl,.ret,Uj,.inl ⟨rfl,h4⟩⟩⟩⟩
    | exit i =>
      obtain⟨S4,h4,β4,F4,oQ⟩:=hq;obtain⟨W4,q1,q2,q3,q4,q5,q6,q7,q8,q9,Ui,Uj⟩:=fin S4 β4 F4 a2 W3 (some (.exit i)) oQ;exact⟨_,W4,q1,q2.1,q2.2.1,q2.2.2,q3,q4,q5,.inr ⟨rfl,_,β4,F4,q6,q7,j2,q8,q9,Ui,va5,.inr ⟨rfl,.exit i,Uj,.inr ⟨i,rfl,h4⟩⟩⟩⟩
    | goto l=>exact hq.elim
    | panic ch=>exact hq.elim
    | outgrown=>exact hq.elim
  obtain⟨eg,Uk⟩:=ZL F W1 us (w.heap.size+1) J (fun b hb=>by have:=(hR.FB b hb).1;omega) l2.symm (fun i hi=>by
    have bO:=(r2 i hi).shut (G5 Y7 i)
    exact bO.mono (fun _ h=>h) (fun b o u hb hc=>by rw[World.cell?_of_block (w:=w) (PF b (hR.FB b hb).1)];exact hc)) yH TV WM
  refine⟨w.heap.size+1,[P5 w.heap.size],W1,{ target := .fn (.func gf) us,args:=#[.func (.yield (w.heap.size+1)) #[] #[]] },W1,gf,#[.func (.yield (w.heap.size+1)) #[] #[]]++us,W1,?_,?_,?_,?_,fun h=>(by cases h),?_⟩
  · rw[<- BV,Mw];exact run_enterLoop_outer _ _ _ _ _
  · simp only[resolve,hv]
    simp[go_sem]
  · intro f' _;trivial
  · simp[invoke,go_sem,eg]
  · refine CallsIn.mono Uk ?_
    rintro e W2 ⟨⟨v,rfl⟩,_,_,_,a0a,O,k,e',⟨S',β',F',O5,j1,j2,j3,j4,j5,j6,j7⟩,hk⟩;have CA:P5 w.heap.size ∉ a.defers:=fun h=>by have:=Nh _ h;omega
    have after:∀ (o:Obj),(∃ r:Loop,W2.heap[w.heap.size+1]? = some (.loop r))->Rel B w0 F0 S' β' F' { a with defers:=[P5 w.heap.size]++a.defers } (W2.putObj (w.heap.size+1) o):=fun o ⟨r,hl⟩=>by
      have h1:Rel B w0 F0 S' β' F' a (W2.putObj (w.heap.size+1) o):=O5.other ⟨rfl,rfl,rfl⟩ va9 (O:=fun b=>b=w.heap.size+1) (fun b _ hb=>World.putObj_heap_other hb) (fun b e=>by rw[e];exact hR.BW _ va5) (fun b e=>by omega)
        (fun i b _ hb e=>(j3 i b hb).2.1 e) (fun b hb e=>(j4 b hb).2.1 e) (fun D hD e=>by have:=Nh D hD;omega) (O5.noctr pB)
      exact h1.marked pB ((World.putObj_heap_other va5).trans j5) (hR.BW _ (Nat.le_refl _)) SK CA
    rcases j7 with ⟨rfl,rfl,WN,hl⟩|⟨rfl,c,hl,hc⟩
    · obtain rfl:=hk rfl
      refine⟨none,_,by have:=run_endLoop (P:=P) hl (by rw[Mw];simp);rw[Mw]at this;exact this,?_⟩;have hd:=Uf WN;rw[B5]at hd;exact⟨_,hd,β',F',after _ ⟨_,hl⟩⟩
    · refine⟨some c,_,by have:=run_endLoop (P:=P) hl (by rw[Mw];simp);rw[Mw]at this;exact this,?_⟩
      rcases hc with ⟨rfl,hq⟩|⟨i,rfl,hq⟩
      · exact wpIn_ret ⟨S',hq,β',F',after _ ⟨_,hl⟩⟩
      · exact wpIn_exit ⟨S',hq,β',F',after _ ⟨_,hl⟩⟩
theorem CB(hm:P.follows .mixedOrders=true):∀ (c:Code) {B:Nat->Prop} {w0:World} {F0:Env P} {S:St} {β:Nat->Option Hd} {F:Nat->Prop} {a:Act} {w:World} {Q:Ex->St->Prop},ex P c S Q->Rel B w0 F0 S β F a w->c.wpIn (FW F0.r) 0 P (Gm B w0 F0 Q) a w:=by
 intro c
 induction c with
 | skip=>intro B w0 F0 S β F a w Q h hR;exact wpIn_skip (.norm hR h)
 | label l=>intro B w0 F0 S β F a w Q h hR;exact wpIn_label (.norm hR h)
 | ret=>intro B w0 F0 S β F a w Q h hR;exact wpIn_ret ⟨S,h,β,F,hR⟩
 | exit i=>intro B w0 F0 S β F a w Q h hR;exact wpIn_exit ⟨S,h,β,F,hR⟩
 | region id ops draw =>
  intro B w0 F0 S β F a w Q h hR;cases draw with
  | false =>
   refine wpIn_region ?_;rw[List.range_eq_range'];have:=qS (P:=P) (ops:=ops) (K:=fun S=>iD S (Q .norm)) (Q:=Gm B w0 F0 Q) (fun S β F a w hR h=>by rw[B5]at h;exact .norm hR h) ops.toList 0 va9 hR h;simpa using this
  | true =>
   simp only[ex,B5]at h;obtain⟨F',O5⟩:=hR.preF P ops.toList;obtain⟨h1,h2⟩:=h;exact qT (K:=fun S=>Q .norm S) hm (fun S β F a w hR h => .norm hR h) O5 h1 (by simpa only[B5]using h2)
 | seq x y Nj Nk =>
  intro B w0 F0 S β F a w Q h hR;refine wpIn_seq (wpIn_mono (Nj h hR) ?_);rintro e a' w' hq;cases e with
  | normal=>obtain⟨S',h1,β',F',h2⟩:=hq;exact Nk h1 h2
  | ret=>exact hq
  | exit i=>exact hq
  | goto l=>exact hq
  | panic ch=>exact hq
  | outgrown=>exact hq
 | cond c x y Nj Nk =>
  intro B w0 F0 S β F a w Q h hR;simp only[ex]at h;have hc:=hR.get c;split at h
  ·rename_i e;rw[e]at hc;exact wpIn_cond_true hc.tt_inv (Nj h hR)
  ·rename_i e;rw[e]at hc;exact wpIn_cond_false hc.ff_inv (Nk h hR)
  ·rename_i b e;rw[e]at hc;exact wpIn_cond_split hc.bool_inv (fun hb=>Nj (h.1 hb) hR) fun hb=>Nk (h.2 hb) hR
  ·exact h.elim
 | scope x ih =>
  intro B w0 F0 S β F a w Q h hR;exact qV (ih h hR) (fun _ _ _ q=>q)
 | block id x ih =>
  intro B w0 F0 S β F a w Q h hR;refine wpIn_block (wpIn_mono (ih h hR) ?_);rintro e a' w' hq;cases e with
  | normal=>exact hq
  | ret=>exact hq
  | exit i =>
   obtain⟨S',h1,β',F',h2⟩:=hq;simp only[]at h1;cases hb:Nat.beq i id with
   | true =>
    rw[hb]at h1;have:=zA8 hb;simp only[Exit.inBlock,this,if_true];exact⟨S',h1,β',F',h2⟩
   | false =>
    rw[hb]at h1;have:=Nat.ne_of_beq_eq_false hb;simp only[Exit.inBlock,this,if_false];exact⟨S',h1,β',F',h2⟩
  | goto l=>exact hq
  | panic ch=>exact hq
  | outgrown=>exact hq
 | loop x ih =>
  intro B w0 F0 S β F a w Q h hR;rcases h with ⟨n,h⟩|⟨ι,ws,bs,vs,V,BR,VR,μ,I,h⟩
  ·exact Nf ih n h hR
  ·rw[kE,B5]at h;obtain⟨⟨i,h0⟩,Ju⟩:=h;have Qa:(Ev.canonV vs S).n=F0.n:=(qW vs S).trans hR.nn;obtain⟨P9,E9,I0,⟨hI,rfl,rfl,rfl⟩,β',O5⟩:=dj Qa hR h0;refine Y5 (fun n a w=>∃ i,μ i=n/\I i/\∃ β F,Rel B w0 F0 (M5 (Z9 x) (Ev.canonV vs S) ws bs vs (V i) (BR i) (VR i)) β F a w) (μ i) ⟨i,rfl,hI,β',F,O5⟩ ?_;rintro n a w ⟨i,rfl,hI,β',F,O5⟩;have h1:=Ju i hI;rw[B5]at h1;refine wpIn_mono (ih h1 O5) ?_;rintro e a' w' hq;cases e with
   | normal =>
    obtain⟨S',⟨i',h1⟩,β',F',h2⟩:=hq;obtain⟨P9,E9,I0,⟨⟨A2,QA⟩,rfl,rfl,rfl⟩,β',O5⟩:=dj Qa h2 h1;exact⟨_,A2,i',rfl,QA,β',F',O5⟩
   | ret=>exact hq
   | exit i=>exact hq
   | goto l=>exact hq
   | panic ch=>exact hq
   | outgrown=>exact hq
 | rangeFunc g ps assign lQ Vl Vm =>
  intro B w0 F0 S β F a w Q h hR;exact tF Vl Vm h hR
 | _=>intro B w0 F0 S β F a w Q h;exact h.elim
end
/- A function's contract from its body. A helper text: it speaks of no program. -/
section
variable {P:Program}{B:Nat->Prop}{w0:World}{F0:Env P}{S:St}{β:Nat->Option Hd}{F:Nat->Prop}{a:Act}{w:World}
def pH(tmps:Array Value):ResultVar->Sem Value
 | .tmp t=>pure (tmps.getD t undef)
 | .cell a t=>do loadVar t (<- asAddr (tmps.getD a undef))
theorem nh(hR:Rel B w0 F0 S β F a w):∀ (l:List ResultVar) {r:List AV},cJ P S l=some r ->
  ∃ vs,(l.mapM (pH a.tmps)).run P w = .ok vs w/\vs.length=r.length/\∀ i,i<r.length->v7 (fun b=>F b∨lx S β b) w (r.getD i .any) (vs.getD i undef)
 | [],r,h=>by
  simp only[cJ,Option.some.injEq]at h;subst h;exact⟨[],by simp,rfl,fun i hi=>absurd hi (zB3 i)⟩
 | .tmp t :: l,r,h=>by
  simp only[cJ]at h;split at h
  ·rename_i r' hr;simp only[Option.some.injEq]at h;subst h;obtain⟨vs,h1,h2,h3⟩:=nh hR l hr;refine⟨a.tmps.getD t undef :: vs,by simp[List.mapM_cons,h1,pH],by simp[h2],fun i hi=>?_⟩;cases i with
   | zero=>exact F5 hR 4 (hR.get (.tmp t))
   | succ i=>exact h3 i (by simpa using hi)
  ·cases h
 | .cell x t :: l,r,h=>by
  simp only[cJ]at h;split at h
  ·cases h
  ·rename_i r' hr;obtain⟨vs,h1,h2,h3⟩:=nh hR l hr;split at h
   ·rename_i i d hi hd;split at h
    ·rename_i id sz j off hx;split at h
     ·rename_i ty cs C2;split at h
      ·rename_i v hv;simp only[Option.some.injEq]at h;subst h;have yG:=hR.get (.tmp x);rw[show S.get (.tmp x) = .ptr id sz j off from hx]at yG;have jZ:=hR.rows id;rw[C2]at jZ;obtain⟨hd',b,ws,e1,em,e2,e3,e4,e5⟩:=jZ;obtain⟨WW,b',e6,e7,e8⟩:∃ hd b,β id=some hd/\hd.b=some b/\a.tmps.getD x undef = .pointer (some ⟨b,j*sz+off,none⟩):=yG.ptr_inv;rw[e1]at e6;cases e6
       rw[e2]at e7;cases e7
       have I5:∀ k,k<cs.length->w.cell? ⟨b,0+k,none⟩=some (ws.getD k undef):=fun k hk=>by rw[Nat.zero_add];exact G0 e3 va5
       obtain⟨u,Cc,Ee⟩:=cZ hi hd (b:=b) (o:=0) (off:=j*sz+off) I5 e5 hv;refine⟨u :: vs,?_,by simp[h2],fun i hi=>?_⟩
       ·have:(pH a.tmps (.cell x t)).run P w = .ok u w:=by
         rw[Nat.zero_add]at Cc;simp only[pH,e8];simpa[Instr.loadAt,Instr.sureAddr,asAddr]using Cc
        simp[List.mapM_cons,h1,this]
       ·cases i with
        | zero=>exact F5 hR 4 Ee
        | succ i=>exact h3 i (by simpa using hi)
      ·cases h
     ·cases h
    ·cases h
   ·cases h
theorem AV.fin1_rep{x:AV}{v:Value}(h:v7 F w x v):v7 F w x.fin1 v:=by
 cases h<;>first|exact .bool _|(simp only[AV.fin1];constructor<;>assumption)
theorem AV.fin_rep{x:AV}{v:Value}(h:v7 F w x v):v7 F w x.fin v:=by
 cases h with
 | tt=>exact .bool true
 | ff=>exact .bool false
 | tup hl hh =>
  refine .tup (by simpa using hl) fun i hi=>?_
  simp only[List.length_map]at hi;rw[s7 _ rfl];exact AV.fin1_rep (hh i hi)
 | _=>(try simp only[AV.fin]);constructor<;>assumption
theorem iJ(hR:Rel B w0 F0 S β F a w){fn:Func}{r:List AV}(h:cJ P S fn.results.toList=some r) :
  ∃ v,(results fn a.tmps).run P w = .ok v w/\v7 (fun b=>F b∨lx S β b) w (dS r).fin v:=by
 obtain⟨vs,h1,h2,h3⟩:=nh hR _ h;have hm:(fn.results.mapM (pH a.tmps)).run P w = .ok vs.toArray w:=by
  rw[Array.mapM_eq_mapM_toList];simp[h1]
 refine⟨if h:vs.toArray.size=1 then vs.toArray[0]else .tuple vs.toArray,?_,AV.fin_rep ?_⟩
 ·have e:results fn a.tmps=(do let vs <- fn.results.mapM (pH a.tmps);pure (if h:vs.size=1 then vs[0]else .tuple vs)):=by
   unfold results
   congr 1
  rw[e,Sem.run_bind,hm];rfl
 ·cases r with
  | nil =>
   have:vs=[]:=by simpa using h2
   subst this;exact .tup rfl fun i hi=>absurd hi (zB3 i)
  | cons x l =>
   cases l with
   | nil =>
    obtain⟨v,rfl⟩:∃ v,vs=[v]:=by
     match vs,h2 with
     | [v],_=>exact⟨v,rfl⟩
    exact h3 0 va9
   | cons y l =>
    have:vs.toArray.size≠1:=by simp[h2]
    rw[dif_neg this];exact .tup (by simp[h2]) fun i hi=>by
     have:=h3 i hi;simpa[Array.getD_eq_getD_getElem?,List.getD_eq_getElem?_getD]using this
theorem kH(hR:Rel B w0 F0 S β F a w):∀ (l:List ResultVar) {r:List AV},bh P S l=some r ->
  ∃ vs,(l.mapM (pH a.tmps)).run P w = .ok vs w/\vs.length=r.length/\∀ i,i<r.length->B4 β F w (r.getD i .any) (vs.getD i undef)
 | [],r,h=>by
  simp only[bh,Option.some.injEq]at h;subst h;exact⟨[],by simp,rfl,fun i hi=>absurd hi (zB3 i)⟩
 | .tmp t :: l,r,h=>by
  simp only[bh]at h;split at h
  ·rename_i r' hr;simp only[Option.some.injEq]at h;subst h;obtain⟨vs,h1,h2,h3⟩:=kH hR l hr;refine⟨a.tmps.getD t undef :: vs,by simp[List.mapM_cons,h1,pH],by simp[h2],fun i hi=>?_⟩;cases i with
   | zero=>exact hR.get (.tmp t)
   | succ i=>exact h3 i (by simpa using hi)
  ·cases h
 | .cell x t :: l,r,h=>by
  simp only[bh]at h;split at h
  ·cases h
  ·rename_i r' hr;obtain⟨vs,h1,h2,h3⟩:=kH hR l hr;split at h
   ·rename_i i d hi hd;split at h
    ·rename_i id sz j off hx;split at h
     ·rename_i ty cs C2;split at h
      ·rename_i v hv;simp only[Option.some.injEq]at h;subst h;have yG:=hR.get (.tmp x);rw[show S.get (.tmp x) = .ptr id sz j off from hx]at yG;have jZ:=hR.rows id;rw[C2]at jZ;obtain⟨hd',b,ws,e1,em,e2,e3,e4,e5⟩:=jZ;obtain⟨WW,b',e6,e7,e8⟩:∃ hd b,β id=some hd/\hd.b=some b/\a.tmps.getD x undef = .pointer (some ⟨b,j*sz+off,none⟩):=yG.ptr_inv;rw[e1]at e6;cases e6
       rw[e2]at e7;cases e7
       have I5:∀ k,k<cs.length->w.cell? ⟨b,0+k,none⟩=some (ws.getD k undef):=fun k hk=>by rw[Nat.zero_add];exact G0 e3 va5
       obtain⟨u,Cc,Ee⟩:=cZ hi hd (b:=b) (o:=0) (off:=j*sz+off) I5 e5 hv;refine⟨u :: vs,?_,by simp[h2],fun i hi=>?_⟩
       ·have:(pH a.tmps (.cell x t)).run P w = .ok u w:=by
         rw[Nat.zero_add]at Cc;simp only[pH,e8];simpa[Instr.loadAt,Instr.sureAddr,asAddr]using Cc
        simp[List.mapM_cons,h1,this]
       ·cases i with
        | zero=>exact Ee
        | succ i=>exact h3 i (by simpa using hi)
      ·cases h
     ·cases h
    ·cases h
   ·cases h
theorem AV.fin1_repW{x:AV}{v:Value}(h:B4 β F w x v):B4 β F w x.fin1 v:=by
 cases x<;>first|exact h|(rw[h.tt_inv];exact .imm (.bool true))|(rw[h.ff_inv];exact .imm (.bool false))
theorem AV.fin_repW{x:AV}{v:Value}(h:B4 β F w x v):B4 β F w x.fin v:=by
 cases x with
 | tt=>rw[h.tt_inv];exact .imm (.bool true)
 | ff=>rw[h.ff_inv];exact .imm (.bool false)
 | tup l =>
  obtain⟨vs,rfl,hl,hr⟩:=h.tup_inv;refine .tup (by simpa using hl) fun i hi=>?_
  simp only[List.length_map]at hi;rw[s7 _ rfl];exact AV.fin1_repW (hr i hi)
 | _=>exact h
theorem lR(hR:Rel B w0 F0 S β F a w){fn:Func}{r:List AV}(h:bh P S fn.results.toList=some r) :
  ∃ v,(results fn a.tmps).run P w = .ok v w/\B4 β F w (dS r).fin v:=by
 obtain⟨vs,h1,h2,h3⟩:=kH hR _ h;have hm:(fn.results.mapM (pH a.tmps)).run P w = .ok vs.toArray w:=by
  rw[Array.mapM_eq_mapM_toList];simp[h1]
 refine⟨if h:vs.toArray.size=1 then vs.toArray[0]else .tuple vs.toArray,?_,AV.fin_repW ?_⟩
 ·have e:results fn a.tmps=(do let vs <- fn.results.mapM (pH a.tmps);pure (if h:vs.size=1 then vs[0]else .tuple vs)):=by
   unfold results
   congr 1
  rw[e,Sem.run_bind,hm];rfl
 ·cases r with
  | nil =>
   have:vs=[]:=by simpa using h2
   subst this;exact .tup rfl fun i hi=>absurd hi (zB3 i)
  | cons x l =>
   cases l with
   | nil =>
    obtain⟨v,rfl⟩:∃ v,vs=[v]:=by
     match vs,h2 with
     | [v],_=>exact⟨v,rfl⟩
    exact h3 0 va9
   | cons y l =>
    have:vs.toArray.size≠1:=by simp[h2]
    rw[dif_neg this];exact .tup (by simp[h2]) fun i hi=>by
     have:=h3 i hi;simpa[Array.getD_eq_getD_getElem?,List.getD_eq_getElem?_getD]using this
theorem Rel.takeD{t:Array Value}{d:Deferred}{ds:List Deferred}(hR:Rel B w0 F0 S β F { tmps:=t,defers:=d :: ds } w) :
  ∃ D,d.target = .collected D/\(Instr.takeDeferred D).run P w = .ok [] (w.putObj D (.deferred none))/\Rel B w0 F0 S β F { tmps:=t,defers:=ds } (w.putObj D (.deferred none)):=by
 obtain⟨Ds,⟨h1,h0⟩,h2,h3⟩:=hR.marks;cases Ds with
 | nil=>simp at h1
 | cons D Ds =>
  simp only[List.map_cons,List.cons.injEq]at h1;obtain⟨rfl,rfl⟩:=h1;have pB:F0.n = .plain:=by
   by_cases h:F0.n = .plain
   ·exact h
   ·exact absurd (h0 h) va9
  obtain⟨Wk,Ga⟩:=List.nodup_cons.1 h2;obtain⟨hD,hB,PU⟩:=h3 D va9;refine⟨D,rfl,run_takeDeferred hD,?_⟩;have jK:Rel B w0 F0 S β F { tmps:=t,defers:=Ds.map P5 } w :=
   { hR with
    len:=hR.len
    slots:=hR.slots
    marks:=⟨Ds,⟨rfl,fun h=>absurd pB h⟩,Ga,fun D' Es=>h3 D' (by simp[Es])⟩
    yl:=fun id l xs k e h=>absurd h (hR.noctr pB id l xs k e) }
  refine jK.otherK ⟨rfl,rfl,rfl⟩ va9 (O:=fun b=>b=D) (fun b _ hb=>World.putObj_heap_other hb) (fun b e=>by rw[e];exact hB) (fun b e=>by rw[e];exact PU) (fun i b hi hb e=>?_) (gz hD rfl) (fun D' Es e=>?_) (hR.noctr pB)
  ·subst e;obtain⟨vs,ty,hc⟩:=iB (hR.rows i) hi hb;rw[hD]at hc;cases hc
  ·obtain⟨D'',h4,h5⟩:=List.mem_map.1 Es;have:D''=D':=by simpa[P5]using h5
   subst this;subst e;exact Wk h4
theorem cS{fn:Func}{t:Array Value}{R:Ending->World->Prop}:∀ (ds:List Deferred) {w:World},Rel B w0 F0 S β F { tmps:=t,defers:=ds } w->(∀ w',Rel B w0 F0 S β F { tmps:=t,defers:=[] } w'->∃ v,(results fn t).run P w' = .ok v w'/\R (.returned v) w') ->
  LeavesInM Fence.wide 0 P fn t R ds .returning w
 | [],w,hR,h=>h w hR
 | d :: ds,w,hR,h=>by
  obtain⟨D,h1,h2,h3⟩:=hR.takeD;exact⟨by simp,.inl ⟨D,_,h1,h2,cS ds h3 h⟩⟩
theorem qX(hm:P.follows .mixedOrders=true){f:FuncId}{fn:Func}{args:List AV}{res:AV}(hf:P.funcs[f]? = some fn)(J8:(fn.name == "runtime.NumGoroutine")=false) (h:body P fn args res):PC P f args res:=by
 intro F w vs hF H5 R0;unfold body at h;split at h
 ·exact h.elim
 ·rename_i c hb;refine .inl ⟨Go.MuLone.run_callFunc_enter hf J8 hb vs w,callsIn_wide.1 (callsIn_of_wp_marks (n:=0) hf hb trivial ?_)⟩;rw[B5]at h;have hR:Rel (fun b=>w.heap.size<=b) w (Env.plain P F (fun _=>none) none .plain (fun _=>rfl)) ⟨args++List.replicate (fn.ntmps-args.length) .any,List.replicate fn.ntmps .none,.plain⟩ (fun _=>none) F { tmps:=vs++Array.replicate (fn.ntmps-vs.size) undef,defers:=[] } w:={
   len:=by simp[H5]
   slots:=fun i hi=>by
    by_cases A2:i<args.length
    ·have:=R0 i A2;have e1:(args++List.replicate (fn.ntmps-args.length) AV.any).getD i .any=args.getD i .any:=by simp[List.getD,List.getElem?_append,A2]
     have e2:(vs++Array.replicate (fn.ntmps-vs.size) undef).getD i undef=vs.getD i undef:=by
      simp[Array.getD_eq_getD_getElem?,Array.getElem?_append,show i<vs.size by omega]
     rw[e1,e2];exact .imm this
    ·have e1:(args++List.replicate (fn.ntmps-args.length) AV.any).getD i .any = .any:=by
      simp only[List.getD,List.getElem?_append,A2,if_false,List.getElem?_replicate];split<;>rfl
     rw[e1];exact .imm (.any _)
   marks:=⟨[],⟨rfl,fun _=>rfl⟩,.nil,by simp⟩
   rows:=fun i=>by
    have:(St.row ⟨args++List.replicate (fn.ntmps-args.length) .any,List.replicate fn.ntmps .none,.plain⟩ i) = .none:=by
     simp only[St.row,List.getD,List.getElem?_replicate];split<;>rfl
    rw[this];trivial
   inj:=fun i j b _ _ h=>by simp[y0]at h
   bF:=fun i b _ h=>by simp[y0]at h
   bB:=fun i b h=>by simp[y0]at h
   FB:=fun b hb=>⟨hF b hb,.inl hb⟩
   below := .refl _ _
   BW:=fun _ h=>h
   top:=fun _ _ h=>by cases h
   topn:=fun _ _=>rfl
   nn:=rfl
   inc:=fun _ h=>h
   keep:=C5.refl _ _
   sol:=fun _ _ _ h _=>h
   yl:=fun id l xs k e h=>by
    have:(St.row ⟨args++List.replicate (fn.ntmps-args.length) .any,List.replicate fn.ntmps .none,.plain⟩ id) = .none:=by
     simp only[St.row,List.getD,List.getElem?_replicate];split<;>rfl
    rw[this]at h;cases h }
  refine wpIn_mono (CB hm c h hR) ?_;have fin:∀ {S β F' a' w'} {r:List AV},Rel (fun b=>w.heap.size<=b) w (Env.plain P F (fun _=>none) none .plain (fun _=>rfl)) S β F' a' w'->cJ P S fn.results.toList=some r->BP (dS r).fin (fun v=>v=res) ->
    LeavesInM Fence.wide 0 P fn a'.tmps (fun e w'=>∃ v,e = .returned v/\RowKit.Below w.heap.size w w'/\v7 (fun b=>F b∨w.heap.size<=b) w' res v) a'.defers .returning w':=by
   intro S β F' a' w' r O5 hr hv;rw[cX]at hv;obtain⟨t,ds⟩:=a';refine cS ds O5 fun Vp U3 => ?_
   obtain⟨v,h1,h2⟩:=iJ U3 hr;rw[hv]at h2;exact⟨v,h1,v,rfl,U3.below.below,h2.mono (fun b hb=>by
    rcases hb with hb|⟨i,_,hb⟩
    ·exact(U3.FB b hb).2
    ·exact .inr (U3.bB i b hb).1) (fun _ _ _ _ h=>h)⟩
  rintro e a' w' hq;cases e with
  | normal =>
   obtain⟨S',h1,β',F',O5⟩:=hq;simp only[]at h1;split at h1
   ·exact fin O5 ‹_› h1
   ·exact h1.elim
  | ret =>
   obtain⟨S',h1,β',F',O5⟩:=hq;simp only[]at h1;split at h1
   ·exact fin O5 ‹_› h1
   ·exact h1.elim
  | exit i=>obtain⟨S',h1,_⟩:=hq;exact h1.elim
  | goto l=>exact hq.elim
  | panic ch=>exact hq.elim
  | outgrown=>exact hq.elim
theorem oT(s n k:Nat)(h:k<n):(List.range' s n).getD k 0=s+k:=by
 simp[List.getD,h]
theorem CC(hm:P.follows .mixedOrders=true){f:FuncId}{fn:Func}{args:List AV}{ins n7:List Row}{res:AV}(hf:P.funcs[f]? = some fn)(J8:(fn.name == "runtime.NumGoroutine")=false) (h:Eo P fn args ins res n7):PW P f args ins res n7:=by
 intro F w vs β hF H5 R0 O0;unfold Eo at h;split at h
 ·exact h.elim
 rename_i c hb;obtain⟨Jv,h⟩:=h;simp only[zA2]at Jv;obtain⟨⟨c1,c2⟩,c3⟩:=Jv;have c3:=Nat.le_of_ble_eq_true c3;refine⟨Go.MuLone.run_callFunc_enter hf J8 hb vs w,callsIn_wide.1 (callsIn_of_wp_marks (n:=0) hf hb trivial ?_)⟩;rw[B5]at h;obtain⟨sh,Jw⟩:∃ sh,List.range' fn.ntmps ins.length=sh:=⟨_,rfl⟩
 rw[Jw]at h;have shl:sh.length=ins.length:=by rw[<- Jw];simp
 have Nl:∀ k,k<ins.length->sh.getD k 0=fn.ntmps+k:=fun k hk=>by rw[<- Jw];exact oT _ _ _ hk
 have qQ:∀ k,k<ins.length->E4 ins.length (ins.getD k .none)=true/\ins.getD k .none ≠ .none:=fun k hk=>by
  have Jg:ins.getD k .none ∈ ins:=by simp[List.getD,hk]
  have:=List.all_eq_true.1 c2 _ Jg;simp only[zA2]at this;exact⟨this.1,fun e=>by rw[e]at this;simp[Row.live]at this⟩
 let β0:Nat->Option Hd:=fun j=>if fn.ntmps<=j then β (j-fn.ntmps)else none
 have b0:∀ k,β0 (fn.ntmps+k)=β k:=fun k=>by simp[β0]
 have WX:∀ j,j<fn.ntmps->β0 j=none:=fun j hj=>by simp[β0,Nat.not_le.2 hj]
 have Jx:∀ i b,y0 β0 i b->fn.ntmps<=i/\y0 β (i-fn.ntmps) b:=fun i b hb=>by
  by_cases hle:fn.ntmps<=i
  ·exact⟨hle,by simpa[y0,β0,hle]using hb⟩
  ·simp[y0,β0,hle]at hb
 have C2:∀ (t:List AV) id,(St.row ⟨t,List.replicate fn.ntmps .none++ins.map (C1 sh),.plain⟩ id)=if fn.ntmps<=id then C1 sh (ins.getD (id-fn.ntmps) .none)else .none:=fun t id=>by
  simp only[St.row,List.getD];by_cases hle:fn.ntmps<=id
  ·rw[List.getElem?_append_right (by simpa using hle)];simp only[List.length_replicate,List.getElem?_map,hle,if_true];cases ins[id-fn.ntmps]? <;> simp[C1]
  ·rw[List.getElem?_append_left (by simpa using hle)];simp[hle,List.getElem?_replicate,Nat.lt_of_not_le hle]
 have hR:Rel (fun b=>w.heap.size<=b∨jM β b) w (Env.plain P F β0 none .plain (fun _=>rfl)) ⟨aX sh args++List.replicate (fn.ntmps-args.length) .any,List.replicate fn.ntmps .none++ins.map (C1 sh),.plain⟩ β0 F { tmps:=vs++Array.replicate (fn.ntmps-vs.size) undef,defers:=[] } w:={
  len:=by simp[H5,u9]
  slots:=fun i hi=>by
   by_cases A2:i<args.length
   ·have:=R0 i A2;have e1:(aX sh args++List.replicate (fn.ntmps-args.length) AV.any).getD i .any=(args.getD i .any).ren sh:=by
     rw[<- D7];simp[List.getD,List.getElem?_append,u9,A2]
    have e2:(vs++Array.replicate (fn.ntmps-vs.size) undef).getD i undef=vs.getD i undef:=by
     simp[Array.getD_eq_getD_getElem?,Array.getElem?_append,show i<vs.size by omega]
    rw[e1,e2];exact this.ren (n:=ins.length) (fun k hk hd h=>by rw[Nl k hk,b0];exact h) (E8 c1 i)
   ·have e1:(aX sh args++List.replicate (fn.ntmps-args.length) AV.any).getD i .any = .any:=by
     simp only[List.getD,List.getElem?_append,u9,A2,if_false,List.getElem?_replicate];split<;>rfl
    rw[e1];exact .imm (.any _)
  marks:=⟨[],⟨rfl,fun _=>rfl⟩,.nil,by simp⟩
  rows:=fun id=>by
   rw[C2];split
   ·rename_i hle;by_cases A2:id-fn.ntmps<ins.length
    ·have:=kB (ids:=sh) (n:=ins.length) (β':=β0) (fun k hk hd h=>by rw[Nl k hk,b0];exact h) A2 (O0.rows (id-fn.ntmps)) (qQ _ A2).1;rw[Nl _ A2,show fn.ntmps+(id-fn.ntmps)=id by omega]at this;exact this
    ·have:ins.getD (id-fn.ntmps) .none = .none:=by simp[List.getD,zA7 (Nat.le_of_not_lt A2)]
     rw[this];trivial
   ·trivial
  inj:=fun i j b hi hj B9 U4=>by
   obtain⟨h1,h2⟩:=Jx i b B9;obtain⟨h3,h4⟩:=Jx j b U4;rw[C2,if_pos h1]at hi;rw[C2,if_pos h3]at hj;have:=O0.inj _ _ b (fun e=>hi (O8.2 e)) (fun e=>hj (O8.2 e)) h2 h4;omega
  bF:=fun i b hi B9=>by
   obtain⟨h1,h2⟩:=Jx i b B9;rw[C2,if_pos h1]at hi;exact O0.bF _ b (fun e=>hi (O8.2 e)) h2
  bB:=fun i b h=>⟨.inr ⟨_,(Jx i b h).2⟩,O0.bB _ b (Jx i b h).2⟩
  FB:=fun b hb=>⟨hF b hb,.inl hb⟩
  below := .refl _ _
  BW:=fun _ h => .inl h
  top:=fun _ _ h=>h
  topn:=fun j hj=>by
   simp only[A8]at hj;split at hj
   ·rename_i A2;simp only[List.length_append,u9,List.length_replicate,Nat.blt_eq]at A2;exact WX j va5
   ·cases hj
  nn:=rfl
  inc:=fun _ h=>h
  keep:=C5.refl _ _
  sol:=fun _ _ _ h _=>h
  yl:=fun id l xs k e h=>by
   rw[C2]at h;split at h
   ·by_cases A2:id-fn.ntmps<ins.length
    ·have hu:=(qQ _ A2).1;cases hr:ins.getD (id-fn.ntmps) .none<;>rw[hr]at h hu<;>simp[C1,E4]at h hu
    ·have:ins.getD (id-fn.ntmps) .none = .none:=by simp[List.getD,zA7 (Nat.le_of_not_lt A2)]
     rw[this]at h;cases h
   ·cases h }
 refine wpIn_mono (CB hm c h hR) ?_;have fin:∀ {S β1 F' a' w'} {l:List AV},Rel (fun b=>w.heap.size<=b∨jM β b) w (Env.plain P F β0 none .plain (fun _=>rfl)) S β1 F' a' w'->bh P S fn.results.toList=some l ->
   (∃ news:List Nat,(di (sh++news) && Nat.beq n7.length (sh++news).length && res.under n7.length && n7.all (E4 n7.length))=true/\BP (dS l).fin fun v=>v=res.ren (sh++news)/\(sh++news).map S.row=n7.map (C1 (sh++news))) ->
   LeavesInM Fence.wide 0 P fn a'.tmps (fun e w'=>∃ v β' F',e = .returned v/\I3 (fun b=>w.heap.size<=b∨jM β b) w w'/\(∀ k hd,β k=some hd->β' k=some hd)/\(∀ b,F b->F' b) /\
    (∀ b,F' b->b<w'.heap.size/\(F b∨w.heap.size<=b∨jM β b))/\B4 β' F' w' res v/\(∀ k,A3 β' F' w' k (n7.getD k .none)) /\
    (∀ i j b,n7.getD i .none ≠ .none->n7.getD j .none ≠ .none->y0 β' i b->y0 β' j b->i=j)/\(∀ i b,n7.getD i .none ≠ .none->y0 β' i b->¬ F' b) /\
    (∀ i b,y0 β' i b->b<w'.heap.size/\(w.heap.size<=b∨jM β b))) a'.defers .returning w':=by
  rintro S β1 F' a' w' l O5 hl ⟨news,Ul,hv⟩;rw[cX]at hv;obtain⟨hv,Jy⟩:=hv;simp only[zA2]at Ul;obtain⟨⟨⟨d1,d2⟩,d3⟩,d4⟩:=Ul;have d2:=zA8 d2;have dc:=gv d1;obtain⟨t,ds⟩:=a';refine cS ds O5 fun Vp U3 => ?_
  obtain⟨v,h1,h2⟩:=lR U3 hl;rw[hv]at h2;obtain⟨al,yK⟩:∃ al,sh++news=al:=⟨_,rfl⟩
  rw[yK]at dc d2 h2 Jy;have WY:∀ k,k<ins.length->al.getD k 0=fn.ntmps+k:=fun k hk=>by
   rw[<- Nl k hk,<- yK];simp[List.getD,List.getElem?_append,shl,hk]
  have WZ:ins.length<=al.length:=by rw[<- yK,List.length_append,shl];omega
  let β2:Nat->Option Hd:=fun k=>if k<al.length then β1 (al.getD k 0)else none
  have e2:∀ k,k<n7.length->β2 k=β1 (al.getD k 0):=fun k hk=>by simp[β2,<- d2,hk]
  have dA:∀ k b,y0 β2 k b->k<n7.length/\y0 β1 (al.getD k 0) b:=fun k b hb=>by
   by_cases A2:k<n7.length
   ·exact⟨A2,by simpa[y0,e2 k A2]using hb⟩
   ·simp[y0,β2,<- d2,A2]at hb
  have zn:∀ k,k<n7.length->S.row (al.getD k 0)=C1 al (n7.getD k .none):=fun k hk=>by
   have:(al.map S.row).getD k .none=(n7.map (C1 al)).getD k .none:=by rw[Jy]
   simpa[List.getD,List.getElem?_map,hk,d2 ▸ hk]using this
  have C0:∀ k,n7.getD k .none ≠ .none->k<n7.length/\S.row (al.getD k 0) ≠ .none:=fun k hk=>by
   by_cases A2:k<n7.length
   ·exact⟨A2,by rw[zn k A2];exact fun e=>hk (O8.1 e)⟩
   ·exact absurd (by simp[List.getD,zA7 (Nat.le_of_not_lt A2)]) hk
  refine⟨v,h1,v,β2,F',rfl,U3.below,fun k hd hk=>?_,U3.inc,U3.FB,h2.unren e2 d3 rfl,fun k=>?_,fun i j b hi hj B9 U4=>?_,fun i b hi B9=>?_,fun i b B9=>?_⟩
  ·have A2:k<ins.length:=by
    rcases Nat.lt_or_ge k ins.length with h|h
    ·exact h
    ·have:=O0.dead k (by simp[List.getD,zA7 h]);rw[this]at hk;cases hk
   have:=U3.top (fn.ntmps+k) hd (by show β0 (fn.ntmps+k)=some hd;rw[b0];exact hk);rw[e2 k va5,WY k A2];exact this
  ·by_cases A2:k<n7.length
   ·have:=U3.rows (al.getD k 0);rw[zn k A2]at this;exact gh e2 A2 (List.all_eq_true.1 d4 _ (by simp[List.getD,A2])) this
   ·have:n7.getD k .none = .none:=by simp[List.getD,zA7 (Nat.le_of_not_lt A2)]
    rw[this];trivial
  ·obtain⟨l1,r1⟩:=C0 i hi;obtain⟨l2,r2⟩:=C0 j hj;have heq:=U3.inj _ _ b r1 r2 (dA i b B9).2 (dA j b U4).2;have li:i<al.length:=by omega
   have lj:j<al.length:=by omega
   have e':al[i]=al[j]:=by simpa[List.getD,li,lj]using heq
   have hp:=List.pairwise_iff_getElem.1 dc;rcases Nat.lt_trichotomy i j with A2|rfl|tv
   ·exact absurd e' (hp i j li lj A2)
   ·rfl
   ·exact absurd e'.symm (hp j i lj li tv)
  ·exact U3.bF _ b (C0 i hi).2 (dA i b B9).2
  ·have:=U3.bB _ b (dA i b B9).2;exact⟨this.2,this.1⟩
 rintro e a' w' hq;cases e with
 | normal =>
  obtain⟨S',h1,β',F',O5⟩:=hq;simp only[]at h1;split at h1
  ·exact fin O5 ‹_› h1
  ·exact h1.elim
 | ret =>
  obtain⟨S',h1,β',F',O5⟩:=hq;simp only[]at h1;split at h1
  ·exact fin O5 ‹_› h1
  ·exact h1.elim
 | exit i=>obtain⟨S',h1,_⟩:=hq;exact h1.elim
 | goto l=>exact hq.elim
 | panic ch=>exact hq.elim
 | outgrown=>exact hq.elim
theorem CD(hm:P.follows .mixedOrders=true){f:FuncId}{fn:Func}{A6:List AV}{xs:List (List AV)}(hf:P.funcs[f]? = some fn)(J8:(fn.name == "runtime.NumGoroutine")=false) (h:Ep P fn A6 xs):SQ P f A6 xs:=by
  intro F w us l J hF H5 Eg yH TV WM;unfold Ep at h;split at h
  · exact h.elim
  rename_i c hb;obtain⟨hle,h⟩:=h;have hle:=Nat.le_of_ble_eq_true hle;have h:=h l;rw[B5]at h;refine⟨fun args W=>Go.MuLone.run_callFunc_enter hf J8 hb args W,callsIn_of_wp_marks (n:=0) hf hb trivial ?_⟩
  let E:Env P:=⟨F,fun _=>none,none,.iter,fun _=>rfl,l,xs,J,fun _ _ _ _ _=>rfl,yH,TV⟩
  let β0:Nat->Option Hd:=fun j=>if j=fn.ntmps then some ⟨none,0,0,iw⟩else none
  have Vq:∀ i b,¬ y0 β0 i b:=fun i b hb=>by
    by_cases e:i=fn.ntmps<;>simp[y0,β0,e]at hb
  have C2:∀ (t:List AV) id,(St.row ⟨t,List.replicate fn.ntmps .none++[.ctr l xs 0 false],.iter⟩ id)=if id=fn.ntmps then .ctr l xs 0 false else .none:=fun t id=>by
    simp only[St.row,List.getD];rcases Nat.lt_trichotomy id fn.ntmps with A2|rfl|tv
    · rw[List.getElem?_append_left (by simpa using A2)]
      simp[Nat.ne_of_lt A2,A2]
    · rw[List.getElem?_append_right va9]
      simp
    · rw[List.getElem?_append_right (by simp;omega)]
      have:([Row.ctr l xs 0 false]:List Row)[id-(List.replicate fn.ntmps Row.none).length]? = none:=zA7 (by simp;omega);rw[this];simp[Nat.ne_of_gt tv]
  have hR:Rel (fun _=>True) w E ⟨(AV.fn (.yield l) [] [] :: A6)++List.replicate (fn.ntmps-(A6.length+1)) AV.any,List.replicate fn.ntmps .none++[.ctr l xs 0 false],.iter⟩ β0 F { tmps:=(#[Value.func (.yield l) #[] #[]]++us)++Array.replicate (fn.ntmps-(#[Value.func (.yield l) #[] #[]]++us).size) undef,defers:=[] } w:={
    len:=by simp[H5];omega
    slots:=fun i hi=>by
      cases i with
      | zero =>
        have e2:((#[Value.func (.yield l) #[] #[]]++us)++Array.replicate (fn.ntmps-(#[Value.func (.yield l) #[] #[]]++us).size) undef).getD 0 undef = .func (.yield l) #[] #[]:=by
          simp[Array.getD_eq_getD_getElem?,Array.getElem?_append]
        show B4 β0 F w (.fn (.yield l) [] []) _
        rw[e2];exact .imm (.fn rfl (fun i hi=>absurd hi (zB3 i)) rfl (fun i hi=>absurd hi (zB3 i)))
      | succ i =>
        by_cases A2:i<A6.length
        · have e1:((AV.fn (.yield l) [] [] :: A6)++List.replicate (fn.ntmps-(A6.length+1)) AV.any).getD (i+1) .any=A6.getD i .any:=by
            simp[List.getD,List.getElem?_append,A2]
          have e2:((#[Value.func (.yield l) #[] #[]]++us)++Array.replicate (fn.ntmps-(#[Value.func (.yield l) #[] #[]]++us).size) undef).getD (i+1) undef=us.getD i undef:=by
            have h1:i<us.size:=by omega
            simp only[Array.getD_eq_getD_getElem?];rw[Array.getElem?_append_left (by simp;omega),Array.getElem?_append_right va9];simp
          rw[e1,e2];exact .imm (Eg i A2)
        · have e1:((AV.fn (.yield l) [] [] :: A6)++List.replicate (fn.ntmps-(A6.length+1)) AV.any).getD (i+1) .any = .any:=by
            simp only[List.getD];rw[List.getElem?_append_right (by simp;omega),List.getElem?_replicate];split<;>rfl
          rw[e1];exact .imm (.any _)
    marks:=⟨[],⟨rfl,fun _=>rfl⟩,.nil,by simp⟩
    rows:=fun id=>by
      rw[C2];split
      · rename_i e;rw[e];exact⟨⟨none,0,0,iw⟩,by simp[β0],rfl,rfl⟩
      · trivial
    inj:=fun i j b _ _ B9 _=>absurd B9 (Vq i b)
    bF:=fun i b _ B9=>absurd B9 (Vq i b)
    bB:=fun i b h=>absurd h (Vq i b)
    FB:=fun b hb=>⟨hF b hb,.inl hb⟩
    below := .refl _ _
    BW:=fun _ _=>trivial
    top:=fun _ _ h=>by cases h
    topn:=fun _ _=>rfl
    nn:=rfl
    inc:=fun _ h=>h
    keep:=C5.refl _ _
    sol:=fun _ _ _ h _=>h
    yl:=fun id l' yx k e h=>by
      rw[C2]at h;split at h
      · rename_i BZ
        cases h
        refine⟨rfl,rfl,⟨fun _=>trivial,rfl⟩,fun _=>False,WM,fun _ h=>h.elim,fun i b _ hb=>absurd hb (Vq i b),fun _ h => .inl h,fun D hD=>by simp at hD,fun oF l' yx k' e' h' => ?_⟩;rw[C2]at h';split at h'
        · rename_i e;rw[e,BZ]
        · cases h'
      · cases h }
  refine wpIn_mono (CB hm c h hR) ?_;have fin:∀ {S β1 F' a' w'} {r:List AV},Rel (fun _=>True) w E S β1 F' a' w'->cJ P S fn.results.toList=some r->(match S.row S.t.length with
        | .ctr _ _ k e'=>e'=false->k=xs.length
        | _=>False) ->
      LeavesInM Fence.wide 0 P fn a'.tmps (fun e W'=>(∃ v,e = .returned v)/\W'.os=w.os/\W'.tape=w.tape/\W'.output=w.output/\w.heap.size<=W'.heap.size/\∃ O k e',J k e' O W'/\(e'=false->k=xs.length)) a'.defers .returning w':=by
    intro S β1 F' a' w' r O5 hr hk;obtain⟨t,ds⟩:=a';refine cS ds O5 fun Vp U3 => ?_
    obtain⟨v,h1,h2⟩:=iJ U3 hr;split at hk
    · rename_i l' yx k e' hrw
      obtain⟨_,_,_,O,g1,_⟩:=U3.yl _ _ _ _ _ hrw;exact⟨v,h1,⟨v,rfl⟩,U3.below.os,U3.below.tape,U3.below.output,U3.below.size,O,k,e',g1,hk⟩
    · exact hk.elim
  rintro e a' w' hq;cases e with
  | normal =>
    obtain⟨S',h1,β',F',O5⟩:=hq;simp only[]at h1;split at h1
    · exact fin O5 ‹_› h1
    · exact h1.elim
  | ret =>
    obtain⟨S',h1,β',F',O5⟩:=hq;simp only[]at h1;split at h1
    · exact fin O5 ‹_› h1
    · exact h1.elim
  | exit i=>obtain⟨S',h1,_⟩:=hq;exact h1.elim
  | goto l=>exact hq.elim
  | panic ch=>exact hq.elim
  | outgrown=>exact hq.elim
end

end Go.Ev
