/- Helper lemmas. -/
import Derived.Test.YtacahppoighegaaGreatEvSeven
import Derived.OrdersIn
import Derived.Conc.MuLone
import Derived.RangeFuncLeaves
set_option linter.unusedVariables false
set_option linter.unusedSimpArgs false
/- The executor itself. A helper text: it speaks of no program. -/
namespace Go.Ev
def jm(l:List Nat)(i:Nat):Bool:=l.any fun j=>Nat.beq j i
def sZ{α:Type}(op:BinOp)(l:List α)(K:AV->Prop):Prop:=∀ b:Bool,(b=true->l=[])->T5 op (K (.bool b)) (K (.bool !b))
def St.frz(S:St):List Nat->St
 | []=>S
 | i :: l=>S.freeze (jm (i :: l))
def Wy(P:Program)(c:Call)(f:Operand)(S:St)(K:St->Out->Prop):Prop :=
 ∃ frz news:List Nat,news.all (A3 S)=true/\jC ((S.frz frz).kills news) fun S=>match S.get f with
  | .fn (.func h) first B2=>∃ (ids:List Nat) (J6:List AV) (ins o9:List Row) (res:AV),
    (PW P h J6 ins res o9/\first++c.args.toList.map S.get++B2=au ids J6/\ids.map S.row=ins.map (A0 ids)/\wB ids news J6 ins o9 res=true) /\
    K S ⟨res.ren (ids++news),(ids++news).zip (o9.map (A0 (ids++news)))⟩
  | _=>False
def ta(P:Program)(o:Oper)(S:St)(K:St->Out->Prop):Prop :=
 match o.op with
 | .makeFunc f xs ys=>match (xs.toList.map S.get++ys.toList.map S.get).flatMap (N1 4 S.row)with
  | []=>K S ⟨.fn f (xs.toList.map S.get) (ys.toList.map S.get),[]⟩
  | i :: l=>jC (S.freeze (jm (i :: l))) fun S=>K S ⟨.fn f (xs.toList.map S.get) (ys.toList.map S.get),[]⟩
 | .binOp op t x y yt=>match S.get y with
  | .nils=>match S.get x with
   | .sl _ _ _ l=>match P.underlying t with
    | some (.slice _)=>sZ op l fun v=>K S ⟨v,[]⟩
    | _=>False
   | .own id=>match S.row id with
    | .vec _ _ _ _ l=>match P.underlying t with
     | some (.slice _)=>sZ op l fun v=>K S ⟨v,[]⟩
     | _=>False
    | _=>False
   | _=>gM P o.dst (.binOp op t x y yt) S.get S.row fun out _=>K S out
  | _=>gM P o.dst (.binOp op t x y yt) S.get S.row fun out _=>K S out
 | .call c=>match c.callee with
  | .value f=>match S.get f with
   | .fn (.func _) first B2=>(match G8 (first++c.args.toList.map S.get++B2)with
    | true=>gM P o.dst (.call c) S.get S.row fun out _=>K S out
    | false=>∃ frz:Bool,match frz with
     | false=>gM P o.dst (.call c) S.get S.row fun out _=>K S out
     | true=>jC (S.freeze (jm ((first++c.args.toList.map S.get++B2).flatMap (N1 4 S.row)))) fun S=>gM P o.dst (.call c) S.get S.row fun out _=>K S out)∨Wy P c f S K
   | .fn (.yield l) [] []=>match S.row S.t.length with
    | .ctr l' xs k false=>(l=l'/\xs[k]? = some (c.args.toList.map S.get)/\dY (c.args.toList.map S.get)=true)/\K S ⟨.tt,[(S.t.length,.ctr l' xs (k+1) false)]⟩/\K S ⟨.ff,[(S.t.length,.ctr l' xs (k+1) true)]⟩
    | _=>False
   | _=>False
  | _=>gM P o.dst (.call c) S.get S.row fun out _=>K S out
 | op=>gM P o.dst op S.get S.row fun out _=>K S out
def Zf(P:Program)(o:Oper)(K:St->Out->Prop)(S:St):Prop :=
 match o.op with
 | .call c=>match c.callee with
  | .value f=>Wy P c f S K
  | _=>False
 | _=>False
def BS(P:Program)(o:Oper)(S:St)(K:St->Out->Prop):Prop:=Za jC P o S K (Zf P o K) (ta P o S K)
def nz:AV->AV
 | .nils => .sl 1 (0:Int) aR []
 | x=>x
def ze:List AV->Bool
 | []=>false
 | a :: l=>match a with
  | .nils=>true
  | _=>ze l
def GB:List AV->List Nat
 | []=>[]
 | a :: l=>match a with
  | .own i=>i :: GB l
  | _=>GB l
def Xy(op:Op):Bool :=
 match op with
 | .call c=>match c.callee with
  | .builtin .append=>true
  | _=>false
 | _=>false
def GC:List (List AV)->Bool
 | []=>false
 | cs :: l=>match ze cs with
  | true=>true
  | false=>GC l
def Ey:List (List AV)->List (List AV)
 | []=>[]
 | cs :: l=>cs.map nz :: Ey l
def unN(o:Oper)(S:St):St :=
 match o.op with
 | .call c=>match c.args.toList with
  | [s,x]=>match S.get s,S.get x with
   | .own id,.own q=>match S.row id,S.row q with
    | .vec _ _ _ _ _,.lit ty sz [cs]=>match ze cs with
     | true=>⟨S.t,S.h.set q (.lit ty sz [cs.map nz]),S.n⟩
     | false=>match GB cs with
      | []=>S
      | i :: l=>S.freeze (jm (i :: l))
    | .vec _ _ _ _ _,.lit ty sz (cs :: cs2 :: E5)=>match GC (cs :: cs2 :: E5)with
     | true=>⟨S.t,S.h.set q (.lit ty sz (Ey (cs :: cs2 :: E5))),S.n⟩
     | false=>S
    | _,_=>S
   | _,_=>S
  | _=>S
 | _=>S
def Ez(P:Program)(o:Oper)(S:St)(K:St->Out->Prop):Prop :=
 match Xy o.op with
 | true=>jC (unN o S) fun S=>BS P o S K
 | false=>BS P o S K
def Xz(P:Program)(o:Oper)(S:St)(K:St->Out->Prop):Prop :=
 match Y9 o.op with
 | true=>match o.dst with
  | some d=>match A3 S d with
   | true=>jC (S.kill d) fun S=>Ez P o S K
   | false=>False
  | none=>Ez P o S K
 | false=>Ez P o S K
def qF(all:List Oper)(k:Nat):Bool:=all.any fun o=>match o.guard with
 | some (j,_)=>Nat.beq j k
 | none=>false
def Z3(src:Bool)(out:Out)(K:Out->Prop):Prop :=
 match src with
 | true=>match out.v with
  | .bool b=>(b=true->K ⟨.tt,out.rows⟩)/\(b=false->K ⟨.ff,out.rows⟩)
  | _=>K out
 | false=>K out
def Zg:List AV->(List AV->Prop)->Prop
 | [],K=>K []
 | a :: l,K=>Zg l fun l=>K (a :: l)
theorem EA:∀ (l:List AV) (K:List AV->Prop),Zg l K=K l
 | [],_=>rfl
 | a :: l,K=>by simp only[Zg];rw[EA l]
def po(S:St)(dst:Option Nat)(out:Out)(K:St->Prop):Prop :=
 match S with
 | ⟨St,Sh,Sn⟩=>match dst with
  | some d=>DT out.v fun v=>Zg (St.set d v) fun t=>match out.rows with
   | []=>K ⟨t,Sh,Sn⟩
   | r :: rs=>mX (r8 Sh (r :: rs)) fun h=>K ⟨t,h,Sn⟩
  | none=>match out.rows with
   | []=>K ⟨St,Sh,Sn⟩
   | r :: rs=>mX (r8 Sh (r :: rs)) fun h=>K ⟨St,h,Sn⟩
theorem iK(S:St)(dst:Option Nat)(out:Out)(K:St->Prop):po S dst out K=K (S.put dst out):=by
 obtain⟨v,rows⟩:=out;obtain⟨St,Sh,Sn⟩:=S;cases dst with
 | none =>
  cases rows with
  | nil=>rfl
  | cons r rs=>simp only[po];rw[X1];rfl
 | some d =>
  simp only[po];rw[dZ,EA];cases rows with
  | nil=>rfl
  | cons r rs=>simp only[];rw[X1];rfl
def Qe:Row->Bool
 | .opq _=>true
 | _=>false
def LU(S:St):AV->Bool
 | .own id=>Qe (S.row id)
 | .ptr id _ _ _=>Qe (S.row id)
 | _=>false
def Uc(S:St):AV->Bool
 | .own q=>match S.row q with
  | .lit _ _ E5=>match E5 with
   | [[.mapv _]]=>true
   | _=>false
  | _=>false
 | _=>false
def Ud(S:St):List Operand->Bool
 | []=>false
 | x :: l=>match S.get x with
  | .ptr id _ _ _=>match Qe (S.row id)with
   | true=>true
   | false=>Ud S l
  | _=>Ud S l
def GD(S:St)(o:Oper):Bool :=
 match o.op with
 | .makeMap _ _=>true
 | .mapUpdate _ _ _ _=>true
 | .range _ _=>true
 | .next _ _=>true
 | .entry _=>true
 | .indexAddr _ b _=>LU S (S.get b)
 | .load _ p=>LU S (S.get p)
 | .store _ p _=>LU S (S.get p)
 | .call c=>match c.callee with
  | .builtin .append=>match c.args.toList with
   | s :: x :: _=>match LU S (S.get s)with
    | true=>true
    | false=>Uc S (S.get x)
   | _=>false
  | .value _=>Ud S c.args.toList
  | .builtin .len=>match c.args.toList with
   | x :: _=>LU S (S.get x)
   | _=>false
  | _=>false
 | _=>false
def EB(S:St):List AV->Bool
 | []=>false
 | a :: l=>match a with
  | .own j=>match Qe (S.row j)with
   | true=>true
   | false=>EB S l
  | _=>EB S l
def zf(S:St):List Operand->Bool
 | []=>false
 | x :: l=>match S.get x with
  | .ptr id _ _ _=>match S.row id with
   | .cells _ cs=>match EB S cs with
    | true=>true
    | false=>zf S l
   | _=>zf S l
  | _=>zf S l
def Tf(S:St)(o:Oper):Bool :=
 match o.op with
 | .call c=>match c.callee with
  | .value _=>zf S c.args.toList
  | _=>GD S o
 | _=>GD S o
def Tg(P:Program)(X:List Nat)(S:St)(o:Oper):Bool :=
 match X with
 | []=>Tf S o
 | _ :: _=>match BN P o with
  | true=>true
  | false=>Tf S o
def iL(P:Program)(o:Oper)(S:St)(R:St->Prop):Prop :=
 ∀ (B:Nat->Prop) (w0:World) (F0:Env P) (β:Nat->Option Hd) (F:Nat->Prop) (a:Act) (w:World) (Q:Exit->Act->World->Prop),Rel B w0 F0 S β F a w ->
  o.wpIn { Fence.wide with round:=F0.r } 0 P a w (fun a' w'=>∃ S',R S'/\∃ β' F',Rel B w0 F0 S' β' F' a' w') Q
def BT(P:Program)(all:List Oper):List Oper->Nat->St->(St->Prop)->Prop
 | [],_,S,K=>K S
 | o :: l,k,S,K=>match gw all.toArray S o with
  | some true=>match GD S o with
   | true=>∃ R:St->Prop,iL P o S R/\∀ S',R S'->jC S' fun S'=>BT P all l (k+1) S' K
   | false=>Xz P o S fun S out=>Z3 (qF all k) out fun out=>po S o.dst out fun S=>BT P all l (k+1) S K
  | some false=>po S o.dst ⟨.tup [],[]⟩ fun S=>BT P all l (k+1) S K
  | none=>False
def fZ(P:Program)(X:List Nat)(all:List Oper):List Oper->Nat->St->List (List Nat×List Nat)->(St->Prop)->Prop
 | [],_,S,cY,K=>BP all cY=true/\K S
 | o :: l,k,S,cY,K=>match gw all.toArray S o with
  | some true=>match Tg P X S o with
   | true=>∃ (out:Out) (rd:List Nat),(∀ S':St,(∀ x ∈ E1 o.op,S'.get x=S.get x)->(∀ i ∈ rd,S'.row i=S.row i)->LR P X o S' out)/\Z3 (qF all k) out fun out=>po S o.dst out fun S=>fZ P X all l (k+1) S (cY++[(rd,out.rows.map (·.1))]) K
   | false=>Is P o S.get S.row fun out rd=>Z3 (qF all k) out fun out=>po S o.dst out fun S=>fZ P X all l (k+1) S (cY++[(rd,out.rows.map (·.1))]) K
  | some false=>po S o.dst ⟨.tup [],[]⟩ fun S=>fZ P X all l (k+1) S (cY++[([],[])]) K
  | none=>False
def dj(P:Program)(l:List Oper):List Nat:=l.filterMap fun o=>match dF P o with
 | true=>o.dst
 | false=>none
def xb(P:Program)(ops:Array Oper):Bool :=
 Region.lexFrom .any ops ops.size 0 (Array.replicate ops.size false) &&
 (List.range ops.size).all fun i=>match ops[i]? with
  | none=>true
  | some o => !dF P o || (List.range ops.size).all fun j=>Nat.beq i j || match ops[j]? with
   | none=>true
   | some o'=>match o.dst,o'.dst with
    | some d,some d' => !(Nat.beq d d')
    | _,_=>true
def XA:List AV->Bool
 | []=>false
 | a :: l=>match a with
  | .own _=>true
  | _=>XA l
def zg:List Row->Bool
 | []=>false
 | r :: l=>match r with
  | .cells _ cs=>match XA cs with
   | true=>true
   | false=>zg l
  | _=>zg l
def xd(n:Nat):List Oper->Bool
 | []=>false
 | o :: l=>match o.dst with
  | some d=>match Nat.beq d n with
   | true=>true
   | false=>xd n l
  | none=>xd n l
def GF(ops:List Oper):Nat->Nat->List Row->List Nat
 | 0,_,_=>[]
 | _+1,_,[]=>[]
 | m+1,n,r :: l=>match r with
  | .none=>match xd n ops with
   | true=>GF ops (m+1) (n+1) l
   | false=>n :: GF ops m (n+1) l
  | _=>GF ops (m+1) (n+1) l
def XB(P:Program)(S:St)(ops:List Oper):List Nat :=
 match zg S.h with
 | true=>match ops.any (BN P)with
  | true=>GF ops 3 0 S.h
  | false=>[]
 | false=>[]
def iM(P:Program):List Oper->Nat
 | []=>0
 | o :: l=>match BN P o with
  | true=>iM P l+1
  | false=>iM P l
def XC(P:Program)(ops:List Oper)(X:List Nat):Bool :=
 match X with
 | []=>true
 | x :: l=>(x :: l).all (fun d => !xd d ops) && Nat.ble (iM P ops) 1
def kE(l:List Oper):Bool:=l.all fun o=>match o.op with
 | .defer _=>false
 | _=>true
inductive Ex
 | norm|ret
 | exit (id:Nat)
def aD:Code->List Nat
 | .region _ ops _=>ops.toList.filterMap (·.dst)
 | .seq a b=>aD a++aD b
 | .cond _ a b=>aD a++aD b
 | .block _ a=>aD a
 | .loop a=>aD a
 | .scope a=>aD a
 | _=>[]
def lkV(i:Nat):List Nat->List AV->Option AV
 | w :: ws,v :: vs=>match Nat.beq i w with
  | true=>some v
  | false=>lkV i ws vs
 | _,_=>none
def lkR(i:Nat):List Nat->List Row->Option Row
 | w :: ws,v :: vs=>match Nat.beq i w with
  | true=>some v
  | false=>lkR i ws vs
 | _,_=>none
def Ue:List Nat->(List Nat->Prop)->Prop
 | [],K=>K []
 | d :: l,K=>Ue l fun l=>K (d :: l)
theorem iN:∀ (l:List Nat) (K:List Nat->Prop),Ue l K=K l
 | [],_=>rfl
 | d :: l,K=>by simp only[Ue];rw[iN l]
def Th(ds ws:List Nat)(Q9:List AV)(vt:List Nat):Nat->List AV->List AV
 | _,[]=>[]
 | i,a :: l=>(match fP i vt with
  | true => .own i
  | false=>match lkV i ws Q9 with
   | some v=>v
   | none=>match fP i ds with
    | true => .any
    | false=>a) :: Th ds ws Q9 vt (i+1) l
def Ti(ds bs:List Nat)(F7:List Row)(vt:List Nat)(I5:List Row):Nat->List Row->List Row
 | _,[]=>[]
 | i,a :: l=>(match lkR i vt I5 with
  | some r=>r
  | none=>match lkR i bs F7 with
   | some r=>r
   | none=>match fP i ds with
    | true => .none
    | false=>a) :: Ti ds bs F7 vt I5 (i+1) l
def N3(ds:List Nat)(S:St)(ws bs:List Nat)(vs:List (Nat×VT))(Q9:List AV)(F7 I5:List Row):St :=
 ⟨Th ds ws Q9 (vs.map (·.1)) 0 S.t,Ti ds bs F7 (vs.map (·.1)) I5 0 S.h,S.n⟩
def iO(ds:List Nat)(S0:St)(ws bs:List Nat)(vs:List (Nat×VT))(S:St)(K:List AV->List Row->List Row->Prop):Prop :=
 jC (canonV vs S) fun S=>fL (ws.map fun i=>S.t.getD i .any) fun Q9=>mX (bs.map S.row) fun F7=>mX (vs.map fun v=>S.row v.1) fun I5 =>
  K Q9 F7 I5/\lK (N3 ds S0 ws bs vs Q9 F7 I5).t S.t=some (N3 ds S0 ws bs vs Q9 F7 I5).t /\
   jl (N3 ds S0 ws bs vs Q9 F7 I5).h S.h=some (N3 ds S0 ws bs vs Q9 F7 I5).h
def Qf(f:St->(Ex->St->Prop)->Prop):Nat->St->(Ex->St->Prop)->Prop
 | 0,_,_=>False
 | n+1,S,Q=>f S fun e S=>match e with
  | .norm=>Qf f n S Q
  | e=>Q e S
def fE:List AV->List Nat->List AV->List AV
 | t,p :: ps,x :: xs=>fE (t.set p x) ps xs
 | t,_,_=>t
def SQ(P:Program)(gf:FuncId)(B2:List AV)(xs:List (List AV)):Prop :=
 ∀ (F:Nat->Prop) (w:World) (us:Array Value) (l:Nat) (J:Nat->Bool->(Nat->Prop)->World->Prop),(∀ b,F b->b<w.heap.size)->us.size=B2.length->(∀ i,i<B2.length->y6 F w (B2.getD i .any) (us.getD i undef)) ->
  (∀ k e O w w',J k e O w->(∀ b,b<w.heap.size->¬ O b->w'.heap[b]? = w.heap[b]?)->w'.os=w.os->w'.tape=w.tape->w'.output=w.output->w.heap.size<=w'.heap.size->J k e (fun b=>O b∨(w.heap.size<=b/\b<w'.heap.size)) w') ->
  (∀ k O W vs x,J k false O W->xs[k]? = some x->(∀ b,O b->b<W.heap.size)->vs.size=x.length->(∀ i,i<x.length->y6 (fun _=>False) W (x.getD i .any) (vs.getD i undef)) ->
   YieldAt Fence.wide 0 P l vs W fun e W'=>W'.os=W.os/\W'.tape=W.tape/\W'.output=W.output/\W.heap.size<=W'.heap.size/\(∀ b,O b->W'.heap[b]? = W.heap[b]?)/\C5 F W W' /\
    ((e = .returned (.bool true)/\J (k+1) false O W')∨(e = .returned (.bool false)/\J (k+1) true O W'))) ->
  J 0 false (fun _=>False) w ->
  (∀ args W,(callFunc gf args).run P W = .ok (.enter gf args) W)/\CallsIn Fence.wide 0 P gf (#[.func (.yield l) #[] #[]]++us) w fun e W'=>(∃ v,e = .returned v)/\W'.os=w.os/\W'.tape=w.tape/\W'.output=w.output/\w.heap.size<=W'.heap.size /\
   ∃ O k e',J k e' O W'/\(e'=false->k=xs.length)
noncomputable def Uf (ops:List Oper) (d:Nat):Option (TypeId×Operand) :=
 List.rec (motive:=fun _=>Option (TypeId×Operand)) none (fun o _ ih=>match o.op with
  | .load ty x=>match o.dst with
   | some e=>match Nat.beq e d with
    | true=>some (ty,x)
    | false=>ih
   | none=>ih
  | _=>ih) ops
noncomputable def LV (P:Program) (S:St) (ops:List Oper):List Nat :=
 List.rec (motive:=fun _=>List Nat) [] (fun o _ ih=>match o.op with
  | .call c=>match c.callee with
   | .value _=>match c.args.toList with
    | [.tmp d]=>match P.underlying o.type with
     | some (.struct _)=>match Uf ops d with
      | some (ty,x)=>match Nat.beq ty o.type with
       | true=>match S.get x with
        | .ptr id _ _ _=>match S.row id with
         | .cells _ cs=>GB cs
         | _=>ih
        | _=>ih
       | false=>ih
      | none=>ih
     | _=>ih
    | _=>ih
   | _=>ih
  | _=>ih) ops
noncomputable def preF (P:Program) (S:St) (ops:List Oper):St:=S.frz (LV P S ops)
def ex(P:Program):Code->St->(Ex->St->Prop)->Prop
 | .skip,S,Q=>Q .norm S
 | .label _,S,Q=>Q .norm S
 | .scope c,S,Q=>ex P c S Q
 | .region id ops draw,S,Q=>match draw with
  | false=>BT P ops.toList ops.toList 0 S fun S=>jC S (Q .norm)
  | true=>jC (preF P S ops.toList) fun S=>Ue (XB P S ops.toList) fun X=>(xb P ops && (dj P ops.toList).all (A3 S) && kE ops.toList && (XC P ops.toList X && X.all (A3 S)))=true/\jC (S.kills (dj P ops.toList++X)) fun S=>fZ P X ops.toList ops.toList 0 S [] fun S=>jC S (Q .norm)
 | .seq a b,S,Q=>ex P a S fun e S=>match e with
  | .norm=>ex P b S Q
  | e=>Q e S
 | .cond c a b,S,Q=>match S.get c with
  | .tt=>ex P a S Q
  | .ff=>ex P b S Q
  | .bool x=>(x=true->ex P a S Q)/\(x=false->ex P b S Q)
  | _=>False
 | .block id c,S,Q=>ex P c S fun e S=>match e with
  | .exit i=>match Nat.beq i id with
   | true=>Q .norm S
   | false=>Q (.exit i) S
  | e=>Q e S
 | .loop c,S,Q=>(∃ n,Qf (ex P c) n S Q) ∨
   ∃ (ι:Type) (ws bs:List Nat) (vs:List (Nat×VT)) (V:ι->List AV) (BR VR:ι->List Row) (μ:ι->Nat) (I:ι->Prop),Ue (aD c) fun ds=>jC (canonV vs S) fun S0 =>
    (∃ i,iO ds S0 ws bs vs S fun Q9 F7 I5=>I i/\Q9=V i/\F7=BR i/\I5=VR i) /\
    ∀ i,I i->jC (N3 ds S0 ws bs vs (V i) (BR i) (VR i)) fun S1=>ex P c S1 fun e S2=>match e with
     | .norm=>∃ i',iO ds S0 ws bs vs S2 fun Q9 F7 I5=>(μ i' < μ i/\I i')/\Q9=V i'/\F7=BR i'/\I5=VR i'
     | e=>Q e S2
 | .rangeFunc g ps assign body,S,Q=>match S.n with
  | .round _=>False
  | .iter=>False
  | .plain=>match S.get g with
   | .fn (.func gf) [] B2=>G8 B2=true /\
    ∃ (xs:List (List AV)) (bs:List Nat) (BR:Nat->List Row) (I:Nat->Prop),(SQ P gf B2 xs/\∀ x ∈ xs,dY x=true/\x.length=ps.size) /\
     Ue (ps.toList++(aD assign++aD body)) fun ds=>ds.all (A3 S)=true /\
      (iO ds S [] bs [] S fun Q9 F7 I5=>I 0/\Q9=[]/\F7=BR 0/\I5=[]) /\
      (∀ k x,I k->xs[k]? = some x->jC ((N3 ds S [] bs [] [] (BR k) []).kills ds) fun S1=>jC ⟨fE S1.t ps.toList x,S1.h,.round ds⟩ fun S2 =>
       ex P assign S2 fun e S3=>match e with
        | .norm=>ex P body S3 fun e S4=>match e with
         | .norm=>mX (bs.map S4.row) fun F7=>(I (k+1)/\F7=BR (k+1))/\jl ((N3 ds S [] bs [] [] F7 []).kills ds).h S4.h=some ((N3 ds S [] bs [] [] F7 []).kills ds).h
         | e=>Q e ⟨S1.t,S4.h,.plain⟩
        | _=>False) /\
      (I xs.length->jC ((N3 ds S [] bs [] [] (BR xs.length) []).kills ds) (Q .norm))
   | _=>False
 | .ret,S,Q=>Q .ret S
 | .exit id,S,Q=>Q (.exit id) S
 | _,_,_=>False
def dA(P:Program)(S:St):List ResultVar->Option (List AV)
 | []=>some []
 | .tmp t :: l=>match dA P S l with
  | some r=>some (E3 4 S.row (S.t.getD t .any) :: r)
  | none=>none
 | .cell x t :: l=>match dA P S l with
  | none=>none
  | some r=>match P.info? t,P.underlying t with
   | some i,some d=>match S.t.getD x .any with
    | .ptr id sz j off=>match S.row id with
     | .cells _ cs=>match lG (aZ d) i.size cs (j*sz+off)with
      | some v=>some (E3 4 S.row v :: r)
      | none=>none
     | _=>none
    | _=>none
   | _,_=>none
def AV.fin1:AV->AV
 | .tt => .bool true
 | .ff => .bool false
 | x=>x
def AV.fin:AV->AV
 | .tt => .bool true
 | .ff => .bool false
 | .tup l => .tup (l.map AV.fin1)
 | x=>x
def fF:List AV->AV
 | [x]=>x
 | l => .tup l
def body(P:Program)(fn:Func)(args:List AV)(res:AV):Prop :=
 match fn.body with
 | none=>False
 | some c=>jC ⟨args++List.replicate (fn.ntmps-args.length) .any,List.replicate fn.ntmps .none,.plain⟩ fun S=>ex P c S fun e S=>match e with
  | .exit _=>False
  | _=>match dA P S fn.results.toList with
   | some l=>DT (fF l).fin fun v=>v=res
   | none=>False
def bN(P:Program)(S:St):List ResultVar->Option (List AV)
 | []=>some []
 | .tmp t :: l=>match bN P S l with
  | some r=>some (S.t.getD t .any :: r)
  | none=>none
 | .cell x t :: l=>match bN P S l with
  | none=>none
  | some r=>match P.info? t,P.underlying t with
   | some i,some d=>match S.t.getD x .any with
    | .ptr id sz j off=>match S.row id with
     | .cells _ cs=>match lG (aZ d) i.size cs (j*sz+off)with
      | some v=>some (v :: r)
      | none=>none
     | _=>none
    | _=>none
   | _,_=>none
def GG(P:Program)(fn:Func)(args:List AV)(ins:List Row)(res:AV)(o9:List Row):Prop :=
 match fn.body with
 | none=>False
 | some c=>(av ins.length args && ins.all (fun r=>D9 ins.length r && r.live) && Nat.ble args.length fn.ntmps)=true /\
  jC ⟨au (List.range' fn.ntmps ins.length) args++List.replicate (fn.ntmps-args.length) .any,List.replicate fn.ntmps .none++ins.map (A0 (List.range' fn.ntmps ins.length)),.plain⟩ fun S=>ex P c S fun e S=>match e with
  | .exit _=>False
  | _=>match bN P S fn.results.toList with
   | some l=>∃ news:List Nat,(aw (List.range' fn.ntmps ins.length++news) && Nat.beq o9.length (List.range' fn.ntmps ins.length++news).length && res.under o9.length && o9.all (D9 o9.length))=true /\
     DT (fF l).fin fun v=>v=res.ren (List.range' fn.ntmps ins.length++news)/\(List.range' fn.ntmps ins.length++news).map S.row=o9.map (A0 (List.range' fn.ntmps ins.length++news))
   | none=>False
def GH(P:Program)(fn:Func)(B2:List AV)(xs:List (List AV)):Prop :=
 match fn.body with
 | none=>False
 | some c=>Nat.ble (B2.length+1) fn.ntmps=true/\∀ l:Nat,jC ⟨(.fn (.yield l) [] [] :: B2)++List.replicate (fn.ntmps-(B2.length+1)) .any,List.replicate fn.ntmps .none++[.ctr l xs 0 false],.iter⟩ fun S=>ex P c S fun e S=>match e with
  | .exit _=>False
  | _=>match dA P S fn.results.toList with
   | some _=>match S.row S.t.length with
    | .ctr _ _ k e'=>e'=false->k=xs.length
    | _=>False
   | none=>False
/- Why the executor is right. A helper text: it speaks of no program. -/
section
variable {P:Program}{B:Nat->Prop}{w0:World}{F0:Env P}{S:St}{β:Nat->Option Hd}{F:Nat->Prop}{a:Act}{w:World}{ops:Array Oper}
theorem F8(hR:Rel B w0 F0 S β F a w){o:Oper}(B1:Y9 o.op=true->∀ d,o.dst=some d->β d=none){K:St->Out->Prop}(h:gM P o.dst o.op S.get S.row fun out _=>K S out){Q:Exit->Act->World->Prop} :
  o.wp P a w (T6 B w0 F0 o.dst K) Q:=by
 refine Oper.wp_mono ?_ (Gz hR B1 h);rintro a' w' ⟨out,rd,hK,β',F',_,M8⟩;exact⟨S,out,hK,β',F',M8⟩
theorem iP(hR:Rel B w0 F0 S β F a w){o:Oper}{op:BinOp}{t yt:TypeId}{x y:Operand}(ho:o.op = .binOp op t x y yt){e:TypeId}(hu:P.underlying t=some (.slice e)){α:Type}{l:List α}
  (hy:S.get y = .nils) (hx:∃ p n c,a.eval x = .slice p n c/\(p=none->l=[])) {K:St->Out->Prop} (h:sZ op l fun v=>K S ⟨v,[]⟩) {Q:Exit->Act->World->Prop}:o.wp P a w (T6 B w0 F0 o.dst K) Q:=by
 obtain⟨p,n,c,hv,hp⟩:=hx;have DW:=hR.get y;rw[hy]at DW;have ZK:=DW.nils_inv;have heq:(Op.equal t (.slice p n c) (.slice none 0 0)).run P w = .ok p.isNone w:=by
  cases p with
  | none=>exact gG hu none n c 0 0
  | some q=>exact iA hu q n c
 have hK:=Q2 (h p.isNone (fun hb=>hp (by cases p<;>simp_all)));obtain⟨r,v,h1,h2,h3⟩:=fW (β:=β) (F:=F) (K:=fun v=>K S ⟨v,[]⟩) x y heq ⟨nofun,nofun,nofun,nofun⟩ (H6 op t x y nofun nofun) (.imm (.bool _)) (.imm (.bool _)) hK;refine K3 (s:=do eqGuard op t x y (.slice p n c) (.slice none 0 0);binOp op t (.slice p n c) (.slice none 0 0)) (by simp[execOp,ho,hv,ZK]) h1 ?_;exact⟨S,_,h3,β,F,hR.still h2⟩
abbrev FW(r:Option Nat):Fence:={ Fence.wide with round:=r }
theorem EC{r:Option Nat}{f:FuncId}{vs:Array Value}{R:Ending->World->Prop}(h:Calls P f vs w R):CallsIn (FW r) 0 P f vs w R:=callsIn_wide.2 h
theorem N4{r:Option Nat}{o:Oper}{next:Act->World->Prop}{Q:Exit->Act->World->Prop}(hd:∀ c,o.op ≠ .defer c)(h:o.wp P a w next Q):o.wpIn (FW r) 0 P a w next Q:=by
 refine⟨fun _ _=>trivial,?_⟩;rw[Oper.semAt_eq _ _ _ hd];unfold Oper.wp at h;generalize (execOp a.eval o).run P w=res at h ⊢;have GI:∀ {p:Prop},(FW r).depth.isSome=true->p:=fun h=>by cases h
 cases res with
 | ok x w' =>
  cases x<;>first
   | exact h
   | exact h.elim
   | exact⟨GI,EC h⟩
   | exact⟨GI,fun c cs _=>let ⟨v,w',r,s⟩:=h c cs;⟨v,w',r,stepsIn_wide.2 s⟩⟩
 | halt x w'=>cases x<;>first|exact h|exact h.elim
theorem BU(hR:Rel B w0 F0 S β F a w){o:Oper}{c:Call}{f:Operand}(ho:o.op = .call c)(hb:c.callee = .value f){gC:FuncId}{first B2:List AV}(hg:S.get f = .fn (.func gC) first B2) :
  ∃ V:Array Value,execOp a.eval o=callFunc gC V/\V.size=(first++c.args.toList.map S.get++B2).length/\∀ i,i<(first++c.args.toList.map S.get++B2).length->C4 β F w ((first++c.args.toList.map S.get++B2).getD i .any) (V.getD i undef):=by
 have hf:=hR.get f;rw[hg]at hf;obtain⟨vs,us,hv,l1,l2,r1,r2⟩:=hf.fn_inv;obtain⟨l3,r3⟩:=L9 hR c.args;refine⟨vs++c.args.map a.eval++us,?_,by simp[l1,l2],fun i hi=>?_⟩
 ·simp only[execOp,ho,resolve,hb,hv,Deferred.ofValue];rfl
 ·by_cases h1:i<first.length
  ·have e1:(first++c.args.toList.map S.get++B2).getD i .any=first.getD i .any:=by simp[List.getD,List.getElem?_append,h1]
   have e2:(vs++c.args.map a.eval++us).getD i undef=vs.getD i undef:=by
    have:i<vs.size:=by omega
    simp[Array.getD_eq_getD_getElem?,Array.getElem?_append,this]
   rw[e1,e2];exact r1 i h1
  ·by_cases h2:i<first.length+(c.args.toList.map S.get).length
   ·have e1:(first++c.args.toList.map S.get++B2).getD i .any=(c.args.toList.map S.get).getD (i-first.length) .any:=by
     simp only[List.getD,List.append_assoc];rw[List.getElem?_append_right va5,List.getElem?_append_left va5]
    have e2:(vs++c.args.map a.eval++us).getD i undef=(c.args.map a.eval).getD (i-first.length) undef:=by
     simp only[Array.getD_eq_getD_getElem?,Array.append_assoc];rw[Array.getElem?_append_right va5,Array.getElem?_append_left (by rw[<- l1,<- l3];omega),l1]
    rw[e1,e2];exact r3 _ va5
   ·have e1:(first++c.args.toList.map S.get++B2).getD i .any=B2.getD (i-first.length-(c.args.toList.map S.get).length) .any:=by
     simp only[List.getD,List.append_assoc];rw[List.getElem?_append_right va5,List.getElem?_append_right va5]
    have e2:(vs++c.args.map a.eval++us).getD i undef=us.getD (i-first.length-(c.args.toList.map S.get).length) undef:=by
     simp only[Array.getD_eq_getD_getElem?,Array.append_assoc];rw[Array.getElem?_append_right va5,Array.getElem?_append_right (by rw[<- l1,<- l3];omega),l1,l3]
    rw[e1,e2];exact r2 _ (by simp only[List.length_append]at hi;omega)
theorem iQ:∀ {l:List Nat},aw l=true->l.Nodup
 | [],_ => .nil
 | a :: l,h=>by
  have hm:∀ {m:List Nat},fP a m=false->a ∉ m:=by
   intro m
   induction m with
   | nil=>intro _;simp
   | cons d m ih =>
    intro h;simp only[fP]at h;cases hb:Nat.beq a d with
    | true=>simp[hb]at h
    | false =>
     simp only[hb]at h;have:=Nat.ne_of_beq_eq_false hb;simp[this,ih h]
  simp only[aw]at h;cases hh:fP a l with
  | true=>simp[hh]at h
  | false=>simp only[hh]at h;exact List.nodup_cons.2 ⟨hm hh,iQ h⟩
theorem nA{a:Nat}:∀ {m:List Nat},fP a m=true↔a ∈ m
 | []=>by simp[fP]
 | d :: m=>by
  simp only[fP,List.mem_cons];cases hb:Nat.beq a d with
  | true=>have:=zA8 hb;simp[this]
  | false =>
   have:=Nat.ne_of_beq_eq_false hb;simp[this,nA (m:=m)]
theorem iR(hR:Rel B w0 F0 S β F a w){o:Oper}{c:Call}{f:Operand}(ho:o.op = .call c)(hb:c.callee = .value f){gC:FuncId}{first B2:List AV}(hg:S.get f = .fn (.func gC) first B2){ids news:List Nat}(B1:∀ d ∈ news,β d=none)
  {J6:List AV} {ins o9:List Row} {res:AV} (Iw:PW P gC J6 ins res o9) (T1:first++c.args.toList.map S.get++B2=au ids J6) (jS:ids.map S.row=ins.map (A0 ids)) (Lg:wB ids news J6 ins o9 res=true) {Q:Exit->Act->World->Prop} :
  o.wp P a w (fun a' w'=>∃ β' F',Rel B w0 F0 (S.put o.dst ⟨res.ren (ids++news),(ids++news).zip (o9.map (A0 (ids++news)))⟩) β' F' a' w'/\(∀ j,(j ∉ ids++news∨β j≠none)->β' j=β j)/\∀ k,k<ids.length->β (ids.getD k 0)≠none) Q:=by
 simp only[wB,zA2]at Lg;obtain⟨⟨⟨⟨⟨⟨b1,b2⟩,b3⟩,b4⟩,b5⟩,b6⟩,b7⟩:=Lg;have b2:=zA8 b2;have b3:=zA8 b3;obtain⟨V,hex,G0,I8⟩:=BU hR ho hb hg;rw[T1]at G0 I8;rw[u9]at G0 I8
 let βi:Nat->Option Hd:=fun k=>if k<ids.length then β (ids.getD k 0)else none
 have Il:∀ k,k<ids.length->βi k=β (ids.getD k 0):=fun k hk=>by simp[βi,hk]
 have Xl:∀ k,ids.length<=k->βi k=none:=fun k hk=>by simp[βi,Nat.not_lt.2 hk]
 have A1:∀ k,k<ids.length->S.row (ids.getD k 0)=A0 ids (ins.getD k .none):=fun k hk=>by
  have:(ids.map S.row).getD k .none=(ins.map (A0 ids)).getD k .none:=by rw[jS]
  simpa[List.getD,List.getElem?_map,hk,b2 ▸ hk]using this
 have hu:∀ k,k<ids.length->D9 ids.length (ins.getD k .none)=true/\ins.getD k .none ≠ .none:=fun k hk=>by
  have hm:ins.getD k .none ∈ ins:=by simp[List.getD,b2 ▸ hk]
  have:=List.all_eq_true.1 b5 _ hm;simp only[zA2]at this;exact⟨this.1,fun e=>by rw[e]at this;simp[Row.live]at this⟩
 have A5:∀ k,k<ids.length->S.row (ids.getD k 0) ≠ .none:=fun k hk e=>by
  rw[A1 k hk,O9]at e;exact(hu k hk).2 e
 have XD:∀ k,ids.length<=k->ins.getD k .none = .none:=fun k hk=>by simp[List.getD,zA7 (b2 ▸ hk)]
 have nd:∀ k b,x7 βi k b->k<ids.length/\x7 β (ids.getD k 0) b:=fun k b hk=>by
  by_cases z8:k<ids.length
  ·exact⟨z8,by simpa[x7,Il k z8]using hk⟩
  ·simp[x7,Xl k (Nat.le_of_not_lt z8)]at hk
 have gH:=iQ b1;have XE:∀ i j,i<ids.length->j<ids.length->ids.getD i 0=ids.getD j 0->i=j:=fun i j hi hj e=>by
  have e':ids[i]=ids[j]:=by simpa[List.getD,hi,hj]using e
  have hp:=List.pairwise_iff_getElem.1 (List.nodup_append.1 gH).1;rcases Nat.lt_trichotomy i j with z8|rfl|sJ
  ·exact absurd e' (hp i j hi hj z8)
  ·rfl
  ·exact absurd e'.symm (hp j i hj hi sJ)
 have L6:BG βi F w ins:={
  rows:=fun k=>by
   by_cases z8:k<ids.length
   ·have:=hR.rows (ids.getD k 0);rw[A1 k z8]at this;exact iH Il z8 (hu k z8).1 this
   ·rw[XD k (Nat.le_of_not_lt z8)];trivial
  inj:=fun i j b _ _ B3 P6=>by
   obtain⟨l1,k1⟩:=nd i b B3;obtain⟨l2,k2⟩:=nd j b P6;exact XE i j l1 l2 (hR.inj _ _ b (A5 i l1) (A5 j l2) k1 k2)
  bF:=fun i b _ B3=>by
   obtain⟨l1,k1⟩:=nd i b B3;exact hR.bF _ b (A5 i l1) k1
  bB:=fun i b B3=>(hR.bB _ b (nd i b B3).2).2
  dead:=fun i hi=>by
   by_cases z8:i<ids.length
   ·exact absurd hi (hu i z8).2
   ·exact Xl i (Nat.le_of_not_lt z8) }
 obtain⟨h1,h2⟩:=Iw F w V βi (fun b hb=>(hR.FB b hb).1) G0 (fun i hi=>(I8 i hi).unren Il (F6 b4 i) (by rw[E4])) L6;unfold Oper.wp;rw[hex,h1];refine h2.mono ?_;rintro e w' ⟨v,β',F',rfl,g1,g2,g3,g4,g5,g6,g7,g8,g9⟩;obtain⟨β'',Im,gD,ju⟩:=hR.calledW (dst:=o.dst) gH B1 (fun k hk=>⟨Il k hk,A5 k hk⟩) Xl g1 g2 g3 g4 g5 b6 g6 (fun k=>by
  by_cases hk:k<o9.length
  ·exact List.all_eq_true.1 b7 _ (by simp[List.getD,hk])
  ·simp[List.getD,zA7 (Nat.le_of_not_lt hk),D9]) b3 g7 g8 g9
 exact⟨β'',Im,gD,ju,fun k hk=>by
  obtain⟨hd,h⟩:=(hR.rows (ids.getD k 0)).some (A5 k hk)
  rw[h];simp⟩
theorem zh(hR:Rel B w0 F0 S β F a w){o:Oper}{c:Call}{f:Operand}(ho:o.op = .call c)(hb:c.callee = .value f){K:St->Out->Prop}(h:Wy P c f S K){Q:Exit->Act->World->Prop} :
  o.wp P a w (T6 B w0 F0 o.dst K) Q:=by
 obtain⟨frz,news,R2,h⟩:=h;rw[C3]at h;obtain⟨S1,F1,Zd,iF,hk1⟩:∃ S1 F1,S1=S.frz frz/\Rel B w0 F0 S1 β F1 a w/\∀ d,A3 S d=true->F0.β d=none:=by
  cases frz with
  | nil=>exact⟨_,F,rfl,hR,hR.topn⟩
  | cons i l =>
   obtain⟨F',M8⟩:=hR.freeze (jm (i :: l));exact⟨_,F',rfl,M8,hR.topn⟩
 rw[<- Zd]at h;obtain⟨β2,B1,_,jO⟩:=iF.kills news (fun d hd=>hk1 d (List.all_eq_true.1 R2 d hd));generalize S1.kills news=S2 at h jO;split at h
 ·rename_i gC first B2 hg
  obtain⟨ids,J6,ins,o9,res,⟨Iw,T1,jS,Lg⟩,hK⟩:=h;refine Oper.wp_mono ?_ (iR jO ho hb hg B1 Iw T1 jS Lg);rintro a' w' ⟨β'',Im,gD,_⟩;exact⟨_,_,hK,β'',Im,gD⟩
 ·exact h.elim
theorem Yl.snd{X:List Nat}{o:Oper}{out:Out}{rd:List Nat}(hy:Yl P X o S out rd)(hR:Rel B w0 F0 S β F a w)(B1:∀ d ∈ DZ P X o,β d=none){Q:Exit->Act->World->Prop} :
  o.wp P a w (fun a' w'=>∃ β' F',(∀ j,j ∉ DZ P X o->o.dst≠some j->β' j=β j)/\Rel B w0 F0 (S.put o.dst out) β' F' a' w') Q:=by
 obtain⟨v0,hf,hy⟩:=hy;rcases hy S (fun _ _=>rfl) (fun _ _=>rfl)with h|h
 rotate_left
 ·refine Oper.wp_mono ?_ (h _ _ _ _ _ _ _ Q hR B1);rintro a' w' ⟨β',F',h4,h5⟩;exact⟨β',F',h4,h5.fine hf⟩
 replace B1:dF P o=true->∀ d,o.dst=some d->β d=none:=fun ha d hd=>B1 d (Qd ha hd)
 suffices q:o.wp P a w (fun a' w'=>∃ β' F',(∀ j,o.dst≠some j->β' j=β j)/\Rel B w0 F0 (S.put o.dst out) β' F' a' w') Q by
  refine Oper.wp_mono ?_ q;rintro a' w' ⟨β',F',h4,h5⟩;exact⟨β',F',fun j _=>h4 j,h5⟩
 have vN:Y9 o.op=true->∀ d,o.dst=some d->β d=none:=fun ha=>B1 (by simp[dF,ha])
 have hE:gM P o.dst o.op S.get S.row (fun o' d=>o'=⟨v0,out.rows⟩/\d=rd)->o.wp P a w (fun a' w'=>∃ β' F',(∀ j,o.dst≠some j->β' j=β j)/\Rel B w0 F0 (S.put o.dst out) β' F' a' w') Q:=fun h=>by
  refine Oper.wp_mono ?_ (Gz hR vN h);rintro a' w' ⟨a3o,rd',⟨rfl,h3⟩,β',F',h4,h5⟩;exact⟨β',F',h4,h5.fine hf⟩
 unfold Is at h;split at h
 ·rcases h with h|h
  ·exact hE h
  ·unfold LQ at h;split at h
   ·rename_i c ho;split at h
    ·rename_i f hb;split at h
     ·rename_i gC first B2 hg
      obtain⟨nw,ids,J6,ins,o9,res,⟨Iw,T1,jS,Lg⟩,kD,_⟩:=h;have R2:∀ d ∈ mh nw (dE P o) o.dst,o.dst=some d/\dE P o=true:=fun d hd=>by
       unfold mh at hd;split at hd
       ·split at hd
        ·rename_i Gx;split at hd
         ·rename_i d' hd';obtain rfl:=List.mem_singleton.1 hd;exact⟨hd',Gx⟩
         ·cases hd
        ·cases hd
       ·cases hd
      refine Oper.wp_mono ?_ (iR hR ho hb hg (fun d hd=>B1 (by simp[dF,(R2 d hd).2]) d (R2 d hd).1) Iw T1 jS Lg);rintro a' w' ⟨β'',Im,gD,ju,A5⟩;refine⟨β'',Im,fun j hj=>ju j ?_,?_⟩
      ·by_cases hm:j ∈ ids++mh nw (dE P o) o.dst
       ·rcases List.mem_append.1 hm with hm|hm
        ·right
         obtain⟨k,hk,e⟩:=List.getElem_of_mem hm;have:=A5 k hk;simpa[List.getD,hk,e]using this
        ·exact absurd (R2 j hm).1 hj
       ·exact .inl hm
      ·have oX:Rel B w0 F0 (S.put o.dst ⟨v0,out.rows⟩) β'' Im a' w':=by
        rw[<- kD];exact gD
       exact oX.fine hf
     ·exact h.elim
    ·exact h.elim
   ·exact h.elim
 ·split at h
  ·rename_i hn;rcases h with h|h
   ·exact hE h
   ·unfold LN at h;split at h
    ·rename_i c ho;split at h
     ·rename_i f hb;split at h
      ·rename_i gC first B2 hg
       split at h
       ·rename_i d hd;obtain⟨row,res,⟨Iw,S9,A1,Pw⟩,kD,_⟩:=h;obtain⟨V,hex,G0,I8⟩:=BU hR ho hb hg;have L6:BG (fun _=>none) F w []:={
         rows:=fun k=>by simp[y8]
         inj:=fun i j b hi _ _ _=>absurd rfl hi
         bF:=fun i b hi _=>absurd rfl hi
         bB:=fun i b h=>by simp[x7]at h
         dead:=fun _ _=>rfl }
        obtain⟨h1,h2⟩:=Iw F w V (fun _=>none) (fun b hb=>(hR.FB b hb).1) G0 (fun i hi => .imm ((I8 i hi).shut (H0 S9 i))) L6;unfold Oper.wp;rw[hex,h1];refine h2.mono ?_;rintro e w' ⟨v,β',F',rfl,g1,g2,g3,g4,g5,g6,g7,g8,g9⟩;have hu:∀ n,D9 n row=true:=fun n=>by cases row<;>first|rfl|(simp[LM]at A1)
        have a0x:∀ ids,A0 ids row=row:=fun ids=>by cases row<;>first|rfl|(simp[LM]at A1)
        obtain⟨β'',Im,gD,ju⟩:=hR.calledW (ids:=[]) (news:=[d]) (dst:=o.dst) va9 (by intro d' hd'; simp at hd'; subst hd'; exact B1 (by simp[dF,hn]) _ hd) (fun k hk=>absurd hk (zB3 k)) (fun _ _=>rfl) g1 g2 g3 g4 g5 Pw g6 (fun k=>by
         rcases k with _|k
         ·exact hu _
         ·rfl) rfl g7 g8 g9
        refine⟨β'',Im,fun j hj=>ju j (.inl (by simp;rintro rfl;exact hj hd)),?_⟩;have oX:Rel B w0 F0 (S.put o.dst ⟨v0,out.rows⟩) β'' Im (a.put o.dst v) w':=by
         rw[<- kD];simpa[AV.ren,a0x]using gD
        exact oX.fine hf
       ·exact h.elim
      ·exact h.elim
     ·exact h.elim
    ·exact h.elim
  ·exact hE h
theorem zi{o:Oper}{K:St->Out->Prop}(h:ta P o S K):∀ c,o.op ≠ .defer c:=by
 intro c e;unfold ta at h;rw[e]at h;exact h
theorem Rel.yielded(hR:Rel B w0 F0 S β F a w){id l:Nat}{xs:List (List AV)}{k:Nat}(A1:S.row id = .ctr l xs k false){O:Nat->Prop}(hOs:∀ b,O b->b<w.heap.size)(A5:∀ i b,S.row i ≠ .none->x7 β i b->O b)(hFO:∀ b,F b->F0.F b∨O b)
  (hm:∀ D,P9 D ∈ a.defers->O D) (XF:∀ oZ l' Bi k' e',S.row oZ = .ctr l' Bi k' e'->oZ=id) (hl:l=F0.l) (hx:xs=F0.xs) (hB:∀ b,B b) (hr:F0.r=none) {w':World} (lp:w'.os=w.os/\w'.tape=w.tape/\w'.output=w.output) (aY:w.heap.size<=w'.heap.size)
  (hO:∀ b,O b->w'.heap[b]? = w.heap[b]?) (LW:C5 F0.F w w') {e:Bool} (hJ:F0.J (k+1) e O w'):Rel B w0 F0 ⟨S.t,S.h.set id (.ctr l xs (k+1) e),S.n⟩ β F a w':=by
 have hk:C5 F w w':=fun b o u hb H7=>by
  rcases hFO b hb with h|h
  ·exact LW b o u h H7
  ·rw[World.cell?_of_block (w:=w) (hO b h)];exact H7
 have Qg:∀ j,(St.row ⟨S.t,S.h.set id (.ctr l xs (k+1) e),S.n⟩ j)=if id=j/\id<S.h.length then .ctr l xs (k+1) e else S.row j:=fun j=>r7 _ _ _ _
 have lv:∀ j,(St.row ⟨S.t,S.h.set id (.ctr l xs (k+1) e),S.n⟩ j) ≠ .none->S.row j ≠ .none:=fun j hj=>by
  rw[Qg]at hj;split at hj
  ·rename_i hc;rw[<- hc.1,A1];simp
  ·exact hj
 exact {
  len:=hR.len
  slots:=fun i hi=>(hR.slots i hi).grow (fun _ _=>rfl) (fun _ h=>h) hk
  marks:=by
   obtain⟨Ds,⟨h1,h0⟩,h2,h3⟩:=hR.marks;refine⟨Ds,⟨h1,h0⟩,h2,fun D hD=>⟨?_,(h3 D hD).2⟩⟩;have GJ:P9 D ∈ a.defers:=by rw[h1];exact List.mem_map_of_mem hD
   rw[hO D (hm D GJ)];exact(h3 D hD).1
  rows:=fun j=>by
   rw[Qg];split
   ·rename_i hc;have:=hR.rows id;rw[A1]at this;rw[<- hc.1];exact this
   ·by_cases hn:S.row j = .none
    ·rw[hn];trivial
    ·exact(hR.rows j).grow (fun _ _=>rfl) (fun _ h=>h) hk fun b hb=>hO b (A5 j b hn hb)
  inj:=fun i j b hi hj=>hR.inj i j b (lv i hi) (lv j hj)
  bF:=fun i b hi=>hR.bF i b (lv i hi)
  bB:=fun i b h=>⟨hB b,zB5 (hR.bB i b h).2 aY⟩
  FB:=fun b h=>⟨zB5 (hR.FB b h).1 aY,.inr (hB b)⟩
  below:=hR.below.trans ⟨lp.1,lp.2.1,lp.2.2,aY,fun k Ug=>absurd (hB k) Ug⟩
  BW:=fun b h=>hB b
  top:=hR.top
  topn:=hR.topn
  nn:=hR.nn
  inc:=hR.inc
  keep:=fun b o u hb H7=>hk b o u (hR.inc b hb) (hR.keep b o u hb H7)
  sol:=fun hn=>absurd (F0.ni _ _ _ _ hJ) hn
  yl:=fun oZ l' Bi k' e' h=>by
   have un:∀ oZ l' Bi k' e',(St.row ⟨S.t,S.h.set id (.ctr l xs (k+1) e),S.n⟩ oZ) = .ctr l' Bi k' e'->oZ=id:=fun oZ l' Bi k' e' h=>by
    rw[Qg]at h;split at h
    ·rename_i hc;exact hc.1.symm
    ·exact XF _ _ _ _ _ h
   obtain rfl:=un _ _ _ _ _ h;rw[Qg,if_pos ⟨rfl,fQ (by rw[A1];simp)⟩]at h;cases h
   exact⟨hl,hx,⟨hB,hr⟩,O,hJ,fun b hb=>zB5 (hOs b hb) aY,fun i b hi hb=>A5 i b (lv i hi) hb,hFO,hm,un⟩ }
theorem xe(hR:Rel B w0 F0 S β F a w){o:Oper}{c:Call}{f:Operand}(ho:o.op = .call c)(hb:c.callee = .value f){l:Nat}(hg:S.get f = .fn (.yield l) [] []){xs:List (List AV)}{k:Nat}(A1:S.row S.t.length = .ctr l xs k false)
  (hx:xs[k]? = some (c.args.toList.map S.get)) (Ly:dY (c.args.toList.map S.get)=true) {K:St->Out->Prop} (h1:K S ⟨.tt,[(S.t.length,.ctr l xs (k+1) false)]⟩) (h2:K S ⟨.ff,[(S.t.length,.ctr l xs (k+1) true)]⟩) {Q:Exit->Act->World->Prop} :
  o.wpIn (FW F0.r) 0 P a w (T6 B w0 F0 o.dst K) Q:=by
 obtain⟨hl,Tj,⟨hB,hr⟩,O,g1,g2,g3,g4,g5,g6⟩:=hR.yl _ _ _ _ _ A1;have hf:=hR.get f;rw[hg]at hf;obtain⟨vs,us,hv,l1,l2,_,_⟩:=hf.fn_inv;obtain rfl:vs=#[]:=Array.eq_empty_of_size_eq_zero l1.symm;obtain rfl:us=#[]:=Array.eq_empty_of_size_eq_zero l2.symm;obtain⟨l3,r3⟩:=L9 hR c.args;have hex:execOp a.eval o=Instr.yield l (c.args.map a.eval):=by
  simp only[execOp,ho,resolve,hb,hv,Deferred.ofValue];simp[invoke]
 have S9:∀ i,((c.args.toList.map S.get).getD i .any).flat=true:=P8 Ly;have ED:∀ {x:AV} {v:Value},C4 β F w x v->x.flat=true->y6 (fun _=>False) w x v:=by
  intro x v h
  induction h with
  | imm h=>intro hx;exact h.lift hx
  | ptr=>intro hx;simp[AV.flat]at hx
  | own=>intro hx;simp[AV.flat]at hx
  | mem=>intro hx;simp[AV.flat]at hx
  | mptr=>intro hx;simp[AV.flat]at hx
  | agg hl _ ih=>intro hx;exact .agg hl fun i hi=>ih i hi (P8 (by simpa[AV.flat]using hx) i)
  | tup hl _ ih=>intro hx;exact .tup hl fun i hi=>ih i hi (P8 (by simpa[AV.flat]using hx) i)
  | fn hl _ hm _ ih ik =>
   intro hx;simp[AV.flat]at hx;exact .fn hl (fun i hi=>ih i hi (P8 hx.1 i)) hm (fun i hi=>ik i hi (P8 hx.2 i))
 obtain⟨fn,tmps,assign,body,hy,zj⟩:=F0.rd k O w (c.args.map a.eval) _ g1 (Tj ▸ hx) g2 l3.symm (fun i hi=>ED (r3 i hi) (S9 i));rw[<- hl]at hy zj;refine⟨fun _ _=>trivial,?_⟩;rw[Oper.semAt_eq _ _ _ (fun d e=>by rw[ho]at e;cases e),hex,hy];refine⟨fun h=>(by cases h),?_⟩;rw[hr];refine RoundIn.mono zj ?_;rintro e W' ⟨q1,q2,q3,q4,q5,q6,q7⟩;have step:∀ (e':Bool) (x:AV) (v:Value),F0.J (k+1) e' O W'->y6 F W' x v->K S ⟨x,[(S.t.length,.ctr l xs (k+1) e')]⟩->T6 B w0 F0 o.dst K (a.put o.dst v) W':=fun e' x v hJ hv hK=>by
  have:=hR.yielded A1 g2 g3 g4 g5 g6 hl Tj hB hr ⟨q1,q2,q3⟩ q4 q5 q6 hJ;exact⟨S,_,hK,β,F,this.still (dst:=o.dst) (.imm hv)⟩
 rcases q7 with ⟨rfl,hJ⟩|⟨rfl,hJ⟩
 ·exact step false .tt _ hJ .tt h1
 ·exact step true .ff _ hJ .ff h2
theorem LX(hR:Rel B w0 F0 S β F a w){o:Oper}(B1:Y9 o.op=true->∀ d,o.dst=some d->β d=none){K:St->Out->Prop}(h:ta P o S K){Q:Exit->Act->World->Prop} :
  o.wpIn (FW F0.r) 0 P a w (T6 B w0 F0 o.dst K) Q:=by
 have gH:=zi h;unfold ta at h;split at h
 ·rename_i f xs ys ho;refine N4 gH ?_;split at h
  ·have L0:execOp a.eval o=(do pure (.value (<- Instr.makeFunc f (xs.map a.eval) (ys.map a.eval)))):=by simp[execOp,ho]
   obtain⟨h1,h2⟩:=L9 hR xs;obtain⟨h3,h4⟩:=L9 hR ys;exact K3 L0 (v := .func f (xs.map a.eval) (ys.map a.eval)) (w':=w) (by simp[Instr.makeFunc]) ⟨S,_,h,β,F,hR.still (.fn h1 h2 h3 h4)⟩
  ·rename_i i l Xe;rw[C3]at h;obtain⟨F',M8⟩:=hR.freeze (jm (i :: l));have L0:execOp a.eval o=(do pure (.value (<- Instr.makeFunc f (xs.map a.eval) (ys.map a.eval)))):=by simp[execOp,ho]
   obtain⟨h1,h2⟩:=L9 M8 xs;obtain⟨h3,h4⟩:=L9 M8 ys;exact K3 L0 (v := .func f (xs.map a.eval) (ys.map a.eval)) (w':=w) (by simp[Instr.makeFunc]) ⟨_,_,h,β,F',M8.still (.fn h1 h2 h3 h4)⟩
 ·rename_i op t x y yt ho;refine N4 gH ?_;split at h
  ·rename_i hy;split at h
   ·rename_i α sz d enc l hx;split at h
    ·rename_i e hu;refine iP hR ho hu hy ?_ h;have:=hR.get x;rw[hx]at this;rcases this.sl_inv with ⟨h1,x0,c0,h2⟩|⟨b,ob,cap,g,h1,_⟩
     ·exact⟨_,_,_,h2,fun _=>h1⟩
     ·exact⟨_,_,_,h1,fun e=>by cases e⟩
    ·exact h.elim
   ·rename_i id hx;split at h
    ·rename_i α ty sz d enc l hr;split at h
     ·rename_i e hu;refine iP hR ho hu hy ?_ h;have:=hR.get x;rw[hx]at this;obtain⟨hd,hβ,hv⟩:=this.own_inv;obtain⟨_,q⟩:=ag hR hr hβ;refine⟨_,_,_,hv,fun e=>?_⟩;rcases q with ⟨q,_⟩|⟨b,vs,q,_⟩
      ·exact q
      ·rw[q]at e;cases e
     ·exact h.elim
    ·exact h.elim
   ·rw[<- ho]at h;exact F8 hR B1 h
  ·rw[<- ho]at h;exact F8 hR B1 h
 ·rename_i c ho;split at h
  ·rename_i f hc;split at h
   ·rename_i gC first B2 hg
    refine N4 gH ?_;rcases h with h|h
    ·split at h
     ·rw[<- ho]at h;exact F8 hR B1 h
     ·obtain⟨frz,h⟩:=h;split at h
      ·rw[<- ho]at h;exact F8 hR B1 h
      ·rw[C3,<- ho]at h;obtain⟨F',M8⟩:=hR.freeze (jm (_:List Nat));exact F8 M8 B1 h
    ·exact zh hR ho hc h
   ·rename_i l hg;split at h
    ·rename_i l' xs k A1;obtain⟨⟨rfl,hx,Ly⟩,h1,h2⟩:=h;exact xe hR ho hc hg A1 hx Ly h1 h2
    ·exact h.elim
   ·exact h.elim
  ·rw[<- ho]at h;exact N4 gH (F8 hR B1 h)
 ·exact N4 gH (F8 hR B1 h)
theorem Ix{x:AV}{v:Value}(h:C4 β F w x v):C4 β F w (nz x) v:=by
 cases x with
 | nils=>rw[h.nils_inv];exact .imm .slnil
 | _=>exact h
theorem Iy:nz .any = .any:=rfl
theorem xf:∀ l:List (List AV),Ey l=l.map fun cs=>cs.map nz
 | []=>rfl
 | cs :: l=>congrArg (cs.map nz :: ·) (xf l)
theorem Rel.unLit(hR:Rel B w0 F0 S β F a w){q:Nat}{ty:TypeId}{sz:Nat}{E5:List (List AV)}(hq:S.row q = .lit ty sz E5):Rel B w0 F0 ⟨S.t,S.h.set q (.lit ty sz (E5.map fun cs=>cs.map nz)),S.n⟩ β F a w:=by
 have A1:∀ (q:Nat) (r:Row) (j:Nat),(⟨S.t,S.h.set q r,S.n⟩:St).row j=if q=j/\q<S.h.length then r else S.row j:=fun q r j=>by
  show(S.h.set q r).getD j .none=_
  rw[r7];rfl
 have hg:∀ i,(E5.map fun cs=>cs.map nz).getD i []=(E5.getD i []).map nz:=by
  intro i;simp only[List.getD,List.getElem?_map];cases E5[i]? <;> simp
 refine hR.trade rfl rfl (fun i hi=>hR.slots i hi) (fun j=>?_) (fun i j b hi hj=>hR.inj i j b ?_ ?_) (fun i b hi hb=>⟨i,?_,hb⟩) (fun i b hb=>⟨i,hb⟩) hR.top (fun id l xs k e h=>?_)
 ·rw[A1];split
  ·rename_i e;have this:=hR.rows j;rw[<- e.1,hq]at this;rw[<- e.1];obtain⟨hd,b,vs,e1,em,e2,e3,e4,e5,e6,e7,e8⟩:=this;exact⟨hd,b,vs,e1,em,e2,e3,by simpa using e4,by simpa using e5,by simpa using e6,by simpa using e7,fun i k hi hk=>by
    rw[hg,u0 _ Iy]
    exact Ix (e8 i k (by simpa using hi) hk)⟩
  ·exact hR.rows j
 ·rw[A1]at hi;split at hi
  ·rename_i e;rw[<- e.1,hq];simp
  ·exact hi
 ·rw[A1]at hj;split at hj
  ·rename_i e;rw[<- e.1,hq];simp
  ·exact hj
 ·rw[A1]at hi;split at hi
  ·rename_i e;rw[<- e.1,hq];simp
  ·exact hi
 ·rw[A1]at h;split at h
  ·cases h
  ·exact h
theorem Rel.unN(hR:Rel B w0 F0 S β F a w)(o:Oper):∃ F',Rel B w0 F0 (unN o S) β F' a w:=by
 unfold Ev.unN
 repeat' split
 all_goals first|exact⟨F,hR⟩|exact hR.freeze _|exact⟨F,hR.unLit (by assumption)⟩|(rw[xf];exact⟨F,hR.unLit (by assumption)⟩)
theorem xg(hR:Rel B w0 F0 S β F a w){o:Oper}(B1:Y9 o.op=true->∀ d,o.dst=some d->β d=none){K:St->Out->Prop}(h:BS P o S K){Q:Exit->Act->World->Prop} :
  o.wpIn (FW F0.r) 0 P a w (T6 B w0 F0 o.dst K) Q :=
 Qc (fun S K=>C3 S K) hR B1 (fun gH h=>N4 gH h) (fun h=>LX hR B1 h) (fun hc S' β' M8 hw=>by
  obtain⟨c,f,ho,hb⟩:=hc;unfold Zf at hw;rw[ho]at hw;simp only[hb]at hw
  exact N4 (fun c e=>by rw[ho]at e;cases e) (zh M8 ho hb hw)) h
theorem tb(hR:Rel B w0 F0 S β F a w){o:Oper}(B1:Y9 o.op=true->∀ d,o.dst=some d->β d=none){K:St->Out->Prop}(h:Ez P o S K){Q:Exit->Act->World->Prop} :
  o.wpIn (FW F0.r) 0 P a w (T6 B w0 F0 o.dst K) Q:=by
 unfold Ez at h;split at h
 ·rw[C3]at h;obtain⟨F',M8⟩:=hR.unN o;exact xg M8 B1 h
 ·exact xg hR B1 h
theorem Qh(hR:Rel B w0 F0 S β F a w){o:Oper}{K:St->Out->Prop}(h:Xz P o S K){Q:Exit->Act->World->Prop}:o.wpIn (FW F0.r) 0 P a w (T6 B w0 F0 o.dst K) Q:=by
 unfold Xz at h;split at h
 ·rename_i ha;split at h
  ·rename_i d hd;split at h
   ·rename_i z8;rw[C3]at h;obtain⟨β',h1,h2,M8⟩:=hR.kill d (hR.topn d z8);exact tb M8 (fun _ d' hd'=>by rw[hd]at hd'; cases hd'; exact h1) h
   ·exact h.elim
  ·rename_i hd;exact tb hR (fun _ d' hd'=>by rw[hd]at hd'; cases hd') h
 ·rename_i ha;exact tb hR (fun Uh=>by rw[ha]at Uh; cases Uh) h
theorem cD{src:Bool}{out:Out}{K:Out->Prop}(h:Z3 src out K):∃ v,BD out.v v/\K ⟨v,out.rows⟩:=by
 unfold Z3 at h;split at h
 ·split at h
  ·rename_i b hb;rw[hb];cases b
   ·exact⟨.ff,.ff,h.2 rfl⟩
   ·exact⟨.tt,.tt,h.1 rfl⟩
  ·exact⟨_,.same _,h⟩
 ·exact⟨_,.same _,h⟩
theorem nB{K:St->Prop}{Q:Exit->Act->World->Prop}(hQ:∀ S β F a w,Rel B w0 F0 S β F a w->K S->Q .normal a w):∀ (l:List Oper) (k:Nat) {S:St} {β:Nat->Option Hd} {F:Nat->Prop} {a:Act} {w:World},(∀ j,l[j]? = ops[k+j]?) ->
  Rel B w0 F0 S β F a w->BT P ops.toList l k S K->wpOpsIn (FW F0.r) 0 P ops Q (List.range' k l.length) a w
 | [],k,S,β,F,a,w,_,hR,h=>hQ _ _ _ _ _ hR h
 | o :: l,k,S,β,F,a,w,hl,hR,h=>by
  have h0:ops[k]? = some o:=by simpa using (hl 0).symm
  have mS:∀ j,l[j]? = ops[k+1+j]? := fun j=>by have:=hl (j+1);simpa[Nat.add_assoc,Nat.add_comm 1 j]using this
  simp only[zB2,List.range'_succ];simp only[wpOpsIn,h0];simp only[BT,Array.toArray_toList]at h;split at h
  ·rename_i hg;rw[dQ hR hg];simp only[if_true];split at h
   ·obtain⟨R,h1,h2⟩:=h;refine Oper.wpIn_mono ?_ (h1 _ _ _ _ _ _ _ _ hR);rintro a' w' ⟨S',hr,β',F',M8⟩;have h3:=h2 S' hr;rw[C3]at h3;exact nB hQ l (k+1) mS M8 h3
   refine Oper.wpIn_mono ?_ (Qh hR h);rintro a' w' ⟨S',out,hK,β',F',M8⟩;obtain⟨v,hf,hK⟩:=cD hK;rw[iK]at hK;exact nB hQ l (k+1) mS (Rel.fine (x:=out.v) (rows:=out.rows) M8 hf) hK
  ·rename_i hg;rw[dQ hR hg];simp only[zB0,if_false];rw[iK]at h;exact⟨fun _ _=>trivial,nB hQ l (k+1) mS (hR.still (.imm y6.undef)) h⟩
  ·exact h.elim
theorem dG{X:List Nat}{K:St->Prop}:∀ (l:List Oper) (k:Nat) {S:St} {cY:List (List Nat×List Nat)},fZ P X ops.toList l k S cY K->∃ ly Sf,qE P X ops k l S ly Sf/\BP ops.toList (cY++ly)=true/\K Sf/\ly.length=l.length
 | [],k,S,cY,h=>⟨[],S,.nil k S,by simpa using h.1,h.2,rfl⟩
 | o :: l,k,S,cY,h=>by
  simp only[fZ,Array.toArray_toList]at h;split at h
  ·rename_i hg;split at h
   ·obtain⟨out,rd,Ui,hK⟩:=h;obtain⟨v,hf,hK⟩:=cD hK;rw[iK]at hK;obtain⟨ly,Sf,h1,h2,h3,h4⟩:=dG l (k+1) hK;exact⟨(rd,out.rows.map (·.1)) :: ly,Sf,.run (out:=⟨v,out.rows⟩) hg ⟨out.v,hf,fun S' h1 h2 => .inr (Ui S' h1 h2)⟩ h1,by simpa using h2,h3,by simp[h4]⟩
   obtain⟨out,rd,hK,Ui⟩:=It h;obtain⟨v,hf,hK⟩:=cD hK;rw[iK]at hK;obtain⟨ly,Sf,h1,h2,h3,h4⟩:=dG l (k+1) hK;exact⟨(rd,out.rows.map (·.1)) :: ly,Sf,.run (out:=⟨v,out.rows⟩) hg ⟨out.v,hf,fun S' h1 h2 => .inl (Ui S'.get S'.row h1 h2)⟩ h1,by simpa using h2,h3,by simp[h4]⟩
  ·rename_i hg;rw[iK]at h;obtain⟨ly,Sf,h1,h2,h3,h4⟩:=dG l (k+1) h;exact⟨([],[]) :: ly,Sf,.skip hg h1,by simpa using h2,h3,by simp[h4]⟩
  ·exact h.elim
theorem Rel.otherK(hR:Rel B w0 F0 S β F a w){w':World}(lp:w'.os=w.os/\w'.tape=w.tape/\w'.output=w.output)(aY:w.heap.size<=w'.heap.size){O:Nat->Prop}(hO:∀ b,b<w.heap.size->¬ O b->w'.heap[b]? = w.heap[b]?)(hOB:∀ b,O b->B b)(hO0:∀ b,O b->w0.heap.size<=b)
  (A5:∀ i b,S.row i ≠ .none->x7 β i b->¬ O b) (hk:C5 F w w') (hm:∀ D,P9 D ∈ a.defers->¬ O D) (hc:∀ id l xs k e,S.row id ≠ .ctr l xs k e):Rel B w0 F0 S β F a w':=by
 exact {
  len:=hR.len
  slots:=fun i hi=>(hR.slots i hi).grow (fun _ _=>rfl) (fun _ h=>h) hk
  marks:=by
   obtain⟨Ds,⟨h1,h0⟩,h2,h3⟩:=hR.marks;refine⟨Ds,⟨h1,h0⟩,h2,fun D hD=>⟨?_,(h3 D hD).2⟩⟩;have GJ:P9 D ∈ a.defers:=by rw[h1];exact List.mem_map_of_mem hD
   rw[hO D (Array.getElem?_eq_some_iff.1 (h3 D hD).1).1 (hm D GJ)];exact(h3 D hD).1
  rows:=fun i=>by
   by_cases hn:S.row i = .none
   ·rw[hn];trivial
   ·exact(hR.rows i).grow (fun _ _=>rfl) (fun _ h=>h) hk fun b hb=>hO b (hR.bB i b hb).2 (A5 i b hn hb)
  inj:=hR.inj
  bF:=hR.bF
  bB:=fun i b h=>⟨(hR.bB i b h).1,zB5 (hR.bB i b h).2 aY⟩
  FB:=fun b h=>⟨zB5 (hR.FB b h).1 aY,(hR.FB b h).2⟩
  below:=hR.below.trans ⟨lp.1,lp.2.1,lp.2.2,aY,fun k Ug=>by
   by_cases z8:k<w.heap.size
   ·exact hO k z8 fun h=>Ug (hOB k h)
   ·exact absurd (hR.BW k (Nat.le_of_not_lt z8)) Ug⟩
  BW:=fun b h=>hR.BW b (Nat.le_trans aY h)
  top:=hR.top
  topn:=hR.topn
  nn:=hR.nn
  inc:=hR.inc
  keep:=fun b o u hb H7=>hk b o u (hR.inc b hb) (hR.keep b o u hb H7)
  sol:=fun hn k o ho rk=>by
   have h1:=hR.sol hn k o ho rk;rw[hO k (Array.getElem?_eq_some_iff.1 h1).1 fun h=>?_]
   ·exact h1
   ·have:=hO0 k h;have:=(Array.getElem?_eq_some_iff.1 ho).1;omega
  yl:=fun id l xs k e h=>absurd h (hc id l xs k e) }
theorem Rel.other(hR:Rel B w0 F0 S β F a w){w':World}(lp:w'.os=w.os/\w'.tape=w.tape/\w'.output=w.output)(aY:w.heap.size<=w'.heap.size){O:Nat->Prop}(hO:∀ b,b<w.heap.size->¬ O b->w'.heap[b]? = w.heap[b]?)(hOB:∀ b,O b->B b)(hO0:∀ b,O b->w0.heap.size<=b)
  (A5:∀ i b,S.row i ≠ .none->x7 β i b->¬ O b) (hF:∀ b,F b->¬ O b) (hm:∀ D,P9 D ∈ a.defers->¬ O D) (hc:∀ id l xs k e,S.row id ≠ .ctr l xs k e):Rel B w0 F0 S β F a w' :=
 hR.otherK lp aY hO hOB hO0 A5 (fun b o u hb H7=>by rw[World.cell?_of_block (w:=w) (hO b (hR.FB b hb).1 (hF b hb))];exact H7) hm hc
theorem Rel.drew(hR:Rel B w0 F0 S β F a w)(n:Nat):Rel B w0 F0 S β F a { w with drawn:=w.drawn+n } where
 len:=hR.len
 slots:=fun i hi=>C4.grow (β:=β) (β':=β) (F:=F) (F':=F) (w:=w) (w':={ w with drawn:=w.drawn+n }) (fun _ _=>rfl) (fun _ h=>h) (fun _ _ _ _ h=>h) (hR.slots i hi)
 marks:=hR.marks
 rows:=fun i=>y8.grow (β:=β) (β':=β) (F:=F) (F':=F) (w:=w) (w':={ w with drawn:=w.drawn+n }) (fun _ _=>rfl) (fun _ h=>h) (fun _ _ _ _ h=>h) (fun _ _=>rfl) (hR.rows i)
 inj:=hR.inj
 bF:=hR.bF
 bB:=hR.bB
 FB:=hR.FB
 below:=hR.below.trans ⟨rfl,rfl,rfl,Nat.le_refl _,fun _ _=>rfl⟩
 BW:=hR.BW
 top:=hR.top
 topn:=hR.topn
 nn:=hR.nn
 inc:=hR.inc
 keep:=hR.keep
 sol:=hR.sol
 yl:=fun id l xs k e h=>by
  obtain⟨h1,h2,hz,O,h3,h4,h5,h6,h7,h8⟩:=hR.yl id l xs k e h;have G0:({ w with drawn:=w.drawn+n }:World).heap.size=w.heap.size:=rfl;refine⟨h1,h2,hz,_,F0.st k e O w { w with drawn:=w.drawn+n } h3 (fun _ _ _=>rfl) rfl rfl rfl (Nat.le_refl _),fun b hb=>?_,fun i b hi hb => .inl (h5 i b hi hb),fun b hb=>(h6 b hb).imp (fun h=>h) .inl,fun D hD => .inl (h7 D hD),h8⟩;rcases hb with hb|hb
  ·exact h4 b hb
  ·exact hb.2
theorem EE{cY:List (List Nat×List Nat)}(h:BP ops.toList cY=true)(i j:Nat)(oj:Oper)(hi:i<ops.size)(hj:ops[j]? = some oj)(Bd:i<j)(xa:∀ e ∈ oj.after,Region.binds .any e=true->e.on≠i)(vM:¬Xt ops oj i) :
  (∀ x ∈ (cY.getD i ([],[])).2,x ∉ (cY.getD j ([],[])).1/\x ∉ (cY.getD j ([],[])).2)/\∀ x ∈ (cY.getD i ([],[])).1,x ∉ (cY.getD j ([],[])).2:=by
 have oW:j<ops.size:=(Array.getElem?_eq_some_iff.1 hj).1;simp only[BP,List.all_eq_true,List.mem_range,Array.length_toList]at h;have h1:=h j oW i hi;have hb:Nat.ble j i=false:=by
  cases hc:Nat.ble j i with
  | false=>rfl
  | true=>have:=Nat.le_of_ble_eq_true hc;omega
 rw[hb]at h1;simp only[Array.getElem?_toList,hj,zA9,zA2]at h1;rcases h1 with h1|⟨h1,h2⟩|h1
 ·obtain⟨e,he,Bc⟩:=Array.any_eq_true'.1 h1;simp only[zA2,beq_iff_eq]at Bc;exact absurd Bc.2 (xa e he Bc.1)
 rotate_left
 ·obtain⟨e,he,Bc⟩:=Array.any_eq_true'.1 h1;simp only[zA2]at Bc;obtain⟨hb,Bc⟩:=Bc;split at Bc
  ·rename_i om Iv;obtain⟨e',he',Uj⟩:=Array.any_eq_true'.1 Bc;simp only[zA2,beq_iff_eq]at Uj;exact absurd ⟨e,he,hb,om,by simpa using Iv,e',he',Uj.1,Uj.2⟩ vM
  ·cases Bc
 ·refine⟨fun x hx=>?_,fun x hx=>?_⟩
  ·have:=List.all_eq_true.1 h1 x hx;simp at this;exact this
  ·have:=List.all_eq_true.1 h2 x hx;simpa using this
theorem zk(h:kE ops.toList=true)(i:Nat)(o:Oper)(ho:ops[i]? = some o)(c:Call):o.op ≠ .defer c:=by
 intro e;have:=List.all_eq_true.1 h o (by simpa using Array.mem_of_getElem? ho);rw[e]at this;simp at this
theorem dk{X:List Nat}{r:Option Nat}(gH:∀ (i:Nat) (o:Oper),ops[i]? = some o->∀ c,o.op ≠ .defer c){fp:Nat->List Nat×List Nat}{Q:St->Prop}{Q':Exit->Act->World->Prop}(jR:∀ (i j:Nat) (oi oj:Oper) (d:Nat),ops[i]? = some oi->ops[j]? = some oj->i≠j->d ∈ DZ P X oi->d ∉ DZ P X oj/\oj.dst≠some d)
  (hQ:∀ S β F a w,Rel B w0 F0 S β F a w->Q S->Q' .normal a w):∀ (fuel:Nat) (F5:Array Bool) (S:St) (β:Nat->Option Hd) (F:Nat->Prop) (a:Act) (w:World),Xs P X ops F5 β->Rel B w0 F0 S β F a w ->
   Iu P X ops fp Q fuel F5 S->wpAnyIn (FW r) 0 P .any ops Q' fuel F5 a w
 | 0,_,_,_,_,_,_,_,hR,h=>⟨h.1,hQ _ _ _ _ _ hR h.2⟩
 | fuel+1,F5,S,β,F,a,w,vN,hR,h=>by
  refine⟨fun h0=>hQ _ _ _ _ _ hR (h.1 h0),fun i hi=>?_⟩;have h2:=h.2 i hi;obtain⟨Pw,o,ho,_⟩:=mem_ready.1 hi;have XG:F5.getD i true=false:=Pw;unfold aOp at h2;unfold wpOpIn;simp only[ho]at h2 ⊢;have B1:∀ d ∈ DZ P X o,β d=none:=fun d hd=>vN i o ho XG d hd
  have keep:∀ β',(∀ j,j ∉ DZ P X o->o.dst≠some j->β' j=β j)->Xs P X ops (F5.setIfInBounds i true) β':=fun β' mb k ok hk Uk d hdk=>by
   have Lf:k≠i:=fun e=>by
    subst e;have z8:k<F5.size:=by
     rcases Nat.lt_or_ge k F5.size with h' | h'
     ·exact h'
     ·simp[Array.getElem?_eq_none h']at XG
    simp[z8]at Uk
   obtain⟨q1,q2⟩:=jR k i ok o d hk ho Lf hdk;rw[mb d q1 q2];exact vN k ok hk (by rw[getD_set_ne true (Ne.symm Lf)]at Uk;exact Uk) d hdk
  rcases h2 with ⟨h1,out,rd,hy,_,hK⟩|⟨h1,hK⟩
  ·rw[dQ hR h1];simp only[if_true];refine N4 (gH i o ho) (Oper.wp_mono ?_ (hy.snd hR B1));rintro a' w' ⟨β',F',mb,M8⟩;exact dk gH jR hQ fuel _ _ β' F' a' w' (keep β' mb) M8 hK
  ·rw[dQ hR h1];simp only[zB0,if_false];exact⟨fun _ _=>trivial,dk gH jR hQ fuel _ _ β F _ w (keep β fun _ _ _=>rfl) (hR.still (.imm y6.undef)) hK⟩
theorem Rel.preF(hR:Rel B w0 F0 S β F a w)(P:Program)(ops:List Oper):∃ F',Rel B w0 F0 (preF P S ops) β F' a w:=by
 unfold Ev.preF;cases LV P S ops with
 | nil=>exact⟨F,hR⟩
 | cons i l=>exact hR.freeze _
theorem mi{n:Nat}:∀ {l:List Oper},xd n l=false->∀ o ∈ l,o.dst≠some n
 | [],_,o,h=>absurd h va9
 | o' :: l,h,o,ho=>by
  unfold xd at h;rcases List.mem_cons.1 ho with rfl|ho
  ·intro e;rw[e]at h;simp only[Nat.beq_refl]at h;cases h
  ·split at h
   ·split at h
    ·cases h
    ·exact mi h o ho
   ·exact mi h o ho
theorem xj{l:List Oper}:∀ {i:Nat} {o:Oper},l[i]? = some o->BN P o=true->1<=iM P l:=by
 induction l with
 | nil=>intro i o h;simp at h
 | cons o' l ih =>
  intro i o h hd;unfold iM;rcases i with _|i
  ·simp at h;subst h;rw[hd];simp
  ·have:=ih (by simpa using h) hd;split<;>omega
theorem EF{l:List Oper}:∀ {i j:Nat} {oi oj:Oper},iM P l<=1->l[i]? = some oi->l[j]? = some oj->BN P oi=true->BN P oj=true->i=j:=by
 induction l with
 | nil=>intro i j oi oj _ h;simp at h
 | cons o' l ih =>
  intro i j oi oj hc hi hj h1 h2;unfold iM at hc;rcases i with _|i
  ·rcases j with _|j
   ·rfl
   ·simp at hi;subst hi;rw[h1]at hc;have:=xj (P:=P) (l:=l) (by simpa using hj) h2;simp at hc;omega
  ·rcases j with _|j
   ·simp at hj;subst hj;rw[h2]at hc;have:=xj (P:=P) (l:=l) (by simpa using hi) h1;simp at hc;omega
   ·have q:iM P l<=1:=by split at hc<;>omega
    exact congrArg (· + 1) (ih q (by simpa using hi) (by simpa using hj) h1 h2)
theorem LY{X:List Nat}{l:List Oper}(h:XC P l X=true):(∀ d ∈ X,∀ o ∈ l,o.dst≠some d)/\(X≠[]->iM P l<=1):=by
 unfold XC at h;split at h
 ·exact⟨fun d hd=>absurd hd va9,fun q=>absurd rfl q⟩
 ·simp only[zA2,List.all_eq_true]at h;refine⟨fun d hd=>mi (by simpa using h.1 d hd),fun _=>Nat.le_of_ble_eq_true h.2⟩
theorem tc(hm:P.follows .mixedOrders=true){id:Nat}{X:List Nat}{K:St->Prop}{Q:Exit->Act->World->Prop}(hQ:∀ S β F a w,Rel B w0 F0 S β F a w->K S->Q .normal a w)(hR:Rel B w0 F0 S β F a w)(hd:(xb P ops && (dj P ops.toList).all (A3 S) && kE ops.toList && (XC P ops.toList X && X.all (A3 S)))=true)
  (h:fZ P X ops.toList ops.toList 0 (S.kills (dj P ops.toList++X)) [] K):(Code.region id ops true).wpIn (FW F0.r) 0 P Q a w:=by
 simp only[xb,zA2]at hd;obtain⟨⟨⟨⟨a0B,jR⟩,a0C⟩,gH⟩,hx,hxk⟩:=hd;obtain⟨vO,hx2⟩:=LY hx;obtain⟨cY,Sf,LS,jH,hK,hlen⟩:=dG ops.toList 0 h;simp only[List.nil_append]at jH;obtain⟨β',B1,_,M8⟩:=hR.kills (dj P ops.toList++X) (fun d hd=>by
  rcases List.mem_append.1 hd with hd|hd
  ·exact hR.topn d (List.all_eq_true.1 a0C d hd)
  ·exact hR.topn d (List.all_eq_true.1 hxk d hd))
 refine wpIn_region_any hm (dk (X:=X) (zk gH) (fp:=fun i=>cY.getD i ([],[])) (Q:=K) ?_ hQ _ _ _ β' F _ _ ?_ (M8.drew 1) ?_)
 ·intro i j oi oj d hi hj Bd hdi;have cI:=(Array.getElem?_eq_some_iff.1 hi).1;have oW:=(Array.getElem?_eq_some_iff.1 hj).1;have hmj:oj ∈ ops.toList:=by simpa using Array.mem_of_getElem? hj
  have hmi:oi ∈ ops.toList:=by simpa using Array.mem_of_getElem? hi
  rcases rR hdi with ⟨Gx,Zh⟩|⟨Zi,hdy⟩
  ·have g:oj.dst≠some d:=fun Xx=>by
    simp only[List.all_eq_true,List.mem_range]at jR;have h1:=jR i cI;simp only[hi,Gx,Bool.not_true,Bool.false_or,List.all_eq_true,List.mem_range]at h1;have h2:=h1 j oW;have V8:Nat.beq i j=false:=by
     cases hc:Nat.beq i j with
     | false=>rfl
     | true=>exact absurd (zA8 hc) Bd
    simp only[V8,Bool.false_or,hj,Zh,Xx,Nat.beq_refl,Bool.not_true,zB0]at h2
   refine⟨fun hq=>?_,g⟩;rcases rR hq with ⟨_,q⟩|⟨q,_⟩
   ·exact g q
   ·exact vO d q oi hmi Zh
  ·refine⟨fun hq=>?_,vO d Zi oj hmj⟩;rcases rR hq with ⟨_,q⟩|⟨_,q⟩
   ·exact vO d Zi oj hmj q
   ·exact Bd (EF (P:=P) (hx2 fun e=>by rw[e]at Zi;simp at Zi) (by simpa using hi) (by simpa using hj) hdy q)
 ·intro i o ho _ d Zh;refine B1 d ?_;rcases rR Zh with ⟨Gx,q⟩|⟨q,_⟩
  ·refine List.mem_append_left _ ?_;simp only[dj,List.mem_filterMap];exact⟨o,by simpa using Array.mem_of_getElem? ho,by simp[Gx,q]⟩
  ·exact List.mem_append_right _ q
 ·have:=BQ (P:=P) (X:=X) (fp:=fun i=>cY.getD i ([],[])) (Q:=K) (ops:=ops) (fun i j oi oj hi hj Bd xa vM=>EE jH i j oj (Array.getElem?_eq_some_iff.1 hi).1 hj Bd xa vM)
   ops.toList 0 (Array.replicate ops.size false) _ cY Sf (fun j=>by simp) (fun j hj=>absurd hj (zB3 j)) (fun j _=>by simp only[Array.getD_eq_getD_getElem?,Array.getElem?_replicate];split<;>rfl) (fun m om hm=>absurd hm (zB3 m)) (fun j hj=>by simp) (by simpa using a0B) LS hK
  simpa using this
end
/- What the law of a range over a function leans on. A helper text: it speaks of no program. -/
section
variable {P:Program}{B:Nat->Prop}{w0:World}{F0:Env P}{S:St}{β:Nat->Option Hd}{F:Nat->Prop}{a:Act}{w:World}{ops:Array Oper}
theorem Rel.noctr(hR:Rel B w0 F0 S β F a w)(h:F0.n = .plain):∀ id l xs k e,S.row id ≠ .ctr l xs k e:=fun id l xs k e hr=>by
 obtain⟨_,_,_,O,hJ,_⟩:=hR.yl id l xs k e hr;have:=F0.ni _ _ _ _ hJ;rw[h]at this;cases this
theorem qG(d e:Nat)(x:AV):G1 d (G1 e x)=G1 e (G1 d x):=by
 unfold G1;cases h1:x.names d<;>cases h2:x.names e<;>simp[h1,h2,AV.names]
theorem qH(d:Nat)(x:AV):G1 d (G1 d x)=G1 d x:=by
 unfold G1;cases h1:x.names d<;>simp[h1,AV.names]
theorem zm(d e:Nat)(r:Row):C1 d (C1 e r)=C1 e (C1 d r):=by
 cases r<;>simp[C1,qG d e]
theorem zn(d:Nat)(r:Row):C1 d (C1 d r)=C1 d r:=by
 cases r<;>simp[C1,qH d]
theorem Iz(S:St)(d:Nat):(S.kill d).kill d=S.kill d:=by
 have h1:(G1 d ∘ G1 d)=G1 d:=funext (qH d);have h2:(C1 d ∘ C1 d)=C1 d:=funext (zn d);simp only[St.kill,List.map_map,List.map_set,h1,h2,C1,List.set_set]
theorem IA(S:St)(d e:Nat):(S.kill e).kill d=(S.kill d).kill e:=by
 have h1:(G1 d ∘ G1 e)=(G1 e ∘ G1 d):=funext (qG d e);have h2:(C1 d ∘ C1 e)=(C1 e ∘ C1 d):=funext (zm d e);simp only[St.kill,List.map_map,List.map_set,h1,h2,C1];by_cases h:e=d
 ·subst h;rfl
 ·rw[List.set_comm _ _ h]
theorem mj(S:St)(d:Nat):∀ l,(S.kill d).kills l=(S.kills l).kill d
 | []=>rfl
 | e :: l=>by
  simp only[St.kills];rw[IA,mj (S.kill e) d l]
theorem tf:∀ (l:List Nat) (S:St),(S.kills l).kills l=S.kills l
 | [],_=>rfl
 | d :: l,S=>by
  simp only[St.kills];rw[mj S d l,Iz,mj,tf l]
theorem GK:∀ (l:List Nat) (S:St),(S.kills l).n=S.n
 | [],_=>rfl
 | d :: l,S=>by simp only[St.kills];rw[GK l];rfl
theorem lQ:∀ (l:List Nat) {S T:St},S.t=T.t->(S.kills l).t=(T.kills l).t
 | [],_,_,h=>h
 | d :: l,S,T,h=>by simp only[St.kills];exact lQ l (by simp[St.kill,h])
theorem iS:∀ (t:List AV) (ps:List Nat) (xs:List AV),(fE t ps xs).length=t.length
 | t,[],xs=>by simp[fE]
 | t,p :: ps,[]=>by simp[fE]
 | t,p :: ps,x :: xs=>by simp[fE,iS (t.set p x) ps xs]
theorem xk{F:Nat->Prop}:∀ (ps:List Nat) (xs:List AV) (vs:List Value) (t:List AV) (tm:Array Value),xs.length=vs.length->(∀ i,i<xs.length->C4 β F w (xs.getD i .any) (vs.getD i undef))->t.length=tm.size ->
  (∀ i,i<t.length->C4 β F w (t.getD i .any) (tm.getD i undef)) ->
  ((ps.zip vs).foldl (fun t (p,v)=>t.setIfInBounds p v) tm).size=tm.size/\∀ i,i<t.length->C4 β F w ((fE t ps xs).getD i .any) (((ps.zip vs).foldl (fun t (p,v)=>t.setIfInBounds p v) tm).getD i undef)
 | [],xs,vs,t,tm,_,_,_,h=>by
  have e:fE t [] xs=t:=by simp[fE]
  rw[e];exact⟨rfl,h⟩
 | p :: ps,[],[],t,tm,_,_,_,h=>by
  have e:fE t (p :: ps) []=t:=by simp[fE]
  rw[e];exact⟨rfl,h⟩
 | p :: ps,x :: xs,v :: vs,t,tm,hl,hx,ht,h=>by
  simp only[fE,List.zip_cons_cons,List.foldl_cons];have h0:=hx 0 va9;simp only[List.getD_cons_zero]at h0;have:=xk ps xs vs (t.set p x) (tm.setIfInBounds p v) (by simpa using hl) (fun i hi=>by have:=hx (i+1) (by simpa using hi);simpa using this) (by simpa using ht) (fun i hi=>by
   simp only[List.length_set]at hi;rw[T0];simp only[Array.getD_eq_getD_getElem?,Array.getElem?_setIfInBounds];by_cases e:p=i
   ·subst e;simp[hi,ht ▸ hi];exact h0
   ·have:=h i hi
    simpa[e,Array.getD_eq_getD_getElem?]using this)
  exact⟨by rw[this.1];simp,fun i hi=>this.2 i (by simpa using hi)⟩
theorem iT{F:Nat->Prop}{k:Nat}{o o':Obj}(hk:w.heap[k]? = some o)(hc:o.isCells=false):C5 F w (w.putObj k o'):=fun b ob v _ H7=>by
 have V8:b≠k:=fun e=>by
  subst e;cases o<;>simp[World.cell?,hk,Obj.isCells]at H7 hc
 rw[World.cell?_of_block (w:=w) (World.putObj_heap_other V8)];exact H7
theorem Rel.back(hR:Rel B w0 F0 S β F a w)(ji:F0.n = .plain){w':World}{β':Nat->Option Hd}{F':Nat->Prop}{h':List Row}(hβ:∀ j,β j≠none->β' j=β j)(hF:∀ b,F b->F' b)(hk:C5 F w w')
  (lp:w'.os=w.os/\w'.tape=w.tape/\w'.output=w.output) (aY:w.heap.size<=w'.heap.size) (jH:∀ id,y8 β' F' w' id (h'.getD id .none)) (js:∀ i j b,h'.getD i .none ≠ .none->h'.getD j .none ≠ .none->x7 β' i b->x7 β' j b->i=j)
  (WO:∀ i b,h'.getD i .none ≠ .none->x7 β' i b->¬ F' b) (AZ:∀ i b,x7 β' i b->B b/\b<w'.heap.size) (TD:∀ b,F' b->b<w'.heap.size/\(F0.F b∨B b)) (Bj:∀ b,b<w.heap.size->¬ B b->w'.heap[b]? = w.heap[b]?)
  (hns:∀ (k:Nat) (o:Obj),w.heap[k]? = some o->mW o=false->(k<w0.heap.size∨P9 k ∈ a.defers)->w'.heap[k]? = some o) (hc:∀ id l xs k e,h'.getD id .none ≠ .ctr l xs k e):Rel B w0 F0 ⟨S.t,h',S.n⟩ β' F' a w' where
 len:=hR.len
 slots:=fun i hi=>(hR.slots i hi).grow hβ hF hk
 marks:=by
  obtain⟨Ds,⟨h1,h0⟩,h2,h3⟩:=hR.marks;exact⟨Ds,⟨h1,h0⟩,h2,fun D hD=>⟨hns D _ (h3 D hD).1 rfl (.inr (by rw[h1];exact List.mem_map_of_mem hD)),(h3 D hD).2⟩⟩
 rows:=jH
 inj:=js
 bF:=WO
 bB:=AZ
 FB:=TD
 below:=hR.below.trans ⟨lp.1,lp.2.1,lp.2.2,aY,fun k Ug=>by
  by_cases z8:k<w.heap.size
  ·exact Bj k z8 Ug
  ·exact absurd (hR.BW k (Nat.le_of_not_lt z8)) Ug⟩
 BW:=fun b h=>hR.BW b (Nat.le_trans aY h)
 top:=fun j hd h=>(hβ j (by rw[hR.top j hd h];simp)).trans (hR.top j hd h)
 topn:=hR.topn
 nn:=hR.nn
 inc:=fun b h=>hF b (hR.inc b h)
 keep:=fun b o u hb H7=>hk b o u (hR.inc b hb) (hR.keep b o u hb H7)
 sol:=fun hn k o ho hc=>hns k o (hR.sol hn k o ho hc) hc (.inl (Array.getElem?_eq_some_iff.1 ho).1)
 yl:=fun id l xs k e h=>absurd h (hc id l xs k e)
theorem aE{b:Frame}{k:List Item}{cs:List Frame}{a:Act}{w:World}{c:Code}:step P (lone (b.atR a (.code (.scope c) :: k)) cs w) = .next (lone (b.atR a (.code c :: .inScope c :: k)) cs w) :=
 step_lone_go (by simp[stepG,stepG.exec,Frame.atR])
theorem vP{b:Frame}{k:List Item}{cs:List Frame}{a:Act}{w:World}{c:Code}:step P (lone (b.atR a (.inScope c :: k)) cs w) = .next (lone (b.atR a k) cs w) :=
 step_lone_go (by simp[stepG,stepG.exec,Frame.atR])
theorem ti{Fc:Fence}{n:Nat}{Q:Exit->Act->World->Prop}{a:Act}{w:World}{c:Code}(h:c.wpIn Fc n P Q a w)(hg:∀ l a w,¬Q (.goto l) a w):(Code.scope c).wpIn Fc n P Q a w:=by
 intro b k cs hro hb hr;have h0:(lone (b.atR a (.code (.scope c) :: k)) cs w).fenced P Fc:=fenced_calm hb hr rfl;obtain⟨e,a₁,w₁,hq,IC⟩:=h b (.inScope c :: k) cs hro hb hr;cases e with
 | normal=>exact⟨.normal,a₁,w₁,hq,.head h0 aE (StepsIn.trans IC (.one (fenced_calm hb hr rfl) vP))⟩
 | exit id =>
  have hx:exitTo id (.inScope c :: k)=exitTo id k:=by simp[exitTo]
  exact⟨.exit id,a₁,w₁,hq,fun k' hk => .head h0 aE (IC.1 k' (by rw[hx];exact hk)),
   fun TJ hk=>let ⟨k₁,h1,h2⟩:=IC.2 TJ (by rw[hx];exact hk);⟨k₁,h1,.head h0 aE h2⟩⟩
 | goto l=>exact absurd hq (hg _ _ _)
 | ret=>exact⟨_,a₁,w₁,hq,.of_steps (.one h0 aE) IC⟩
 | panic ch=>exact⟨_,a₁,w₁,hq,.of_steps (.one h0 aE) IC⟩
 | outgrown=>exact⟨_,a₁,w₁,hq,.of_steps (.one h0 aE) IC⟩
theorem ah{Fc:Fence}{n:Nat}{Q:Exit->Act->World->Prop}{a:Act}{w:World}{c:Code}(I:Nat->Act->World->Prop)(n₀:Nat)(h₀:I n₀ a w)
  (round:∀ m a w,I m a w->c.wpIn Fc n P (Exit.then (fun a' w'=>∃ n',n' < m/\I n' a' w') Q) a w):(Code.loop c).wpIn Fc n P Q a w:=by
 refine wpIn_loop (fun a w=>∃ n,I n a w) (fun a w=>leastOf (fun n=>I n a w)) ⟨n₀,h₀⟩ ?_;intro a w hI;refine wpIn_mono (round _ a w (leastOf_spec hI).1) ?_;intro e a' w' hq;cases e with
 | normal =>
  obtain⟨n',z8,Ul⟩:=hq;exact show(∃ n,I n a' w')/\leastOf (fun n=>I n a' w')<leastOf (fun n=>I n a w) from⟨⟨n',Ul⟩,Nat.lt_of_le_of_lt ((leastOf_spec ⟨n',Ul⟩).2 n' Ul) z8⟩
 | exit id=>exact hq
 | goto l=>exact hq
 | ret=>exact hq
 | panic ch=>exact hq
 | outgrown=>exact hq
end
/- Why the executor is right (last part). A helper text: it speaks of no program. -/
section
variable {P:Program}{B:Nat->Prop}{w0:World}{F0:Env P}{S:St}{β:Nat->Option Hd}{F:Nat->Prop}{a:Act}{w:World}
def ID(B:Nat->Prop)(w0:World)(F0:Env P)(Q:Ex->St->Prop):Exit->Act->World->Prop
 | .normal,a,w=>∃ S,Q .norm S/\∃ β F,Rel B w0 F0 S β F a w
 | .ret,a,w=>∃ S,Q .ret S/\∃ β F,Rel B w0 F0 S β F a w
 | .exit i,a,w=>∃ S,Q (.exit i) S/\∃ β F,Rel B w0 F0 S β F a w
 | _,_,_=>False
theorem ID.norm{Q:Ex->St->Prop}(hR:Rel B w0 F0 S β F a w)(h:Q .norm S):ID B w0 F0 Q .normal a w:=⟨S,h,β,F,hR⟩
theorem LZ(ds:List Nat)(S:St)(ws bs:List Nat)(vs:List (Nat×VT))(Q9:List AV)(F7 I5:List Row):(N3 ds S ws bs vs Q9 F7 I5).n=S.n:=rfl
theorem Ma(t:Nat)(V:VT)(S:St):(canonS t V S).n=S.n:=by
 unfold canonS;split
 ·split
  ·rfl
  ·split<;>rfl
 ·split<;>rfl
 ·rfl
theorem Mb(t b c:Nat)(V:VT)(S:St):(canonB t b c V S).n=S.n:=by
 unfold canonB
 repeat' split
 all_goals rfl
theorem Mc(t:Nat)(V:VT)(S:St):(canon1 t V S).n=S.n:=by
 unfold canon1;split
 ·exact Ma t V S
 ·exact Mb _ _ _ V S
theorem tj:∀ (l:List (Nat×VT)) (S:St),(canonV l S).n=S.n
 | [],_=>rfl
 | (t,V) :: l,S=>by simp only[canonV];rw[tj l,Mc]
theorem eA{ds ws bs:List Nat}{S0:St}{vs:List (Nat×VT)}{K:List AV->List Row->List Row->Prop}(hn:S0.n=F0.n)(hR:Rel B w0 F0 S β F a w)(h:iO ds S0 ws bs vs S K) :
  ∃ Q9 F7 I5,K Q9 F7 I5/\∃ β',Rel B w0 F0 (N3 ds S0 ws bs vs Q9 F7 I5) β' F a w:=by
 unfold iO at h;rw[C3,bA,X1,X1]at h;obtain⟨β',M8⟩:=hR.canonV vs;exact⟨_,_,_,h.1,β',M8.mask (by rw[LZ,hn,M8.nn]) h.2.1 h.2.2⟩
theorem Qi{c:Code}(ih:∀ {S:St} {β:Nat->Option Hd} {F:Nat->Prop} {a:Act} {w:World} {Q:Ex->St->Prop},ex P c S Q->Rel B w0 F0 S β F a w->c.wpIn (FW F0.r) 0 P (ID B w0 F0 Q) a w){Q:Ex->St->Prop} :
  ∀ (n:Nat) {S:St} {β:Nat->Option Hd} {F:Nat->Prop} {a:Act} {w:World},Qf (ex P c) n S Q->Rel B w0 F0 S β F a w->(Code.loop c).wpIn (FW F0.r) 0 P (ID B w0 F0 Q) a w:=by
 intro n S β F a w h hR;refine ah (fun n a w=>∃ S,Qf (ex P c) n S Q/\∃ β F,Rel B w0 F0 S β F a w) n ⟨S,h,β,F,hR⟩ ?_;rintro n a w ⟨S,h,β,F,hR⟩;cases n with
 | zero=>exact h.elim
 | succ n =>
  refine wpIn_mono (ih h hR) ?_;rintro e a' w' hq;cases e with
  | normal =>
   obtain⟨S',h1,β',F',h2⟩:=hq;exact⟨n,Nat.lt_succ_self n,S',h1,β',F',h2⟩
  | ret=>exact hq
  | exit i=>exact hq
  | goto l=>exact hq
  | panic ch=>exact hq
  | outgrown=>exact hq
theorem Rel.kills':∀ (l:List Nat) {S:St} {β:Nat->Option Hd},(∀ d ∈ l,F0.β d=none)->Rel B w0 F0 S β F a w->∃ β',(∀ d ∈ l,β' d=none)/\(∀ j,β' j=β j∨β' j=none)/\Rel B w0 F0 (S.kills l) β' F a w
 | [],_,β,_,hR=>⟨β,by simp,fun _ => .inl rfl,hR⟩
 | d :: l,S,β,W0,hR=>by
  obtain⟨β1,h1,h2,iF⟩:=hR.kill d (W0 d va9);obtain⟨β2,h3,h4,jO⟩:=Rel.kills' l (fun x hx=>W0 x (by simp[hx])) iF;refine⟨β2,fun x hx=>?_,fun j=>?_,jO⟩
  ·rcases List.mem_cons.1 hx with rfl|hx
   ·rcases h4 x with h|h
    ·rw[h];exact h1
    ·exact h
   ·exact h3 x hx
  ·rcases h4 j with h|h
   ·by_cases e:j=d
    ·subst e;exact .inr (h.trans h1)
    ·exact .inl (h.trans (h2 j e))
   ·exact .inr h
theorem Rel.marked(hR:Rel B w0 F0 S β F a w)(ji:F0.n = .plain){D:Nat}(hD:w.heap[D]? = some (.deferred (some [])))(hB:B D)(TE:w0.heap.size<=D)(EG:P9 D ∉ a.defers):Rel B w0 F0 S β F { a with defers:=P9 D :: a.defers } w :=
 { hR with
  len:=hR.len
  slots:=hR.slots
  marks:=by
   obtain⟨Ds,⟨h1,h0⟩,h2,h3⟩:=hR.marks;refine⟨D :: Ds,⟨by simp[h1],fun h=>absurd ji h⟩,List.nodup_cons.2 ⟨fun h=>EG (by rw[h1];exact List.mem_map_of_mem h),h2⟩,fun D' GJ => ?_⟩;rcases List.mem_cons.1 GJ with rfl|h
   ·exact⟨hD,hB,TE⟩
   ·exact h3 D' h
  yl:=fun id l xs k e h=>absurd h (hR.noctr ji id l xs k e) }
theorem vQ{g:Operand}{ps:Array Tmp}{assign nC:Code}
    (Zj:∀ {B:Nat->Prop} {w0:World} {F0:Env P} {S:St} {β:Nat->Option Hd} {F:Nat->Prop} {a:Act} {w:World} {Q:Ex->St->Prop},ex P assign S Q->Rel B w0 F0 S β F a w->assign.wpIn (FW F0.r) 0 P (ID B w0 F0 Q) a w)
    (Zk:∀ {B:Nat->Prop} {w0:World} {F0:Env P} {S:St} {β:Nat->Option Hd} {F:Nat->Prop} {a:Act} {w:World} {Q:Ex->St->Prop},ex P nC S Q->Rel B w0 F0 S β F a w->nC.wpIn (FW F0.r) 0 P (ID B w0 F0 Q) a w)
    {Q:Ex->St->Prop} (h:ex P (.rangeFunc g ps assign nC) S Q) (hR:Rel B w0 F0 S β F a w):(Code.rangeFunc g ps assign nC).wpIn (FW F0.r) 0 P (ID B w0 F0 Q) a w:=by
  simp only[ex]at h;split at h
  · exact h.elim
  · exact h.elim
  rename_i hn;split at h
  case h_2=>exact h.elim
  rename_i gf B2 hg;obtain⟨S9,xs,bs,BR,I,⟨hsq,Ly⟩,h⟩:=h;rw[iN]at h;generalize ps.toList++(aD assign++aD nC)=ds at h;obtain⟨XH,Um,zj,XI⟩:=h;have ji:F0.n = .plain:=hR.nn ▸ hn;have hr:F0.r=none:=F0.nr (by intro ks e;rw[ji]at e;cases e);have Me:∀ d ∈ ds,F0.β d=none:=fun d hd=>hR.topn d (List.all_eq_true.1 XH d hd)
  obtain⟨Q9,F7,I5,⟨hI0,rfl,rfl,rfl⟩,β0,a0E⟩:=eA hR.nn hR Um;obtain⟨β1,_,_,Wz⟩:=a0E.kills ds Me
  let A:Nat->St:=fun k=>(N3 ds S [] bs [] [] (BR k) []).kills ds
  have hAn:∀ k,(A k).n = .plain:=fun k=>(GK ds _).trans hn
  have hAt:∀ k,(A k).t=(A 0).t:=fun k=>lQ ds rfl
  have a0F:∀ k,(A k).kills ds=A k:=fun k=>tf ds _
  replace Wz:Rel B w0 F0 (A 0) β1 F a w:=Wz
  -- the Un value
  have hf:=hR.get g;rw[hg]at hf;obtain⟨vs0,us,hv,l1,l2,_,r2⟩:=hf.fn_inv;obtain rfl:vs0=#[]:=Array.eq_empty_of_size_eq_zero l1.symm;rw[hr];refine wpIn_rangeFunc ?_;intro fn hfn;obtain⟨rc,Px⟩:∃ rc:LoopState->Option Code->Loop,rc=fun st pe=>{ state:=st,pending:=pe,fn,tmps:=a.tmps,params:=ps,assign,body:=nC,defers:=w.heap.size }:=⟨_,rfl⟩
  obtain⟨W1,Ea⟩:∃ W1,(w.alloc (.deferred (some []))).alloc (.loop (rc .ready none))=W1:=⟨_,rfl⟩
  have IE:W1.heap[w.heap.size+1]? = some (.loop (rc .ready none)):=by
    rw[<- Ea];have:=World.alloc_heap_new (w.alloc (.deferred (some []))) (.loop (rc .ready none));rwa[World.size_alloc]at this
  have hD1:W1.heap[w.heap.size]? = some (.deferred (some [])):=by
    rw[<- Ea];exact(RowKit.Below.heap_alloc _ _ _ va9).trans (World.alloc_heap_new w _)
  have Tk:∀ b,b<w.heap.size->W1.heap[b]? = w.heap[b]? := fun b hb=>by
    rw[<- Ea];exact(RowKit.Below.heap_alloc _ _ _ (by simp;omega)).trans (RowKit.Below.heap_alloc _ _ _ hb)
  have a0G:W1.os=w.os/\W1.tape=w.tape/\W1.output=w.output:=by rw[<- Ea];exact⟨rfl,rfl,rfl⟩
  have Qj:W1.heap.size=w.heap.size+2:=by rw[<- Ea];simp
  have hw0:w0.heap.size<=w.heap.size:=hR.below.size;have Uo:∀ {k:Nat} {o:Obj},w.heap[k]? = some o->k<w.heap.size:=fun h=>(Array.getElem?_eq_some_iff.1 h).1
  have Py:∀ D,P9 D ∈ a.defers->D<w.heap.size:=fun D hD=>by
    obtain⟨Ds,⟨h1,h0⟩,h2,h3⟩:=hR.marks;rw[h1]at hD;obtain⟨D',GJ,e⟩:=List.mem_map.1 hD;have:D'=D:=by simpa[P9]using e
    subst this;exact Uo (h3 D' GJ).1
  -- the invariant
  let J:Nat->Bool->(Nat->Prop)->World->Prop:=fun k e O W=>∃ S' β' F',Rel B w0 F0 S' β' F' a W/\(∀ b,F b->F' b)/\(∀ b,O b->w.heap.size+2<=b)/\(∀ i b,x7 β' i b->¬ O b/\b≠w.heap.size+1/\b≠w.heap.size) /\
    (∀ b,F' b->¬ O b/\b≠w.heap.size+1/\b≠w.heap.size)/\W.heap[w.heap.size]? = some (.deferred (some []))/\w.heap.size+2<=W.heap.size /\
    ((e=false/\S'=A k/\I k/\W.heap[w.heap.size+1]? = some (.loop (rc .ready none))) ∨
     (e=true/\∃ c,W.heap[w.heap.size+1]? = some (.loop (rc .done (some c)))/\((c = .ret/\Q .ret S')∨∃ i,c = .exit i/\Q (.exit i) S')))
  have hJ0:J 0 false (fun _=>False) W1:=by
    refine⟨A 0,β1,F,Wz.other a0G va5 (O:=fun _=>False) (fun b hb _=>Tk b hb) (fun _ h=>h.elim) (fun _ h=>h.elim) (fun _ _ _ _ h=>h) (fun _ _ h=>h) (fun _ _ h=>h) (Wz.noctr ji),fun _ h=>h,fun _ h=>h.elim,fun i b hb=>?_,fun b hb=>?_,hD1,va5,.inl ⟨rfl,rfl,hI0,IE⟩⟩
    · have:=(Wz.bB i b hb).2;exact⟨fun h=>h,va5,va5⟩
    · have:=(Wz.FB b hb).1;exact⟨fun h=>h,va5,va5⟩
  have rP:∀ k e O W W',J k e O W->(∀ b,b<W.heap.size->¬ O b->W'.heap[b]? = W.heap[b]?)->W'.os=W.os->W'.tape=W.tape->W'.output=W.output->W.heap.size<=W'.heap.size->J k e (fun b=>O b∨(W.heap.size<=b/\b<W'.heap.size)) W':=by
    rintro k e O W W' ⟨S',β',F',M8,j1,j2,j3,j4,j5,j6,j7⟩ h1 h2 h3 h4 h5;have o1:¬ O (w.heap.size+1):=fun h=>by have:=j2 _ h;omega
    have o2:¬ O w.heap.size:=fun h=>by have:=j2 _ h;omega
    refine⟨S',β',F',M8.other ⟨h2,h3,h4⟩ h5 h1 (fun b hb=>hR.BW b (by have:=j2 b hb;omega)) (fun b hb=>by have:=j2 b hb;omega) (fun i b _ hb=>(j3 i b hb).1) (fun b hb=>(j4 b hb).1) (fun D hD h=>by have:=j2 D h;have:=Py D hD;omega) (M8.noctr ji),j1,?_,?_,?_,?_,va5,?_⟩
    · rintro b (h|h)
      · exact j2 b h
      · omega
    · intro i b hb
      have:=(M8.bB i b hb).2;exact⟨fun h=>h.elim (j3 i b hb).1 fun h=>by omega,(j3 i b hb).2⟩
    · intro b hb
      have:=(M8.FB b hb).1;exact⟨fun h=>h.elim (j4 b hb).1 fun h=>by omega,(j4 b hb).2⟩
    · rw[h1 _ va5 o2];exact j5
    · rcases j7 with ⟨e1,e2,e3,e4⟩|⟨e1,c,e2,e3⟩
      · exact .inl ⟨e1,e2,e3,by rw[h1 _ va5 o1];exact e4⟩
      · exact .inr ⟨e1,c,by rw[h1 _ va5 o1];exact e2,e3⟩
  -- one round
  have Xw:∀ k O W vs x,J k false O W->xs[k]? = some x->(∀ b,O b->b<W.heap.size)->vs.size=x.length->(∀ i,i<x.length->y6 (fun _=>False) W (x.getD i .any) (vs.getD i undef)) ->
      YieldAt Fence.wide 0 P (w.heap.size+1) vs W fun e W'=>W'.os=W.os/\W'.tape=W.tape/\W'.output=W.output/\W.heap.size<=W'.heap.size/\(∀ b,O b->W'.heap[b]? = W.heap[b]?)/\C5 F W W' /\
        ((e = .returned (.bool true)/\J (k+1) false O W')∨(e = .returned (.bool false)/\J (k+1) true O W')):=by
    rintro k O W vs x ⟨S',β',F1,iF,j1,j2,j3,j4,j5,j6,j7⟩ hx hOs Eh I8;rcases j7 with ⟨_,rfl,hIk,hl⟩|⟨e1,_⟩
    case inr=>cases e1
    have hxm:x ∈ xs:=List.mem_of_getElem? hx;obtain⟨hxf,hxl⟩:=Ly x hxm;have hy:=run_yield (P:=P) (args:=vs) hl (by rw[Px,Eh];exact hxl);rw[Px]at hy;refine⟨fn,_,assign,nC,hy,roundIn_of_wpIn hfn ?_⟩;clear hy;obtain⟨β2,k1,k2,jO⟩:=Rel.kills' ds Me iF;rw[a0F]at jO;have b2:∀ i b,x7 β2 i b->x7 β' i b:=fun i b hb=>by
      rcases k2 i with h|h
      · simpa[x7,h]using hb
      · simp[x7,h]at hb
    have a3A:w.heap.size+1<W.heap.size:=by omega
    let Br:Nat->Prop:=fun b=>W.heap.size<=b∨∃ i,x7 β2 i b
    let E:Env P:=Env.plain P F1 β2 (some (w.heap.size+1)) (.round ds) (fun h=>absurd rfl (h ds))
    have BV:∀ b,Br b->¬ O b/\b≠w.heap.size+1/\b≠w.heap.size:=fun b hb=>by
      rcases hb with h|⟨i,h⟩
      · exact⟨fun ho=>by have:=hOs b ho;omega,va5,va5⟩
      · exact j3 i b (b2 i b h)
    have Up:∀ b,Br b->B b:=fun b hb=>by
      rcases hb with h|⟨i,h⟩
      · exact jO.BW b h
      · exact(jO.bB i b h).1
    have Ln:=xk (β:=β2) (w:=W) (F:=F1) ps.toList x vs.toList (A k).t a.tmps (by simp[Eh]) (fun i hi => .imm (by
      have:=(I8 i hi).mono (F':=F1) (w':=W) (fun _ h=>h.elim) (fun _ _ _ h _=>h.elim)
      simpa[Array.getD_eq_getD_getElem?,List.getD_eq_getElem?_getD]using this)) jO.len jO.slots
    have sF:(ps.zip vs).foldl (fun tmps (t,a)=>tmps.setIfInBounds t a) a.tmps=(ps.toList.zip vs.toList).foldl (fun t (p,v)=>t.setIfInBounds p v) a.tmps:=by
      rw[<- Array.foldl_toList,Array.toList_zip]
    rw[<- sF]at Ln;have hRr:Rel Br W E ⟨fE (A k).t ps.toList x,(A k).h,.round ds⟩ β2 F1 { tmps:=(ps.zip vs).foldl (fun tmps (t,a)=>tmps.setIfInBounds t a) a.tmps,defers:=[] } W:={
      len:=by rw[iS,Ln.1];exact jO.len
      slots:=fun i hi=>Ln.2 i (by simpa[iS]using hi)
      marks:=⟨[],⟨rfl,fun _=>rfl⟩,.nil,by simp⟩
      rows:=jO.rows
      inj:=jO.inj
      bF:=jO.bF
      bB:=fun i b h=>⟨.inr ⟨i,h⟩,(jO.bB i b h).2⟩
      FB:=fun b h=>⟨(jO.FB b h).1,.inl h⟩
      below := .refl _ _
      BW:=fun b h => .inl h
      top:=fun _ _ h=>h
      topn:=fun j hj=>by
        simp only[A3]at hj;split at hj
        · exact k1 j (nA.1 hj)
        · cases hj
      nn:=rfl
      inc:=fun _ h=>h
      keep:=C5.refl _ _
      sol:=fun _ _ _ h _=>h
      yl:=fun id l xs k' e h=>absurd h (jO.noctr ji id l xs k' e) }
    have hex:=zj k x hIk hx;rw[C3,C3]at hex;refine wpIn_mono (Zj hex hRr) ?_;rintro e a1 Wa hq;cases e with
    | ret=>obtain⟨S3,hb,_⟩:=hq;exact hb.elim
    | exit i=>obtain⟨S3,hb,_⟩:=hq;exact hb.elim
    | goto l=>exact hq.elim
    | panic ch=>exact hq.elim
    | outgrown=>exact hq.elim
    | normal =>
    obtain⟨S3,hb,β3,F3,gD⟩:=hq;simp only[]at hb;have hla:Wa.heap[w.heap.size+1]? = some (.loop (rc .ready none)):=by rw[gD.below.block _ fun h=>(BV _ h).2.1 rfl];exact hl
    refine⟨_,run_beginRound hla (by rw[Px]),?_⟩;obtain⟨W2,WA⟩:∃ W2,Wa.putObj (w.heap.size+1) (.loop { rc .ready none with state := .busy })=W2:=⟨_,rfl⟩
    rw[WA];have Lp:W2.heap[w.heap.size+1]? = some (.loop { rc .ready none with state := .busy }):=by rw[<- WA];exact World.putObj_heap_same (Array.getElem?_eq_some_iff.1 hla).1
    have Mf:∀ b,b≠w.heap.size+1->W2.heap[b]? = Wa.heap[b]? := fun b hb=>by rw[<- WA];exact World.putObj_heap_other hb
    have yG:W2.heap.size=Wa.heap.size:=by rw[<- WA];simp
    have IF:W2.os=Wa.os/\W2.tape=Wa.tape/\W2.output=Wa.output:=by rw[<- WA];exact⟨rfl,rfl,rfl⟩
    have Ld:∀ {G:Nat->Prop},C5 G Wa W2:=fun {G}=>by rw[<- WA];exact iT hla rfl
    have a3C:=gD.below.size
    let Zl:Nat->Prop:=fun b=>W2.heap.size<=b∨(∃ i,x7 β3 i b)∨P9 b ∈ a1.defers
    have a0K:∀ D,P9 D ∈ a1.defers->Br D/\Wa.heap[D]? = some (.deferred (some [])):=fun D hD=>by
      obtain⟨Ds,⟨h1,h0⟩,h2,h3⟩:=gD.marks;rw[h1]at hD;obtain⟨D',GJ,e⟩:=List.mem_map.1 hD;have:D'=D:=by simpa[P9]using e
      subst this;exact⟨(h3 D' GJ).2.1,(h3 D' GJ).1⟩
    have Qk:∀ b,Zl b->Br b:=fun b hb=>by
      rcases hb with h|⟨i,h⟩|h
      · exact .inl va5
      · exact(gD.bB i b h).1
      · exact(a0K b h).1
    let E2:Env P:=Env.plain P F3 (fun j=>if fP j ds=true then none else β3 j) (some (w.heap.size+1)) (.round ds) (fun h=>absurd rfl (h ds))
    have a0L:Rel Zl W2 E2 S3 β3 F3 a1 W2:={
      len:=gD.len
      slots:=fun i hi=>(gD.slots i hi).grow (fun _ _=>rfl) (fun _ h=>h) Ld
      marks:=by
        obtain⟨Ds,⟨h1,h0⟩,h2,h3⟩:=gD.marks;obtain rfl:=h0 (by intro h;cases h);exact⟨[],⟨h1,fun _=>rfl⟩,.nil,by simp⟩
      rows:=fun j=>(gD.rows j).grow (fun _ _=>rfl) (fun _ h=>h) Ld fun b hb=>Mf b (BV b (gD.bB j b hb).1).2.1
      inj:=gD.inj
      bF:=gD.bF
      bB:=fun i b h=>⟨.inr (.inl ⟨i,h⟩),by rw[yG];exact(gD.bB i b h).2⟩
      FB:=fun b h=>⟨by rw[yG];exact(gD.FB b h).1,.inl h⟩
      below := .refl _ _
      BW:=fun b h => .inl h
      top:=fun j hd h=>by
        have h:(if fP j ds=true then none else β3 j)=some hd:=h;split at h
        · cases h
        · exact h
      topn:=fun j hj=>by
        have hn3:S3.n = .round ds:=gD.nn;simp only[A3,hn3]at hj;split at hj
        · show(if fP j ds=true then none else β3 j)=none
          rw[if_pos hj]
        · cases hj
      nn:=gD.nn
      inc:=fun _ h=>h
      keep:=C5.refl _ _
      sol:=fun _ _ _ h _=>h
      yl:=fun id l xs k' e h=>by obtain⟨_,_,_,O',hJ',_⟩:=gD.yl id l xs k' e h;exact hJ'.elim }
    refine wpIn_mono (Zk hb a0L) ?_
    -- the Zm end
    have fin:∀ (S4:St) (β4:Nat->Option Hd) (F4:Nat->Prop) (a2:Act) (W3:World) (jump:Option Code),Rel Zl W2 E2 S4 β4 F4 a2 W3 ->
        ∃ W4,(Instr.endRound (w.heap.size+1) jump).run P W3 = .ok (.bool jump.isNone) W4/\(W4.os=W.os/\W4.tape=W.tape/\W4.output=W.output)/\W.heap.size<=W4.heap.size/\(∀ b,O b->W4.heap[b]? = W.heap[b]?)/\C5 F W W4 /\
          Rel B w0 F0 ⟨(A k).t,S4.h,.plain⟩ β4 F4 a W4/\(∀ b,F b->F4 b)/\(∀ i b,x7 β4 i b->¬ O b/\b≠w.heap.size+1/\b≠w.heap.size)/\(∀ b,F4 b->¬ O b/\b≠w.heap.size+1/\b≠w.heap.size) /\
          W4.heap[w.heap.size]? = some (.deferred (some []))/\W4.heap[w.heap.size+1]? = some (.loop (rc (if jump.isNone then .ready else .done) jump)):=by
      intro S4 β4 F4 a2 W3 jump oX;have nlr:¬ Zl (w.heap.size+1):=fun h=>(BV _ (Qk _ h)).2.1 rfl
      have hl3:W3.heap[w.heap.size+1]? = some (.loop { rc .ready none with state := .busy }):=by rw[oX.below.block _ nlr];exact Lp
      have XJ:=run_endRound (P:=P) jump hl3;rw[Px]at XJ;obtain⟨W4,WB⟩:∃ W4,W3.putObj (w.heap.size+1) (.loop (rc (if jump.isNone then .ready else .done) jump))=W4:=⟨_,rfl⟩
      have Mg:∀ b,b≠w.heap.size+1->W4.heap[b]? = W3.heap[b]? := fun b hb=>by rw[<- WB];exact World.putObj_heap_other hb
      have hl4:W4.heap[w.heap.size+1]? = some (.loop (rc (if jump.isNone then .ready else .done) jump)):=by rw[<- WB];exact World.putObj_heap_same (Array.getElem?_eq_some_iff.1 hl3).1
      have hk4:∀ {G:Nat->Prop},C5 G W3 W4:=fun {G}=>by rw[<- WB];exact iT hl3 rfl
      have a0O:W4.heap.size=W3.heap.size:=by rw[<- WB];simp
      have IH:W4.os=W3.os/\W4.tape=W3.tape/\W4.output=W3.output:=by rw[<- WB];exact⟨rfl,rfl,rfl⟩
      have a3G:=oX.below.size;have same:∀ b,¬ Br b->b≠w.heap.size+1->W4.heap[b]? = W.heap[b]? := fun b hb V8=>by
        rw[Mg b V8,oX.below.block b fun h=>hb (Qk b h),Mf b V8,gD.below.block b hb]
      have XK:∀ b,F1 b->F4 b:=fun b h=>oX.inc b (gD.inc b h)
      have sV:C5 F1 W W4:=fun b o u hb hc=>hk4 (G:=fun _=>True) b o u trivial (oX.keep b o u (gD.inc b hb) (Ld (G:=fun _=>True) b o u trivial (gD.keep b o u hb hc)))
      have AZ:∀ i b,x7 β4 i b->Br b/\b<W3.heap.size:=fun i b h=>⟨Qk b (oX.bB i b h).1,(oX.bB i b h).2⟩
      have TD:∀ b,F4 b->b<W3.heap.size/\(F1 b∨Br b):=fun b h=>by
        obtain⟨h1,h2⟩:=oX.FB b h;refine⟨h1,?_⟩;rcases h2 with h2|h2
        · exact(gD.FB b h2).2
        · exact .inr (Qk b h2)
      refine⟨W4,by rw[<- WB,Px];exact XJ,?_,va5,fun b hb=>same b (fun h=>(BV b h).1 hb) (by have:=j2 b hb;omega),fun b o u hb hc=>sV b o u (j1 b hb) hc,?_,fun b hb=>XK b (j1 b hb),fun i b h=>BV b (AZ i b h).1,fun b h=>(TD b h).2.elim (j4 b) (BV b),?_,hl4⟩
      · have e1:=oX.below
        have e2:=gD.below;exact⟨IH.1.trans (e1.os.trans (IF.1.trans e2.os)),IH.2.1.trans (e1.tape.trans (IF.2.1.trans e2.tape)),IH.2.2.trans (e1.output.trans (IF.2.2.trans e2.output))⟩
      · have key:=jO.back ji (w':=W4) (β':=β4) (F':=F4) (h':=S4.h) (fun j hj=>?_) XK sV ?_ va5 (fun id=>?_) oX.inj oX.bF (fun i b h=>⟨Up b (AZ i b h).1,by rw[a0O];exact(AZ i b h).2⟩) (fun b h=>?_) (fun b hb hnB=>?_) (fun q o ho hc hq=>?_) (fun id l Bi k' e h=>?_)
        · rw[hAn]at key;exact key
        · have gH:fP j ds=false:=by
            cases hh:fP j ds with
            | false=>rfl
            | true=>exact absurd (k1 j (nA.1 hh)) hj
          cases cJ:β2 j with
          | none=>exact absurd cJ hj
          | some hd =>
            have h3:=gD.top j hd cJ;refine oX.top j hd ?_;show(if fP j ds=true then none else β3 j)=some hd
            rw[gH];simpa using h3
        · have e1:=oX.below
          have e2:=gD.below;exact⟨IH.1.trans (e1.os.trans (IF.1.trans e2.os)),IH.2.1.trans (e1.tape.trans (IF.2.1.trans e2.tape)),IH.2.2.trans (e1.output.trans (IF.2.2.trans e2.output))⟩
        · exact(oX.rows id).grow (fun _ _=>rfl) (fun _ h=>h) hk4 fun b hb=>Mg b (BV b (AZ id b hb).1).2.1
        · obtain⟨h1,h2⟩:=TD b h
          refine⟨va5,?_⟩;rcases h2 with h2|h2
          · exact(jO.FB b h2).2
          · exact .inr (Up b h2)
        · refine same b (fun h=>hnB (Up b h)) fun e=>hnB ?_
          rw[e];exact hR.BW _ va5
        · have z8:q<w.heap.size:=by
            rcases hq with h|h
            · omega
            · exact Py q h
          have h3:=gD.sol (by intro h;cases h) q o ho hc;rw[Mg q va5];refine oX.sol (by intro h;cases h) q o ?_ hc;rw[Mf q va5];exact h3
        · obtain⟨_,_,_,O',hJ',_⟩:=oX.yl id l Bi k' e h
          exact hJ'.elim
      · rw[same _ (fun h=>(BV _ h).2.2 rfl) va5];exact j5
    rintro e a2 W3 hq;cases e with
    | normal =>
      obtain⟨S4,h4,β4,F4,oX⟩:=hq;simp only[]at h4;rw[X1]at h4;obtain⟨⟨a0P,hbr⟩,Tl⟩:=h4;obtain⟨W4,q1,q2,q3,q4,q5,q6,q7,q8,q9,XL,XM⟩:=fin S4 β4 F4 a2 W3 none oX;refine⟨_,W4,q1,q2.1,q2.2.1,q2.2.2,q3,q4,q5,.inl ⟨rfl,A (k+1),β4,F4,?_,q7,j2,q8,q9,XL,va5,.inl ⟨rfl,rfl,a0P,XM⟩⟩⟩;rw[hbr]at Tl;have mV:=mf Tl;have:Rel B w0 F0 ⟨(A k).t,(A (k+1)).h,.plain⟩ β4 F4 a W4:=q6.forget rfl rfl fun i=>(mV i).symm
      rw[hAt k,<- hAt (k+1),<- hAn (k+1)]at this;exact this
    | ret =>
      obtain⟨S4,h4,β4,F4,oX⟩:=hq;obtain⟨W4,q1,q2,q3,q4,q5,q6,q7,q8,q9,XL,XM⟩:=fin S4 β4 F4 a2 W3 (some .ret) oX;exact⟨_,W4,q1,q2.1,q2.2.1,q2.2.2,q3,q4,q5,.inr ⟨rfl,_,β4,F4,q6,q7,j2,q8,q9,XL,va5,.inr ⟨rfl,.ret,XM,.inl ⟨rfl,h4⟩⟩⟩⟩
    | exit i =>
      obtain⟨S4,h4,β4,F4,oX⟩:=hq;obtain⟨W4,q1,q2,q3,q4,q5,q6,q7,q8,q9,XL,XM⟩:=fin S4 β4 F4 a2 W3 (some (.exit i)) oX;exact⟨_,W4,q1,q2.1,q2.2.1,q2.2.2,q3,q4,q5,.inr ⟨rfl,_,β4,F4,q6,q7,j2,q8,q9,XL,va5,.inr ⟨rfl,.exit i,XM,.inr ⟨i,rfl,h4⟩⟩⟩⟩
    | goto l=>exact hq.elim
    | panic ch=>exact hq.elim
    | outgrown=>exact hq.elim
  obtain⟨eg,XN⟩:=hsq F W1 us (w.heap.size+1) J (fun b hb=>by have:=(hR.FB b hb).1;omega) l2.symm (fun i hi=>by
    have cI:=(r2 i hi).shut (H0 S9 i)
    exact cI.mono (fun _ h=>h) (fun b o u hb hc=>by rw[World.cell?_of_block (w:=w) (Tk b (hR.FB b hb).1)];exact hc)) rP Xw hJ0
  refine⟨w.heap.size+1,[P9 w.heap.size],W1,{ target := .fn (.func gf) us,args:=#[.func (.yield (w.heap.size+1)) #[] #[]] },W1,gf,#[.func (.yield (w.heap.size+1)) #[] #[]]++us,W1,?_,?_,?_,?_,fun h=>(by cases h),?_⟩
  · rw[<- Ea,Px];exact run_enterLoop_outer _ _ _ _ _
  · simp only[resolve,hv]
    simp[go_sem]
  · intro f' _;trivial
  · simp[invoke,go_sem,eg]
  · refine CallsIn.mono XN ?_
    rintro e W2 ⟨⟨v,rfl⟩,_,_,_,a3I,O,k,e',⟨S',β',F',M8,j1,j2,j3,j4,j5,j6,j7⟩,hk⟩;have EG:P9 w.heap.size ∉ a.defers:=fun h=>by have:=Py _ h;omega
    have after:∀ (o:Obj),(∃ r:Loop,W2.heap[w.heap.size+1]? = some (.loop r))->Rel B w0 F0 S' β' F' { a with defers:=[P9 w.heap.size]++a.defers } (W2.putObj (w.heap.size+1) o):=fun o ⟨r,hl⟩=>by
      have h1:Rel B w0 F0 S' β' F' a (W2.putObj (w.heap.size+1) o):=M8.other ⟨rfl,rfl,rfl⟩ va9 (O:=fun b=>b=w.heap.size+1) (fun b _ hb=>World.putObj_heap_other hb) (fun b e=>by rw[e];exact hR.BW _ va5) (fun b e=>by omega)
        (fun i b _ hb e=>(j3 i b hb).2.1 e) (fun b hb e=>(j4 b hb).2.1 e) (fun D hD e=>by have:=Py D hD;omega) (M8.noctr ji)
      exact h1.marked ji ((World.putObj_heap_other va5).trans j5) (hR.BW _ (Nat.le_refl _)) hw0 EG
    rcases j7 with ⟨rfl,rfl,hIk,hl⟩|⟨rfl,c,hl,hc⟩
    · obtain rfl:=hk rfl
      refine⟨none,_,by have:=run_endLoop (P:=P) hl (by rw[Px];simp);rw[Px]at this;exact this,?_⟩;have hd:=XI hIk;rw[C3]at hd;exact⟨_,hd,β',F',after _ ⟨_,hl⟩⟩
    · refine⟨some c,_,by have:=run_endLoop (P:=P) hl (by rw[Px];simp);rw[Px]at this;exact this,?_⟩
      rcases hc with ⟨rfl,hq⟩|⟨i,rfl,hq⟩
      · exact wpIn_ret ⟨S',hq,β',F',after _ ⟨_,hl⟩⟩
      · exact wpIn_exit ⟨S',hq,β',F',after _ ⟨_,hl⟩⟩
theorem EH(hm:P.follows .mixedOrders=true):∀ (c:Code) {B:Nat->Prop} {w0:World} {F0:Env P} {S:St} {β:Nat->Option Hd} {F:Nat->Prop} {a:Act} {w:World} {Q:Ex->St->Prop},ex P c S Q->Rel B w0 F0 S β F a w->c.wpIn (FW F0.r) 0 P (ID B w0 F0 Q) a w:=by
 intro c
 induction c with
 | skip=>intro B w0 F0 S β F a w Q h hR;exact wpIn_skip (.norm hR h)
 | label l=>intro B w0 F0 S β F a w Q h hR;exact wpIn_label (.norm hR h)
 | ret=>intro B w0 F0 S β F a w Q h hR;exact wpIn_ret ⟨S,h,β,F,hR⟩
 | exit i=>intro B w0 F0 S β F a w Q h hR;exact wpIn_exit ⟨S,h,β,F,hR⟩
 | region id ops draw =>
  intro B w0 F0 S β F a w Q h hR;unfold ex at h;cases draw with
  | false =>
   refine wpIn_region ?_;rw[List.range_eq_range'];have:=nB (P:=P) (ops:=ops) (K:=fun S=>jC S (Q .norm)) (Q:=ID B w0 F0 Q) (fun S β F a w hR h=>by rw[C3]at h;exact .norm hR h) ops.toList 0 va9 hR h;simpa using this
  | true =>
   simp only[C3,iN]at h;obtain⟨F',M8⟩:=hR.preF P ops.toList;obtain⟨h1,h2⟩:=h;exact tc (K:=fun S=>Q .norm S) hm (fun S β F a w hR h => .norm hR h) M8 h1 (by simpa only[C3]using h2)
 | seq x y Ql Qm =>
  intro B w0 F0 S β F a w Q h hR;refine wpIn_seq (wpIn_mono (Ql h hR) ?_);rintro e a' w' hq;cases e with
  | normal=>obtain⟨S',h1,β',F',h2⟩:=hq;exact Qm h1 h2
  | ret=>exact hq
  | exit i=>exact hq
  | goto l=>exact hq
  | panic ch=>exact hq
  | outgrown=>exact hq
 | cond c x y Ql Qm =>
  intro B w0 F0 S β F a w Q h hR;simp only[ex]at h;have hc:=hR.get c;split at h
  ·rename_i e;rw[e]at hc;exact wpIn_cond_true hc.tt_inv (Ql h hR)
  ·rename_i e;rw[e]at hc;exact wpIn_cond_false hc.ff_inv (Qm h hR)
  ·rename_i b e;rw[e]at hc;exact wpIn_cond_split hc.bool_inv (fun hb=>Ql (h.1 hb) hR) fun hb=>Qm (h.2 hb) hR
  ·exact h.elim
 | scope x ih =>
  intro B w0 F0 S β F a w Q h hR;exact ti (ih h hR) (fun _ _ _ q=>q)
 | block id x ih =>
  intro B w0 F0 S β F a w Q h hR;refine wpIn_block (wpIn_mono (ih h hR) ?_);rintro e a' w' hq;cases e with
  | normal=>exact hq
  | ret=>exact hq
  | exit i =>
   obtain⟨S',h1,β',F',h2⟩:=hq;simp only[]at h1;cases hb:Nat.beq i id with
   | true =>
    rw[hb]at h1;have:=zA8 hb;simp only[Exit.inBlock,this,if_true];exact⟨S',h1,β',F',h2⟩
   | false =>
    rw[hb]at h1;have:=Nat.ne_of_beq_eq_false hb;simp only[Exit.inBlock,this,if_false];exact⟨S',h1,β',F',h2⟩
  | goto l=>exact hq
  | panic ch=>exact hq
  | outgrown=>exact hq
 | loop x ih =>
  intro B w0 F0 S β F a w Q h hR;rcases h with ⟨n,h⟩|⟨ι,ws,bs,vs,V,BR,VR,μ,I,h⟩
  ·exact Qi ih n h hR
  ·rw[iN,C3]at h;obtain⟨⟨i,h0⟩,Mh⟩:=h;have TL:(Ev.canonV vs S).n=F0.n:=(tj vs S).trans hR.nn;obtain⟨Q9,F7,I5,⟨hI,rfl,rfl,rfl⟩,β',M8⟩:=eA TL hR h0;refine ah (fun n a w=>∃ i,μ i=n/\I i/\∃ β F,Rel B w0 F0 (N3 (aD x) (Ev.canonV vs S) ws bs vs (V i) (BR i) (VR i)) β F a w) (μ i) ⟨i,rfl,hI,β',F,M8⟩ ?_;rintro n a w ⟨i,rfl,hI,β',F,M8⟩;have h1:=Mh i hI;rw[C3]at h1;refine wpIn_mono (ih h1 M8) ?_;rintro e a' w' hq;cases e with
   | normal =>
    obtain⟨S',⟨i',h1⟩,β',F',h2⟩:=hq;obtain⟨Q9,F7,I5,⟨⟨z8,Ul⟩,rfl,rfl,rfl⟩,β',M8⟩:=eA TL h2 h1;exact⟨_,z8,i',rfl,Ul,β',F',M8⟩
   | ret=>exact hq
   | exit i=>exact hq
   | goto l=>exact hq
   | panic ch=>exact hq
   | outgrown=>exact hq
 | rangeFunc g ps assign nC Zj Zk =>
  intro B w0 F0 S β F a w Q h hR;exact vQ Zj Zk h hR
 | _=>intro B w0 F0 S β F a w Q h;exact h.elim
end
/- A function's contract from its body. A helper text: it speaks of no program. -/
section
variable {P:Program}{B:Nat->Prop}{w0:World}{F0:Env P}{S:St}{β:Nat->Option Hd}{F:Nat->Prop}{a:Act}{w:World}
def ry(tmps:Array Value):ResultVar->Sem Value
 | .tmp t=>pure (tmps.getD t undef)
 | .cell a t=>do loadVar t (<- asAddr (tmps.getD a undef))
theorem pq(hR:Rel B w0 F0 S β F a w):∀ (l:List ResultVar) {r:List AV},dA P S l=some r ->
  ∃ vs,(l.mapM (ry a.tmps)).run P w = .ok vs w/\vs.length=r.length/\∀ i,i<r.length->y6 (fun b=>F b∨mY S β b) w (r.getD i .any) (vs.getD i undef)
 | [],r,h=>by
  simp only[dA,Option.some.injEq]at h;subst h;exact⟨[],by simp,rfl,fun i hi=>absurd hi (zB3 i)⟩
 | .tmp t :: l,r,h=>by
  simp only[dA]at h;split at h
  ·rename_i r' hr;simp only[Option.some.injEq]at h;subst h;obtain⟨vs,h1,h2,h3⟩:=pq hR l hr;refine⟨a.tmps.getD t undef :: vs,by simp[List.mapM_cons,h1,ry],by simp[h2],fun i hi=>?_⟩;cases i with
   | zero=>exact F9 hR 4 (hR.get (.tmp t))
   | succ i=>exact h3 i (by simpa using hi)
  ·cases h
 | .cell x t :: l,r,h=>by
  simp only[dA]at h;split at h
  ·cases h
  ·rename_i r' hr;obtain⟨vs,h1,h2,h3⟩:=pq hR l hr;split at h
   ·rename_i i d hi hd;split at h
    ·rename_i id sz j off hx;split at h
     ·rename_i ty cs A1;split at h
      ·rename_i v hv;simp only[Option.some.injEq]at h;subst h;have Bp:=hR.get (.tmp x);rw[show S.get (.tmp x) = .ptr id sz j off from hx]at Bp;have lL:=hR.rows id;rw[A1]at lL;obtain⟨hd',b,ws,e1,em,e2,e3,e4,e5⟩:=lL;obtain⟨a0Q,b',e6,e7,e8⟩:∃ hd b,β id=some hd/\hd.b=some b/\a.tmps.getD x undef = .pointer (some ⟨b,j*sz+off,none⟩):=Bp.ptr_inv;rw[e1]at e6;cases e6
       rw[e2]at e7;cases e7
       have H7:∀ k,k<cs.length->w.cell? ⟨b,0+k,none⟩=some (ws.getD k undef):=fun k hk=>by rw[Nat.zero_add];exact G3 e3 va5
       obtain⟨u,Ee,Gv⟩:=ew hi hd (b:=b) (o:=0) (off:=j*sz+off) H7 e5 hv;refine⟨u :: vs,?_,by simp[h2],fun i hi=>?_⟩
       ·have:(ry a.tmps (.cell x t)).run P w = .ok u w:=by
         rw[Nat.zero_add]at Ee;simp only[ry,e8];simpa[Instr.loadAt,Instr.sureAddr,asAddr]using Ee
        simp[List.mapM_cons,h1,this]
       ·cases i with
        | zero=>exact F9 hR 4 Gv
        | succ i=>exact h3 i (by simpa using hi)
      ·cases h
     ·cases h
    ·cases h
   ·cases h
theorem AV.fin1_rep{x:AV}{v:Value}(h:y6 F w x v):y6 F w x.fin1 v:=by
 cases h<;>first|exact .bool _|(simp only[AV.fin1];constructor<;>assumption)
theorem AV.fin_rep{x:AV}{v:Value}(h:y6 F w x v):y6 F w x.fin v:=by
 cases h with
 | tt=>exact .bool true
 | ff=>exact .bool false
 | tup hl hh =>
  refine .tup (by simpa using hl) fun i hi=>?_
  simp only[List.length_map]at hi;rw[u0 _ rfl];exact AV.fin1_rep (hh i hi)
 | _=>(try simp only[AV.fin]);constructor<;>assumption
theorem jT(hR:Rel B w0 F0 S β F a w){fn:Func}{r:List AV}(h:dA P S fn.results.toList=some r) :
  ∃ v,(results fn a.tmps).run P w = .ok v w/\y6 (fun b=>F b∨mY S β b) w (fF r).fin v:=by
 obtain⟨vs,h1,h2,h3⟩:=pq hR _ h;have hm:(fn.results.mapM (ry a.tmps)).run P w = .ok vs.toArray w:=by
  rw[Array.mapM_eq_mapM_toList];simp[h1]
 refine⟨if h:vs.toArray.size=1 then vs.toArray[0]else .tuple vs.toArray,?_,AV.fin_rep ?_⟩
 ·have e:results fn a.tmps=(do let vs <- fn.results.mapM (ry a.tmps);pure (if h:vs.size=1 then vs[0]else .tuple vs)):=by
   unfold results
   congr 1
  rw[e,Sem.run_bind,hm];rfl
 ·cases r with
  | nil =>
   have:vs=[]:=by simpa using h2
   subst this;exact .tup rfl fun i hi=>absurd hi (zB3 i)
  | cons x l =>
   cases l with
   | nil =>
    obtain⟨v,rfl⟩:∃ v,vs=[v]:=by
     match vs,h2 with
     | [v],_=>exact⟨v,rfl⟩
    exact h3 0 va9
   | cons y l =>
    have:vs.toArray.size≠1:=by simp[h2]
    rw[dif_neg this];exact .tup (by simp[h2]) fun i hi=>by
     have:=h3 i hi;simpa[Array.getD_eq_getD_getElem?,List.getD_eq_getElem?_getD]using this
theorem ml(hR:Rel B w0 F0 S β F a w):∀ (l:List ResultVar) {r:List AV},bN P S l=some r ->
  ∃ vs,(l.mapM (ry a.tmps)).run P w = .ok vs w/\vs.length=r.length/\∀ i,i<r.length->C4 β F w (r.getD i .any) (vs.getD i undef)
 | [],r,h=>by
  simp only[bN,Option.some.injEq]at h;subst h;exact⟨[],by simp,rfl,fun i hi=>absurd hi (zB3 i)⟩
 | .tmp t :: l,r,h=>by
  simp only[bN]at h;split at h
  ·rename_i r' hr;simp only[Option.some.injEq]at h;subst h;obtain⟨vs,h1,h2,h3⟩:=ml hR l hr;refine⟨a.tmps.getD t undef :: vs,by simp[List.mapM_cons,h1,ry],by simp[h2],fun i hi=>?_⟩;cases i with
   | zero=>exact hR.get (.tmp t)
   | succ i=>exact h3 i (by simpa using hi)
  ·cases h
 | .cell x t :: l,r,h=>by
  simp only[bN]at h;split at h
  ·cases h
  ·rename_i r' hr;obtain⟨vs,h1,h2,h3⟩:=ml hR l hr;split at h
   ·rename_i i d hi hd;split at h
    ·rename_i id sz j off hx;split at h
     ·rename_i ty cs A1;split at h
      ·rename_i v hv;simp only[Option.some.injEq]at h;subst h;have Bp:=hR.get (.tmp x);rw[show S.get (.tmp x) = .ptr id sz j off from hx]at Bp;have lL:=hR.rows id;rw[A1]at lL;obtain⟨hd',b,ws,e1,em,e2,e3,e4,e5⟩:=lL;obtain⟨a0Q,b',e6,e7,e8⟩:∃ hd b,β id=some hd/\hd.b=some b/\a.tmps.getD x undef = .pointer (some ⟨b,j*sz+off,none⟩):=Bp.ptr_inv;rw[e1]at e6;cases e6
       rw[e2]at e7;cases e7
       have H7:∀ k,k<cs.length->w.cell? ⟨b,0+k,none⟩=some (ws.getD k undef):=fun k hk=>by rw[Nat.zero_add];exact G3 e3 va5
       obtain⟨u,Ee,Gv⟩:=ew hi hd (b:=b) (o:=0) (off:=j*sz+off) H7 e5 hv;refine⟨u :: vs,?_,by simp[h2],fun i hi=>?_⟩
       ·have:(ry a.tmps (.cell x t)).run P w = .ok u w:=by
         rw[Nat.zero_add]at Ee;simp only[ry,e8];simpa[Instr.loadAt,Instr.sureAddr,asAddr]using Ee
        simp[List.mapM_cons,h1,this]
       ·cases i with
        | zero=>exact Gv
        | succ i=>exact h3 i (by simpa using hi)
      ·cases h
     ·cases h
    ·cases h
   ·cases h
theorem AV.fin1_repW{x:AV}{v:Value}(h:C4 β F w x v):C4 β F w x.fin1 v:=by
 cases x<;>first|exact h|(rw[h.tt_inv];exact .imm (.bool true))|(rw[h.ff_inv];exact .imm (.bool false))
theorem AV.fin_repW{x:AV}{v:Value}(h:C4 β F w x v):C4 β F w x.fin v:=by
 cases x with
 | tt=>rw[h.tt_inv];exact .imm (.bool true)
 | ff=>rw[h.ff_inv];exact .imm (.bool false)
 | tup l =>
  obtain⟨vs,rfl,hl,hr⟩:=h.tup_inv;refine .tup (by simpa using hl) fun i hi=>?_
  simp only[List.length_map]at hi;rw[u0 _ rfl];exact AV.fin1_repW (hr i hi)
 | _=>exact h
theorem nD(hR:Rel B w0 F0 S β F a w){fn:Func}{r:List AV}(h:bN P S fn.results.toList=some r) :
  ∃ v,(results fn a.tmps).run P w = .ok v w/\C4 β F w (fF r).fin v:=by
 obtain⟨vs,h1,h2,h3⟩:=ml hR _ h;have hm:(fn.results.mapM (ry a.tmps)).run P w = .ok vs.toArray w:=by
  rw[Array.mapM_eq_mapM_toList];simp[h1]
 refine⟨if h:vs.toArray.size=1 then vs.toArray[0]else .tuple vs.toArray,?_,AV.fin_repW ?_⟩
 ·have e:results fn a.tmps=(do let vs <- fn.results.mapM (ry a.tmps);pure (if h:vs.size=1 then vs[0]else .tuple vs)):=by
   unfold results
   congr 1
  rw[e,Sem.run_bind,hm];rfl
 ·cases r with
  | nil =>
   have:vs=[]:=by simpa using h2
   subst this;exact .tup rfl fun i hi=>absurd hi (zB3 i)
  | cons x l =>
   cases l with
   | nil =>
    obtain⟨v,rfl⟩:∃ v,vs=[v]:=by
     match vs,h2 with
     | [v],_=>exact⟨v,rfl⟩
    exact h3 0 va9
   | cons y l =>
    have:vs.toArray.size≠1:=by simp[h2]
    rw[dif_neg this];exact .tup (by simp[h2]) fun i hi=>by
     have:=h3 i hi;simpa[Array.getD_eq_getD_getElem?,List.getD_eq_getElem?_getD]using this
theorem Rel.takeD{t:Array Value}{d:Deferred}{ds:List Deferred}(hR:Rel B w0 F0 S β F { tmps:=t,defers:=d :: ds } w) :
  ∃ D,d.target = .collected D/\(Instr.takeDeferred D).run P w = .ok [] (w.putObj D (.deferred none))/\Rel B w0 F0 S β F { tmps:=t,defers:=ds } (w.putObj D (.deferred none)):=by
 obtain⟨Ds,⟨h1,h0⟩,h2,h3⟩:=hR.marks;cases Ds with
 | nil=>simp at h1
 | cons D Ds =>
  simp only[List.map_cons,List.cons.injEq]at h1;obtain⟨rfl,rfl⟩:=h1;have ji:F0.n = .plain:=by
   by_cases h:F0.n = .plain
   ·exact h
   ·exact absurd (h0 h) va9
  obtain⟨hn1,vM⟩:=List.nodup_cons.1 h2;obtain⟨hD,hB,TE⟩:=h3 D va9;refine⟨D,rfl,run_takeDeferred hD,?_⟩;have iF:Rel B w0 F0 S β F { tmps:=t,defers:=Ds.map P9 } w :=
   { hR with
    len:=hR.len
    slots:=hR.slots
    marks:=⟨Ds,⟨rfl,fun h=>absurd ji h⟩,vM,fun D' GJ=>h3 D' (by simp[GJ])⟩
    yl:=fun id l xs k e h=>absurd h (hR.noctr ji id l xs k e) }
  refine iF.otherK ⟨rfl,rfl,rfl⟩ va9 (O:=fun b=>b=D) (fun b _ hb=>World.putObj_heap_other hb) (fun b e=>by rw[e];exact hB) (fun b e=>by rw[e];exact TE) (fun i b hi hb e=>?_) (iT hD rfl) (fun D' GJ e=>?_) (hR.noctr ji)
  ·subst e;obtain⟨o,hc,hf⟩:=jG (hR.rows i) hi hb;rw[hD]at hc;cases hc;cases hf
  ·obtain⟨D'',h4,h5⟩:=List.mem_map.1 GJ;have:D''=D':=by simpa[P9]using h5
   subst this;subst e;exact hn1 h4
theorem dR{fn:Func}{t:Array Value}{R:Ending->World->Prop}:∀ (ds:List Deferred) {w:World},Rel B w0 F0 S β F { tmps:=t,defers:=ds } w->(∀ w',Rel B w0 F0 S β F { tmps:=t,defers:=[] } w'->∃ v,(results fn t).run P w' = .ok v w'/\R (.returned v) w') ->
  LeavesInM Fence.wide 0 P fn t R ds .returning w
 | [],w,hR,h=>h w hR
 | d :: ds,w,hR,h=>by
  obtain⟨D,h1,h2,h3⟩:=hR.takeD;exact⟨by simp,.inl ⟨D,_,h1,h2,dR ds h3 h⟩⟩
theorem EI(hm:P.follows .mixedOrders=true){f:FuncId}{fn:Func}{args:List AV}{res:AV}(hf:P.funcs[f]? = some fn)(J7:(fn.name == "runtime.NumGoroutine")=false) (h:body P fn args res):PC P f args res:=by
 intro F w vs hF G0 T1;unfold body at h;split at h
 ·exact h.elim
 ·rename_i c hb;refine .inl ⟨Go.MuLone.run_callFunc_enter hf J7 hb vs w,callsIn_wide.1 (callsIn_of_wp_marks (n:=0) hf hb trivial ?_)⟩;rw[C3]at h;have hR:Rel (fun b=>w.heap.size<=b) w (Env.plain P F (fun _=>none) none .plain (fun _=>rfl)) ⟨args++List.replicate (fn.ntmps-args.length) .any,List.replicate fn.ntmps .none,.plain⟩ (fun _=>none) F { tmps:=vs++Array.replicate (fn.ntmps-vs.size) undef,defers:=[] } w:={
   len:=by simp[G0]
   slots:=fun i hi=>by
    by_cases z8:i<args.length
    ·have:=T1 i z8;have e1:(args++List.replicate (fn.ntmps-args.length) AV.any).getD i .any=args.getD i .any:=by simp[List.getD,List.getElem?_append,z8]
     have e2:(vs++Array.replicate (fn.ntmps-vs.size) undef).getD i undef=vs.getD i undef:=by
      simp[Array.getD_eq_getD_getElem?,Array.getElem?_append,show i<vs.size by omega]
     rw[e1,e2];exact .imm this
    ·have e1:(args++List.replicate (fn.ntmps-args.length) AV.any).getD i .any = .any:=by
      simp only[List.getD,List.getElem?_append,z8,if_false,List.getElem?_replicate];split<;>rfl
     rw[e1];exact .imm (.any _)
   marks:=⟨[],⟨rfl,fun _=>rfl⟩,.nil,by simp⟩
   rows:=fun i=>by
    have:(St.row ⟨args++List.replicate (fn.ntmps-args.length) .any,List.replicate fn.ntmps .none,.plain⟩ i) = .none:=by
     simp only[St.row,List.getD,List.getElem?_replicate];split<;>rfl
    rw[this];trivial
   inj:=fun i j b _ _ h=>by simp[x7]at h
   bF:=fun i b _ h=>by simp[x7]at h
   bB:=fun i b h=>by simp[x7]at h
   FB:=fun b hb=>⟨hF b hb,.inl hb⟩
   below := .refl _ _
   BW:=fun _ h=>h
   top:=fun _ _ h=>by cases h
   topn:=fun _ _=>rfl
   nn:=rfl
   inc:=fun _ h=>h
   keep:=C5.refl _ _
   sol:=fun _ _ _ h _=>h
   yl:=fun id l xs k e h=>by
    have:(St.row ⟨args++List.replicate (fn.ntmps-args.length) .any,List.replicate fn.ntmps .none,.plain⟩ id) = .none:=by
     simp only[St.row,List.getD,List.getElem?_replicate];split<;>rfl
    rw[this]at h;cases h }
  refine wpIn_mono (EH hm c h hR) ?_;have fin:∀ {S β F' a' w'} {r:List AV},Rel (fun b=>w.heap.size<=b) w (Env.plain P F (fun _=>none) none .plain (fun _=>rfl)) S β F' a' w'->dA P S fn.results.toList=some r->DT (fF r).fin (fun v=>v=res) ->
    LeavesInM Fence.wide 0 P fn a'.tmps (fun e w'=>∃ v,e = .returned v/\RowKit.Below w.heap.size w w'/\y6 (fun b=>F b∨w.heap.size<=b) w' res v) a'.defers .returning w':=by
   intro S β F' a' w' r M8 hr hv;rw[dZ]at hv;obtain⟨t,ds⟩:=a';refine dR ds M8 fun Zn W5 => ?_
   obtain⟨v,h1,h2⟩:=jT W5 hr;rw[hv]at h2;exact⟨v,h1,v,rfl,W5.below.below,h2.mono (fun b hb=>by
    rcases hb with hb|⟨i,_,hb⟩
    ·exact(W5.FB b hb).2
    ·exact .inr (W5.bB i b hb).1) (fun _ _ _ _ h=>h)⟩
  rintro e a' w' hq;cases e with
  | normal =>
   obtain⟨S',h1,β',F',M8⟩:=hq;simp only[]at h1;split at h1
   ·exact fin M8 ‹_› h1
   ·exact h1.elim
  | ret =>
   obtain⟨S',h1,β',F',M8⟩:=hq;simp only[]at h1;split at h1
   ·exact fin M8 ‹_› h1
   ·exact h1.elim
  | exit i=>obtain⟨S',h1,_⟩:=hq;exact h1.elim
  | goto l=>exact hq.elim
  | panic ch=>exact hq.elim
  | outgrown=>exact hq.elim
theorem qI(s n k:Nat)(h:k<n):(List.range' s n).getD k 0=s+k:=by
 simp[List.getD,h]
theorem EJ(hm:P.follows .mixedOrders=true){f:FuncId}{fn:Func}{args:List AV}{ins o9:List Row}{res:AV}(hf:P.funcs[f]? = some fn)(J7:(fn.name == "runtime.NumGoroutine")=false) (h:GG P fn args ins res o9):PW P f args ins res o9:=by
 intro F w vs β hF G0 T1 L6;unfold GG at h;split at h
 ·exact h.elim
 rename_i c hb;obtain⟨Mi,h⟩:=h;simp only[zA2]at Mi;obtain⟨⟨c1,c2⟩,c3⟩:=Mi;have c3:=Nat.le_of_ble_eq_true c3;refine⟨Go.MuLone.run_callFunc_enter hf J7 hb vs w,callsIn_wide.1 (callsIn_of_wp_marks (n:=0) hf hb trivial ?_)⟩;rw[C3]at h;obtain⟨sh,GL⟩:∃ sh,List.range' fn.ntmps ins.length=sh:=⟨_,rfl⟩
 rw[GL]at h;have shl:sh.length=ins.length:=by rw[<- GL];simp
 have Qn:∀ k,k<ins.length->sh.getD k 0=fn.ntmps+k:=fun k hk=>by rw[<- GL];exact qI _ _ _ hk
 have jS:∀ k,k<ins.length->D9 ins.length (ins.getD k .none)=true/\ins.getD k .none ≠ .none:=fun k hk=>by
  have Es:ins.getD k .none ∈ ins:=by simp[List.getD,hk]
  have:=List.all_eq_true.1 c2 _ Es;simp only[zA2]at this;exact⟨this.1,fun e=>by rw[e]at this;simp[Row.live]at this⟩
 let β0:Nat->Option Hd:=fun j=>if fn.ntmps<=j then β (j-fn.ntmps)else none
 have b0:∀ k,β0 (fn.ntmps+k)=β k:=fun k=>by simp[β0]
 have b0':∀ j,j<fn.ntmps->β0 j=none:=fun j hj=>by simp[β0,Nat.not_le.2 hj]
 have Mj:∀ i b,x7 β0 i b->fn.ntmps<=i/\x7 β (i-fn.ntmps) b:=fun i b hb=>by
  by_cases hle:fn.ntmps<=i
  ·exact⟨hle,by simpa[x7,β0,hle]using hb⟩
  ·simp[x7,β0,hle]at hb
 have A1:∀ (t:List AV) id,(St.row ⟨t,List.replicate fn.ntmps .none++ins.map (A0 sh),.plain⟩ id)=if fn.ntmps<=id then A0 sh (ins.getD (id-fn.ntmps) .none)else .none:=fun t id=>by
  simp only[St.row,List.getD];by_cases hle:fn.ntmps<=id
  ·rw[List.getElem?_append_right (by simpa using hle)];simp only[List.length_replicate,List.getElem?_map,hle,if_true];cases ins[id-fn.ntmps]? <;> simp[A0]
  ·rw[List.getElem?_append_left (by simpa using hle)];simp[hle,List.getElem?_replicate,Nat.lt_of_not_le hle]
 have hR:Rel (fun b=>w.heap.size<=b∨jE β b) w (Env.plain P F β0 none .plain (fun _=>rfl)) ⟨au sh args++List.replicate (fn.ntmps-args.length) .any,List.replicate fn.ntmps .none++ins.map (A0 sh),.plain⟩ β0 F { tmps:=vs++Array.replicate (fn.ntmps-vs.size) undef,defers:=[] } w:={
  len:=by simp[G0,u9]
  slots:=fun i hi=>by
   by_cases z8:i<args.length
   ·have:=T1 i z8;have e1:(au sh args++List.replicate (fn.ntmps-args.length) AV.any).getD i .any=(args.getD i .any).ren sh:=by
     rw[<- E4];simp[List.getD,List.getElem?_append,u9,z8]
    have e2:(vs++Array.replicate (fn.ntmps-vs.size) undef).getD i undef=vs.getD i undef:=by
     simp[Array.getD_eq_getD_getElem?,Array.getElem?_append,show i<vs.size by omega]
    rw[e1,e2];exact this.ren (n:=ins.length) (fun k hk hd h=>by rw[Qn k hk,b0];exact h) (F6 c1 i)
   ·have e1:(au sh args++List.replicate (fn.ntmps-args.length) AV.any).getD i .any = .any:=by
     simp only[List.getD,List.getElem?_append,u9,z8,if_false,List.getElem?_replicate];split<;>rfl
    rw[e1];exact .imm (.any _)
  marks:=⟨[],⟨rfl,fun _=>rfl⟩,.nil,by simp⟩
  rows:=fun id=>by
   rw[A1];split
   ·rename_i hle;by_cases z8:id-fn.ntmps<ins.length
    ·have:=mg (ids:=sh) (n:=ins.length) (β':=β0) (fun k hk hd h=>by rw[Qn k hk,b0];exact h) z8 (L6.rows (id-fn.ntmps)) (jS _ z8).1;rw[Qn _ z8,show fn.ntmps+(id-fn.ntmps)=id by omega]at this;exact this
    ·have:ins.getD (id-fn.ntmps) .none = .none:=by simp[List.getD,zA7 (Nat.le_of_not_lt z8)]
     rw[this];trivial
   ·trivial
  inj:=fun i j b hi hj B3 P6=>by
   obtain⟨h1,h2⟩:=Mj i b B3;obtain⟨h3,h4⟩:=Mj j b P6;rw[A1,if_pos h1]at hi;rw[A1,if_pos h3]at hj;have:=L6.inj _ _ b (fun e=>hi (O9.2 e)) (fun e=>hj (O9.2 e)) h2 h4;omega
  bF:=fun i b hi B3=>by
   obtain⟨h1,h2⟩:=Mj i b B3;rw[A1,if_pos h1]at hi;exact L6.bF _ b (fun e=>hi (O9.2 e)) h2
  bB:=fun i b h=>⟨.inr ⟨_,(Mj i b h).2⟩,L6.bB _ b (Mj i b h).2⟩
  FB:=fun b hb=>⟨hF b hb,.inl hb⟩
  below := .refl _ _
  BW:=fun _ h => .inl h
  top:=fun _ _ h=>h
  topn:=fun j hj=>by
   simp only[A3]at hj;split at hj
   ·rename_i z8;simp only[List.length_append,u9,List.length_replicate,Nat.blt_eq]at z8;exact b0' j va5
   ·cases hj
  nn:=rfl
  inc:=fun _ h=>h
  keep:=C5.refl _ _
  sol:=fun _ _ _ h _=>h
  yl:=fun id l xs k e h=>by
   rw[A1]at h;split at h
   ·by_cases z8:id-fn.ntmps<ins.length
    ·have hu:=(jS _ z8).1;cases hr:ins.getD (id-fn.ntmps) .none<;>rw[hr]at h hu<;>simp[A0,D9]at h hu
    ·have:ins.getD (id-fn.ntmps) .none = .none:=by simp[List.getD,zA7 (Nat.le_of_not_lt z8)]
     rw[this]at h;cases h
   ·cases h }
 refine wpIn_mono (EH hm c h hR) ?_;have fin:∀ {S β1 F' a' w'} {l:List AV},Rel (fun b=>w.heap.size<=b∨jE β b) w (Env.plain P F β0 none .plain (fun _=>rfl)) S β1 F' a' w'->bN P S fn.results.toList=some l ->
   (∃ news:List Nat,(aw (sh++news) && Nat.beq o9.length (sh++news).length && res.under o9.length && o9.all (D9 o9.length))=true/\DT (fF l).fin fun v=>v=res.ren (sh++news)/\(sh++news).map S.row=o9.map (A0 (sh++news))) ->
   LeavesInM Fence.wide 0 P fn a'.tmps (fun e w'=>∃ v β' F',e = .returned v/\H3 (fun b=>w.heap.size<=b∨jE β b) w w'/\(∀ k hd,β k=some hd->β' k=some hd)/\(∀ b,F b->F' b) /\
    (∀ b,F' b->b<w'.heap.size/\(F b∨w.heap.size<=b∨jE β b))/\C4 β' F' w' res v/\(∀ k,y8 β' F' w' k (o9.getD k .none)) /\
    (∀ i j b,o9.getD i .none ≠ .none->o9.getD j .none ≠ .none->x7 β' i b->x7 β' j b->i=j)/\(∀ i b,o9.getD i .none ≠ .none->x7 β' i b->¬ F' b) /\
    (∀ i b,x7 β' i b->b<w'.heap.size/\(w.heap.size<=b∨jE β b))) a'.defers .returning w':=by
  rintro S β1 F' a' w' l M8 hl ⟨news,Uq,hv⟩;rw[dZ]at hv;obtain⟨hv,Mk⟩:=hv;simp only[zA2]at Uq;obtain⟨⟨⟨d1,d2⟩,d3⟩,d4⟩:=Uq;have d2:=zA8 d2;have gH:=iQ d1;obtain⟨t,ds⟩:=a';refine dR ds M8 fun Zn W5 => ?_
  obtain⟨v,h1,h2⟩:=nD W5 hl;rw[hv]at h2;obtain⟨al,Gx⟩:∃ al,sh++news=al:=⟨_,rfl⟩
  rw[Gx]at gH d2 h2 Mk;have alk:∀ k,k<ins.length->al.getD k 0=fn.ntmps+k:=fun k hk=>by
   rw[<- Qn k hk,<- Gx];simp[List.getD,List.getElem?_append,shl,hk]
  have a0T:ins.length<=al.length:=by rw[<- Gx,List.length_append,shl];omega
  let β2:Nat->Option Hd:=fun k=>if k<al.length then β1 (al.getD k 0)else none
  have e2:∀ k,k<o9.length->β2 k=β1 (al.getD k 0):=fun k hk=>by simp[β2,<- d2,hk]
  have cJ:∀ k b,x7 β2 k b->k<o9.length/\x7 β1 (al.getD k 0) b:=fun k b hb=>by
   by_cases z8:k<o9.length
   ·exact⟨z8,by simpa[x7,e2 k z8]using hb⟩
   ·simp[x7,β2,<- d2,z8]at hb
  have BX:∀ k,k<o9.length->S.row (al.getD k 0)=A0 al (o9.getD k .none):=fun k hk=>by
   have:(al.map S.row).getD k .none=(o9.map (A0 al)).getD k .none:=by rw[Mk]
   simpa[List.getD,List.getElem?_map,hk,d2 ▸ hk]using this
  have A5:∀ k,o9.getD k .none ≠ .none->k<o9.length/\S.row (al.getD k 0) ≠ .none:=fun k hk=>by
   by_cases z8:k<o9.length
   ·exact⟨z8,by rw[BX k z8];exact fun e=>hk (O9.1 e)⟩
   ·exact absurd (by simp[List.getD,zA7 (Nat.le_of_not_lt z8)]) hk
  refine⟨v,h1,v,β2,F',rfl,W5.below,fun k hd hk=>?_,W5.inc,W5.FB,h2.unren e2 d3 rfl,fun k=>?_,fun i j b hi hj B3 P6=>?_,fun i b hi B3=>?_,fun i b B3=>?_⟩
  ·have z8:k<ins.length:=by
    rcases Nat.lt_or_ge k ins.length with h|h
    ·exact h
    ·have:=L6.dead k (by simp[List.getD,zA7 h]);rw[this]at hk;cases hk
   have:=W5.top (fn.ntmps+k) hd (by show β0 (fn.ntmps+k)=some hd;rw[b0];exact hk);rw[e2 k va5,alk k z8];exact this
  ·by_cases z8:k<o9.length
   ·have:=W5.rows (al.getD k 0);rw[BX k z8]at this;exact iH e2 z8 (List.all_eq_true.1 d4 _ (by simp[List.getD,z8])) this
   ·have:o9.getD k .none = .none:=by simp[List.getD,zA7 (Nat.le_of_not_lt z8)]
    rw[this];trivial
  ·obtain⟨l1,r1⟩:=A5 i hi;obtain⟨l2,r2⟩:=A5 j hj;have heq:=W5.inj _ _ b r1 r2 (cJ i b B3).2 (cJ j b P6).2;have li:i<al.length:=by omega
   have lj:j<al.length:=by omega
   have e':al[i]=al[j]:=by simpa[List.getD,li,lj]using heq
   have hp:=List.pairwise_iff_getElem.1 gH;rcases Nat.lt_trichotomy i j with z8|rfl|sJ
   ·exact absurd e' (hp i j li lj z8)
   ·rfl
   ·exact absurd e'.symm (hp j i lj li sJ)
  ·exact W5.bF _ b (A5 i hi).2 (cJ i b B3).2
  ·have:=W5.bB _ b (cJ i b B3).2;exact⟨this.2,this.1⟩
 rintro e a' w' hq;cases e with
 | normal =>
  obtain⟨S',h1,β',F',M8⟩:=hq;simp only[]at h1;split at h1
  ·exact fin M8 ‹_› h1
  ·exact h1.elim
 | ret =>
  obtain⟨S',h1,β',F',M8⟩:=hq;simp only[]at h1;split at h1
  ·exact fin M8 ‹_› h1
  ·exact h1.elim
 | exit i=>obtain⟨S',h1,_⟩:=hq;exact h1.elim
 | goto l=>exact hq.elim
 | panic ch=>exact hq.elim
 | outgrown=>exact hq.elim
theorem EK(hm:P.follows .mixedOrders=true){f:FuncId}{fn:Func}{B2:List AV}{xs:List (List AV)}(hf:P.funcs[f]? = some fn)(J7:(fn.name == "runtime.NumGoroutine")=false) (h:GH P fn B2 xs):SQ P f B2 xs:=by
  intro F w us l J hF G0 Gw rP Xw hJ0;unfold GH at h;split at h
  · exact h.elim
  rename_i c hb;obtain⟨hle,h⟩:=h;have hle:=Nat.le_of_ble_eq_true hle;have h:=h l;rw[C3]at h;refine⟨fun args W=>Go.MuLone.run_callFunc_enter hf J7 hb args W,callsIn_of_wp_marks (n:=0) hf hb trivial ?_⟩
  let E:Env P:=⟨F,fun _=>none,none,.iter,fun _=>rfl,l,xs,J,fun _ _ _ _ _=>rfl,rP,Xw⟩
  let β0:Nat->Option Hd:=fun j=>if j=fn.ntmps then some ⟨none,0,0,jr⟩else none
  have Zo:∀ i b,¬ x7 β0 i b:=fun i b hb=>by
    by_cases e:i=fn.ntmps<;>simp[x7,β0,e]at hb
  have A1:∀ (t:List AV) id,(St.row ⟨t,List.replicate fn.ntmps .none++[.ctr l xs 0 false],.iter⟩ id)=if id=fn.ntmps then .ctr l xs 0 false else .none:=fun t id=>by
    simp only[St.row,List.getD];rcases Nat.lt_trichotomy id fn.ntmps with z8|rfl|sJ
    · rw[List.getElem?_append_left (by simpa using z8)]
      simp[Nat.ne_of_lt z8,z8]
    · rw[List.getElem?_append_right va9]
      simp
    · rw[List.getElem?_append_right (by simp;omega)]
      have:([Row.ctr l xs 0 false]:List Row)[id-(List.replicate fn.ntmps Row.none).length]? = none:=zA7 (by simp;omega);rw[this];simp[Nat.ne_of_gt sJ]
  have hR:Rel (fun _=>True) w E ⟨(AV.fn (.yield l) [] [] :: B2)++List.replicate (fn.ntmps-(B2.length+1)) AV.any,List.replicate fn.ntmps .none++[.ctr l xs 0 false],.iter⟩ β0 F { tmps:=(#[Value.func (.yield l) #[] #[]]++us)++Array.replicate (fn.ntmps-(#[Value.func (.yield l) #[] #[]]++us).size) undef,defers:=[] } w:={
    len:=by simp[G0];omega
    slots:=fun i hi=>by
      cases i with
      | zero =>
        have e2:((#[Value.func (.yield l) #[] #[]]++us)++Array.replicate (fn.ntmps-(#[Value.func (.yield l) #[] #[]]++us).size) undef).getD 0 undef = .func (.yield l) #[] #[]:=by
          simp[Array.getD_eq_getD_getElem?,Array.getElem?_append]
        show C4 β0 F w (.fn (.yield l) [] []) _
        rw[e2];exact .imm (.fn rfl (fun i hi=>absurd hi (zB3 i)) rfl (fun i hi=>absurd hi (zB3 i)))
      | succ i =>
        by_cases z8:i<B2.length
        · have e1:((AV.fn (.yield l) [] [] :: B2)++List.replicate (fn.ntmps-(B2.length+1)) AV.any).getD (i+1) .any=B2.getD i .any:=by
            simp[List.getD,List.getElem?_append,z8]
          have e2:((#[Value.func (.yield l) #[] #[]]++us)++Array.replicate (fn.ntmps-(#[Value.func (.yield l) #[] #[]]++us).size) undef).getD (i+1) undef=us.getD i undef:=by
            have h1:i<us.size:=by omega
            simp only[Array.getD_eq_getD_getElem?];rw[Array.getElem?_append_left (by simp;omega),Array.getElem?_append_right va9];simp
          rw[e1,e2];exact .imm (Gw i z8)
        · have e1:((AV.fn (.yield l) [] [] :: B2)++List.replicate (fn.ntmps-(B2.length+1)) AV.any).getD (i+1) .any = .any:=by
            simp only[List.getD];rw[List.getElem?_append_right (by simp;omega),List.getElem?_replicate];split<;>rfl
          rw[e1];exact .imm (.any _)
    marks:=⟨[],⟨rfl,fun _=>rfl⟩,.nil,by simp⟩
    rows:=fun id=>by
      rw[A1];split
      · rename_i e;rw[e];exact⟨⟨none,0,0,jr⟩,by simp[β0],rfl,rfl⟩
      · trivial
    inj:=fun i j b _ _ B3 _=>absurd B3 (Zo i b)
    bF:=fun i b _ B3=>absurd B3 (Zo i b)
    bB:=fun i b h=>absurd h (Zo i b)
    FB:=fun b hb=>⟨hF b hb,.inl hb⟩
    below := .refl _ _
    BW:=fun _ _=>trivial
    top:=fun _ _ h=>by cases h
    topn:=fun _ _=>rfl
    nn:=rfl
    inc:=fun _ h=>h
    keep:=C5.refl _ _
    sol:=fun _ _ _ h _=>h
    yl:=fun id l' Bi k e h=>by
      rw[A1]at h;split at h
      · rename_i DS
        cases h
        refine⟨rfl,rfl,⟨fun _=>trivial,rfl⟩,fun _=>False,hJ0,fun _ h=>h.elim,fun i b _ hb=>absurd hb (Zo i b),fun _ h => .inl h,fun D hD=>by simp at hD,fun oZ l' Bi k' e' h' => ?_⟩;rw[A1]at h';split at h'
        · rename_i e;rw[e,DS]
        · cases h'
      · cases h }
  refine wpIn_mono (EH hm c h hR) ?_;have fin:∀ {S β1 F' a' w'} {r:List AV},Rel (fun _=>True) w E S β1 F' a' w'->dA P S fn.results.toList=some r->(match S.row S.t.length with
        | .ctr _ _ k e'=>e'=false->k=xs.length
        | _=>False) ->
      LeavesInM Fence.wide 0 P fn a'.tmps (fun e W'=>(∃ v,e = .returned v)/\W'.os=w.os/\W'.tape=w.tape/\W'.output=w.output/\w.heap.size<=W'.heap.size/\∃ O k e',J k e' O W'/\(e'=false->k=xs.length)) a'.defers .returning w':=by
    intro S β1 F' a' w' r M8 hr hk;obtain⟨t,ds⟩:=a';refine dR ds M8 fun Zn W5 => ?_
    obtain⟨v,h1,h2⟩:=jT W5 hr;split at hk
    · rename_i l' Bi k e' hrw
      obtain⟨_,_,_,O,g1,_⟩:=W5.yl _ _ _ _ _ hrw;exact⟨v,h1,⟨v,rfl⟩,W5.below.os,W5.below.tape,W5.below.output,W5.below.size,O,k,e',g1,hk⟩
    · exact hk.elim
  rintro e a' w' hq;cases e with
  | normal =>
    obtain⟨S',h1,β',F',M8⟩:=hq;simp only[]at h1;split at h1
    · exact fin M8 ‹_› h1
    · exact h1.elim
  | ret =>
    obtain⟨S',h1,β',F',M8⟩:=hq;simp only[]at h1;split at h1
    · exact fin M8 ‹_› h1
    · exact h1.elim
  | exit i=>obtain⟨S',h1,_⟩:=hq;exact h1.elim
  | goto l=>exact hq.elim
  | panic ch=>exact hq.elim
  | outgrown=>exact hq.elim
end

end Go.Ev
