/- Helper lemmas. -/
import Derived.Test.YtpmmjoccamogdaaGreatEvSeven
import Derived.OrdersIn
import Derived.Conc.MuLone
import Derived.RangeFuncLeaves
set_option linter.unusedVariables false
set_option linter.unusedSimpArgs false
/- The executor itself. A helper text: it speaks of no program. -/
namespace Go.Ev
def bN (l:List Nat) (i:Nat):Bool:=l.any fun j=>Nat.beq j i
def jq {α:Type} (op:BinOp) (l:List α) (K:AV->Prop):Prop:=∀ b:Bool,(b=true->l=[])->K0 op (K (.bool b)) (K (.bool !b))
def St.frz (S:St):List Nat->St
 | []=>S
 | i :: l=>S.freeze (bN (i :: l))
def Ek (P:Program) (c:Call) (f:Operand) (S:St) (K:St->Out->Prop):Prop :=
 ∃ frz news:List Nat,news.all (u3 S)=true/\cb ((S.frz frz).kills news) fun S=>match S.get f with
  | .fn (.func h) first u4=>∃ (ids:List Nat) (E5:List AV) (ins l5:List Row) (res:AV),
    (PW P h E5 ins res l5/\first++c.args.toList.map S.get++u4=P8 ids E5/\ids.map S.row=ins.map (x6 ids)/\wB ids news E5 ins l5 res=true) /\
    K S ⟨res.ren (ids++news),(ids++news).zip (l5.map (x6 (ids++news)))⟩
  | _=>False
def jr (P:Program) (o:Oper) (S:St) (K:St->Out->Prop):Prop :=
 match o.op with
 | .makeFunc f xs ys=>match (xs.toList.map S.get++ys.toList.map S.get).flatMap (E7 4 S.row) with
  | []=>K S ⟨.fn f (xs.toList.map S.get) (ys.toList.map S.get),[]⟩
  | i :: l=>cb (S.freeze (bN (i :: l))) fun S=>K S ⟨.fn f (xs.toList.map S.get) (ys.toList.map S.get),[]⟩
 | .binOp op t x y yt=>match S.get y with
  | .nils=>match S.get x with
   | .sl _ _ _ l=>match P.underlying t with
    | some (.slice _)=>jq op l fun v=>K S ⟨v,[]⟩
    | _=>False
   | .own id=>match S.row id with
    | .vec _ _ _ _ l=>match P.underlying t with
     | some (.slice _)=>jq op l fun v=>K S ⟨v,[]⟩
     | _=>False
    | _=>False
   | _=>aG P o.dst (.binOp op t x y yt) S.get S.row fun out _=>K S out
  | _=>aG P o.dst (.binOp op t x y yt) S.get S.row fun out _=>K S out
 | .call c=>match c.callee with
  | .value f=>match S.get f with
   | .fn (.func _) first u4=>(match B4 (first++c.args.toList.map S.get++u4) with
    | true=>aG P o.dst (.call c) S.get S.row fun out _=>K S out
    | false=>∃ frz:Bool,match frz with
     | false=>aG P o.dst (.call c) S.get S.row fun out _=>K S out
     | true=>cb (S.freeze (bN ((first++c.args.toList.map S.get++u4).flatMap (E7 4 S.row)))) fun S=>aG P o.dst (.call c) S.get S.row fun out _=>K S out)∨Ek P c f S K
   | .fn (.yield l) [] []=>match S.row S.t.length with
    | .ctr l' xs k false=>(l=l'/\xs[k]? = some (c.args.toList.map S.get)/\Y7 (c.args.toList.map S.get)=true)/\K S ⟨.tt,[(S.t.length,.ctr l' xs (k + 1) false)]⟩/\K S ⟨.ff,[(S.t.length,.ctr l' xs (k + 1) true)]⟩
    | _=>False
   | _=>False
  | _=>aG P o.dst (.call c) S.get S.row fun out _=>K S out
 | op=>aG P o.dst op S.get S.row fun out _=>K S out
def Gv (P:Program) (o:Oper) (K:St->Out->Prop) (S:St):Prop :=
 match o.op with
 | .call c=>match c.callee with
  | .value f=>Ek P c f S K
  | _=>False
 | _=>False
def pL (P:Program) (o:Oper) (S:St) (K:St->Out->Prop):Prop:=Gs cb P o S K (Gv P o K) (jr P o S K)
def eP:AV->AV
 | .nils => .sl 1 (0:Int) R6 []
 | x=>x
def nq:List AV->Bool
 | []=>false
 | a :: l=>match a with
  | .nils=>true
  | _=>nq l
def tk:List AV->List Nat
 | []=>[]
 | a :: l=>match a with
  | .own i=>i :: tk l
  | _=>tk l
def Fm (op:Op):Bool :=
 match op with
 | .call c=>match c.callee with
  | .builtin .append=>true
  | _=>false
 | _=>false
def tn:List (List AV)->Bool
 | []=>false
 | cs :: l=>match nq cs with
  | true=>true
  | false=>tn l
def rM:List (List AV)->List (List AV)
 | []=>[]
 | cs :: l=>cs.map eP :: rM l
def unN (o:Oper) (S:St):St :=
 match o.op with
 | .call c=>match c.args.toList with
  | [s,x]=>match S.get s,S.get x with
   | .own id,.own q=>match S.row id,S.row q with
    | .vec _ _ _ _ _,.lit ty sz [cs]=>match nq cs with
     | true=>⟨S.t,S.h.set q (.lit ty sz [cs.map eP]),S.n⟩
     | false=>match tk cs with
      | []=>S
      | i :: l=>S.freeze (bN (i :: l))
    | .vec _ _ _ _ _,.lit ty sz (cs :: JC :: z7)=>match tn (cs :: JC :: z7) with
     | true=>⟨S.t,S.h.set q (.lit ty sz (rM (cs :: JC :: z7))),S.n⟩
     | false=>S
    | _,_=>S
   | _,_=>S
  | _=>S
 | _=>S
def rN (P:Program) (o:Oper) (S:St) (K:St->Out->Prop):Prop :=
 match Fm o.op with
 | true=>cb (unN o S) fun S=>pL P o S K
 | false=>pL P o S K
def Fo (P:Program) (o:Oper) (S:St) (K:St->Out->Prop):Prop :=
 match N2 o.op with
 | true=>match o.dst with
  | some d=>match u3 S d with
   | true=>cb (S.kill d) fun S=>rN P o S K
   | false=>False
  | none=>rN P o S K
 | false=>rN P o S K
def gW (all:List Oper) (k:Nat):Bool:=all.any fun o=>match o.guard with
 | some (j,_)=>Nat.beq j k
 | none=>false
def N7 (src:Bool) (out:Out) (K:Out->Prop):Prop :=
 match src with
 | true=>match out.v with
  | .bool b=>(b=true->K ⟨.tt,out.rows⟩)/\(b=false->K ⟨.ff,out.rows⟩)
  | _=>K out
 | false=>K out
def Gw:List AV->(List AV->Prop)->Prop
 | [],K=>K []
 | a :: l,K=>Gw l fun l=>K (a :: l)
theorem rO:∀ (l:List AV) (K:List AV->Prop),Gw l K=K l
 | [],_=>rfl
 | a :: l,K=>by simp only [Gw];rw [rO l]
def fV (S:St) (dst:Option Nat) (out:Out) (K:St->Prop):Prop :=
 match S with
 | ⟨St,Sh,Sn⟩=>match dst with
  | some d=>sX out.v fun v=>Gw (St.set d v) fun t=>match out.rows with
   | []=>K ⟨t,Sh,Sn⟩
   | r :: rs=>eo (m0 Sh (r :: rs)) fun h=>K ⟨t,h,Sn⟩
  | none=>match out.rows with
   | []=>K ⟨St,Sh,Sn⟩
   | r :: rs=>eo (m0 Sh (r :: rs)) fun h=>K ⟨St,h,Sn⟩
theorem bt (S:St) (dst:Option Nat) (out:Out) (K:St->Prop):fV S dst out K=K (S.put dst out):=by
 obtain ⟨v,rows⟩:=out
 obtain ⟨St,Sh,Sn⟩:=S
 cases dst with
 | none =>
  cases rows with
  | nil=>rfl
  | cons r rs=>simp only [fV];rw [M0];rfl
 | some d =>
  simp only [fV]
  rw [bg,rO]
  cases rows with
  | nil=>rfl
  | cons r rs=>simp only [];rw [M0];rfl
def CO:Row->Bool
 | .opq _=>true
 | _=>false
def CP (S:St):AV->Bool
 | .own id=>CO (S.row id)
 | .ptr id _ _ _=>CO (S.row id)
 | _=>false
def CQ (S:St):AV->Bool
 | .own q=>match S.row q with
  | .lit _ _ z7=>match z7 with
   | [[.mapv _]]=>true
   | _=>false
  | _=>false
 | _=>false
def tp (S:St) (o:Oper):Bool :=
 match o.op with
 | .makeMap _ _=>true
 | .mapUpdate _ _ _ _=>true
 | .range _ _=>true
 | .next _ _=>true
 | .entry _=>true
 | .indexAddr _ b _=>CP S (S.get b)
 | .load _ p=>CP S (S.get p)
 | .call c=>match c.callee with
  | .builtin .append=>match c.args.toList with
   | s :: x :: _=>match CP S (S.get s) with
    | true=>true
    | false=>CQ S (S.get x)
   | _=>false
  | _=>false
 | _=>false
def rP (S:St):List AV->Bool
 | []=>false
 | a :: l=>match a with
  | .own j=>match CO (S.row j) with
   | true=>true
   | false=>rP S l
  | _=>rP S l
def ns (S:St):List Operand->Bool
 | []=>false
 | x :: l=>match S.get x with
  | .ptr id _ _ _=>match S.row id with
   | .cells _ cs=>match rP S cs with
    | true=>true
    | false=>ns S l
   | _=>ns S l
  | _=>ns S l
def BY (S:St) (o:Oper):Bool :=
 match o.op with
 | .call c=>match c.callee with
  | .value _=>ns S c.args.toList
  | _=>tp S o
 | _=>tp S o
def X8 (P:Program) (o:Oper) (S:St) (R:St->Prop):Prop :=
 ∀ (B:Nat->Prop) (w0:World) (F0:Env P) (β:Nat->Option Hd) (F:Nat->Prop) (a:Act) (w:World) (Q:Exit->Act->World->Prop),Rel B w0 F0 S β F a w ->
  o.wpIn { Fence.wide with round:=F0.r } 0 P a w (fun a' w'=>∃ S',R S'/\∃ β' F',Rel B w0 F0 S' β' F' a' w') Q
def pM (P:Program) (all:List Oper):List Oper->Nat->St->(St->Prop)->Prop
 | [],_,S,K=>K S
 | o :: l,k,S,K=>match gw all.toArray S o with
  | some true=>match tp S o with
   | true=>∃ R:St->Prop,X8 P o S R/\∀ S',R S'->cb S' fun S'=>pM P all l (k + 1) S' K
   | false=>Fo P o S fun S out=>N7 (gW all k) out fun out=>fV S o.dst out fun S=>pM P all l (k + 1) S K
  | some false=>fV S o.dst ⟨.tup [],[]⟩ fun S=>pM P all l (k + 1) S K
  | none=>False
def av (P:Program) (all:List Oper):List Oper->Nat->St->List (List Nat×List Nat)->(St->Prop)->Prop
 | [],_,S,U9,K=>pJ all U9=true/\K S
 | o :: l,k,S,U9,K=>match gw all.toArray S o with
  | some true=>match BY S o with
   | true=>∃ (out:Out) (rd:List Nat),(∀ S':St,(∀ x ∈ x8 o.op,S'.get x=S.get x)->(∀ i ∈ rd,S'.row i=S.row i)->iD P o S' out)/\N7 (gW all k) out fun out=>fV S o.dst out fun S=>av P all l (k + 1) S (U9++[(rd,out.rows.map (·.1))]) K
   | false=>uI P o S.get S.row fun out rd=>N7 (gW all k) out fun out=>fV S o.dst out fun S=>av P all l (k + 1) S (U9++[(rd,out.rows.map (·.1))]) K
  | some false=>fV S o.dst ⟨.tup [],[]⟩ fun S=>av P all l (k + 1) S (U9++[([],[])]) K
  | none=>False
def V5 (P:Program) (l:List Oper):List Nat:=l.filterMap fun o=>match T9 P o with
 | true=>o.dst
 | false=>none
def lY (P:Program) (ops:Array Oper):Bool :=
 Region.lexFrom .any ops ops.size 0 (Array.replicate ops.size false) &&
 (List.range ops.size).all fun i=>match ops[i]? with
  | none=>true
  | some o => !T9 P o || (List.range ops.size).all fun j=>Nat.beq i j || match ops[j]? with
   | none=>true
   | some o'=>match o.dst,o'.dst with
    | some d,some d' => !(Nat.beq d d')
    | _,_=>true
def cL (l:List Oper):Bool:=l.all fun o=>match o.op with
 | .defer _=>false
 | _=>true
inductive Ex
 | norm|ret
 | exit (id:Nat)
def P2:Code->List Nat
 | .region _ ops _=>ops.toList.filterMap (·.dst)
 | .seq a b=>P2 a++P2 b
 | .cond _ a b=>P2 a++P2 b
 | .block _ a=>P2 a
 | .loop a=>P2 a
 | .scope a=>P2 a
 | _=>[]
def JD (i:Nat):List Nat->List AV->Option AV
 | w :: ws,v :: vs=>match Nat.beq i w with
  | true=>some v
  | false=>JD i ws vs
 | _,_=>none
def HS (i:Nat):List Nat->List Row->Option Row
 | w :: ws,v :: vs=>match Nat.beq i w with
  | true=>some v
  | false=>HS i ws vs
 | _,_=>none
def El:List Nat->(List Nat->Prop)->Prop
 | [],K=>K []
 | d :: l,K=>El l fun l=>K (d :: l)
theorem dK:∀ (l:List Nat) (K:List Nat->Prop),El l K=K l
 | [],_=>rfl
 | d :: l,K=>by simp only [El];rw [dK l]
def BZ (ds ws:List Nat) (I6:List AV) (vt:List Nat):Nat->List AV->List AV
 | _,[]=>[]
 | i,a :: l=>(match bR i vt with
  | true => .own i
  | false=>match JD i ws I6 with
   | some v=>v
   | none=>match bR i ds with
    | true => .any
    | false=>a) :: BZ ds ws I6 vt (i + 1) l
def Ca (ds bs:List Nat) (B0:List Row) (vt:List Nat) (C5:List Row):Nat->List Row->List Row
 | _,[]=>[]
 | i,a :: l=>(match HS i vt C5 with
  | some r=>r
  | none=>match HS i bs B0 with
   | some r=>r
   | none=>match bR i ds with
    | true => .none
    | false=>a) :: Ca ds bs B0 vt C5 (i + 1) l
def E9 (ds:List Nat) (S:St) (ws bs:List Nat) (vs:List (Nat×VT)) (I6:List AV) (B0 C5:List Row):St :=
 ⟨BZ ds ws I6 (vs.map (·.1)) 0 S.t,Ca ds bs B0 (vs.map (·.1)) C5 0 S.h,S.n⟩
def bu (ds:List Nat) (S0:St) (ws bs:List Nat) (vs:List (Nat×VT)) (S:St) (K:List AV->List Row->List Row->Prop):Prop :=
 cb (canonV vs S) fun S=>fL (ws.map fun i=>S.t.getD i .any) fun I6=>eo (bs.map S.row) fun B0=>eo (vs.map fun v=>S.row v.1) fun C5 =>
  K I6 B0 C5/\dk (E9 ds S0 ws bs vs I6 B0 C5).t S.t=some (E9 ds S0 ws bs vs I6 B0 C5).t /\
   bM (E9 ds S0 ws bs vs I6 B0 C5).h S.h=some (E9 ds S0 ws bs vs I6 B0 C5).h
def An (f:St->(Ex->St->Prop)->Prop):Nat->St->(Ex->St->Prop)->Prop
 | 0,_,_=>False
 | n + 1,S,Q=>f S fun e S=>match e with
  | .norm=>An f n S Q
  | e=>Q e S
def Z6:List AV->List Nat->List AV->List AV
 | t,p :: ps,x :: xs=>Z6 (t.set p x) ps xs
 | t,_,_=>t
def SQ (P:Program) (gf:FuncId) (u4:List AV) (xs:List (List AV)):Prop :=
 ∀ (F:Nat->Prop) (w:World) (us:Array Value) (l:Nat) (J:Nat->Bool->(Nat->Prop)->World->Prop),(∀ b,F b->b < w.heap.size)->us.size=u4.length->(∀ i,i < u4.length->p9 F w (u4.getD i .any) (us.getD i undef)) ->
  (∀ k e O w w',J k e O w->(∀ b,b < w.heap.size->¬ O b->w'.heap[b]? = w.heap[b]?)->w'.os=w.os->w'.tape=w.tape->w'.output=w.output->w.heap.size<=w'.heap.size->J k e (fun b=>O b∨(w.heap.size<=b/\b < w'.heap.size)) w') ->
  (∀ k O W vs x,J k false O W->xs[k]? = some x->(∀ b,O b->b < W.heap.size)->vs.size=x.length->(∀ i,i < x.length->p9 (fun _=>False) W (x.getD i .any) (vs.getD i undef)) ->
   YieldAt Fence.wide 0 P l vs W fun e W'=>W'.os=W.os/\W'.tape=W.tape/\W'.output=W.output/\W.heap.size<=W'.heap.size/\(∀ b,O b->W'.heap[b]? = W.heap[b]?)/\y0 F W W' /\
    ((e = .returned (.bool true)/\J (k + 1) false O W')∨(e = .returned (.bool false)/\J (k + 1) true O W'))) ->
  J 0 false (fun _=>False) w ->
  (∀ args W,(callFunc gf args).run P W = .ok (.enter gf args) W)/\CallsIn Fence.wide 0 P gf (#[.func (.yield l) #[] #[]]++us) w fun e W'=>(∃ v,e = .returned v)/\W'.os=w.os/\W'.tape=w.tape/\W'.output=w.output/\w.heap.size<=W'.heap.size /\
   ∃ O k e',J k e' O W'/\(e'=false->k=xs.length)
noncomputable def CR (ops:List Oper) (d:Nat):Option (TypeId×Operand) :=
 List.rec (motive:=fun _=>Option (TypeId×Operand)) none (fun o _ ih=>match o.op with
  | .load ty x=>match o.dst with
   | some e=>match Nat.beq e d with
    | true=>some (ty,x)
    | false=>ih
   | none=>ih
  | _=>ih) ops
noncomputable def wY (P:Program) (S:St) (ops:List Oper):List Nat :=
 List.rec (motive:=fun _=>List Nat) [] (fun o _ ih=>match o.op with
  | .call c=>match c.callee with
   | .value _=>match c.args.toList with
    | [.tmp d]=>match P.underlying o.type with
     | some (.struct _)=>match CR ops d with
      | some (ty,x)=>match Nat.beq ty o.type with
       | true=>match S.get x with
        | .ptr id _ _ _=>match S.row id with
         | .cells _ cs=>tk cs
         | _=>ih
        | _=>ih
       | false=>ih
      | none=>ih
     | _=>ih
    | _=>ih
   | _=>ih
  | _=>ih) ops
noncomputable def preF (P:Program) (S:St) (ops:List Oper):St:=S.frz (wY P S ops)
def ex (P:Program):Code->St->(Ex->St->Prop)->Prop
 | .skip,S,Q=>Q .norm S
 | .label _,S,Q=>Q .norm S
 | .scope c,S,Q=>ex P c S Q
 | .region id ops draw,S,Q=>match draw with
  | false=>pM P ops.toList ops.toList 0 S fun S=>cb S (Q .norm)
  | true=>cb (preF P S ops.toList) fun S=>(lY P ops && (V5 P ops.toList).all (u3 S) && cL ops.toList)=true/\cb (S.kills (V5 P ops.toList)) fun S=>av P ops.toList ops.toList 0 S [] fun S=>cb S (Q .norm)
 | .seq a b,S,Q=>ex P a S fun e S=>match e with
  | .norm=>ex P b S Q
  | e=>Q e S
 | .cond c a b,S,Q=>match S.get c with
  | .tt=>ex P a S Q
  | .ff=>ex P b S Q
  | .bool x=>(x=true->ex P a S Q)/\(x=false->ex P b S Q)
  | _=>False
 | .block id c,S,Q=>ex P c S fun e S=>match e with
  | .exit i=>match Nat.beq i id with
   | true=>Q .norm S
   | false=>Q (.exit i) S
  | e=>Q e S
 | .loop c,S,Q=>(∃ n,An (ex P c) n S Q) ∨
   ∃ (ι:Type) (ws bs:List Nat) (vs:List (Nat×VT)) (V:ι->List AV) (BR VR:ι->List Row) (μ:ι->Nat) (I:ι->Prop),El (P2 c) fun ds=>cb (canonV vs S) fun S0 =>
    (∃ i,bu ds S0 ws bs vs S fun I6 B0 C5=>I i/\I6=V i/\B0=BR i/\C5=VR i) /\
    ∀ i,I i->cb (E9 ds S0 ws bs vs (V i) (BR i) (VR i)) fun S1=>ex P c S1 fun e S2=>match e with
     | .norm=>∃ i',bu ds S0 ws bs vs S2 fun I6 B0 C5=>(μ i' < μ i/\I i')/\I6=V i'/\B0=BR i'/\C5=VR i'
     | e=>Q e S2
 | .rangeFunc g ps assign body,S,Q=>match S.n with
  | .round _=>False
  | .iter=>False
  | .plain=>match S.get g with
   | .fn (.func gf) [] u4=>B4 u4=true /\
    ∃ (xs:List (List AV)) (bs:List Nat) (BR:Nat->List Row) (I:Nat->Prop),(SQ P gf u4 xs/\∀ x ∈ xs,Y7 x=true/\x.length=ps.size) /\
     El (ps.toList++(P2 assign++P2 body)) fun ds=>ds.all (u3 S)=true /\
      (bu ds S [] bs [] S fun I6 B0 C5=>I 0/\I6=[]/\B0=BR 0/\C5=[]) /\
      (∀ k x,I k->xs[k]? = some x->cb ((E9 ds S [] bs [] [] (BR k) []).kills ds) fun S1=>cb ⟨Z6 S1.t ps.toList x,S1.h,.round ds⟩ fun S2 =>
       ex P assign S2 fun e S3=>match e with
        | .norm=>ex P body S3 fun e S4=>match e with
         | .norm=>eo (bs.map S4.row) fun B0=>(I (k + 1)/\B0=BR (k + 1))/\bM ((E9 ds S [] bs [] [] B0 []).kills ds).h S4.h=some ((E9 ds S [] bs [] [] B0 []).kills ds).h
         | e=>Q e ⟨S1.t,S4.h,.plain⟩
        | _=>False) /\
      (I xs.length->cb ((E9 ds S [] bs [] [] (BR xs.length) []).kills ds) (Q .norm))
   | _=>False
 | .ret,S,Q=>Q .ret S
 | .exit id,S,Q=>Q (.exit id) S
 | _,_,_=>False
def aM (P:Program) (S:St):List ResultVar->Option (List AV)
 | []=>some []
 | .tmp t :: l=>match aM P S l with
  | some r=>some (z8 4 S.row (S.t.getD t .any) :: r)
  | none=>none
 | .cell x t :: l=>match aM P S l with
  | none=>none
  | some r=>match P.info? t,P.underlying t with
   | some i,some d=>match S.t.getD x .any with
    | .ptr id sz j off=>match S.row id with
     | .cells _ cs=>match dh (Q3 d) i.size cs (j * sz + off) with
      | some v=>some (z8 4 S.row v :: r)
      | none=>none
     | _=>none
    | _=>none
   | _,_=>none
def AV.fin1:AV->AV
 | .tt => .bool true
 | .ff => .bool false
 | x=>x
def AV.fin:AV->AV
 | .tt => .bool true
 | .ff => .bool false
 | .tup l => .tup (l.map AV.fin1)
 | x=>x
def cn:List AV->AV
 | [x]=>x
 | l => .tup l
def body (P:Program) (fn:Func) (args:List AV) (res:AV):Prop :=
 match fn.body with
 | none=>False
 | some c=>cb ⟨args++List.replicate (fn.ntmps - args.length) .any,List.replicate fn.ntmps .none,.plain⟩ fun S=>ex P c S fun e S=>match e with
  | .exit _=>False
  | _=>match aM P S fn.results.toList with
   | some l=>sX (cn l).fin fun v=>v=res
   | none=>False
def T1 (P:Program) (S:St):List ResultVar->Option (List AV)
 | []=>some []
 | .tmp t :: l=>match T1 P S l with
  | some r=>some (S.t.getD t .any :: r)
  | none=>none
 | .cell x t :: l=>match T1 P S l with
  | none=>none
  | some r=>match P.info? t,P.underlying t with
   | some i,some d=>match S.t.getD x .any with
    | .ptr id sz j off=>match S.row id with
     | .cells _ cs=>match dh (Q3 d) i.size cs (j * sz + off) with
      | some v=>some (v :: r)
      | none=>none
     | _=>none
    | _=>none
   | _,_=>none
def tq (P:Program) (fn:Func) (args:List AV) (ins:List Row) (res:AV) (l5:List Row):Prop :=
 match fn.body with
 | none=>False
 | some c=>(O6 ins.length args && ins.all (fun r=>A4 ins.length r && r.live) && Nat.ble args.length fn.ntmps)=true /\
  cb ⟨P8 (List.range' fn.ntmps ins.length) args++List.replicate (fn.ntmps - args.length) .any,List.replicate fn.ntmps .none++ins.map (x6 (List.range' fn.ntmps ins.length)),.plain⟩ fun S=>ex P c S fun e S=>match e with
  | .exit _=>False
  | _=>match T1 P S fn.results.toList with
   | some l=>∃ news:List Nat,(aq (List.range' fn.ntmps ins.length++news) && Nat.beq l5.length (List.range' fn.ntmps ins.length++news).length && res.under l5.length && l5.all (A4 l5.length))=true /\
     sX (cn l).fin fun v=>v=res.ren (List.range' fn.ntmps ins.length++news)/\(List.range' fn.ntmps ins.length++news).map S.row=l5.map (x6 (List.range' fn.ntmps ins.length++news))
   | none=>False
def ts (P:Program) (fn:Func) (u4:List AV) (xs:List (List AV)):Prop :=
 match fn.body with
 | none=>False
 | some c=>Nat.ble (u4.length + 1) fn.ntmps=true/\∀ l:Nat,cb ⟨(.fn (.yield l) [] [] :: u4)++List.replicate (fn.ntmps - (u4.length + 1)) .any,List.replicate fn.ntmps .none++[.ctr l xs 0 false],.iter⟩ fun S=>ex P c S fun e S=>match e with
  | .exit _=>False
  | _=>match aM P S fn.results.toList with
   | some _=>match S.row S.t.length with
    | .ctr _ _ k e'=>e'=false->k=xs.length
    | _=>False
   | none=>False
/- Why the executor is right. A helper text: it speaks of no program. -/
section
variable {P:Program} {B:Nat->Prop} {w0:World} {F0:Env P} {S:St} {β:Nat->Option Hd} {F:Nat->Prop} {a:Act} {w:World} {ops:Array Oper}
theorem B1 (hR:Rel B w0 F0 S β F a w) {o:Oper} (u5:N2 o.op=true->∀ d,o.dst=some d->β d=none) {K:St->Out->Prop} (h:aG P o.dst o.op S.get S.row fun out _=>K S out) {Q:Exit->Act->World->Prop} :
  o.wp P a w (K1 B w0 F0 o.dst K) Q:=by
 refine Oper.wp_mono ?_ (tf hR u5 h)
 rintro a' w' ⟨out,rd,hK,β',F',_,F7⟩
 exact ⟨S,out,hK,β',F',F7⟩
theorem bw (hR:Rel B w0 F0 S β F a w) {o:Oper} {op:BinOp} {t yt:TypeId} {x y:Operand} (ho:o.op = .binOp op t x y yt) {e:TypeId} (hu:P.underlying t=some (.slice e)) {α:Type} {l:List α}
  (hy:S.get y = .nils) (hx:∃ p n c,a.eval x = .slice p n c/\(p=none->l=[])) {K:St->Out->Prop} (h:jq op l fun v=>K S ⟨v,[]⟩) {Q:Exit->Act->World->Prop}:o.wp P a w (K1 B w0 F0 o.dst K) Q:=by
 obtain ⟨p,n,c,hv,hp⟩:=hx
 have gP:=hR.get y
 rw [hy] at gP
 have GV:=gP.nils_inv
 have heq:(Op.equal t (.slice p n c) (.slice none 0 0)).run P w = .ok p.isNone w:=by
  cases p with
  | none=>exact aD hu none n c 0 0
  | some q=>exact bh hu q n c
 have hK:=I1 (h p.isNone (fun hb=>hp (by cases p<;>simp_all)))
 obtain ⟨r,v,h1,h2,h3⟩:=aj (β:=β) (F:=F) (K:=fun v=>K S ⟨v,[]⟩) x y heq ⟨nofun,nofun,nofun,nofun⟩ (C3 op t x y nofun nofun) (.imm (.bool _)) (.imm (.bool _)) hK
 refine C4 (s:=do eqGuard op t x y (.slice p n c) (.slice none 0 0);binOp op t (.slice p n c) (.slice none 0 0)) (by simp [execOp,ho,hv,GV]) h1 ?_
 exact ⟨S,_,h3,β,F,hR.still h2⟩
abbrev FW (r:Option Nat):Fence:={ Fence.wide with round:=r }
theorem rQ {r:Option Nat} {f:FuncId} {vs:Array Value} {R:Ending->World->Prop} (h:Calls P f vs w R):CallsIn (FW r) 0 P f vs w R:=callsIn_wide.2 h
theorem D7 {r:Option Nat} {o:Oper} {next:Act->World->Prop} {Q:Exit->Act->World->Prop} (hd:∀ c,o.op ≠ .defer c) (h:o.wp P a w next Q):o.wpIn (FW r) 0 P a w next Q:=by
 refine ⟨fun _ _=>trivial,?_⟩
 rw [Oper.semAt_eq _ _ _ hd]
 unfold Oper.wp at h
 generalize (execOp a.eval o).run P w=res at h ⊢
 have tu:∀ {p:Prop},(FW r).depth.isSome=true->p:=fun h=>by cases h
 cases res with
 | ok x w' =>
  cases x<;>first
   | exact h
   | exact h.elim
   | exact ⟨tu,rQ h⟩
   | exact ⟨tu,fun c cs _=>let ⟨v,w',r,s⟩:=h c cs;⟨v,w',r,stepsIn_wide.2 s⟩⟩
 | halt x w'=>cases x<;>first|exact h|exact h.elim
theorem pN (hR:Rel B w0 F0 S β F a w) {o:Oper} {c:Call} {f:Operand} (ho:o.op = .call c) (hb:c.callee = .value f) {bk:FuncId} {first u4:List AV} (hg:S.get f = .fn (.func bk) first u4) :
  ∃ V:Array Value,execOp a.eval o=callFunc bk V/\V.size=(first++c.args.toList.map S.get++u4).length/\∀ i,i < (first++c.args.toList.map S.get++u4).length->v7 β F w ((first++c.args.toList.map S.get++u4).getD i .any) (V.getD i undef):=by
 have hf:=hR.get f
 rw [hg] at hf
 obtain ⟨vs,us,hv,l1,l2,r1,r2⟩:=hf.fn_inv
 obtain ⟨l3,r3⟩:=E0 hR c.args
 refine ⟨vs++c.args.map a.eval++us,?_,by simp [l1,l2],fun i hi=>?_⟩
 ·simp only [execOp,ho,resolve,hb,hv,Deferred.ofValue]
  rfl
 ·by_cases h1:i < first.length
  ·have e1:(first++c.args.toList.map S.get++u4).getD i .any=first.getD i .any:=by simp [List.getD,List.getElem?_append,h1]
   have e2:(vs++c.args.map a.eval++us).getD i undef=vs.getD i undef:=by
    have:i < vs.size:=by omega
    simp [Array.getD_eq_getD_getElem?,Array.getElem?_append,this]
   rw [e1,e2];exact r1 i h1
  ·by_cases h2:i < first.length + (c.args.toList.map S.get).length
   ·have e1:(first++c.args.toList.map S.get++u4).getD i .any=(c.args.toList.map S.get).getD (i - first.length) .any:=by
     simp only [List.getD,List.append_assoc]
     rw [List.getElem?_append_right (by omega),List.getElem?_append_left (by omega)]
    have e2:(vs++c.args.map a.eval++us).getD i undef=(c.args.map a.eval).getD (i - first.length) undef:=by
     simp only [Array.getD_eq_getD_getElem?,Array.append_assoc]
     rw [Array.getElem?_append_right (by omega),Array.getElem?_append_left (by rw [<- l1,<- l3];omega),l1]
    rw [e1,e2];exact r3 _ (by omega)
   ·have e1:(first++c.args.toList.map S.get++u4).getD i .any=u4.getD (i - first.length - (c.args.toList.map S.get).length) .any:=by
     simp only [List.getD,List.append_assoc]
     rw [List.getElem?_append_right (by omega),List.getElem?_append_right (by omega)]
    have e2:(vs++c.args.map a.eval++us).getD i undef=us.getD (i - first.length - (c.args.toList.map S.get).length) undef:=by
     simp only [Array.getD_eq_getD_getElem?,Array.append_assoc]
     rw [Array.getElem?_append_right (by omega),Array.getElem?_append_right (by rw [<- l1,<- l3];omega),l1,l3]
    rw [e1,e2]
    exact r2 _ (by simp only [List.length_append] at hi;omega)
theorem bz:∀ {l:List Nat},aq l=true->l.Nodup
 | [],_ => .nil
 | a :: l,h=>by
  have hm:∀ {m:List Nat},bR a m=false->a ∉ m:=by
   intro m
   induction m with
   | nil=>intro _;simp
   | cons d m ih =>
    intro h
    simp only [bR] at h
    cases hb:Nat.beq a d with
    | true=>simp [hb] at h
    | false =>
     simp only [hb] at h
     have:=Nat.ne_of_beq_eq_false hb
     simp [this,ih h]
  simp only [aq] at h
  cases hh:bR a l with
  | true=>simp [hh] at h
  | false=>simp only [hh] at h;exact List.nodup_cons.2 ⟨hm hh,bz h⟩
theorem js {a:Nat}:∀ {m:List Nat},bR a m=true↔a ∈ m
 | []=>by simp [bR]
 | d :: m=>by
  simp only [bR,List.mem_cons]
  cases hb:Nat.beq a d with
  | true=>have:=Nat.eq_of_beq_eq_true hb;simp [this]
  | false =>
   have:=Nat.ne_of_beq_eq_false hb
   simp [this,js (m:=m)]
theorem dL (hR:Rel B w0 F0 S β F a w) {o:Oper} {c:Call} {f:Operand} (ho:o.op = .call c) (hb:c.callee = .value f) {bk:FuncId} {first u4:List AV} (hg:S.get f = .fn (.func bk) first u4) {ids news:List Nat} (u5:∀ d ∈ news,β d=none)
  {E5:List AV} {ins l5:List Row} {res:AV} (wZ:PW P bk E5 ins res l5) (N1:first++c.args.toList.map S.get++u4=P8 ids E5) (db:ids.map S.row=ins.map (x6 ids)) (wj:wB ids news E5 ins l5 res=true) {Q:Exit->Act->World->Prop} :
  o.wp P a w (fun a' w'=>∃ β' F',Rel B w0 F0 (S.put o.dst ⟨res.ren (ids++news),(ids++news).zip (l5.map (x6 (ids++news)))⟩) β' F' a' w'/\(∀ j,(j ∉ ids++news∨β j≠none)->β' j=β j)/\∀ k,k < ids.length->β (ids.getD k 0)≠none) Q:=by
 simp only [wB,Bool.and_eq_true] at wj
 obtain ⟨⟨⟨⟨⟨⟨b1,b2⟩,b3⟩,b4⟩,b5⟩,b6⟩,b7⟩:=wj
 have b2:=Nat.eq_of_beq_eq_true b2
 have b3:=Nat.eq_of_beq_eq_true b3
 obtain ⟨V,hex,C1,G8⟩:=pN hR ho hb hg
 rw [N1] at C1 G8
 rw [n8] at C1 G8
 let βi:Nat->Option Hd:=fun k=>if k < ids.length then β (ids.getD k 0) else none
 have uF:∀ k,k < ids.length->βi k=β (ids.getD k 0):=fun k hk=>by simp [βi,hk]
 have ET:∀ k,ids.length<=k->βi k=none:=fun k hk=>by simp [βi,Nat.not_lt.2 hk]
 have o9:∀ k,k < ids.length->S.row (ids.getD k 0)=x6 ids (ins.getD k .none):=fun k hk=>by
  have:(ids.map S.row).getD k .none=(ins.map (x6 ids)).getD k .none:=by rw [db]
  simpa [List.getD,List.getElem?_map,hk,b2 ▸ hk] using this
 have hu:∀ k,k < ids.length->A4 ids.length (ins.getD k .none)=true/\ins.getD k .none ≠ .none:=fun k hk=>by
  have hm:ins.getD k .none ∈ ins:=by simp [List.getD,b2 ▸ hk]
  have:=List.all_eq_true.1 b5 _ hm
  simp only [Bool.and_eq_true] at this
  exact ⟨this.1,fun e=>by rw [e] at this;simp [Row.live] at this⟩
 have v5:∀ k,k < ids.length->S.row (ids.getD k 0) ≠ .none:=fun k hk e=>by
  rw [o9 k hk,H0] at e;exact (hu k hk).2 e
 have Fp:∀ k,ids.length<=k->ins.getD k .none = .none:=fun k hk=>by simp [List.getD,List.getElem?_eq_none (b2 ▸ hk)]
 have eA:∀ k b,o7 βi k b->k < ids.length/\o7 β (ids.getD k 0) b:=fun k b hk=>by
  by_cases u2:k < ids.length
  ·exact ⟨u2,by simpa [o7,uF k u2] using hk⟩
  ·simp [o7,ET k (Nat.le_of_not_lt u2)] at hk
 have Y6:=bz b1
 have Fq:∀ i j,i < ids.length->j < ids.length->ids.getD i 0=ids.getD j 0->i=j:=fun i j hi hj e=>by
  have e':ids[i]=ids[j]:=by simpa [List.getD,hi,hj] using e
  have hp:=List.pairwise_iff_getElem.1 (List.nodup_append.1 Y6).1
  rcases Nat.lt_trichotomy i j with u2|rfl|kX
  ·exact absurd e' (hp i j hi hj u2)
  ·rfl
  ·exact absurd e'.symm (hp j i hj hi kX)
 have K8:pz βi F w ins:={
  rows:=fun k=>by
   by_cases u2:k < ids.length
   ·have:=hR.rows (ids.getD k 0)
    rw [o9 k u2] at this
    exact bp uF u2 (hu k u2).1 this
   ·rw [Fp k (Nat.le_of_not_lt u2)];trivial
  inj:=fun i j b _ _ u9 J5=>by
   obtain ⟨l1,k1⟩:=eA i b u9
   obtain ⟨l2,k2⟩:=eA j b J5
   exact Fq i j l1 l2 (hR.inj _ _ b (v5 i l1) (v5 j l2) k1 k2)
  bF:=fun i b _ u9=>by
   obtain ⟨l1,k1⟩:=eA i b u9
   exact hR.bF _ b (v5 i l1) k1
  bB:=fun i b u9=>(hR.bB _ b (eA i b u9).2).2
  dead:=fun i hi=>by
   by_cases u2:i < ids.length
   ·exact absurd hi (hu i u2).2
   ·exact ET i (Nat.le_of_not_lt u2) }
 obtain ⟨h1,h2⟩:=wZ F w V βi (fun b hb=>(hR.FB b hb).1) C1 (fun i hi=>(G8 i hi).unren uF (A9 b4 i) (by rw [z6])) K8
 unfold Oper.wp
 rw [hex,h1]
 refine h2.mono ?_
 rintro e w' ⟨v,β',F',rfl,g1,g2,g3,g4,g5,g6,g7,g8,g9⟩
 obtain ⟨β'',uG,bW,eN⟩:=hR.calledW (dst:=o.dst) Y6 u5 (fun k hk=>⟨uF k hk,v5 k hk⟩) ET g1 g2 g3 g4 g5 b6 g6 (fun k=>by
  by_cases hk:k < l5.length
  ·exact List.all_eq_true.1 b7 _ (by simp [List.getD,hk])
  ·simp [List.getD,List.getElem?_eq_none (Nat.le_of_not_lt hk),A4]) b3 g7 g8 g9
 exact ⟨β'',uG,bW,eN,fun k hk=>by
  obtain ⟨hd,h⟩:=(hR.rows (ids.getD k 0)).some (v5 k hk)
  rw [h];simp⟩
theorem nt (hR:Rel B w0 F0 S β F a w) {o:Oper} {c:Call} {f:Operand} (ho:o.op = .call c) (hb:c.callee = .value f) {K:St->Out->Prop} (h:Ek P c f S K) {Q:Exit->Act->World->Prop} :
  o.wp P a w (K1 B w0 F0 o.dst K) Q:=by
 obtain ⟨frz,news,S5,h⟩:=h
 rw [w9] at h
 obtain ⟨S1,F1,Gu,bn,JE⟩:∃ S1 F1,S1=S.frz frz/\Rel B w0 F0 S1 β F1 a w/\∀ d,u3 S d=true->F0.β d=none:=by
  cases frz with
  | nil=>exact ⟨_,F,rfl,hR,hR.topn⟩
  | cons i l =>
   obtain ⟨F',F7⟩:=hR.freeze (bN (i :: l))
   exact ⟨_,F',rfl,F7,hR.topn⟩
 rw [<- Gu] at h
 obtain ⟨β2,u5,_,eJ⟩:=bn.kills news (fun d hd=>JE d (List.all_eq_true.1 S5 d hd))
 generalize S1.kills news=S2 at h eJ
 split at h
 ·rename_i bk first u4 hg
  obtain ⟨ids,E5,ins,l5,res,⟨wZ,N1,db,wj⟩,hK⟩:=h
  refine Oper.wp_mono ?_ (dL eJ ho hb hg u5 wZ N1 db wj)
  rintro a' w' ⟨β'',uG,bW,_⟩
  exact ⟨_,_,hK,β'',uG,bW⟩
 ·exact h.elim
theorem Yl.snd {o:Oper} {out:Out} {rd:List Nat} (hy:Yl P o S out rd) (hR:Rel B w0 F0 S β F a w) (u5:T9 P o=true->∀ d,o.dst=some d->β d=none) {Q:Exit->Act->World->Prop} :
  o.wp P a w (fun a' w'=>∃ β' F',(∀ j,o.dst≠some j->β' j=β j)/\Rel B w0 F0 (S.put o.dst out) β' F' a' w') Q:=by
 obtain ⟨v0,hf,hy⟩:=hy
 rcases hy S (fun _ _=>rfl) (fun _ _=>rfl) with h|h
 rotate_left
 ·refine Oper.wp_mono ?_ (h _ _ _ _ _ _ _ Q hR u5)
  rintro a' w' ⟨β',F',h4,h5⟩
  exact ⟨β',F',h4,h5.fine hf⟩
 have tj:N2 o.op=true->∀ d,o.dst=some d->β d=none:=fun ha=>u5 (by simp [T9,ha])
 have hE:aG P o.dst o.op S.get S.row (fun o' d=>o'=⟨v0,out.rows⟩/\d=rd)->o.wp P a w (fun a' w'=>∃ β' F',(∀ j,o.dst≠some j->β' j=β j)/\Rel B w0 F0 (S.put o.dst out) β' F' a' w') Q:=fun h=>by
  refine Oper.wp_mono ?_ (tf hR tj h)
  rintro a' w' ⟨KN,Mn,⟨rfl,h3⟩,β',F',h4,h5⟩
  exact ⟨β',F',h4,h5.fine hf⟩
 unfold uI at h
 split at h
 ·rcases h with h|h
  ·exact hE h
  ·unfold wX at h
   split at h
   ·rename_i c ho
    split at h
    ·rename_i f hb
     split at h
     ·rename_i bk first u4 hg
      obtain ⟨nw,ids,E5,ins,l5,res,⟨wZ,N1,db,wj⟩,rm,_⟩:=h
      have S5:∀ d ∈ dJ nw (Z5 P o) o.dst,o.dst=some d/\Z5 P o=true:=fun d hd=>by
       unfold dJ at hd
       split at hd
       ·split at hd
        ·rename_i eC
         split at hd
         ·rename_i d' hd'
          obtain rfl:=List.mem_singleton.1 hd
          exact ⟨hd',eC⟩
         ·cases hd
        ·cases hd
       ·cases hd
      refine Oper.wp_mono ?_ (dL hR ho hb hg (fun d hd=>u5 (by simp [T9,(S5 d hd).2]) d (S5 d hd).1) wZ N1 db wj)
      rintro a' w' ⟨β'',uG,bW,eN,v5⟩
      refine ⟨β'',uG,fun j hj=>eN j ?_,?_⟩
      ·by_cases hm:j ∈ ids++dJ nw (Z5 P o) o.dst
       ·rcases List.mem_append.1 hm with hm|hm
        ·right
         obtain ⟨k,hk,e⟩:=List.getElem_of_mem hm
         have:=v5 k hk
         simpa [List.getD,hk,e] using this
        ·exact absurd (S5 j hm).1 hj
       ·exact .inl hm
      ·have gX:Rel B w0 F0 (S.put o.dst ⟨v0,out.rows⟩) β'' uG a' w':=by
        rw [<- rm]
        exact bW
       exact gX.fine hf
     ·exact h.elim
    ·exact h.elim
   ·exact h.elim
 ·split at h
  ·rename_i hn
   rcases h with h|h
   ·exact hE h
   ·unfold wU at h
    split at h
    ·rename_i c ho
     split at h
     ·rename_i f hb
      split at h
      ·rename_i bk first u4 hg
       split at h
       ·rename_i d hd
        obtain ⟨row,⟨wZ,N0,o9⟩,rm,_⟩:=h
        obtain ⟨V,hex,C1,G8⟩:=pN hR ho hb hg
        have K8:pz (fun _=>none) F w []:={
         rows:=fun k=>by simp [s9]
         inj:=fun i j b hi _ _ _=>absurd rfl hi
         bF:=fun i b hi _=>absurd rfl hi
         bB:=fun i b h=>by simp [o7] at h
         dead:=fun _ _=>rfl }
        obtain ⟨h1,h2⟩:=wZ F w V (fun _=>none) (fun b hb=>(hR.FB b hb).1) C1 (fun i hi => .imm ((G8 i hi).shut (B8 N0 i))) K8
        unfold Oper.wp
        rw [hex,h1]
        refine h2.mono ?_
        rintro e w' ⟨v,β',F',rfl,g1,g2,g3,g4,g5,g6,g7,g8,g9⟩
        have hu:∀ n,A4 n row=true:=fun n=>by cases row<;>first|rfl|(simp [wT] at o9)
        have HT:∀ ids,x6 ids row=row:=fun ids=>by cases row<;>first|rfl|(simp [wT] at o9)
        obtain ⟨β'',uG,bW,eN⟩:=hR.calledW (ids:=[]) (news:=[d]) (dst:=o.dst) (by simp) (by intro d' hd'; simp at hd'; subst hd'; exact u5 (by simp [T9,hn]) _ hd) (fun k hk=>absurd hk (Nat.not_lt_zero k)) (fun _ _=>rfl) g1 g2 g3 g4 g5 rfl g6 (fun k=>by
         rcases k with _|k
         ·exact hu _
         ·rfl) rfl g7 g8 g9
        refine ⟨β'',uG,fun j hj=>eN j (.inl (by simp;rintro rfl;exact hj hd)),?_⟩
        have gX:Rel B w0 F0 (S.put o.dst ⟨v0,out.rows⟩) β'' uG (a.put o.dst v) w':=by
         rw [<- rm]
         simpa [AV.ren,HT] using bW
        exact gX.fine hf
       ·exact h.elim
      ·exact h.elim
     ·exact h.elim
    ·exact h.elim
  ·exact hE h
theorem nv {o:Oper} {K:St->Out->Prop} (h:jr P o S K):∀ c,o.op ≠ .defer c:=by
 intro c e
 unfold jr at h
 rw [e] at h
 exact h
theorem Rel.yielded (hR:Rel B w0 F0 S β F a w) {id l:Nat} {xs:List (List AV)} {k:Nat} (o9:S.row id = .ctr l xs k false) {O:Nat->Prop} (HU:∀ b,O b->b < w.heap.size) (v5:∀ i b,S.row i ≠ .none->o7 β i b->O b) (JF:∀ b,F b->F0.F b∨O b)
  (hm:∀ D,I0 D ∈ a.defers->O D) (Fs:∀ fM l' oR k' e',S.row fM = .ctr l' oR k' e'->fM=id) (hl:l=F0.l) (hx:xs=F0.xs) (hB:∀ b,B b) (hr:F0.r=none) {w':World} (cR:w'.os=w.os/\w'.tape=w.tape/\w'.output=w.output) (Q2:w.heap.size<=w'.heap.size)
  (hO:∀ b,O b->w'.heap[b]? = w.heap[b]?) (Ft:y0 F0.F w w') {e:Bool} (hJ:F0.J (k + 1) e O w'):Rel B w0 F0 ⟨S.t,S.h.set id (.ctr l xs (k + 1) e),S.n⟩ β F a w':=by
 have hk:y0 F w w':=fun b o u hb B7=>by
  rcases JF b hb with h|h
  ·exact Ft b o u h B7
  ·rw [World.cell?_of_block (w:=w) (hO b h)];exact B7
 have Ao:∀ j,(St.row ⟨S.t,S.h.set id (.ctr l xs (k + 1) e),S.n⟩ j)=if id=j/\id < S.h.length then .ctr l xs (k + 1) e else S.row j:=fun j=>l9 _ _ _ _
 have lv:∀ j,(St.row ⟨S.t,S.h.set id (.ctr l xs (k + 1) e),S.n⟩ j) ≠ .none->S.row j ≠ .none:=fun j hj=>by
  rw [Ao] at hj
  split at hj
  ·rename_i hc;rw [<- hc.1,o9];simp
  ·exact hj
 exact {
  len:=hR.len
  slots:=fun i hi=>(hR.slots i hi).grow (fun _ _=>rfl) (fun _ h=>h) hk
  marks:=by
   obtain ⟨Ds,⟨h1,h0⟩,h2,h3⟩:=hR.marks
   refine ⟨Ds,⟨h1,h0⟩,h2,fun D hD=>⟨?_,(h3 D hD).2⟩⟩
   have tv:I0 D ∈ a.defers:=by rw [h1];exact List.mem_map_of_mem hD
   rw [hO D (hm D tv)]
   exact (h3 D hD).1
  rows:=fun j=>by
   rw [Ao]
   split
   ·rename_i hc
    have:=hR.rows id
    rw [o9] at this
    rw [<- hc.1]
    exact this
   ·by_cases hn:S.row j = .none
    ·rw [hn];trivial
    ·exact (hR.rows j).grow (fun _ _=>rfl) (fun _ h=>h) hk fun b hb=>hO b (v5 j b hn hb)
  inj:=fun i j b hi hj=>hR.inj i j b (lv i hi) (lv j hj)
  bF:=fun i b hi=>hR.bF i b (lv i hi)
  bB:=fun i b h=>⟨hB b,Nat.lt_of_lt_of_le (hR.bB i b h).2 Q2⟩
  FB:=fun b h=>⟨Nat.lt_of_lt_of_le (hR.FB b h).1 Q2,.inr (hB b)⟩
  below:=hR.below.trans ⟨cR.1,cR.2.1,cR.2.2,Q2,fun k CS=>absurd (hB k) CS⟩
  BW:=fun b h=>hB b
  top:=hR.top
  topn:=hR.topn
  nn:=hR.nn
  inc:=hR.inc
  keep:=fun b o u hb B7=>hk b o u (hR.inc b hb) (hR.keep b o u hb B7)
  sol:=fun hn=>absurd (F0.ni _ _ _ _ hJ) hn
  yl:=fun fM l' oR k' e' h=>by
   have un:∀ fM l' oR k' e',(St.row ⟨S.t,S.h.set id (.ctr l xs (k + 1) e),S.n⟩ fM) = .ctr l' oR k' e'->fM=id:=fun fM l' oR k' e' h=>by
    rw [Ao] at h
    split at h
    ·rename_i hc;exact hc.1.symm
    ·exact Fs _ _ _ _ _ h
   obtain rfl:=un _ _ _ _ _ h
   rw [Ao,if_pos ⟨rfl,bf (by rw [o9];simp)⟩] at h
   cases h
   exact ⟨hl,hx,⟨hB,hr⟩,O,hJ,fun b hb=>Nat.lt_of_lt_of_le (HU b hb) Q2,fun i b hi hb=>v5 i b (lv i hi) hb,JF,hm,un⟩ }
theorem lZ (hR:Rel B w0 F0 S β F a w) {o:Oper} {c:Call} {f:Operand} (ho:o.op = .call c) (hb:c.callee = .value f) {l:Nat} (hg:S.get f = .fn (.yield l) [] []) {xs:List (List AV)} {k:Nat} (o9:S.row S.t.length = .ctr l xs k false)
  (hx:xs[k]? = some (c.args.toList.map S.get)) (wJ:Y7 (c.args.toList.map S.get)=true) {K:St->Out->Prop} (h1:K S ⟨.tt,[(S.t.length,.ctr l xs (k + 1) false)]⟩) (h2:K S ⟨.ff,[(S.t.length,.ctr l xs (k + 1) true)]⟩) {Q:Exit->Act->World->Prop} :
  o.wpIn (FW F0.r) 0 P a w (K1 B w0 F0 o.dst K) Q:=by
 obtain ⟨hl,Gx,⟨hB,hr⟩,O,g1,g2,g3,g4,g5,g6⟩:=hR.yl _ _ _ _ _ o9
 have hf:=hR.get f
 rw [hg] at hf
 obtain ⟨vs,us,hv,l1,l2,_,_⟩:=hf.fn_inv
 obtain rfl:vs=#[]:=Array.eq_empty_of_size_eq_zero l1.symm
 obtain rfl:us=#[]:=Array.eq_empty_of_size_eq_zero l2.symm
 obtain ⟨l3,r3⟩:=E0 hR c.args
 have hex:execOp a.eval o=Instr.yield l (c.args.map a.eval):=by
  simp only [execOp,ho,resolve,hb,hv,Deferred.ofValue]
  simp [invoke]
 have N0:∀ i,((c.args.toList.map S.get).getD i .any).flat=true:=H9 wJ
 have rR:∀ {x:AV} {v:Value},v7 β F w x v->x.flat=true->p9 (fun _=>False) w x v:=by
  intro x v h
  induction h with
  | imm h=>intro hx;exact h.lift hx
  | ptr=>intro hx;simp [AV.flat] at hx
  | own=>intro hx;simp [AV.flat] at hx
  | mem=>intro hx;simp [AV.flat] at hx
  | mptr=>intro hx;simp [AV.flat] at hx
  | agg hl _ ih=>intro hx;exact .agg hl fun i hi=>ih i hi (H9 (by simpa [AV.flat] using hx) i)
  | tup hl _ ih=>intro hx;exact .tup hl fun i hi=>ih i hi (H9 (by simpa [AV.flat] using hx) i)
  | fn hl _ hm _ ih ik =>
   intro hx
   simp [AV.flat] at hx
   exact .fn hl (fun i hi=>ih i hi (H9 hx.1 i)) hm (fun i hi=>ik i hi (H9 hx.2 i))
 obtain ⟨fn,tmps,assign,body,hy,ny⟩:=F0.rd k O w (c.args.map a.eval) _ g1 (Gx ▸ hx) g2 l3.symm (fun i hi=>rR (r3 i hi) (N0 i))
 rw [<- hl] at hy ny
 refine ⟨fun _ _=>trivial,?_⟩
 rw [Oper.semAt_eq _ _ _ (fun d e=>by rw [ho] at e;cases e),hex,hy]
 refine ⟨fun h=>(by cases h),?_⟩
 rw [hr]
 refine RoundIn.mono ny ?_
 rintro e W' ⟨q1,q2,q3,q4,q5,q6,q7⟩
 have step:∀ (e':Bool) (x:AV) (v:Value),F0.J (k + 1) e' O W'->p9 F W' x v->K S ⟨x,[(S.t.length,.ctr l xs (k + 1) e')]⟩->K1 B w0 F0 o.dst K (a.put o.dst v) W':=fun e' x v hJ hv hK=>by
  have:=hR.yielded o9 g2 g3 g4 g5 g6 hl Gx hB hr ⟨q1,q2,q3⟩ q4 q5 q6 hJ
  exact ⟨S,_,hK,β,F,this.still (dst:=o.dst) (.imm hv)⟩
 rcases q7 with ⟨rfl,hJ⟩|⟨rfl,hJ⟩
 ·exact step false .tt _ hJ .tt h1
 ·exact step true .ff _ hJ .ff h2
theorem xa (hR:Rel B w0 F0 S β F a w) {o:Oper} (u5:N2 o.op=true->∀ d,o.dst=some d->β d=none) {K:St->Out->Prop} (h:jr P o S K) {Q:Exit->Act->World->Prop} :
  o.wpIn (FW F0.r) 0 P a w (K1 B w0 F0 o.dst K) Q:=by
 have Y6:=nv h
 unfold jr at h
 split at h
 ·rename_i f xs ys ho
  refine D7 Y6 ?_
  split at h
  ·have C9:execOp a.eval o=(do pure (.value (<- Instr.makeFunc f (xs.map a.eval) (ys.map a.eval)))):=by simp [execOp,ho]
   obtain ⟨h1,h2⟩:=E0 hR xs
   obtain ⟨h3,h4⟩:=E0 hR ys
   exact C4 C9 (v := .func f (xs.map a.eval) (ys.map a.eval)) (w':=w) (by simp [Instr.makeFunc]) ⟨S,_,h,β,F,hR.still (.fn h1 h2 h3 h4)⟩
  ·rename_i i l EN
   rw [w9] at h
   obtain ⟨F',F7⟩:=hR.freeze (bN (i :: l))
   have C9:execOp a.eval o=(do pure (.value (<- Instr.makeFunc f (xs.map a.eval) (ys.map a.eval)))):=by simp [execOp,ho]
   obtain ⟨h1,h2⟩:=E0 F7 xs
   obtain ⟨h3,h4⟩:=E0 F7 ys
   exact C4 C9 (v := .func f (xs.map a.eval) (ys.map a.eval)) (w':=w) (by simp [Instr.makeFunc]) ⟨_,_,h,β,F',F7.still (.fn h1 h2 h3 h4)⟩
 ·rename_i op t x y yt ho
  refine D7 Y6 ?_
  split at h
  ·rename_i hy
   split at h
   ·rename_i α sz d enc l hx
    split at h
    ·rename_i e hu
     refine bw hR ho hu hy ?_ h
     have:=hR.get x
     rw [hx] at this
     rcases this.sl_inv with ⟨h1,x0,c0,h2⟩|⟨b,ob,cap,g,h1,_⟩
     ·exact ⟨_,_,_,h2,fun _=>h1⟩
     ·exact ⟨_,_,_,h1,fun e=>by cases e⟩
    ·exact h.elim
   ·rename_i id hx
    split at h
    ·rename_i α ty sz d enc l hr
     split at h
     ·rename_i e hu
      refine bw hR ho hu hy ?_ h
      have:=hR.get x
      rw [hx] at this
      obtain ⟨hd,hβ,hv⟩:=this.own_inv
      obtain ⟨_,q⟩:=Q5 hR hr hβ
      refine ⟨_,_,_,hv,fun e=>?_⟩
      rcases q with ⟨q,_⟩|⟨b,vs,q,_⟩
      ·exact q
      ·rw [q] at e;cases e
     ·exact h.elim
    ·exact h.elim
   ·rw [<- ho] at h
    exact B1 hR u5 h
  ·rw [<- ho] at h
   exact B1 hR u5 h
 ·rename_i c ho
  split at h
  ·rename_i f hc
   split at h
   ·rename_i bk first u4 hg
    refine D7 Y6 ?_
    rcases h with h|h
    ·split at h
     ·rw [<- ho] at h
      exact B1 hR u5 h
     ·obtain ⟨frz,h⟩:=h
      split at h
      ·rw [<- ho] at h
       exact B1 hR u5 h
      ·rw [w9,<- ho] at h
       obtain ⟨F',F7⟩:=hR.freeze (bN (_:List Nat))
       exact B1 F7 u5 h
    ·exact nt hR ho hc h
   ·rename_i l hg
    split at h
    ·rename_i l' xs k o9
     obtain ⟨⟨rfl,hx,wJ⟩,h1,h2⟩:=h
     exact lZ hR ho hc hg o9 hx wJ h1 h2
    ·exact h.elim
   ·exact h.elim
  ·rw [<- ho] at h
   exact D7 Y6 (B1 hR u5 h)
 ·exact D7 Y6 (B1 hR u5 h)
theorem uM {x:AV} {v:Value} (h:v7 β F w x v):v7 β F w (eP x) v:=by
 cases x with
 | nils=>rw [h.nils_inv];exact .imm .slnil
 | _=>exact h
theorem uN:eP .any = .any:=rfl
theorem ma:∀ l:List (List AV),rM l=l.map fun cs=>cs.map eP
 | []=>rfl
 | cs :: l=>congrArg (cs.map eP :: ·) (ma l)
theorem Rel.unLit (hR:Rel B w0 F0 S β F a w) {q:Nat} {ty:TypeId} {sz:Nat} {z7:List (List AV)} (hq:S.row q = .lit ty sz z7):Rel B w0 F0 ⟨S.t,S.h.set q (.lit ty sz (z7.map fun cs=>cs.map eP)),S.n⟩ β F a w:=by
 have o9:∀ (q:Nat) (r:Row) (j:Nat),(⟨S.t,S.h.set q r,S.n⟩:St).row j=if q=j/\q < S.h.length then r else S.row j:=fun q r j=>by
  show (S.h.set q r).getD j .none=_
  rw [l9];rfl
 have hg:∀ i,(z7.map fun cs=>cs.map eP).getD i []=(z7.getD i []).map eP:=by
  intro i;simp only [List.getD,List.getElem?_map];cases z7[i]? <;> simp
 refine hR.trade rfl rfl (fun i hi=>hR.slots i hi) (fun j=>?_) (fun i j b hi hj=>hR.inj i j b ?_ ?_) (fun i b hi hb=>⟨i,?_,hb⟩) (fun i b hb=>⟨i,hb⟩) hR.top (fun id l xs k e h=>?_)
 ·rw [o9]
  split
  ·rename_i e
   have this:=hR.rows j
   rw [<- e.1,hq] at this
   rw [<- e.1]
   obtain ⟨hd,b,vs,e1,em,e2,e3,e4,e5,e6,e7,e8⟩:=this
   exact ⟨hd,b,vs,e1,em,e2,e3,by simpa using e4,by simpa using e5,by simpa using e6,by simpa using e7,fun i k hi hk=>by
    rw [hg,n4 _ uN]
    exact uM (e8 i k (by simpa using hi) hk)⟩
  ·exact hR.rows j
 ·rw [o9] at hi
  split at hi
  ·rename_i e;rw [<- e.1,hq];simp
  ·exact hi
 ·rw [o9] at hj
  split at hj
  ·rename_i e;rw [<- e.1,hq];simp
  ·exact hj
 ·rw [o9] at hi
  split at hi
  ·rename_i e;rw [<- e.1,hq];simp
  ·exact hi
 ·rw [o9] at h
  split at h
  ·cases h
  ·exact h
theorem Rel.unN (hR:Rel B w0 F0 S β F a w) (o:Oper):∃ F',Rel B w0 F0 (unN o S) β F' a w:=by
 unfold Ev.unN
 repeat' split
 all_goals first|exact ⟨F,hR⟩|exact hR.freeze _|exact ⟨F,hR.unLit (by assumption)⟩|(rw [ma];exact ⟨F,hR.unLit (by assumption)⟩)
theorem mb (hR:Rel B w0 F0 S β F a w) {o:Oper} (u5:N2 o.op=true->∀ d,o.dst=some d->β d=none) {K:St->Out->Prop} (h:pL P o S K) {Q:Exit->Act->World->Prop} :
  o.wpIn (FW F0.r) 0 P a w (K1 B w0 F0 o.dst K) Q :=
 Am (fun S K=>w9 S K) hR u5 (fun Y6 h=>D7 Y6 h) (fun h=>xa hR u5 h) (fun hc S' β' F7 hw=>by
  obtain ⟨c,f,ho,hb⟩:=hc
  unfold Gv at hw
  rw [ho] at hw
  simp only [hb] at hw
  exact D7 (fun c e=>by rw [ho] at e;cases e) (nt F7 ho hb hw)) h
theorem jt (hR:Rel B w0 F0 S β F a w) {o:Oper} (u5:N2 o.op=true->∀ d,o.dst=some d->β d=none) {K:St->Out->Prop} (h:rN P o S K) {Q:Exit->Act->World->Prop} :
  o.wpIn (FW F0.r) 0 P a w (K1 B w0 F0 o.dst K) Q:=by
 unfold rN at h
 split at h
 ·rw [w9] at h
  obtain ⟨F',F7⟩:=hR.unN o
  exact mb F7 u5 h
 ·exact mb hR u5 h
theorem Ap (hR:Rel B w0 F0 S β F a w) {o:Oper} {K:St->Out->Prop} (h:Fo P o S K) {Q:Exit->Act->World->Prop}:o.wpIn (FW F0.r) 0 P a w (K1 B w0 F0 o.dst K) Q:=by
 unfold Fo at h
 split at h
 ·rename_i ha
  split at h
  ·rename_i d hd
   split at h
   ·rename_i u2
    rw [w9] at h
    obtain ⟨β',h1,h2,F7⟩:=hR.kill d (hR.topn d u2)
    exact jt F7 (fun _ d' hd'=>by rw [hd] at hd'; cases hd'; exact h1) h
   ·exact h.elim
  ·rename_i hd
   exact jt hR (fun _ d' hd'=>by rw [hd] at hd'; cases hd') h
 ·rename_i ha
  exact jt hR (fun Fu=>by rw [ha] at Fu; cases Fu) h
theorem U0 {src:Bool} {out:Out} {K:Out->Prop} (h:N7 src out K):∃ v,pv out.v v/\K ⟨v,out.rows⟩:=by
 unfold N7 at h
 split at h
 ·split at h
  ·rename_i b hb
   rw [hb]
   cases b
   ·exact ⟨.ff,.ff,h.2 rfl⟩
   ·exact ⟨.tt,.tt,h.1 rfl⟩
  ·exact ⟨_,.same _,h⟩
 ·exact ⟨_,.same _,h⟩
theorem eQ {K:St->Prop} {Q:Exit->Act->World->Prop} (hQ:∀ S β F a w,Rel B w0 F0 S β F a w->K S->Q .normal a w):∀ (l:List Oper) (k:Nat) {S:St} {β:Nat->Option Hd} {F:Nat->Prop} {a:Act} {w:World},(∀ j,l[j]? = ops[k + j]?) ->
  Rel B w0 F0 S β F a w->pM P ops.toList l k S K->wpOpsIn (FW F0.r) 0 P ops Q (List.range' k l.length) a w
 | [],k,S,β,F,a,w,_,hR,h=>hQ _ _ _ _ _ hR h
 | o :: l,k,S,β,F,a,w,hl,hR,h=>by
  have h0:ops[k]? = some o:=by simpa using (hl 0).symm
  have kP:∀ j,l[j]? = ops[k + 1 + j]? := fun j=>by have:=hl (j + 1);simpa [Nat.add_assoc,Nat.add_comm 1 j] using this
  simp only [List.length_cons,List.range'_succ]
  simp only [wpOpsIn,h0]
  simp only [pM,Array.toArray_toList] at h
  split at h
  ·rename_i hg
   rw [X2 hR hg]
   simp only [if_true]
   split at h
   ·obtain ⟨R,h1,h2⟩:=h
    refine Oper.wpIn_mono ?_ (h1 _ _ _ _ _ _ _ _ hR)
    rintro a' w' ⟨S',hr,β',F',F7⟩
    have h3:=h2 S' hr
    rw [w9] at h3
    exact eQ hQ l (k + 1) kP F7 h3
   refine Oper.wpIn_mono ?_ (Ap hR h)
   rintro a' w' ⟨S',out,hK,β',F',F7⟩
   obtain ⟨v,hf,hK⟩:=U0 hK
   rw [bt] at hK
   exact eQ hQ l (k + 1) kP (Rel.fine (x:=out.v) (rows:=out.rows) F7 hf) hK
  ·rename_i hg
   rw [X2 hR hg]
   simp only [Bool.false_eq_true,if_false]
   rw [bt] at h
   exact ⟨fun _ _=>trivial,eQ hQ l (k + 1) kP (hR.still (.imm p9.undef)) h⟩
  ·exact h.elim
theorem W5 {K:St->Prop}:∀ (l:List Oper) (k:Nat) {S:St} {U9:List (List Nat×List Nat)},av P ops.toList l k S U9 K->∃ da Sf,gV P ops k l S da Sf/\pJ ops.toList (U9++da)=true/\K Sf/\da.length=l.length
 | [],k,S,U9,h=>⟨[],S,.nil k S,by simpa using h.1,h.2,rfl⟩
 | o :: l,k,S,U9,h=>by
  simp only [av,Array.toArray_toList] at h
  split at h
  ·rename_i hg
   split at h
   ·obtain ⟨out,rd,CT,hK⟩:=h
    obtain ⟨v,hf,hK⟩:=U0 hK
    rw [bt] at hK
    obtain ⟨da,Sf,h1,h2,h3,h4⟩:=W5 l (k + 1) hK
    exact ⟨(rd,out.rows.map (·.1)) :: da,Sf,.run (out:=⟨v,out.rows⟩) hg ⟨out.v,hf,fun S' h1 h2 => .inr (CT S' h1 h2)⟩ h1,by simpa using h2,h3,by simp [h4]⟩
   obtain ⟨out,rd,hK,CT⟩:=uJ h
   obtain ⟨v,hf,hK⟩:=U0 hK
   rw [bt] at hK
   obtain ⟨da,Sf,h1,h2,h3,h4⟩:=W5 l (k + 1) hK
   exact ⟨(rd,out.rows.map (·.1)) :: da,Sf,.run (out:=⟨v,out.rows⟩) hg ⟨out.v,hf,fun S' h1 h2 => .inl (CT S'.get S'.row h1 h2)⟩ h1,by simpa using h2,h3,by simp [h4]⟩
  ·rename_i hg
   rw [bt] at h
   obtain ⟨da,Sf,h1,h2,h3,h4⟩:=W5 l (k + 1) h
   exact ⟨([],[]) :: da,Sf,.skip hg h1,by simpa using h2,h3,by simp [h4]⟩
  ·exact h.elim
theorem Rel.otherK (hR:Rel B w0 F0 S β F a w) {w':World} (cR:w'.os=w.os/\w'.tape=w.tape/\w'.output=w.output) (Q2:w.heap.size<=w'.heap.size) {O:Nat->Prop} (hO:∀ b,b < w.heap.size->¬ O b->w'.heap[b]? = w.heap[b]?) (HV:∀ b,O b->B b) (HW:∀ b,O b->w0.heap.size<=b)
  (v5:∀ i b,S.row i ≠ .none->o7 β i b->¬ O b) (hk:y0 F w w') (hm:∀ D,I0 D ∈ a.defers->¬ O D) (hc:∀ id l xs k e,S.row id ≠ .ctr l xs k e):Rel B w0 F0 S β F a w':=by
 exact {
  len:=hR.len
  slots:=fun i hi=>(hR.slots i hi).grow (fun _ _=>rfl) (fun _ h=>h) hk
  marks:=by
   obtain ⟨Ds,⟨h1,h0⟩,h2,h3⟩:=hR.marks
   refine ⟨Ds,⟨h1,h0⟩,h2,fun D hD=>⟨?_,(h3 D hD).2⟩⟩
   have tv:I0 D ∈ a.defers:=by rw [h1];exact List.mem_map_of_mem hD
   rw [hO D (Array.getElem?_eq_some_iff.1 (h3 D hD).1).1 (hm D tv)]
   exact (h3 D hD).1
  rows:=fun i=>by
   by_cases hn:S.row i = .none
   ·rw [hn];trivial
   ·exact (hR.rows i).grow (fun _ _=>rfl) (fun _ h=>h) hk fun b hb=>hO b (hR.bB i b hb).2 (v5 i b hn hb)
  inj:=hR.inj
  bF:=hR.bF
  bB:=fun i b h=>⟨(hR.bB i b h).1,Nat.lt_of_lt_of_le (hR.bB i b h).2 Q2⟩
  FB:=fun b h=>⟨Nat.lt_of_lt_of_le (hR.FB b h).1 Q2,(hR.FB b h).2⟩
  below:=hR.below.trans ⟨cR.1,cR.2.1,cR.2.2,Q2,fun k CS=>by
   by_cases u2:k < w.heap.size
   ·exact hO k u2 fun h=>CS (HV k h)
   ·exact absurd (hR.BW k (Nat.le_of_not_lt u2)) CS⟩
  BW:=fun b h=>hR.BW b (Nat.le_trans Q2 h)
  top:=hR.top
  topn:=hR.topn
  nn:=hR.nn
  inc:=hR.inc
  keep:=fun b o u hb B7=>hk b o u (hR.inc b hb) (hR.keep b o u hb B7)
  sol:=fun hn k o ho iU=>by
   have h1:=hR.sol hn k o ho iU
   rw [hO k (Array.getElem?_eq_some_iff.1 h1).1 fun h=>?_]
   ·exact h1
   ·have:=HW k h;have:=(Array.getElem?_eq_some_iff.1 ho).1;omega
  yl:=fun id l xs k e h=>absurd h (hc id l xs k e) }
theorem Rel.other (hR:Rel B w0 F0 S β F a w) {w':World} (cR:w'.os=w.os/\w'.tape=w.tape/\w'.output=w.output) (Q2:w.heap.size<=w'.heap.size) {O:Nat->Prop} (hO:∀ b,b < w.heap.size->¬ O b->w'.heap[b]? = w.heap[b]?) (HV:∀ b,O b->B b) (HW:∀ b,O b->w0.heap.size<=b)
  (v5:∀ i b,S.row i ≠ .none->o7 β i b->¬ O b) (hF:∀ b,F b->¬ O b) (hm:∀ D,I0 D ∈ a.defers->¬ O D) (hc:∀ id l xs k e,S.row id ≠ .ctr l xs k e):Rel B w0 F0 S β F a w' :=
 hR.otherK cR Q2 hO HV HW v5 (fun b o u hb B7=>by rw [World.cell?_of_block (w:=w) (hO b (hR.FB b hb).1 (hF b hb))];exact B7) hm hc
theorem Rel.drew (hR:Rel B w0 F0 S β F a w) (n:Nat):Rel B w0 F0 S β F a { w with drawn:=w.drawn + n } where
 len:=hR.len
 slots:=fun i hi=>v7.grow (β:=β) (β':=β) (F:=F) (F':=F) (w:=w) (w':={ w with drawn:=w.drawn + n }) (fun _ _=>rfl) (fun _ h=>h) (fun _ _ _ _ h=>h) (hR.slots i hi)
 marks:=hR.marks
 rows:=fun i=>s9.grow (β:=β) (β':=β) (F:=F) (F':=F) (w:=w) (w':={ w with drawn:=w.drawn + n }) (fun _ _=>rfl) (fun _ h=>h) (fun _ _ _ _ h=>h) (fun _ _=>rfl) (hR.rows i)
 inj:=hR.inj
 bF:=hR.bF
 bB:=hR.bB
 FB:=hR.FB
 below:=hR.below.trans ⟨rfl,rfl,rfl,Nat.le_refl _,fun _ _=>rfl⟩
 BW:=hR.BW
 top:=hR.top
 topn:=hR.topn
 nn:=hR.nn
 inc:=hR.inc
 keep:=hR.keep
 sol:=hR.sol
 yl:=fun id l xs k e h=>by
  obtain ⟨h1,h2,hz,O,h3,h4,h5,h6,h7,h8⟩:=hR.yl id l xs k e h
  have C1:({ w with drawn:=w.drawn + n }:World).heap.size=w.heap.size:=rfl
  refine ⟨h1,h2,hz,_,F0.st k e O w { w with drawn:=w.drawn + n } h3 (fun _ _ _=>rfl) rfl rfl rfl (Nat.le_refl _),fun b hb=>?_,fun i b hi hb => .inl (h5 i b hi hb),fun b hb=>(h6 b hb).imp (fun h=>h) .inl,fun D hD => .inl (h7 D hD),h8⟩
  rcases hb with hb|hb
  ·exact h4 b hb
  ·exact hb.2
theorem rS {U9:List (List Nat×List Nat)} (h:pJ ops.toList U9=true) (i j:Nat) (oj:Oper) (hi:i < ops.size) (hj:ops[j]? = some oj) (zM:i < j) (lX:∀ e ∈ oj.after,Region.binds .any e=true->e.on≠i) (rG:¬Fh ops oj i) :
  (∀ x ∈ (U9.getD i ([],[])).2,x ∉ (U9.getD j ([],[])).1/\x ∉ (U9.getD j ([],[])).2)/\∀ x ∈ (U9.getD i ([],[])).1,x ∉ (U9.getD j ([],[])).2:=by
 have fI:j < ops.size:=(Array.getElem?_eq_some_iff.1 hj).1
 simp only [pJ,List.all_eq_true,List.mem_range,Array.length_toList] at h
 have h1:=h j fI i hi
 have hb:Nat.ble j i=false:=by
  cases hc:Nat.ble j i with
  | false=>rfl
  | true=>have:=Nat.le_of_ble_eq_true hc;omega
 rw [hb] at h1
 simp only [Array.getElem?_toList,hj,Bool.or_eq_true,Bool.and_eq_true] at h1
 rcases h1 with h1|⟨h1,h2⟩|h1
 ·obtain ⟨e,he,ti⟩:=Array.any_eq_true'.1 h1
  simp only [Bool.and_eq_true,beq_iff_eq] at ti
  exact absurd ti.2 (lX e he ti.1)
 rotate_left
 ·obtain ⟨e,he,ti⟩:=Array.any_eq_true'.1 h1
  simp only [Bool.and_eq_true] at ti
  obtain ⟨hb,ti⟩:=ti
  split at ti
  ·rename_i om uL
   obtain ⟨e',HO,CU⟩:=Array.any_eq_true'.1 ti
   simp only [Bool.and_eq_true,beq_iff_eq] at CU
   exact absurd ⟨e,he,hb,om,by simpa using uL,e',HO,CU.1,CU.2⟩ rG
  ·cases ti
 ·refine ⟨fun x hx=>?_,fun x hx=>?_⟩
  ·have:=List.all_eq_true.1 h1 x hx
   simp at this
   exact this
  ·have:=List.all_eq_true.1 h2 x hx
   simpa using this
theorem nz (h:cL ops.toList=true) (i:Nat) (o:Oper) (ho:ops[i]? = some o) (c:Call):o.op ≠ .defer c:=by
 intro e
 have:=List.all_eq_true.1 h o (by simpa using Array.mem_of_getElem? ho)
 rw [e] at this
 simp at this
theorem V6 {r:Option Nat} (Y6:∀ (i:Nat) (o:Oper),ops[i]? = some o->∀ c,o.op ≠ .defer c) {fp:Nat->List Nat×List Nat} {Q:St->Prop} {Q':Exit->Act->World->Prop} (jo:∀ (i j:Nat) (oi oj:Oper) (d:Nat),ops[i]? = some oi->ops[j]? = some oj->i≠j->oi.dst=some d->oj.dst=some d->T9 P oi=true->False)
  (hQ:∀ S β F a w,Rel B w0 F0 S β F a w->Q S->Q' .normal a w):∀ (fuel:Nat) (A5:Array Bool) (S:St) (β:Nat->Option Hd) (F:Nat->Prop) (a:Act) (w:World),Fg P ops A5 β->Rel B w0 F0 S β F a w ->
   uK P ops fp Q fuel A5 S->wpAnyIn (FW r) 0 P .any ops Q' fuel A5 a w
 | 0,_,_,_,_,_,_,_,hR,h=>⟨h.1,hQ _ _ _ _ _ hR h.2⟩
 | fuel + 1,A5,S,β,F,a,w,tj,hR,h=>by
  refine ⟨fun h0=>hQ _ _ _ _ _ hR (h.1 h0),fun i hi=>?_⟩
  have h2:=h.2 i hi
  obtain ⟨BV,o,ho,_⟩:=mem_ready.1 hi
  have Fv:A5.getD i true=false:=BV
  unfold aOp at h2
  unfold wpOpIn
  simp only [ho] at h2 ⊢
  have u5:T9 P o=true->∀ d,o.dst=some d->β d=none:=fun ha d hd=>tj i o d ho Fv ha hd
  have keep:∀ β',(∀ j,o.dst≠some j->β' j=β j)->Fg P ops (A5.setIfInBounds i true) β':=fun β' dF k ok d hk CV JG JH=>by
   have wh:k≠i:=fun e=>by
    subst e
    have u2:k < A5.size:=by
     rcases Nat.lt_or_ge k A5.size with h' | h'
     ·exact h'
     ·simp [Array.getElem?_eq_none h'] at Fv
    simp [u2] at CV
   rw [dF d fun e=>jo k i ok o d hk ho wh JH e JG]
   exact tj k ok d hk (by rw [getD_set_ne true (Ne.symm wh)] at CV;exact CV) JG JH
  rcases h2 with ⟨h1,out,rd,hy,_,hK⟩|⟨h1,hK⟩
  ·rw [X2 hR h1]
   simp only [if_true]
   refine D7 (Y6 i o ho) (Oper.wp_mono ?_ (hy.snd hR u5))
   rintro a' w' ⟨β',F',dF,F7⟩
   exact V6 Y6 jo hQ fuel _ _ β' F' a' w' (keep β' dF) F7 hK
  ·rw [X2 hR h1]
   simp only [Bool.false_eq_true,if_false]
   exact ⟨fun _ _=>trivial,V6 Y6 jo hQ fuel _ _ β F _ w (keep β fun _ _=>rfl) (hR.still (.imm p9.undef)) hK⟩
theorem Rel.preF (hR:Rel B w0 F0 S β F a w) (P:Program) (ops:List Oper):∃ F',Rel B w0 F0 (preF P S ops) β F' a w:=by
 unfold Ev.preF
 cases wY P S ops with
 | nil=>exact ⟨F,hR⟩
 | cons i l=>exact hR.freeze _
theorem ju (hm:P.follows .mixedOrders=true) {id:Nat} {K:St->Prop} {Q:Exit->Act->World->Prop} (hQ:∀ S β F a w,Rel B w0 F0 S β F a w->K S->Q .normal a w) (hR:Rel B w0 F0 S β F a w) (hd:(lY P ops && (V5 P ops.toList).all (u3 S) && cL ops.toList)=true)
  (h:av P ops.toList ops.toList 0 (S.kills (V5 P ops.toList)) [] K):(Code.region id ops true).wpIn (FW F0.r) 0 P Q a w:=by
 simp only [lY,Bool.and_eq_true] at hd
 obtain ⟨⟨⟨HX,jo⟩,HY⟩,Y6⟩:=hd
 obtain ⟨U9,Sf,HR,bZ,hK,hlen⟩:=W5 ops.toList 0 h
 simp only [List.nil_append] at bZ
 obtain ⟨β',u5,_,F7⟩:=hR.kills (V5 P ops.toList) (fun d hd=>hR.topn d (List.all_eq_true.1 HY d hd))
 refine wpIn_region_any hm (V6 (nz Y6) (fp:=fun i=>U9.getD i ([],[])) (Q:=K) ?_ hQ _ _ _ β' F _ _ ?_ (F7.drew 1) ?_)
 ·intro i j oi oj d hi hj zM KO Fl eC
  have U3:=(Array.getElem?_eq_some_iff.1 hi).1
  have fI:=(Array.getElem?_eq_some_iff.1 hj).1
  simp only [List.all_eq_true,List.mem_range] at jo
  have h1:=jo i U3
  simp only [hi,eC,Bool.not_true,Bool.false_or,List.all_eq_true,List.mem_range] at h1
  have h2:=h1 j fI
  have R9:Nat.beq i j=false:=by
   cases hc:Nat.beq i j with
   | false=>rfl
   | true=>exact absurd (Nat.eq_of_beq_eq_true hc) zM
  simp only [R9,Bool.false_or,hj,KO,Fl,Nat.beq_refl,Bool.not_true,Bool.false_eq_true] at h2
 ·intro i o d ho _ eC Gy
  refine u5 d ?_
  simp only [V5,List.mem_filterMap]
  exact ⟨o,by simpa using Array.mem_of_getElem? ho,by simp [eC,Gy]⟩
 ·have:=pK (P:=P) (fp:=fun i=>U9.getD i ([],[])) (Q:=K) (ops:=ops) (fun i j oi oj hi hj zM lX rG=>rS bZ i j oj (Array.getElem?_eq_some_iff.1 hi).1 hj zM lX rG)
   ops.toList 0 (Array.replicate ops.size false) _ U9 Sf (fun j=>by simp) (fun j hj=>absurd hj (Nat.not_lt_zero j)) (fun j _=>by simp only [Array.getD_eq_getD_getElem?,Array.getElem?_replicate];split<;>rfl) (fun m om hm=>absurd hm (Nat.not_lt_zero m)) (fun j hj=>by simp) (by simpa using HX) HR hK
  simpa using this
end
/- What the law of a range over a function leans on. A helper text: it speaks of no program. -/
section
variable {P:Program} {B:Nat->Prop} {w0:World} {F0:Env P} {S:St} {β:Nat->Option Hd} {F:Nat->Prop} {a:Act} {w:World} {ops:Array Oper}
theorem Rel.noctr (hR:Rel B w0 F0 S β F a w) (h:F0.n = .plain):∀ id l xs k e,S.row id ≠ .ctr l xs k e:=fun id l xs k e hr=>by
 obtain ⟨_,_,_,O,hJ,_⟩:=hR.yl id l xs k e hr
 have:=F0.ni _ _ _ _ hJ
 rw [h] at this;cases this
theorem gY (d e:Nat) (x:AV):B3 d (B3 e x)=B3 e (B3 d x):=by
 unfold B3
 cases h1:x.names d<;>cases h2:x.names e<;>simp [h1,h2,AV.names]
theorem gZ (d:Nat) (x:AV):B3 d (B3 d x)=B3 d x:=by
 unfold B3
 cases h1:x.names d<;>simp [h1,AV.names]
theorem nA (d e:Nat) (r:Row):w7 d (w7 e r)=w7 e (w7 d r):=by
 cases r<;>simp [w7,gY d e]
theorem nB (d:Nat) (r:Row):w7 d (w7 d r)=w7 d r:=by
 cases r<;>simp [w7,gZ d]
theorem uO (S:St) (d:Nat):(S.kill d).kill d=S.kill d:=by
 have h1:(B3 d ∘ B3 d)=B3 d:=funext (gZ d)
 have h2:(w7 d ∘ w7 d)=w7 d:=funext (nB d)
 simp only [St.kill,List.map_map,List.map_set,h1,h2,w7,List.set_set]
theorem uP (S:St) (d e:Nat):(S.kill e).kill d=(S.kill d).kill e:=by
 have h1:(B3 d ∘ B3 e)=(B3 e ∘ B3 d):=funext (gY d e)
 have h2:(w7 d ∘ w7 e)=(w7 e ∘ w7 d):=funext (nA d e)
 simp only [St.kill,List.map_map,List.map_set,h1,h2,w7]
 by_cases h:e=d
 ·subst h;rfl
 ·rw [List.set_comm _ _ h]
theorem dM (S:St) (d:Nat):∀ l,(S.kill d).kills l=(S.kills l).kill d
 | []=>rfl
 | e :: l=>by
  simp only [St.kills]
  rw [uP,dM (S.kill e) d l]
theorem jv:∀ (l:List Nat) (S:St),(S.kills l).kills l=S.kills l
 | [],_=>rfl
 | d :: l,S=>by
  simp only [St.kills]
  rw [dM S d l,uO,dM,jv l]
theorem tw:∀ (l:List Nat) (S:St),(S.kills l).n=S.n
 | [],_=>rfl
 | d :: l,S=>by simp only [St.kills];rw [tw l];rfl
theorem dt:∀ (l:List Nat) {S T:St},S.t=T.t->(S.kills l).t=(T.kills l).t
 | [],_,_,h=>h
 | d :: l,S,T,h=>by simp only [St.kills];exact dt l (by simp [St.kill,h])
theorem bA:∀ (t:List AV) (ps:List Nat) (xs:List AV),(Z6 t ps xs).length=t.length
 | t,[],xs=>by simp [Z6]
 | t,p :: ps,[]=>by simp [Z6]
 | t,p :: ps,x :: xs=>by simp [Z6,bA (t.set p x) ps xs]
theorem mc {F:Nat->Prop}:∀ (ps:List Nat) (xs:List AV) (vs:List Value) (t:List AV) (tm:Array Value),xs.length=vs.length->(∀ i,i < xs.length->v7 β F w (xs.getD i .any) (vs.getD i undef))->t.length=tm.size ->
  (∀ i,i < t.length->v7 β F w (t.getD i .any) (tm.getD i undef)) ->
  ((ps.zip vs).foldl (fun t (p,v)=>t.setIfInBounds p v) tm).size=tm.size/\∀ i,i < t.length->v7 β F w ((Z6 t ps xs).getD i .any) (((ps.zip vs).foldl (fun t (p,v)=>t.setIfInBounds p v) tm).getD i undef)
 | [],xs,vs,t,tm,_,_,_,h=>by
  have e:Z6 t [] xs=t:=by simp [Z6]
  rw [e];exact ⟨rfl,h⟩
 | p :: ps,[],[],t,tm,_,_,_,h=>by
  have e:Z6 t (p :: ps) []=t:=by simp [Z6]
  rw [e];exact ⟨rfl,h⟩
 | p :: ps,x :: xs,v :: vs,t,tm,hl,hx,ht,h=>by
  simp only [Z6,List.zip_cons_cons,List.foldl_cons]
  have h0:=hx 0 (by simp)
  simp only [List.getD_cons_zero] at h0
  have:=mc ps xs vs (t.set p x) (tm.setIfInBounds p v) (by simpa using hl) (fun i hi=>by have:=hx (i + 1) (by simpa using hi);simpa using this) (by simpa using ht) (fun i hi=>by
   simp only [List.length_set] at hi
   rw [J6]
   simp only [Array.getD_eq_getD_getElem?,Array.getElem?_setIfInBounds]
   by_cases e:p=i
   ·subst e
    simp [hi,ht ▸ hi];exact h0
   ·have:=h i hi
    simpa [e,Array.getD_eq_getD_getElem?] using this)
  exact ⟨by rw [this.1];simp,fun i hi=>this.2 i (by simpa using hi)⟩
theorem bC {F:Nat->Prop} {k:Nat} {o o':Obj} (hk:w.heap[k]? = some o) (hc:o.isCells=false):y0 F w (w.putObj k o'):=fun b ob v _ B7=>by
 have R9:b≠k:=fun e=>by
  subst e
  cases o<;>simp [World.cell?,hk,Obj.isCells] at B7 hc
 rw [World.cell?_of_block (w:=w) (World.putObj_heap_other R9)];exact B7
theorem Rel.back (hR:Rel B w0 F0 S β F a w) (iy:F0.n = .plain) {w':World} {β':Nat->Option Hd} {F':Nat->Prop} {h':List Row} (hβ:∀ j,β j≠none->β' j=β j) (hF:∀ b,F b->F' b) (hk:y0 F w w')
  (cR:w'.os=w.os/\w'.tape=w.tape/\w'.output=w.output) (Q2:w.heap.size<=w'.heap.size) (bZ:∀ id,s9 β' F' w' id (h'.getD id .none)) (eh:∀ i j b,h'.getD i .none ≠ .none->h'.getD j .none ≠ .none->o7 β' i b->o7 β' j b->i=j)
  (Ey:∀ i b,h'.getD i .none ≠ .none->o7 β' i b->¬ F' b) (oN:∀ i b,o7 β' i b->B b/\b < w'.heap.size) (Cr:∀ b,F' b->b < w'.heap.size/\(F0.F b∨B b)) (oS:∀ b,b < w.heap.size->¬ B b->w'.heap[b]? = w.heap[b]?)
  (JI:∀ (k:Nat) (o:Obj),w.heap[k]? = some o->ed o=false->(k < w0.heap.size∨I0 k ∈ a.defers)->w'.heap[k]? = some o) (hc:∀ id l xs k e,h'.getD id .none ≠ .ctr l xs k e):Rel B w0 F0 ⟨S.t,h',S.n⟩ β' F' a w' where
 len:=hR.len
 slots:=fun i hi=>(hR.slots i hi).grow hβ hF hk
 marks:=by
  obtain ⟨Ds,⟨h1,h0⟩,h2,h3⟩:=hR.marks
  exact ⟨Ds,⟨h1,h0⟩,h2,fun D hD=>⟨JI D _ (h3 D hD).1 rfl (.inr (by rw [h1];exact List.mem_map_of_mem hD)),(h3 D hD).2⟩⟩
 rows:=bZ
 inj:=eh
 bF:=Ey
 bB:=oN
 FB:=Cr
 below:=hR.below.trans ⟨cR.1,cR.2.1,cR.2.2,Q2,fun k CS=>by
  by_cases u2:k < w.heap.size
  ·exact oS k u2 CS
  ·exact absurd (hR.BW k (Nat.le_of_not_lt u2)) CS⟩
 BW:=fun b h=>hR.BW b (Nat.le_trans Q2 h)
 top:=fun j hd h=>(hβ j (by rw [hR.top j hd h];simp)).trans (hR.top j hd h)
 topn:=hR.topn
 nn:=hR.nn
 inc:=fun b h=>hF b (hR.inc b h)
 keep:=fun b o u hb B7=>hk b o u (hR.inc b hb) (hR.keep b o u hb B7)
 sol:=fun hn k o ho hc=>JI k o (hR.sol hn k o ho hc) hc (.inl (Array.getElem?_eq_some_iff.1 ho).1)
 yl:=fun id l xs k e h=>absurd h (hc id l xs k e)
theorem P3 {b:Frame} {k:List Item} {cs:List Frame} {a:Act} {w:World} {c:Code}:step P (lone (b.atR a (.code (.scope c) :: k)) cs w) = .next (lone (b.atR a (.code c :: .inScope c :: k)) cs w) :=
 step_lone_go (by simp [stepG,stepG.exec,Frame.atR])
theorem lk {b:Frame} {k:List Item} {cs:List Frame} {a:Act} {w:World} {c:Code}:step P (lone (b.atR a (.inScope c :: k)) cs w) = .next (lone (b.atR a k) cs w) :=
 step_lone_go (by simp [stepG,stepG.exec,Frame.atR])
theorem jw {Fc:Fence} {n:Nat} {Q:Exit->Act->World->Prop} {a:Act} {w:World} {c:Code} (h:c.wpIn Fc n P Q a w) (hg:∀ l a w,¬Q (.goto l) a w):(Code.scope c).wpIn Fc n P Q a w:=by
 intro b k cs Cb hb hr
 have h0:(lone (b.atR a (.code (.scope c) :: k)) cs w).fenced P Fc:=fenced_calm hb hr rfl
 obtain ⟨e,a₁,w₁,hq,uQ⟩:=h b (.inScope c :: k) cs Cb hb hr
 cases e with
 | normal=>exact ⟨.normal,a₁,w₁,hq,.head h0 P3 (StepsIn.trans uQ (.one (fenced_calm hb hr rfl) lk))⟩
 | exit id =>
  have hx:exitTo id (.inScope c :: k)=exitTo id k:=by simp [exitTo]
  exact ⟨.exit id,a₁,w₁,hq,fun k' hk => .head h0 P3 (uQ.1 k' (by rw [hx];exact hk)),
   fun Cv hk=>let ⟨k₁,h1,h2⟩:=uQ.2 Cv (by rw [hx];exact hk);⟨k₁,h1,.head h0 P3 h2⟩⟩
 | goto l=>exact absurd hq (hg _ _ _)
 | ret=>exact ⟨_,a₁,w₁,hq,.of_steps (.one h0 P3) uQ⟩
 | panic ch=>exact ⟨_,a₁,w₁,hq,.of_steps (.one h0 P3) uQ⟩
 | outgrown=>exact ⟨_,a₁,w₁,hq,.of_steps (.one h0 P3) uQ⟩
theorem O2 {Fc:Fence} {n:Nat} {Q:Exit->Act->World->Prop} {a:Act} {w:World} {c:Code} (I:Nat->Act->World->Prop) (n₀:Nat) (h₀:I n₀ a w)
  (round:∀ m a w,I m a w->c.wpIn Fc n P (Exit.then (fun a' w'=>∃ n',n' < m/\I n' a' w') Q) a w):(Code.loop c).wpIn Fc n P Q a w:=by
 refine wpIn_loop (fun a w=>∃ n,I n a w) (fun a w=>leastOf (fun n=>I n a w)) ⟨n₀,h₀⟩ ?_
 intro a w hI
 refine wpIn_mono (round _ a w (leastOf_spec hI).1) ?_
 intro e a' w' hq
 cases e with
 | normal =>
  obtain ⟨n',u2,CW⟩:=hq
  exact show (∃ n,I n a' w')/\leastOf (fun n=>I n a' w') < leastOf (fun n=>I n a w) from ⟨⟨n',CW⟩,Nat.lt_of_le_of_lt ((leastOf_spec ⟨n',CW⟩).2 n' CW) u2⟩
 | exit id=>exact hq
 | goto l=>exact hq
 | ret=>exact hq
 | panic ch=>exact hq
 | outgrown=>exact hq
end
/- Why the executor is right (last part). A helper text: it speaks of no program. -/
section
variable {P:Program} {B:Nat->Prop} {w0:World} {F0:Env P} {S:St} {β:Nat->Option Hd} {F:Nat->Prop} {a:Act} {w:World}
def uR (B:Nat->Prop) (w0:World) (F0:Env P) (Q:Ex->St->Prop):Exit->Act->World->Prop
 | .normal,a,w=>∃ S,Q .norm S/\∃ β F,Rel B w0 F0 S β F a w
 | .ret,a,w=>∃ S,Q .ret S/\∃ β F,Rel B w0 F0 S β F a w
 | .exit i,a,w=>∃ S,Q (.exit i) S/\∃ β F,Rel B w0 F0 S β F a w
 | _,_,_=>False
theorem uR.norm {Q:Ex->St->Prop} (hR:Rel B w0 F0 S β F a w) (h:Q .norm S):uR B w0 F0 Q .normal a w:=⟨S,h,β,F,hR⟩
theorem xb (ds:List Nat) (S:St) (ws bs:List Nat) (vs:List (Nat×VT)) (I6:List AV) (B0 C5:List Row):(E9 ds S ws bs vs I6 B0 C5).n=S.n:=rfl
theorem xc (t:Nat) (V:VT) (S:St):(canonS t V S).n=S.n:=by
 unfold canonS
 split
 ·split
  ·rfl
  ·split<;>rfl
 ·split<;>rfl
 ·rfl
theorem xd (t b c:Nat) (V:VT) (S:St):(canonB t b c V S).n=S.n:=by
 unfold canonB
 repeat' split
 all_goals rfl
theorem xe (t:Nat) (V:VT) (S:St):(canon1 t V S).n=S.n:=by
 unfold canon1
 split
 ·exact xc t V S
 ·exact xd _ _ _ V S
theorem jx:∀ (l:List (Nat×VT)) (S:St),(canonV l S).n=S.n
 | [],_=>rfl
 | (t,V) :: l,S=>by simp only [canonV];rw [jx l,xe]
theorem X9 {ds ws bs:List Nat} {S0:St} {vs:List (Nat×VT)} {K:List AV->List Row->List Row->Prop} (hn:S0.n=F0.n) (hR:Rel B w0 F0 S β F a w) (h:bu ds S0 ws bs vs S K) :
  ∃ I6 B0 C5,K I6 B0 C5/\∃ β',Rel B w0 F0 (E9 ds S0 ws bs vs I6 B0 C5) β' F a w:=by
 unfold bu at h
 rw [w9,R8,M0,M0] at h
 obtain ⟨β',F7⟩:=hR.canonV vs
 exact ⟨_,_,_,h.1,β',F7.mask (by rw [xb,hn,F7.nn]) h.2.1 h.2.2⟩
theorem Aq {c:Code} (ih:∀ {S:St} {β:Nat->Option Hd} {F:Nat->Prop} {a:Act} {w:World} {Q:Ex->St->Prop},ex P c S Q->Rel B w0 F0 S β F a w->c.wpIn (FW F0.r) 0 P (uR B w0 F0 Q) a w) {Q:Ex->St->Prop} :
  ∀ (n:Nat) {S:St} {β:Nat->Option Hd} {F:Nat->Prop} {a:Act} {w:World},An (ex P c) n S Q->Rel B w0 F0 S β F a w->(Code.loop c).wpIn (FW F0.r) 0 P (uR B w0 F0 Q) a w:=by
 intro n S β F a w h hR
 refine O2 (fun n a w=>∃ S,An (ex P c) n S Q/\∃ β F,Rel B w0 F0 S β F a w) n ⟨S,h,β,F,hR⟩ ?_
 rintro n a w ⟨S,h,β,F,hR⟩
 cases n with
 | zero=>exact h.elim
 | succ n =>
  refine wpIn_mono (ih h hR) ?_
  rintro e a' w' hq
  cases e with
  | normal =>
   obtain ⟨S',h1,β',F',h2⟩:=hq
   exact ⟨n,Nat.lt_succ_self n,S',h1,β',F',h2⟩
  | ret=>exact hq
  | exit i=>exact hq
  | goto l=>exact hq
  | panic ch=>exact hq
  | outgrown=>exact hq
theorem Rel.kills':∀ (l:List Nat) {S:St} {β:Nat->Option Hd},(∀ d ∈ l,F0.β d=none)->Rel B w0 F0 S β F a w->∃ β',(∀ d ∈ l,β' d=none)/\(∀ j,β' j=β j∨β' j=none)/\Rel B w0 F0 (S.kills l) β' F a w
 | [],_,β,_,hR=>⟨β,by simp,fun _ => .inl rfl,hR⟩
 | d :: l,S,β,Q9,hR=>by
  obtain ⟨β1,h1,h2,bn⟩:=hR.kill d (Q9 d (by simp))
  obtain ⟨β2,h3,h4,eJ⟩:=Rel.kills' l (fun x hx=>Q9 x (by simp [hx])) bn
  refine ⟨β2,fun x hx=>?_,fun j=>?_,eJ⟩
  ·rcases List.mem_cons.1 hx with rfl|hx
   ·rcases h4 x with h|h
    ·rw [h];exact h1
    ·exact h
   ·exact h3 x hx
  ·rcases h4 j with h|h
   ·by_cases e:j=d
    ·subst e;exact .inr (h.trans h1)
    ·exact .inl (h.trans (h2 j e))
   ·exact .inr h
theorem Rel.marked (hR:Rel B w0 F0 S β F a w) (iy:F0.n = .plain) {D:Nat} (hD:w.heap[D]? = some (.deferred (some []))) (hB:B D) (BK:w0.heap.size<=D) (rT:I0 D ∉ a.defers):Rel B w0 F0 S β F { a with defers:=I0 D :: a.defers } w :=
 { hR with
  len:=hR.len
  slots:=hR.slots
  marks:=by
   obtain ⟨Ds,⟨h1,h0⟩,h2,h3⟩:=hR.marks
   refine ⟨D :: Ds,⟨by simp [h1],fun h=>absurd iy h⟩,List.nodup_cons.2 ⟨fun h=>rT (by rw [h1];exact List.mem_map_of_mem h),h2⟩,fun D' tv => ?_⟩
   rcases List.mem_cons.1 tv with rfl|h
   ·exact ⟨hD,hB,BK⟩
   ·exact h3 D' h
  yl:=fun id l xs k e h=>absurd h (hR.noctr iy id l xs k e) }
theorem ln {g:Operand} {ps:Array Tmp} {assign eR:Code}
    (Gz:∀ {B:Nat->Prop} {w0:World} {F0:Env P} {S:St} {β:Nat->Option Hd} {F:Nat->Prop} {a:Act} {w:World} {Q:Ex->St->Prop},ex P assign S Q->Rel B w0 F0 S β F a w->assign.wpIn (FW F0.r) 0 P (uR B w0 F0 Q) a w)
    (GA:∀ {B:Nat->Prop} {w0:World} {F0:Env P} {S:St} {β:Nat->Option Hd} {F:Nat->Prop} {a:Act} {w:World} {Q:Ex->St->Prop},ex P eR S Q->Rel B w0 F0 S β F a w->eR.wpIn (FW F0.r) 0 P (uR B w0 F0 Q) a w)
    {Q:Ex->St->Prop} (h:ex P (.rangeFunc g ps assign eR) S Q) (hR:Rel B w0 F0 S β F a w):(Code.rangeFunc g ps assign eR).wpIn (FW F0.r) 0 P (uR B w0 F0 Q) a w:=by
  simp only [ex] at h
  split at h
  · exact h.elim
  · exact h.elim
  rename_i hn
  split at h
  case h_2=>exact h.elim
  rename_i gf u4 hg
  obtain ⟨N0,xs,bs,BR,I,⟨KP,wJ⟩,h⟩:=h
  rw [dK] at h
  generalize ps.toList++(P2 assign++P2 eR)=ds at h
  obtain ⟨Fw,CX,ny,Fx⟩:=h
  have iy:F0.n = .plain:=hR.nn ▸ hn
  have hr:F0.r=none:=F0.nr (by intro ks e;rw [iy] at e;cases e)
  have xf:∀ d ∈ ds,F0.β d=none:=fun d hd=>hR.topn d (List.all_eq_true.1 Fw d hd)
  obtain ⟨I6,B0,C5,⟨HZ,rfl,rfl,rfl⟩,β0,Ia⟩:=X9 hR.nn hR CX
  obtain ⟨β1,_,_,Em⟩:=Ia.kills ds xf
  let A:Nat->St:=fun k=>(E9 ds S [] bs [] [] (BR k) []).kills ds
  have JJ:∀ k,(A k).n = .plain:=fun k=>(tw ds _).trans hn
  have JK:∀ k,(A k).t=(A 0).t:=fun k=>dt ds rfl
  have Ib:∀ k,(A k).kills ds=A k:=fun k=>jv ds _
  replace Em:Rel B w0 F0 (A 0) β1 F a w:=Em
  -- the CY value
  have hf:=hR.get g
  rw [hg] at hf
  obtain ⟨JL,us,hv,l1,l2,_,r2⟩:=hf.fn_inv
  obtain rfl:JL=#[]:=Array.eq_empty_of_size_eq_zero l1.symm
  rw [hr]
  refine wpIn_rangeFunc ?_
  intro fn KQ
  obtain ⟨rc,zN⟩:∃ rc:LoopState->Option Code->Loop,rc=fun st pe=>{ state:=st,pending:=pe,fn,tmps:=a.tmps,params:=ps,assign,body:=eR,defers:=w.heap.size }:=⟨_,rfl⟩
  obtain ⟨W1,xg⟩:∃ W1,(w.alloc (.deferred (some []))).alloc (.loop (rc .ready none))=W1:=⟨_,rfl⟩
  have KR:W1.heap[w.heap.size + 1]? = some (.loop (rc .ready none)):=by
    rw [<- xg];have:=World.alloc_heap_new (w.alloc (.deferred (some []))) (.loop (rc .ready none));rwa [World.size_alloc] at this
  have KS:W1.heap[w.heap.size]? = some (.deferred (some [])):=by
    rw [<- xg];exact (RowKit.Below.heap_alloc _ _ _ (by simp)).trans (World.alloc_heap_new w _)
  have Cc:∀ b,b < w.heap.size->W1.heap[b]? = w.heap[b]? := fun b hb=>by
    rw [<- xg];exact (RowKit.Below.heap_alloc _ _ _ (by simp;omega)).trans (RowKit.Below.heap_alloc _ _ _ hb)
  have Ic:W1.os=w.os/\W1.tape=w.tape/\W1.output=w.output:=by rw [<- xg];exact ⟨rfl,rfl,rfl⟩
  have Fy:W1.heap.size=w.heap.size + 2:=by rw [<- xg];simp
  have HK:w0.heap.size<=w.heap.size:=hR.below.size
  have CZ:∀ {k:Nat} {o:Obj},w.heap[k]? = some o->k < w.heap.size:=fun h=>(Array.getElem?_eq_some_iff.1 h).1
  have Ar:∀ D,I0 D ∈ a.defers->D < w.heap.size:=fun D hD=>by
    obtain ⟨Ds,⟨h1,h0⟩,h2,h3⟩:=hR.marks
    rw [h1] at hD
    obtain ⟨D',tv,e⟩:=List.mem_map.1 hD
    have:D'=D:=by simpa [I0] using e
    subst this
    exact CZ (h3 D' tv).1
  -- the invariant
  let J:Nat->Bool->(Nat->Prop)->World->Prop:=fun k e O W=>∃ S' β' F',Rel B w0 F0 S' β' F' a W/\(∀ b,F b->F' b)/\(∀ b,O b->w.heap.size + 2<=b)/\(∀ i b,o7 β' i b->¬ O b/\b≠w.heap.size + 1/\b≠w.heap.size) /\
    (∀ b,F' b->¬ O b/\b≠w.heap.size + 1/\b≠w.heap.size)/\W.heap[w.heap.size]? = some (.deferred (some []))/\w.heap.size + 2<=W.heap.size /\
    ((e=false/\S'=A k/\I k/\W.heap[w.heap.size + 1]? = some (.loop (rc .ready none))) ∨
     (e=true/\∃ c,W.heap[w.heap.size + 1]? = some (.loop (rc .done (some c)))/\((c = .ret/\Q .ret S')∨∃ i,c = .exit i/\Q (.exit i) S')))
  have Ie:J 0 false (fun _=>False) W1:=by
    refine ⟨A 0,β1,F,Em.other Ic (by omega) (O:=fun _=>False) (fun b hb _=>Cc b hb) (fun _ h=>h.elim) (fun _ h=>h.elim) (fun _ _ _ _ h=>h) (fun _ _ h=>h) (fun _ _ h=>h) (Em.noctr iy),fun _ h=>h,fun _ h=>h.elim,fun i b hb=>?_,fun b hb=>?_,KS,by omega,.inl ⟨rfl,rfl,HZ,KR⟩⟩
    · have:=(Em.bB i b hb).2;exact ⟨fun h=>h,by omega,by omega⟩
    · have:=(Em.FB b hb).1;exact ⟨fun h=>h,by omega,by omega⟩
  have dY:∀ k e O W W',J k e O W->(∀ b,b < W.heap.size->¬ O b->W'.heap[b]? = W.heap[b]?)->W'.os=W.os->W'.tape=W.tape->W'.output=W.output->W.heap.size<=W'.heap.size->J k e (fun b=>O b∨(W.heap.size<=b/\b < W'.heap.size)) W':=by
    rintro k e O W W' ⟨S',β',F',F7,j1,j2,j3,j4,j5,j6,j7⟩ h1 h2 h3 h4 h5
    have o1:¬ O (w.heap.size + 1):=fun h=>by have:=j2 _ h;omega
    have o2:¬ O w.heap.size:=fun h=>by have:=j2 _ h;omega
    refine ⟨S',β',F',F7.other ⟨h2,h3,h4⟩ h5 h1 (fun b hb=>hR.BW b (by have:=j2 b hb;omega)) (fun b hb=>by have:=j2 b hb;omega) (fun i b _ hb=>(j3 i b hb).1) (fun b hb=>(j4 b hb).1) (fun D hD h=>by have:=j2 D h;have:=Ar D hD;omega) (F7.noctr iy),j1,?_,?_,?_,?_,by omega,?_⟩
    · rintro b (h|h)
      · exact j2 b h
      · omega
    · intro i b hb
      have:=(F7.bB i b hb).2
      exact ⟨fun h=>h.elim (j3 i b hb).1 fun h=>by omega,(j3 i b hb).2⟩
    · intro b hb
      have:=(F7.FB b hb).1
      exact ⟨fun h=>h.elim (j4 b hb).1 fun h=>by omega,(j4 b hb).2⟩
    · rw [h1 _ (by omega) o2];exact j5
    · rcases j7 with ⟨e1,e2,e3,e4⟩|⟨e1,c,e2,e3⟩
      · exact .inl ⟨e1,e2,e3,by rw [h1 _ (by omega) o1];exact e4⟩
      · exact .inr ⟨e1,c,by rw [h1 _ (by omega) o1];exact e2,e3⟩
  -- one round
  have Fk:∀ k O W vs x,J k false O W->xs[k]? = some x->(∀ b,O b->b < W.heap.size)->vs.size=x.length->(∀ i,i < x.length->p9 (fun _=>False) W (x.getD i .any) (vs.getD i undef)) ->
      YieldAt Fence.wide 0 P (w.heap.size + 1) vs W fun e W'=>W'.os=W.os/\W'.tape=W.tape/\W'.output=W.output/\W.heap.size<=W'.heap.size/\(∀ b,O b->W'.heap[b]? = W.heap[b]?)/\y0 F W W' /\
        ((e = .returned (.bool true)/\J (k + 1) false O W')∨(e = .returned (.bool false)/\J (k + 1) true O W')):=by
    rintro k O W vs x ⟨S',β',F1,bn,j1,j2,j3,j4,j5,j6,j7⟩ hx HU tc G8
    rcases j7 with ⟨_,rfl,Ig,hl⟩|⟨e1,_⟩
    case inr=>cases e1
    have KT:x ∈ xs:=List.mem_of_getElem? hx
    obtain ⟨Mo,KU⟩:=wJ x KT
    have hy:=run_yield (P:=P) (args:=vs) hl (by rw [zN,tc];exact KU)
    rw [zN] at hy
    refine ⟨fn,_,assign,eR,hy,roundIn_of_wpIn KQ ?_⟩
    clear hy
    obtain ⟨β2,k1,k2,eJ⟩:=Rel.kills' ds xf bn
    rw [Ib] at eJ
    have b2:∀ i b,o7 β2 i b->o7 β' i b:=fun i b hb=>by
      rcases k2 i with h|h
      · simpa [o7,h] using hb
      · simp [o7,h] at hb
    have KV:w.heap.size + 1 < W.heap.size:=by omega
    let Br:Nat->Prop:=fun b=>W.heap.size<=b∨∃ i,o7 β2 i b
    let E:Env P:=Env.plain P F1 β2 (some (w.heap.size + 1)) (.round ds) (fun h=>absurd rfl (h ds))
    have pO:∀ b,Br b->¬ O b/\b≠w.heap.size + 1/\b≠w.heap.size:=fun b hb=>by
      rcases hb with h|⟨i,h⟩
      · exact ⟨fun ho=>by have:=HU b ho;omega,by omega,by omega⟩
      · exact j3 i b (b2 i b h)
    have Da:∀ b,Br b->B b:=fun b hb=>by
      rcases hb with h|⟨i,h⟩
      · exact eJ.BW b h
      · exact (eJ.bB i b h).1
    have oW:=mc (β:=β2) (w:=W) (F:=F1) ps.toList x vs.toList (A k).t a.tmps (by simp [tc]) (fun i hi => .imm (by
      have:=(G8 i hi).mono (F':=F1) (w':=W) (fun _ h=>h.elim) (fun _ _ _ h _=>h.elim)
      simpa [Array.getD_eq_getD_getElem?,List.getD_eq_getElem?_getD] using this)) eJ.len eJ.slots
    have iX:(ps.zip vs).foldl (fun tmps (t,a)=>tmps.setIfInBounds t a) a.tmps=(ps.toList.zip vs.toList).foldl (fun t (p,v)=>t.setIfInBounds p v) a.tmps:=by
      rw [<- Array.foldl_toList,Array.toList_zip]
    rw [<- iX] at oW
    have KW:Rel Br W E ⟨Z6 (A k).t ps.toList x,(A k).h,.round ds⟩ β2 F1 { tmps:=(ps.zip vs).foldl (fun tmps (t,a)=>tmps.setIfInBounds t a) a.tmps,defers:=[] } W:={
      len:=by rw [bA,oW.1];exact eJ.len
      slots:=fun i hi=>oW.2 i (by simpa [bA] using hi)
      marks:=⟨[],⟨rfl,fun _=>rfl⟩,.nil,by simp⟩
      rows:=eJ.rows
      inj:=eJ.inj
      bF:=eJ.bF
      bB:=fun i b h=>⟨.inr ⟨i,h⟩,(eJ.bB i b h).2⟩
      FB:=fun b h=>⟨(eJ.FB b h).1,.inl h⟩
      below := .refl _ _
      BW:=fun b h => .inl h
      top:=fun _ _ h=>h
      topn:=fun j hj=>by
        simp only [u3] at hj
        split at hj
        · exact k1 j (js.1 hj)
        · cases hj
      nn:=rfl
      inc:=fun _ h=>h
      keep:=y0.refl _ _
      sol:=fun _ _ _ h _=>h
      yl:=fun id l xs k' e h=>absurd h (eJ.noctr iy id l xs k' e) }
    have hex:=ny k x Ig hx
    rw [w9,w9] at hex
    refine wpIn_mono (Gz hex KW) ?_
    rintro e a1 Wa hq
    cases e with
    | ret=>obtain ⟨S3,hb,_⟩:=hq;exact hb.elim
    | exit i=>obtain ⟨S3,hb,_⟩:=hq;exact hb.elim
    | goto l=>exact hq.elim
    | panic ch=>exact hq.elim
    | outgrown=>exact hq.elim
    | normal =>
    obtain ⟨S3,hb,β3,F3,bW⟩:=hq
    simp only [] at hb
    have Ih:Wa.heap[w.heap.size + 1]? = some (.loop (rc .ready none)):=by rw [bW.below.block _ fun h=>(pO _ h).2.1 rfl];exact hl
    refine ⟨_,run_beginRound Ih (by rw [zN]),?_⟩
    obtain ⟨W2,En⟩:∃ W2,Wa.putObj (w.heap.size + 1) (.loop { rc .ready none with state := .busy })=W2:=⟨_,rfl⟩
    rw [En]
    have Ec:W2.heap[w.heap.size + 1]? = some (.loop { rc .ready none with state := .busy }):=by rw [<- En];exact World.putObj_heap_same (Array.getElem?_eq_some_iff.1 Ih).1
    have xh:∀ b,b≠w.heap.size + 1->W2.heap[b]? = Wa.heap[b]? := fun b hb=>by rw [<- En];exact World.putObj_heap_other hb
    have rz:W2.heap.size=Wa.heap.size:=by rw [<- En];simp
    have uS:W2.os=Wa.os/\W2.tape=Wa.tape/\W2.output=Wa.output:=by rw [<- En];exact ⟨rfl,rfl,rfl⟩
    have zI:∀ {G:Nat->Prop},y0 G Wa W2:=fun {G}=>by rw [<- En];exact bC Ih rfl
    have KX:=bW.below.size
    let GB:Nat->Prop:=fun b=>W2.heap.size<=b∨(∃ i,o7 β3 i b)∨I0 b ∈ a1.defers
    have Ii:∀ D,I0 D ∈ a1.defers->Br D/\Wa.heap[D]? = some (.deferred (some [])):=fun D hD=>by
      obtain ⟨Ds,⟨h1,h0⟩,h2,h3⟩:=bW.marks
      rw [h1] at hD
      obtain ⟨D',tv,e⟩:=List.mem_map.1 hD
      have:D'=D:=by simpa [I0] using e
      subst this
      exact ⟨(h3 D' tv).2.1,(h3 D' tv).1⟩
    have As:∀ b,GB b->Br b:=fun b hb=>by
      rcases hb with h|⟨i,h⟩|h
      · exact .inl (by omega)
      · exact (bW.bB i b h).1
      · exact (Ii b h).1
    let E2:Env P:=Env.plain P F3 (fun j=>if bR j ds=true then none else β3 j) (some (w.heap.size + 1)) (.round ds) (fun h=>absurd rfl (h ds))
    have Ij:Rel GB W2 E2 S3 β3 F3 a1 W2:={
      len:=bW.len
      slots:=fun i hi=>(bW.slots i hi).grow (fun _ _=>rfl) (fun _ h=>h) zI
      marks:=by
        obtain ⟨Ds,⟨h1,h0⟩,h2,h3⟩:=bW.marks
        obtain rfl:=h0 (by intro h;cases h)
        exact ⟨[],⟨h1,fun _=>rfl⟩,.nil,by simp⟩
      rows:=fun j=>(bW.rows j).grow (fun _ _=>rfl) (fun _ h=>h) zI fun b hb=>xh b (pO b (bW.bB j b hb).1).2.1
      inj:=bW.inj
      bF:=bW.bF
      bB:=fun i b h=>⟨.inr (.inl ⟨i,h⟩),by rw [rz];exact (bW.bB i b h).2⟩
      FB:=fun b h=>⟨by rw [rz];exact (bW.FB b h).1,.inl h⟩
      below := .refl _ _
      BW:=fun b h => .inl h
      top:=fun j hd h=>by
        have h:(if bR j ds=true then none else β3 j)=some hd:=h
        split at h
        · cases h
        · exact h
      topn:=fun j hj=>by
        have KY:S3.n = .round ds:=bW.nn
        simp only [u3,KY] at hj
        split at hj
        · show (if bR j ds=true then none else β3 j)=none
          rw [if_pos hj]
        · cases hj
      nn:=bW.nn
      inc:=fun _ h=>h
      keep:=y0.refl _ _
      sol:=fun _ _ _ h _=>h
      yl:=fun id l xs k' e h=>by obtain ⟨_,_,_,O',Ik,_⟩:=bW.yl id l xs k' e h;exact Ik.elim }
    refine wpIn_mono (GA hb Ij) ?_
    -- the GC end
    have fin:∀ (S4:St) (β4:Nat->Option Hd) (F4:Nat->Prop) (a2:Act) (W3:World) (jump:Option Code),Rel GB W2 E2 S4 β4 F4 a2 W3 ->
        ∃ W4,(Instr.endRound (w.heap.size + 1) jump).run P W3 = .ok (.bool jump.isNone) W4/\(W4.os=W.os/\W4.tape=W.tape/\W4.output=W.output)/\W.heap.size<=W4.heap.size/\(∀ b,O b->W4.heap[b]? = W.heap[b]?)/\y0 F W W4 /\
          Rel B w0 F0 ⟨(A k).t,S4.h,.plain⟩ β4 F4 a W4/\(∀ b,F b->F4 b)/\(∀ i b,o7 β4 i b->¬ O b/\b≠w.heap.size + 1/\b≠w.heap.size)/\(∀ b,F4 b->¬ O b/\b≠w.heap.size + 1/\b≠w.heap.size) /\
          W4.heap[w.heap.size]? = some (.deferred (some []))/\W4.heap[w.heap.size + 1]? = some (.loop (rc (if jump.isNone then .ready else .done) jump)):=by
      intro S4 β4 F4 a2 W3 jump gX
      have KZ:¬ GB (w.heap.size + 1):=fun h=>(pO _ (As _ h)).2.1 rfl
      have Il:W3.heap[w.heap.size + 1]? = some (.loop { rc .ready none with state := .busy }):=by rw [gX.below.block _ KZ];exact Ec
      have Fz:=run_endRound (P:=P) jump Il
      rw [zN] at Fz
      obtain ⟨W4,Eo⟩:∃ W4,W3.putObj (w.heap.size + 1) (.loop (rc (if jump.isNone then .ready else .done) jump))=W4:=⟨_,rfl⟩
      have xi:∀ b,b≠w.heap.size + 1->W4.heap[b]? = W3.heap[b]? := fun b hb=>by rw [<- Eo];exact World.putObj_heap_other hb
      have La:W4.heap[w.heap.size + 1]? = some (.loop (rc (if jump.isNone then .ready else .done) jump)):=by rw [<- Eo];exact World.putObj_heap_same (Array.getElem?_eq_some_iff.1 Il).1
      have JM:∀ {G:Nat->Prop},y0 G W3 W4:=fun {G}=>by rw [<- Eo];exact bC Il rfl
      have Im:W4.heap.size=W3.heap.size:=by rw [<- Eo];simp
      have uT:W4.os=W3.os/\W4.tape=W3.tape/\W4.output=W3.output:=by rw [<- Eo];exact ⟨rfl,rfl,rfl⟩
      have Lb:=gX.below.size
      have same:∀ b,¬ Br b->b≠w.heap.size + 1->W4.heap[b]? = W.heap[b]? := fun b hb R9=>by
        rw [xi b R9,gX.below.block b fun h=>hb (As b h),xh b R9,bW.below.block b hb]
      have FA:∀ b,F1 b->F4 b:=fun b h=>gX.inc b (bW.inc b h)
      have jl:y0 F1 W W4:=fun b o u hb hc=>JM (G:=fun _=>True) b o u trivial (gX.keep b o u (bW.inc b hb) (zI (G:=fun _=>True) b o u trivial (bW.keep b o u hb hc)))
      have oN:∀ i b,o7 β4 i b->Br b/\b < W3.heap.size:=fun i b h=>⟨As b (gX.bB i b h).1,(gX.bB i b h).2⟩
      have Cr:∀ b,F4 b->b < W3.heap.size/\(F1 b∨Br b):=fun b h=>by
        obtain ⟨h1,h2⟩:=gX.FB b h
        refine ⟨h1,?_⟩
        rcases h2 with h2|h2
        · exact (bW.FB b h2).2
        · exact .inr (As b h2)
      refine ⟨W4,by rw [<- Eo,zN];exact Fz,?_,by omega,fun b hb=>same b (fun h=>(pO b h).1 hb) (by have:=j2 b hb;omega),fun b o u hb hc=>jl b o u (j1 b hb) hc,?_,fun b hb=>FA b (j1 b hb),fun i b h=>pO b (oN i b h).1,fun b h=>(Cr b h).2.elim (j4 b) (pO b),?_,La⟩
      · have e1:=gX.below
        have e2:=bW.below
        exact ⟨uT.1.trans (e1.os.trans (uS.1.trans e2.os)),uT.2.1.trans (e1.tape.trans (uS.2.1.trans e2.tape)),uT.2.2.trans (e1.output.trans (uS.2.2.trans e2.output))⟩
      · have key:=eJ.back iy (w':=W4) (β':=β4) (F':=F4) (h':=S4.h) (fun j hj=>?_) FA jl ?_ (by omega) (fun id=>?_) gX.inj gX.bF (fun i b h=>⟨Da b (oN i b h).1,by rw [Im];exact (oN i b h).2⟩) (fun b h=>?_) (fun b hb JN=>?_) (fun q o ho hc hq=>?_) (fun id l oR k' e h=>?_)
        · rw [JJ] at key;exact key
        · have Y6:bR j ds=false:=by
            cases hh:bR j ds with
            | false=>rfl
            | true=>exact absurd (k1 j (js.1 hh)) hj
          cases X0:β2 j with
          | none=>exact absurd X0 hj
          | some hd =>
            have h3:=bW.top j hd X0
            refine gX.top j hd ?_
            show (if bR j ds=true then none else β3 j)=some hd
            rw [Y6];simpa using h3
        · have e1:=gX.below
          have e2:=bW.below
          exact ⟨uT.1.trans (e1.os.trans (uS.1.trans e2.os)),uT.2.1.trans (e1.tape.trans (uS.2.1.trans e2.tape)),uT.2.2.trans (e1.output.trans (uS.2.2.trans e2.output))⟩
        · exact (gX.rows id).grow (fun _ _=>rfl) (fun _ h=>h) JM fun b hb=>xi b (pO b (oN id b hb).1).2.1
        · obtain ⟨h1,h2⟩:=Cr b h
          refine ⟨by omega,?_⟩
          rcases h2 with h2|h2
          · exact (eJ.FB b h2).2
          · exact .inr (Da b h2)
        · refine same b (fun h=>JN (Da b h)) fun e=>JN ?_
          rw [e];exact hR.BW _ (by omega)
        · have u2:q < w.heap.size:=by
            rcases hq with h|h
            · omega
            · exact Ar q h
          have h3:=bW.sol (by intro h;cases h) q o ho hc
          rw [xi q (by omega)]
          refine gX.sol (by intro h;cases h) q o ?_ hc
          rw [xh q (by omega)]
          exact h3
        · obtain ⟨_,_,_,O',Ik,_⟩:=gX.yl id l oR k' e h
          exact Ik.elim
      · rw [same _ (fun h=>(pO _ h).2.2 rfl) (by omega)];exact j5
    rintro e a2 W3 hq
    cases e with
    | normal =>
      obtain ⟨S4,h4,β4,F4,gX⟩:=hq
      simp only [] at h4
      rw [M0] at h4
      obtain ⟨⟨Io,Db⟩,Cd⟩:=h4
      obtain ⟨W4,q1,q2,q3,q4,q5,q6,q7,q8,q9,FC,FD⟩:=fin S4 β4 F4 a2 W3 none gX
      refine ⟨_,W4,q1,q2.1,q2.2.1,q2.2.2,q3,q4,q5,.inl ⟨rfl,A (k + 1),β4,F4,?_,q7,j2,q8,q9,FC,by omega,.inl ⟨rfl,rfl,Io,FD⟩⟩⟩
      rw [Db] at Cd
      have Dc:=dG Cd
      have:Rel B w0 F0 ⟨(A k).t,(A (k + 1)).h,.plain⟩ β4 F4 a W4:=q6.forget rfl rfl fun i=>(Dc i).symm
      rw [JK k,<- JK (k + 1),<- JJ (k + 1)] at this
      exact this
    | ret =>
      obtain ⟨S4,h4,β4,F4,gX⟩:=hq
      obtain ⟨W4,q1,q2,q3,q4,q5,q6,q7,q8,q9,FC,FD⟩:=fin S4 β4 F4 a2 W3 (some .ret) gX
      exact ⟨_,W4,q1,q2.1,q2.2.1,q2.2.2,q3,q4,q5,.inr ⟨rfl,_,β4,F4,q6,q7,j2,q8,q9,FC,by omega,.inr ⟨rfl,.ret,FD,.inl ⟨rfl,h4⟩⟩⟩⟩
    | exit i =>
      obtain ⟨S4,h4,β4,F4,gX⟩:=hq
      obtain ⟨W4,q1,q2,q3,q4,q5,q6,q7,q8,q9,FC,FD⟩:=fin S4 β4 F4 a2 W3 (some (.exit i)) gX
      exact ⟨_,W4,q1,q2.1,q2.2.1,q2.2.2,q3,q4,q5,.inr ⟨rfl,_,β4,F4,q6,q7,j2,q8,q9,FC,by omega,.inr ⟨rfl,.exit i,FD,.inr ⟨i,rfl,h4⟩⟩⟩⟩
    | goto l=>exact hq.elim
    | panic ch=>exact hq.elim
    | outgrown=>exact hq.elim
  obtain ⟨eg,FE⟩:=KP F W1 us (w.heap.size + 1) J (fun b hb=>by have:=(hR.FB b hb).1;omega) l2.symm (fun i hi=>by
    have U3:=(r2 i hi).shut (B8 N0 i)
    exact U3.mono (fun _ h=>h) (fun b o u hb hc=>by rw [World.cell?_of_block (w:=w) (Cc b (hR.FB b hb).1)];exact hc)) dY Fk Ie
  refine ⟨w.heap.size + 1,[I0 w.heap.size],W1,{ target := .fn (.func gf) us,args:=#[.func (.yield (w.heap.size + 1)) #[] #[]] },W1,gf,#[.func (.yield (w.heap.size + 1)) #[] #[]]++us,W1,?_,?_,?_,?_,fun h=>(by cases h),?_⟩
  · rw [<- xg,zN];exact run_enterLoop_outer _ _ _ _ _
  · simp only [resolve,hv]
    simp [go_sem]
  · intro f' _;trivial
  · simp [invoke,go_sem,eg]
  · refine CallsIn.mono FE ?_
    rintro e W2 ⟨⟨v,rfl⟩,_,_,_,Lc,O,k,e',⟨S',β',F',F7,j1,j2,j3,j4,j5,j6,j7⟩,hk⟩
    have rT:I0 w.heap.size ∉ a.defers:=fun h=>by have:=Ar _ h;omega
    have after:∀ (o:Obj),(∃ r:Loop,W2.heap[w.heap.size + 1]? = some (.loop r))->Rel B w0 F0 S' β' F' { a with defers:=[I0 w.heap.size]++a.defers } (W2.putObj (w.heap.size + 1) o):=fun o ⟨r,hl⟩=>by
      have h1:Rel B w0 F0 S' β' F' a (W2.putObj (w.heap.size + 1) o):=F7.other ⟨rfl,rfl,rfl⟩ (by simp) (O:=fun b=>b=w.heap.size + 1) (fun b _ hb=>World.putObj_heap_other hb) (fun b e=>by rw [e];exact hR.BW _ (by omega)) (fun b e=>by omega)
        (fun i b _ hb e=>(j3 i b hb).2.1 e) (fun b hb e=>(j4 b hb).2.1 e) (fun D hD e=>by have:=Ar D hD;omega) (F7.noctr iy)
      exact h1.marked iy ((World.putObj_heap_other (by omega)).trans j5) (hR.BW _ (Nat.le_refl _)) HK rT
    rcases j7 with ⟨rfl,rfl,Ig,hl⟩|⟨rfl,c,hl,hc⟩
    · obtain rfl:=hk rfl
      refine ⟨none,_,by have:=run_endLoop (P:=P) hl (by rw [zN];simp);rw [zN] at this;exact this,?_⟩
      have hd:=Fx Ig
      rw [w9] at hd
      exact ⟨_,hd,β',F',after _ ⟨_,hl⟩⟩
    · refine ⟨some c,_,by have:=run_endLoop (P:=P) hl (by rw [zN];simp);rw [zN] at this;exact this,?_⟩
      rcases hc with ⟨rfl,hq⟩|⟨i,rfl,hq⟩
      · exact wpIn_ret ⟨S',hq,β',F',after _ ⟨_,hl⟩⟩
      · exact wpIn_exit ⟨S',hq,β',F',after _ ⟨_,hl⟩⟩
theorem rU (hm:P.follows .mixedOrders=true):∀ (c:Code) {B:Nat->Prop} {w0:World} {F0:Env P} {S:St} {β:Nat->Option Hd} {F:Nat->Prop} {a:Act} {w:World} {Q:Ex->St->Prop},ex P c S Q->Rel B w0 F0 S β F a w->c.wpIn (FW F0.r) 0 P (uR B w0 F0 Q) a w:=by
 intro c
 induction c with
 | skip=>intro B w0 F0 S β F a w Q h hR;exact wpIn_skip (.norm hR h)
 | label l=>intro B w0 F0 S β F a w Q h hR;exact wpIn_label (.norm hR h)
 | ret=>intro B w0 F0 S β F a w Q h hR;exact wpIn_ret ⟨S,h,β,F,hR⟩
 | exit i=>intro B w0 F0 S β F a w Q h hR;exact wpIn_exit ⟨S,h,β,F,hR⟩
 | region id ops draw =>
  intro B w0 F0 S β F a w Q h hR
  unfold ex at h
  cases draw with
  | false =>
   refine wpIn_region ?_
   rw [List.range_eq_range']
   have:=eQ (P:=P) (ops:=ops) (K:=fun S=>cb S (Q .norm)) (Q:=uR B w0 F0 Q) (fun S β F a w hR h=>by rw [w9] at h;exact .norm hR h) ops.toList 0 (by simp) hR h
   simpa using this
  | true =>
   simp only [w9] at h
   obtain ⟨F',F7⟩:=hR.preF P ops.toList
   obtain ⟨h1,h2⟩:=h
   exact ju (K:=fun S=>Q .norm S) hm (fun S β F a w hR h => .norm hR h) F7 h1 (by simpa only [w9] using h2)
 | seq x y At Au =>
  intro B w0 F0 S β F a w Q h hR
  refine wpIn_seq (wpIn_mono (At h hR) ?_)
  rintro e a' w' hq
  cases e with
  | normal=>obtain ⟨S',h1,β',F',h2⟩:=hq;exact Au h1 h2
  | ret=>exact hq
  | exit i=>exact hq
  | goto l=>exact hq
  | panic ch=>exact hq
  | outgrown=>exact hq
 | cond c x y At Au =>
  intro B w0 F0 S β F a w Q h hR
  simp only [ex] at h
  have hc:=hR.get c
  split at h
  ·rename_i e;rw [e] at hc;exact wpIn_cond_true hc.tt_inv (At h hR)
  ·rename_i e;rw [e] at hc;exact wpIn_cond_false hc.ff_inv (Au h hR)
  ·rename_i b e
   rw [e] at hc
   exact wpIn_cond_split hc.bool_inv (fun hb=>At (h.1 hb) hR) fun hb=>Au (h.2 hb) hR
  ·exact h.elim
 | scope x ih =>
  intro B w0 F0 S β F a w Q h hR
  exact jw (ih h hR) (fun _ _ _ q=>q)
 | block id x ih =>
  intro B w0 F0 S β F a w Q h hR
  refine wpIn_block (wpIn_mono (ih h hR) ?_)
  rintro e a' w' hq
  cases e with
  | normal=>exact hq
  | ret=>exact hq
  | exit i =>
   obtain ⟨S',h1,β',F',h2⟩:=hq
   simp only [] at h1
   cases hb:Nat.beq i id with
   | true =>
    rw [hb] at h1
    have:=Nat.eq_of_beq_eq_true hb
    simp only [Exit.inBlock,this,if_true]
    exact ⟨S',h1,β',F',h2⟩
   | false =>
    rw [hb] at h1
    have:=Nat.ne_of_beq_eq_false hb
    simp only [Exit.inBlock,this,if_false]
    exact ⟨S',h1,β',F',h2⟩
  | goto l=>exact hq
  | panic ch=>exact hq
  | outgrown=>exact hq
 | loop x ih =>
  intro B w0 F0 S β F a w Q h hR
  rcases h with ⟨n,h⟩|⟨ι,ws,bs,vs,V,BR,VR,μ,I,h⟩
  ·exact Aq ih n h hR
  ·rw [dK,w9] at h
   obtain ⟨⟨i,h0⟩,xj⟩:=h
   have vY:(Ev.canonV vs S).n=F0.n:=(jx vs S).trans hR.nn
   obtain ⟨I6,B0,C5,⟨hI,rfl,rfl,rfl⟩,β',F7⟩:=X9 vY hR h0
   refine O2 (fun n a w=>∃ i,μ i=n/\I i/\∃ β F,Rel B w0 F0 (E9 (P2 x) (Ev.canonV vs S) ws bs vs (V i) (BR i) (VR i)) β F a w) (μ i) ⟨i,rfl,hI,β',F,F7⟩ ?_
   rintro n a w ⟨i,rfl,hI,β',F,F7⟩
   have h1:=xj i hI
   rw [w9] at h1
   refine wpIn_mono (ih h1 F7) ?_
   rintro e a' w' hq
   cases e with
   | normal =>
    obtain ⟨S',⟨i',h1⟩,β',F',h2⟩:=hq
    obtain ⟨I6,B0,C5,⟨⟨u2,CW⟩,rfl,rfl,rfl⟩,β',F7⟩:=X9 vY h2 h1
    exact ⟨_,u2,i',rfl,CW,β',F',F7⟩
   | ret=>exact hq
   | exit i=>exact hq
   | goto l=>exact hq
   | panic ch=>exact hq
   | outgrown=>exact hq
 | rangeFunc g ps assign eR Gz GA =>
  intro B w0 F0 S β F a w Q h hR
  exact ln Gz GA h hR
 | _=>intro B w0 F0 S β F a w Q h;exact h.elim
end
/- A function's contract from its body. A helper text: it speaks of no program. -/
section
variable {P:Program} {B:Nat->Prop} {w0:World} {F0:Env P} {S:St} {β:Nat->Option Hd} {F:Nat->Prop} {a:Act} {w:World}
def iE (tmps:Array Value):ResultVar->Sem Value
 | .tmp t=>pure (tmps.getD t undef)
 | .cell a t=>do loadVar t (<- asAddr (tmps.getD a undef))
theorem fW (hR:Rel B w0 F0 S β F a w):∀ (l:List ResultVar) {r:List AV},aM P S l=some r ->
  ∃ vs,(l.mapM (iE a.tmps)).run P w = .ok vs w/\vs.length=r.length/\∀ i,i < r.length->p9 (fun b=>F b∨et S β b) w (r.getD i .any) (vs.getD i undef)
 | [],r,h=>by
  simp only [aM,Option.some.injEq] at h
  subst h
  exact ⟨[],by simp,rfl,fun i hi=>absurd hi (Nat.not_lt_zero i)⟩
 | .tmp t :: l,r,h=>by
  simp only [aM] at h
  split at h
  ·rename_i r' hr
   simp only [Option.some.injEq] at h
   subst h
   obtain ⟨vs,h1,h2,h3⟩:=fW hR l hr
   refine ⟨a.tmps.getD t undef :: vs,by simp [List.mapM_cons,h1,iE],by simp [h2],fun i hi=>?_⟩
   cases i with
   | zero=>exact C0 hR 4 (hR.get (.tmp t))
   | succ i=>exact h3 i (by simpa using hi)
  ·cases h
 | .cell x t :: l,r,h=>by
  simp only [aM] at h
  split at h
  ·cases h
  ·rename_i r' hr
   obtain ⟨vs,h1,h2,h3⟩:=fW hR l hr
   split at h
   ·rename_i i d hi hd
    split at h
    ·rename_i id sz j off hx
     split at h
     ·rename_i ty cs o9
      split at h
      ·rename_i v hv
       simp only [Option.some.injEq] at h
       subst h
       have oZ:=hR.get (.tmp x)
       rw [show S.get (.tmp x) = .ptr id sz j off from hx] at oZ
       have dn:=hR.rows id
       rw [o9] at dn
       obtain ⟨hd',b,ws,e1,em,e2,e3,e4,e5⟩:=dn
       obtain ⟨Ip,b',e6,e7,e8⟩:∃ hd b,β id=some hd/\hd.b=some b/\a.tmps.getD x undef = .pointer (some ⟨b,j * sz + off,none⟩):=oZ.ptr_inv
       rw [e1] at e6;cases e6
       rw [e2] at e7;cases e7
       have B7:∀ k,k < cs.length->w.cell? ⟨b,0 + k,none⟩=some (ws.getD k undef):=fun k hk=>by rw [Nat.zero_add];exact A6 e3 (by omega)
       obtain ⟨u,ry,sZ⟩:=X6 hi hd (b:=b) (o:=0) (off:=j * sz + off) B7 e5 hv
       refine ⟨u :: vs,?_,by simp [h2],fun i hi=>?_⟩
       ·have:(iE a.tmps (.cell x t)).run P w = .ok u w:=by
         rw [Nat.zero_add] at ry
         simp only [iE,e8]
         simpa [Instr.loadAt,Instr.sureAddr,asAddr] using ry
        simp [List.mapM_cons,h1,this]
       ·cases i with
        | zero=>exact C0 hR 4 sZ
        | succ i=>exact h3 i (by simpa using hi)
      ·cases h
     ·cases h
    ·cases h
   ·cases h
theorem AV.fin1_rep {x:AV} {v:Value} (h:p9 F w x v):p9 F w x.fin1 v:=by
 cases h<;>first|exact .bool _|(simp only [AV.fin1];constructor<;>assumption)
theorem AV.fin_rep {x:AV} {v:Value} (h:p9 F w x v):p9 F w x.fin v:=by
 cases h with
 | tt=>exact .bool true
 | ff=>exact .bool false
 | tup hl hh =>
  refine .tup (by simpa using hl) fun i hi=>?_
  simp only [List.length_map] at hi
  rw [n4 _ rfl]
  exact AV.fin1_rep (hh i hi)
 | _=>(try simp only [AV.fin]);constructor<;>assumption
theorem hC (hR:Rel B w0 F0 S β F a w) {fn:Func} {r:List AV} (h:aM P S fn.results.toList=some r) :
  ∃ v,(results fn a.tmps).run P w = .ok v w/\p9 (fun b=>F b∨et S β b) w (cn r).fin v:=by
 obtain ⟨vs,h1,h2,h3⟩:=fW hR _ h
 have hm:(fn.results.mapM (iE a.tmps)).run P w = .ok vs.toArray w:=by
  rw [Array.mapM_eq_mapM_toList]
  simp [h1]
 refine ⟨if h:vs.toArray.size=1 then vs.toArray[0] else .tuple vs.toArray,?_,AV.fin_rep ?_⟩
 ·have e:results fn a.tmps=(do let vs <- fn.results.mapM (iE a.tmps);pure (if h:vs.size=1 then vs[0] else .tuple vs)):=by
   unfold results
   congr 1
  rw [e,Sem.run_bind,hm]
  rfl
 ·cases r with
  | nil =>
   have:vs=[]:=by simpa using h2
   subst this
   exact .tup rfl fun i hi=>absurd hi (Nat.not_lt_zero i)
  | cons x l =>
   cases l with
   | nil =>
    obtain ⟨v,rfl⟩:∃ v,vs=[v]:=by
     match vs,h2 with
     | [v],_=>exact ⟨v,rfl⟩
    exact h3 0 (by simp)
   | cons y l =>
    have:vs.toArray.size≠1:=by simp [h2]
    rw [dif_neg this]
    exact .tup (by simp [h2]) fun i hi=>by
     have:=h3 i hi
     simpa [Array.getD_eq_getD_getElem?,List.getD_eq_getElem?_getD] using this
theorem dO (hR:Rel B w0 F0 S β F a w):∀ (l:List ResultVar) {r:List AV},T1 P S l=some r ->
  ∃ vs,(l.mapM (iE a.tmps)).run P w = .ok vs w/\vs.length=r.length/\∀ i,i < r.length->v7 β F w (r.getD i .any) (vs.getD i undef)
 | [],r,h=>by
  simp only [T1,Option.some.injEq] at h
  subst h
  exact ⟨[],by simp,rfl,fun i hi=>absurd hi (Nat.not_lt_zero i)⟩
 | .tmp t :: l,r,h=>by
  simp only [T1] at h
  split at h
  ·rename_i r' hr
   simp only [Option.some.injEq] at h
   subst h
   obtain ⟨vs,h1,h2,h3⟩:=dO hR l hr
   refine ⟨a.tmps.getD t undef :: vs,by simp [List.mapM_cons,h1,iE],by simp [h2],fun i hi=>?_⟩
   cases i with
   | zero=>exact hR.get (.tmp t)
   | succ i=>exact h3 i (by simpa using hi)
  ·cases h
 | .cell x t :: l,r,h=>by
  simp only [T1] at h
  split at h
  ·cases h
  ·rename_i r' hr
   obtain ⟨vs,h1,h2,h3⟩:=dO hR l hr
   split at h
   ·rename_i i d hi hd
    split at h
    ·rename_i id sz j off hx
     split at h
     ·rename_i ty cs o9
      split at h
      ·rename_i v hv
       simp only [Option.some.injEq] at h
       subst h
       have oZ:=hR.get (.tmp x)
       rw [show S.get (.tmp x) = .ptr id sz j off from hx] at oZ
       have dn:=hR.rows id
       rw [o9] at dn
       obtain ⟨hd',b,ws,e1,em,e2,e3,e4,e5⟩:=dn
       obtain ⟨Ip,b',e6,e7,e8⟩:∃ hd b,β id=some hd/\hd.b=some b/\a.tmps.getD x undef = .pointer (some ⟨b,j * sz + off,none⟩):=oZ.ptr_inv
       rw [e1] at e6;cases e6
       rw [e2] at e7;cases e7
       have B7:∀ k,k < cs.length->w.cell? ⟨b,0 + k,none⟩=some (ws.getD k undef):=fun k hk=>by rw [Nat.zero_add];exact A6 e3 (by omega)
       obtain ⟨u,ry,sZ⟩:=X6 hi hd (b:=b) (o:=0) (off:=j * sz + off) B7 e5 hv
       refine ⟨u :: vs,?_,by simp [h2],fun i hi=>?_⟩
       ·have:(iE a.tmps (.cell x t)).run P w = .ok u w:=by
         rw [Nat.zero_add] at ry
         simp only [iE,e8]
         simpa [Instr.loadAt,Instr.sureAddr,asAddr] using ry
        simp [List.mapM_cons,h1,this]
       ·cases i with
        | zero=>exact sZ
        | succ i=>exact h3 i (by simpa using hi)
      ·cases h
     ·cases h
    ·cases h
   ·cases h
theorem AV.fin1_repW {x:AV} {v:Value} (h:v7 β F w x v):v7 β F w x.fin1 v:=by
 cases x<;>first|exact h|(rw [h.tt_inv];exact .imm (.bool true))|(rw [h.ff_inv];exact .imm (.bool false))
theorem AV.fin_repW {x:AV} {v:Value} (h:v7 β F w x v):v7 β F w x.fin v:=by
 cases x with
 | tt=>rw [h.tt_inv];exact .imm (.bool true)
 | ff=>rw [h.ff_inv];exact .imm (.bool false)
 | tup l =>
  obtain ⟨vs,rfl,hl,hr⟩:=h.tup_inv
  refine .tup (by simpa using hl) fun i hi=>?_
  simp only [List.length_map] at hi
  rw [n4 _ rfl]
  exact AV.fin1_repW (hr i hi)
 | _=>exact h
theorem eT (hR:Rel B w0 F0 S β F a w) {fn:Func} {r:List AV} (h:T1 P S fn.results.toList=some r) :
  ∃ v,(results fn a.tmps).run P w = .ok v w/\v7 β F w (cn r).fin v:=by
 obtain ⟨vs,h1,h2,h3⟩:=dO hR _ h
 have hm:(fn.results.mapM (iE a.tmps)).run P w = .ok vs.toArray w:=by
  rw [Array.mapM_eq_mapM_toList]
  simp [h1]
 refine ⟨if h:vs.toArray.size=1 then vs.toArray[0] else .tuple vs.toArray,?_,AV.fin_repW ?_⟩
 ·have e:results fn a.tmps=(do let vs <- fn.results.mapM (iE a.tmps);pure (if h:vs.size=1 then vs[0] else .tuple vs)):=by
   unfold results
   congr 1
  rw [e,Sem.run_bind,hm]
  rfl
 ·cases r with
  | nil =>
   have:vs=[]:=by simpa using h2
   subst this
   exact .tup rfl fun i hi=>absurd hi (Nat.not_lt_zero i)
  | cons x l =>
   cases l with
   | nil =>
    obtain ⟨v,rfl⟩:∃ v,vs=[v]:=by
     match vs,h2 with
     | [v],_=>exact ⟨v,rfl⟩
    exact h3 0 (by simp)
   | cons y l =>
    have:vs.toArray.size≠1:=by simp [h2]
    rw [dif_neg this]
    exact .tup (by simp [h2]) fun i hi=>by
     have:=h3 i hi
     simpa [Array.getD_eq_getD_getElem?,List.getD_eq_getElem?_getD] using this
theorem Rel.takeD {t:Array Value} {d:Deferred} {ds:List Deferred} (hR:Rel B w0 F0 S β F { tmps:=t,defers:=d :: ds } w) :
  ∃ D,d.target = .collected D/\(Instr.takeDeferred D).run P w = .ok [] (w.putObj D (.deferred none))/\Rel B w0 F0 S β F { tmps:=t,defers:=ds } (w.putObj D (.deferred none)):=by
 obtain ⟨Ds,⟨h1,h0⟩,h2,h3⟩:=hR.marks
 cases Ds with
 | nil=>simp at h1
 | cons D Ds =>
  simp only [List.map_cons,List.cons.injEq] at h1
  obtain ⟨rfl,rfl⟩:=h1
  have iy:F0.n = .plain:=by
   by_cases h:F0.n = .plain
   ·exact h
   ·exact absurd (h0 h) (by simp)
  obtain ⟨Ju,rG⟩:=List.nodup_cons.1 h2
  obtain ⟨hD,hB,BK⟩:=h3 D (by simp)
  refine ⟨D,rfl,run_takeDeferred hD,?_⟩
  have bn:Rel B w0 F0 S β F { tmps:=t,defers:=Ds.map I0 } w :=
   { hR with
    len:=hR.len
    slots:=hR.slots
    marks:=⟨Ds,⟨rfl,fun h=>absurd iy h⟩,rG,fun D' tv=>h3 D' (by simp [tv])⟩
    yl:=fun id l xs k e h=>absurd h (hR.noctr iy id l xs k e) }
  refine bn.otherK ⟨rfl,rfl,rfl⟩ (by simp) (O:=fun b=>b=D) (fun b _ hb=>World.putObj_heap_other hb) (fun b e=>by rw [e];exact hB) (fun b e=>by rw [e];exact BK) (fun i b hi hb e=>?_) (bC hD rfl) (fun D' tv e=>?_) (hR.noctr iy)
  ·subst e
   obtain ⟨o,hc,hf⟩:=bY (hR.rows i) hi hb
   rw [hD] at hc;cases hc;cases hf
  ·obtain ⟨Ld,h4,h5⟩:=List.mem_map.1 tv
   have:Ld=D':=by simpa [I0] using h5
   subst this
   subst e
   exact Ju h4
theorem aO {fn:Func} {t:Array Value} {R:Ending->World->Prop}:∀ (ds:List Deferred) {w:World},Rel B w0 F0 S β F { tmps:=t,defers:=ds } w->(∀ w',Rel B w0 F0 S β F { tmps:=t,defers:=[] } w'->∃ v,(results fn t).run P w' = .ok v w'/\R (.returned v) w') ->
  LeavesInM Fence.wide 0 P fn t R ds .returning w
 | [],w,hR,h=>h w hR
 | d :: ds,w,hR,h=>by
  obtain ⟨D,h1,h2,h3⟩:=hR.takeD
  exact ⟨by simp,.inl ⟨D,_,h1,h2,aO ds h3 h⟩⟩
theorem rV (hm:P.follows .mixedOrders=true) {f:FuncId} {fn:Func} {args:List AV} {res:AV} (hf:P.funcs[f]? = some fn) (I8:(fn.name == "runtime.NumGoroutine")=false) (h:body P fn args res):PC P f args res:=by
 intro F w vs hF C1 N1
 unfold body at h
 split at h
 ·exact h.elim
 ·rename_i c hb
  refine .inl ⟨Go.MuLone.run_callFunc_enter hf I8 hb vs w,callsIn_wide.1 (callsIn_of_wp_marks (n:=0) hf hb trivial ?_)⟩
  rw [w9] at h
  have hR:Rel (fun b=>w.heap.size<=b) w (Env.plain P F (fun _=>none) none .plain (fun _=>rfl)) ⟨args++List.replicate (fn.ntmps - args.length) .any,List.replicate fn.ntmps .none,.plain⟩ (fun _=>none) F { tmps:=vs++Array.replicate (fn.ntmps - vs.size) undef,defers:=[] } w:={
   len:=by simp [C1]
   slots:=fun i hi=>by
    by_cases u2:i < args.length
    ·have:=N1 i u2
     have e1:(args++List.replicate (fn.ntmps - args.length) AV.any).getD i .any=args.getD i .any:=by simp [List.getD,List.getElem?_append,u2]
     have e2:(vs++Array.replicate (fn.ntmps - vs.size) undef).getD i undef=vs.getD i undef:=by
      simp [Array.getD_eq_getD_getElem?,Array.getElem?_append,show i < vs.size by omega]
     rw [e1,e2]
     exact .imm this
    ·have e1:(args++List.replicate (fn.ntmps - args.length) AV.any).getD i .any = .any:=by
      simp only [List.getD,List.getElem?_append,u2,if_false,List.getElem?_replicate]
      split<;>rfl
     rw [e1]
     exact .imm (.any _)
   marks:=⟨[],⟨rfl,fun _=>rfl⟩,.nil,by simp⟩
   rows:=fun i=>by
    have:(St.row ⟨args++List.replicate (fn.ntmps - args.length) .any,List.replicate fn.ntmps .none,.plain⟩ i) = .none:=by
     simp only [St.row,List.getD,List.getElem?_replicate]
     split<;>rfl
    rw [this];trivial
   inj:=fun i j b _ _ h=>by simp [o7] at h
   bF:=fun i b _ h=>by simp [o7] at h
   bB:=fun i b h=>by simp [o7] at h
   FB:=fun b hb=>⟨hF b hb,.inl hb⟩
   below := .refl _ _
   BW:=fun _ h=>h
   top:=fun _ _ h=>by cases h
   topn:=fun _ _=>rfl
   nn:=rfl
   inc:=fun _ h=>h
   keep:=y0.refl _ _
   sol:=fun _ _ _ h _=>h
   yl:=fun id l xs k e h=>by
    have:(St.row ⟨args++List.replicate (fn.ntmps - args.length) .any,List.replicate fn.ntmps .none,.plain⟩ id) = .none:=by
     simp only [St.row,List.getD,List.getElem?_replicate]
     split<;>rfl
    rw [this] at h;cases h }
  refine wpIn_mono (rU hm c h hR) ?_
  have fin:∀ {S β F' a' w'} {r:List AV},Rel (fun b=>w.heap.size<=b) w (Env.plain P F (fun _=>none) none .plain (fun _=>rfl)) S β F' a' w'->aM P S fn.results.toList=some r->sX (cn r).fin (fun v=>v=res) ->
    LeavesInM Fence.wide 0 P fn a'.tmps (fun e w'=>∃ v,e = .returned v/\RowKit.Below w.heap.size w w'/\p9 (fun b=>F b∨w.heap.size<=b) w' res v) a'.defers .returning w':=by
   intro S β F' a' w' r F7 hr hv
   rw [bg] at hv
   obtain ⟨t,ds⟩:=a'
   refine aO ds F7 fun Iq O7 => ?_
   obtain ⟨v,h1,h2⟩:=hC O7 hr
   rw [hv] at h2
   exact ⟨v,h1,v,rfl,O7.below.below,h2.mono (fun b hb=>by
    rcases hb with hb|⟨i,_,hb⟩
    ·exact (O7.FB b hb).2
    ·exact .inr (O7.bB i b hb).1) (fun _ _ _ _ h=>h)⟩
  rintro e a' w' hq
  cases e with
  | normal =>
   obtain ⟨S',h1,β',F',F7⟩:=hq
   simp only [] at h1
   split at h1
   ·exact fin F7 ‹_› h1
   ·exact h1.elim
  | ret =>
   obtain ⟨S',h1,β',F',F7⟩:=hq
   simp only [] at h1
   split at h1
   ·exact fin F7 ‹_› h1
   ·exact h1.elim
  | exit i=>obtain ⟨S',h1,_⟩:=hq;exact h1.elim
  | goto l=>exact hq.elim
  | panic ch=>exact hq.elim
  | outgrown=>exact hq.elim
theorem hH (s n k:Nat) (h:k < n):(List.range' s n).getD k 0=s + k:=by
 simp [List.getD,h]
theorem rW (hm:P.follows .mixedOrders=true) {f:FuncId} {fn:Func} {args:List AV} {ins l5:List Row} {res:AV} (hf:P.funcs[f]? = some fn) (I8:(fn.name == "runtime.NumGoroutine")=false) (h:tq P fn args ins res l5):PW P f args ins res l5:=by
 intro F w vs β hF C1 N1 K8
 unfold tq at h
 split at h
 ·exact h.elim
 rename_i c hb
 obtain ⟨xk,h⟩:=h
 simp only [Bool.and_eq_true] at xk
 obtain ⟨⟨c1,c2⟩,c3⟩:=xk
 have c3:=Nat.le_of_ble_eq_true c3
 refine ⟨Go.MuLone.run_callFunc_enter hf I8 hb vs w,callsIn_wide.1 (callsIn_of_wp_marks (n:=0) hf hb trivial ?_)⟩
 rw [w9] at h
 obtain ⟨sh,Av⟩:∃ sh,List.range' fn.ntmps ins.length=sh:=⟨_,rfl⟩
 rw [Av] at h
 have shl:sh.length=ins.length:=by rw [<- Av];simp
 have Aw:∀ k,k < ins.length->sh.getD k 0=fn.ntmps + k:=fun k hk=>by rw [<- Av];exact hH _ _ _ hk
 have db:∀ k,k < ins.length->A4 ins.length (ins.getD k .none)=true/\ins.getD k .none ≠ .none:=fun k hk=>by
  have pH:ins.getD k .none ∈ ins:=by simp [List.getD,hk]
  have:=List.all_eq_true.1 c2 _ pH
  simp only [Bool.and_eq_true] at this
  exact ⟨this.1,fun e=>by rw [e] at this;simp [Row.live] at this⟩
 let β0:Nat->Option Hd:=fun j=>if fn.ntmps<=j then β (j - fn.ntmps) else none
 have b0:∀ k,β0 (fn.ntmps + k)=β k:=fun k=>by simp [β0]
 have Ir:∀ j,j < fn.ntmps->β0 j=none:=fun j hj=>by simp [β0,Nat.not_le.2 hj]
 have xl:∀ i b,o7 β0 i b->fn.ntmps<=i/\o7 β (i - fn.ntmps) b:=fun i b hb=>by
  by_cases hle:fn.ntmps<=i
  ·exact ⟨hle,by simpa [o7,β0,hle] using hb⟩
  ·simp [o7,β0,hle] at hb
 have o9:∀ (t:List AV) id,(St.row ⟨t,List.replicate fn.ntmps .none++ins.map (x6 sh),.plain⟩ id)=if fn.ntmps<=id then x6 sh (ins.getD (id - fn.ntmps) .none) else .none:=fun t id=>by
  simp only [St.row,List.getD]
  by_cases hle:fn.ntmps<=id
  ·rw [List.getElem?_append_right (by simpa using hle)]
   simp only [List.length_replicate,List.getElem?_map,hle,if_true]
   cases ins[id - fn.ntmps]? <;> simp [x6]
  ·rw [List.getElem?_append_left (by simpa using hle)]
   simp [hle,List.getElem?_replicate,Nat.lt_of_not_le hle]
 have hR:Rel (fun b=>w.heap.size<=b∨cZ β b) w (Env.plain P F β0 none .plain (fun _=>rfl)) ⟨P8 sh args++List.replicate (fn.ntmps - args.length) .any,List.replicate fn.ntmps .none++ins.map (x6 sh),.plain⟩ β0 F { tmps:=vs++Array.replicate (fn.ntmps - vs.size) undef,defers:=[] } w:={
  len:=by simp [C1,n8]
  slots:=fun i hi=>by
   by_cases u2:i < args.length
   ·have:=N1 i u2
    have e1:(P8 sh args++List.replicate (fn.ntmps - args.length) AV.any).getD i .any=(args.getD i .any).ren sh:=by
     rw [<- z6]
     simp [List.getD,List.getElem?_append,n8,u2]
    have e2:(vs++Array.replicate (fn.ntmps - vs.size) undef).getD i undef=vs.getD i undef:=by
     simp [Array.getD_eq_getD_getElem?,Array.getElem?_append,show i < vs.size by omega]
    rw [e1,e2]
    exact this.ren (n:=ins.length) (fun k hk hd h=>by rw [Aw k hk,b0];exact h) (A9 c1 i)
   ·have e1:(P8 sh args++List.replicate (fn.ntmps - args.length) AV.any).getD i .any = .any:=by
     simp only [List.getD,List.getElem?_append,n8,u2,if_false,List.getElem?_replicate]
     split<;>rfl
    rw [e1]
    exact .imm (.any _)
  marks:=⟨[],⟨rfl,fun _=>rfl⟩,.nil,by simp⟩
  rows:=fun id=>by
   rw [o9]
   split
   ·rename_i hle
    by_cases u2:id - fn.ntmps < ins.length
    ·have:=dH (ids:=sh) (n:=ins.length) (β':=β0) (fun k hk hd h=>by rw [Aw k hk,b0];exact h) u2 (K8.rows (id - fn.ntmps)) (db _ u2).1
     rw [Aw _ u2,show fn.ntmps + (id - fn.ntmps)=id by omega] at this
     exact this
    ·have:ins.getD (id - fn.ntmps) .none = .none:=by simp [List.getD,List.getElem?_eq_none (Nat.le_of_not_lt u2)]
     rw [this];trivial
   ·trivial
  inj:=fun i j b hi hj u9 J5=>by
   obtain ⟨h1,h2⟩:=xl i b u9
   obtain ⟨h3,h4⟩:=xl j b J5
   rw [o9,if_pos h1] at hi
   rw [o9,if_pos h3] at hj
   have:=K8.inj _ _ b (fun e=>hi (H0.2 e)) (fun e=>hj (H0.2 e)) h2 h4
   omega
  bF:=fun i b hi u9=>by
   obtain ⟨h1,h2⟩:=xl i b u9
   rw [o9,if_pos h1] at hi
   exact K8.bF _ b (fun e=>hi (H0.2 e)) h2
  bB:=fun i b h=>⟨.inr ⟨_,(xl i b h).2⟩,K8.bB _ b (xl i b h).2⟩
  FB:=fun b hb=>⟨hF b hb,.inl hb⟩
  below := .refl _ _
  BW:=fun _ h => .inl h
  top:=fun _ _ h=>h
  topn:=fun j hj=>by
   simp only [u3] at hj
   split at hj
   ·rename_i u2
    simp only [List.length_append,n8,List.length_replicate,Nat.blt_eq] at u2
    exact Ir j (by omega)
   ·cases hj
  nn:=rfl
  inc:=fun _ h=>h
  keep:=y0.refl _ _
  sol:=fun _ _ _ h _=>h
  yl:=fun id l xs k e h=>by
   rw [o9] at h
   split at h
   ·by_cases u2:id - fn.ntmps < ins.length
    ·have hu:=(db _ u2).1
     cases hr:ins.getD (id - fn.ntmps) .none<;>rw [hr] at h hu<;>simp [x6,A4] at h hu
    ·have:ins.getD (id - fn.ntmps) .none = .none:=by simp [List.getD,List.getElem?_eq_none (Nat.le_of_not_lt u2)]
     rw [this] at h;cases h
   ·cases h }
 refine wpIn_mono (rU hm c h hR) ?_
 have fin:∀ {S β1 F' a' w'} {l:List AV},Rel (fun b=>w.heap.size<=b∨cZ β b) w (Env.plain P F β0 none .plain (fun _=>rfl)) S β1 F' a' w'->T1 P S fn.results.toList=some l ->
   (∃ news:List Nat,(aq (sh++news) && Nat.beq l5.length (sh++news).length && res.under l5.length && l5.all (A4 l5.length))=true/\sX (cn l).fin fun v=>v=res.ren (sh++news)/\(sh++news).map S.row=l5.map (x6 (sh++news))) ->
   LeavesInM Fence.wide 0 P fn a'.tmps (fun e w'=>∃ v β' F',e = .returned v/\D6 (fun b=>w.heap.size<=b∨cZ β b) w w'/\(∀ k hd,β k=some hd->β' k=some hd)/\(∀ b,F b->F' b) /\
    (∀ b,F' b->b < w'.heap.size/\(F b∨w.heap.size<=b∨cZ β b))/\v7 β' F' w' res v/\(∀ k,s9 β' F' w' k (l5.getD k .none)) /\
    (∀ i j b,l5.getD i .none ≠ .none->l5.getD j .none ≠ .none->o7 β' i b->o7 β' j b->i=j)/\(∀ i b,l5.getD i .none ≠ .none->o7 β' i b->¬ F' b) /\
    (∀ i b,o7 β' i b->b < w'.heap.size/\(w.heap.size<=b∨cZ β b))) a'.defers .returning w':=by
  rintro S β1 F' a' w' l F7 hl ⟨news,FF,hv⟩
  rw [bg] at hv
  obtain ⟨hv,xm⟩:=hv
  simp only [Bool.and_eq_true] at FF
  obtain ⟨⟨⟨d1,d2⟩,d3⟩,d4⟩:=FF
  have d2:=Nat.eq_of_beq_eq_true d2
  have Y6:=bz d1
  obtain ⟨t,ds⟩:=a'
  refine aO ds F7 fun Iq O7 => ?_
  obtain ⟨v,h1,h2⟩:=eT O7 hl
  rw [hv] at h2
  obtain ⟨al,eC⟩:∃ al,sh++news=al:=⟨_,rfl⟩
  rw [eC] at Y6 d2 h2 xm
  have Is:∀ k,k < ins.length->al.getD k 0=fn.ntmps + k:=fun k hk=>by
   rw [<- Aw k hk,<- eC]
   simp [List.getD,List.getElem?_append,shl,hk]
  have It:ins.length<=al.length:=by rw [<- eC,List.length_append,shl];omega
  let β2:Nat->Option Hd:=fun k=>if k < al.length then β1 (al.getD k 0) else none
  have e2:∀ k,k < l5.length->β2 k=β1 (al.getD k 0):=fun k hk=>by simp [β2,<- d2,hk]
  have X0:∀ k b,o7 β2 k b->k < l5.length/\o7 β1 (al.getD k 0) b:=fun k b hb=>by
   by_cases u2:k < l5.length
   ·exact ⟨u2,by simpa [o7,e2 k u2] using hb⟩
   ·simp [o7,β2,<- d2,u2] at hb
  have pP:∀ k,k < l5.length->S.row (al.getD k 0)=x6 al (l5.getD k .none):=fun k hk=>by
   have:(al.map S.row).getD k .none=(l5.map (x6 al)).getD k .none:=by rw [xm]
   simpa [List.getD,List.getElem?_map,hk,d2 ▸ hk] using this
  have v5:∀ k,l5.getD k .none ≠ .none->k < l5.length/\S.row (al.getD k 0) ≠ .none:=fun k hk=>by
   by_cases u2:k < l5.length
   ·exact ⟨u2,by rw [pP k u2];exact fun e=>hk (H0.1 e)⟩
   ·exact absurd (by simp [List.getD,List.getElem?_eq_none (Nat.le_of_not_lt u2)]) hk
  refine ⟨v,h1,v,β2,F',rfl,O7.below,fun k hd hk=>?_,O7.inc,O7.FB,h2.unren e2 d3 rfl,fun k=>?_,fun i j b hi hj u9 J5=>?_,fun i b hi u9=>?_,fun i b u9=>?_⟩
  ·have u2:k < ins.length:=by
    rcases Nat.lt_or_ge k ins.length with h|h
    ·exact h
    ·have:=K8.dead k (by simp [List.getD,List.getElem?_eq_none h])
     rw [this] at hk;cases hk
   have:=O7.top (fn.ntmps + k) hd (by show β0 (fn.ntmps + k)=some hd;rw [b0];exact hk)
   rw [e2 k (by omega),Is k u2]
   exact this
  ·by_cases u2:k < l5.length
   ·have:=O7.rows (al.getD k 0)
    rw [pP k u2] at this
    exact bp e2 u2 (List.all_eq_true.1 d4 _ (by simp [List.getD,u2])) this
   ·have:l5.getD k .none = .none:=by simp [List.getD,List.getElem?_eq_none (Nat.le_of_not_lt u2)]
    rw [this];trivial
  ·obtain ⟨l1,r1⟩:=v5 i hi
   obtain ⟨l2,r2⟩:=v5 j hj
   have heq:=O7.inj _ _ b r1 r2 (X0 i b u9).2 (X0 j b J5).2
   have li:i < al.length:=by omega
   have lj:j < al.length:=by omega
   have e':al[i]=al[j]:=by simpa [List.getD,li,lj] using heq
   have hp:=List.pairwise_iff_getElem.1 Y6
   rcases Nat.lt_trichotomy i j with u2|rfl|kX
   ·exact absurd e' (hp i j li lj u2)
   ·rfl
   ·exact absurd e'.symm (hp j i lj li kX)
  ·exact O7.bF _ b (v5 i hi).2 (X0 i b u9).2
  ·have:=O7.bB _ b (X0 i b u9).2
   exact ⟨this.2,this.1⟩
 rintro e a' w' hq
 cases e with
 | normal =>
  obtain ⟨S',h1,β',F',F7⟩:=hq
  simp only [] at h1
  split at h1
  ·exact fin F7 ‹_› h1
  ·exact h1.elim
 | ret =>
  obtain ⟨S',h1,β',F',F7⟩:=hq
  simp only [] at h1
  split at h1
  ·exact fin F7 ‹_› h1
  ·exact h1.elim
 | exit i=>obtain ⟨S',h1,_⟩:=hq;exact h1.elim
 | goto l=>exact hq.elim
 | panic ch=>exact hq.elim
 | outgrown=>exact hq.elim
theorem rX (hm:P.follows .mixedOrders=true) {f:FuncId} {fn:Func} {u4:List AV} {xs:List (List AV)} (hf:P.funcs[f]? = some fn) (I8:(fn.name == "runtime.NumGoroutine")=false) (h:ts P fn u4 xs):SQ P f u4 xs:=by
  intro F w us l J hF C1 tb dY Fk Ie
  unfold ts at h
  split at h
  · exact h.elim
  rename_i c hb
  obtain ⟨hle,h⟩:=h
  have hle:=Nat.le_of_ble_eq_true hle
  have h:=h l
  rw [w9] at h
  refine ⟨fun args W=>Go.MuLone.run_callFunc_enter hf I8 hb args W,callsIn_of_wp_marks (n:=0) hf hb trivial ?_⟩
  let E:Env P:=⟨F,fun _=>none,none,.iter,fun _=>rfl,l,xs,J,fun _ _ _ _ _=>rfl,dY,Fk⟩
  let β0:Nat->Option Hd:=fun j=>if j=fn.ntmps then some ⟨none,0,0,bd⟩ else none
  have GD:∀ i b,¬ o7 β0 i b:=fun i b hb=>by
    by_cases e:i=fn.ntmps<;>simp [o7,β0,e] at hb
  have o9:∀ (t:List AV) id,(St.row ⟨t,List.replicate fn.ntmps .none++[.ctr l xs 0 false],.iter⟩ id)=if id=fn.ntmps then .ctr l xs 0 false else .none:=fun t id=>by
    simp only [St.row,List.getD]
    rcases Nat.lt_trichotomy id fn.ntmps with u2|rfl|kX
    · rw [List.getElem?_append_left (by simpa using u2)]
      simp [Nat.ne_of_lt u2,u2]
    · rw [List.getElem?_append_right (by simp)]
      simp
    · rw [List.getElem?_append_right (by simp;omega)]
      have:([Row.ctr l xs 0 false]:List Row)[id - (List.replicate fn.ntmps Row.none).length]? = none:=List.getElem?_eq_none (by simp;omega)
      rw [this]
      simp [Nat.ne_of_gt kX]
  have hR:Rel (fun _=>True) w E ⟨(AV.fn (.yield l) [] [] :: u4)++List.replicate (fn.ntmps - (u4.length + 1)) AV.any,List.replicate fn.ntmps .none++[.ctr l xs 0 false],.iter⟩ β0 F { tmps:=(#[Value.func (.yield l) #[] #[]]++us)++Array.replicate (fn.ntmps - (#[Value.func (.yield l) #[] #[]]++us).size) undef,defers:=[] } w:={
    len:=by simp [C1];omega
    slots:=fun i hi=>by
      cases i with
      | zero =>
        have e2:((#[Value.func (.yield l) #[] #[]]++us)++Array.replicate (fn.ntmps - (#[Value.func (.yield l) #[] #[]]++us).size) undef).getD 0 undef = .func (.yield l) #[] #[]:=by
          simp [Array.getD_eq_getD_getElem?,Array.getElem?_append]
        show v7 β0 F w (.fn (.yield l) [] []) _
        rw [e2]
        exact .imm (.fn rfl (fun i hi=>absurd hi (Nat.not_lt_zero i)) rfl (fun i hi=>absurd hi (Nat.not_lt_zero i)))
      | succ i =>
        by_cases u2:i < u4.length
        · have e1:((AV.fn (.yield l) [] [] :: u4)++List.replicate (fn.ntmps - (u4.length + 1)) AV.any).getD (i + 1) .any=u4.getD i .any:=by
            simp [List.getD,List.getElem?_append,u2]
          have e2:((#[Value.func (.yield l) #[] #[]]++us)++Array.replicate (fn.ntmps - (#[Value.func (.yield l) #[] #[]]++us).size) undef).getD (i + 1) undef=us.getD i undef:=by
            have h1:i < us.size:=by omega
            simp only [Array.getD_eq_getD_getElem?]
            rw [Array.getElem?_append_left (by simp;omega),Array.getElem?_append_right (by simp)]
            simp
          rw [e1,e2]
          exact .imm (tb i u2)
        · have e1:((AV.fn (.yield l) [] [] :: u4)++List.replicate (fn.ntmps - (u4.length + 1)) AV.any).getD (i + 1) .any = .any:=by
            simp only [List.getD]
            rw [List.getElem?_append_right (by simp;omega),List.getElem?_replicate]
            split<;>rfl
          rw [e1]
          exact .imm (.any _)
    marks:=⟨[],⟨rfl,fun _=>rfl⟩,.nil,by simp⟩
    rows:=fun id=>by
      rw [o9]
      split
      · rename_i e;rw [e];exact ⟨⟨none,0,0,bd⟩,by simp [β0],rfl,rfl⟩
      · trivial
    inj:=fun i j b _ _ u9 _=>absurd u9 (GD i b)
    bF:=fun i b _ u9=>absurd u9 (GD i b)
    bB:=fun i b h=>absurd h (GD i b)
    FB:=fun b hb=>⟨hF b hb,.inl hb⟩
    below := .refl _ _
    BW:=fun _ _=>trivial
    top:=fun _ _ h=>by cases h
    topn:=fun _ _=>rfl
    nn:=rfl
    inc:=fun _ h=>h
    keep:=y0.refl _ _
    sol:=fun _ _ _ h _=>h
    yl:=fun id l' oR k e h=>by
      rw [o9] at h
      split at h
      · rename_i sW
        cases h
        refine ⟨rfl,rfl,⟨fun _=>trivial,rfl⟩,fun _=>False,Ie,fun _ h=>h.elim,fun i b _ hb=>absurd hb (GD i b),fun _ h => .inl h,fun D hD=>by simp at hD,fun fM l' oR k' e' h' => ?_⟩
        rw [o9] at h'
        split at h'
        · rename_i e;rw [e,sW]
        · cases h'
      · cases h }
  refine wpIn_mono (rU hm c h hR) ?_
  have fin:∀ {S β1 F' a' w'} {r:List AV},Rel (fun _=>True) w E S β1 F' a' w'->aM P S fn.results.toList=some r->(match S.row S.t.length with
        | .ctr _ _ k e'=>e'=false->k=xs.length
        | _=>False) ->
      LeavesInM Fence.wide 0 P fn a'.tmps (fun e W'=>(∃ v,e = .returned v)/\W'.os=w.os/\W'.tape=w.tape/\W'.output=w.output/\w.heap.size<=W'.heap.size/\∃ O k e',J k e' O W'/\(e'=false->k=xs.length)) a'.defers .returning w':=by
    intro S β1 F' a' w' r F7 hr hk
    obtain ⟨t,ds⟩:=a'
    refine aO ds F7 fun Iq O7 => ?_
    obtain ⟨v,h1,h2⟩:=hC O7 hr
    split at hk
    · rename_i l' oR k e' Le
      obtain ⟨_,_,_,O,g1,_⟩:=O7.yl _ _ _ _ _ Le
      exact ⟨v,h1,⟨v,rfl⟩,O7.below.os,O7.below.tape,O7.below.output,O7.below.size,O,k,e',g1,hk⟩
    · exact hk.elim
  rintro e a' w' hq
  cases e with
  | normal =>
    obtain ⟨S',h1,β',F',F7⟩:=hq
    simp only [] at h1
    split at h1
    · exact fin F7 ‹_› h1
    · exact h1.elim
  | ret =>
    obtain ⟨S',h1,β',F',F7⟩:=hq
    simp only [] at h1
    split at h1
    · exact fin F7 ‹_› h1
    · exact h1.elim
  | exit i=>obtain ⟨S',h1,_⟩:=hq;exact h1.elim
  | goto l=>exact hq.elim
  | panic ch=>exact hq.elim
  | outgrown=>exact hq.elim
end

end Go.Ev
