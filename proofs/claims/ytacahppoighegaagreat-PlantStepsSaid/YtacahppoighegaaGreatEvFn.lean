/- The executor by recursors where function values hold on to what is not frozen. A helper text: it speaks of no program. -/
import Derived.Test.YtacahppoighegaaGreatEvSix
import Derived.Test.YtacahppoighegaaGreatEvEight
set_option linter.unusedVariables false
set_option linter.unusedSimpArgs false
namespace Go.Ev
def Cm(P:Program)(o:Oper)(S:St)(K:St->Out->Prop):Prop :=
 match o.op with
 | .makeFunc f xs ys=>K S ⟨.fn f (xs.toList.map S.get) (ys.toList.map S.get),[]⟩
 | .call c=>match c.callee with
  | .value f=>match S.get f with
   | .fn (.func _) first B2=>(match G8 (first++c.args.toList.map S.get++B2)with
    | true=>Mv P o.dst (.call c) S.get S.row fun out _=>K S out
    | false=>∃ frz:Bool,match frz with
     | false=>Mv P o.dst (.call c) S.get S.row fun out _=>K S out
     | true=>iy (S.freeze (jm ((first++c.args.toList.map S.get++B2).flatMap (N1 4 S.row)))) fun S=>Mv P o.dst (.call c) S.get S.row fun out _=>K S out)∨Mw P c f S K
   | _=>gS P o S K
  | _=>gS P o S K
 | _=>gS P o S K
theorem MK(P:Program)(o:Oper)(S:St)(K:St->Out->Prop):Cm P o S K=gS P o S K:=by
 unfold Cm;split
 ·rename_i f xs ys h;unfold gS;simp only[h]
 ·rename_i c h;split
  ·rename_i f hf;split
   ·rename_i x first B2 hg
    unfold gS;simp only[h,hf,hg];simp only[EM,L2,C3,zt];rfl
   ·rfl
  ·rfl
 ·rfl
def ML(P:Program)(o:Oper)(S:St)(K:St->Out->Prop):Prop :=
 match Y9 o.op with
 | true=>match o.dst with
  | some d=>match A3 S d with
   | true=>iy (S.kill d) fun S=>Cm P o S K
   | false=>False
  | none=>Cm P o S K
 | false=>Cm P o S K
theorem MM(P:Program)(o:Oper)(S:St)(K:St->Out->Prop):ML P o S K=ME P o S K:=by
 unfold ML ME;simp only[MK,L2,C3];rfl
def pG(P:Program)(all:List Oper)(o:Oper)(ih:Nat->St->(St->Prop)->Prop)(k:Nat)(S:St)(K:St->Prop):Prop :=
 match gw all.toArray S o with
 | some true=>ML P o S fun S out=>Z3 (qF all k) out fun out=>vR S o.dst out fun S=>ih (k+1) S K
 | some false=>vR S o.dst ⟨.tup [],[]⟩ fun S=>ih (k+1) S K
 | none=>False
def MN(P:Program)(all l:List Oper)(k:Nat)(S:St)(K:St->Prop):Prop :=
 List.rec (motive:=fun _=>Nat->St->(St->Prop)->Prop) (fun _ S K=>K S) (fun o _ ih=>pG P all o ih) l k S K
theorem Cn(P:Program)(all:List Oper):∀ (l:List Oper) (k:Nat) (S:St) (K:St->Prop),MN P all l k S K=tG P all l k S K
 | [],_,_,_=>rfl
 | o :: l,k,S,K=>by
  show pG P all o (fun k S K=>MN P all l k S K) k S K=_
  unfold pG tG;simp only[Cn P all l,MM,zr];rfl
def tN(P:Program)(ops:Array Oper)(draw:Bool)(S:St)(Q:Ex->St->Prop):Prop :=
 match draw with
 | false=>MN P ops.toList ops.toList 0 S fun S=>iy S (Q .norm)
 | true=>(xb P ops && (dj P ops.toList).all (A3 S) && kE ops.toList)=true/\iy (S.kills (dj P ops.toList)) fun S=>Qu P [] ops.toList ops.toList 0 S [] fun S=>iy S (Q .norm)
def vU(P:Program)(c:Code):GX :=
 Code.rec (motive:=fun _=>GX)
  (fun S Q=>Q .norm S)
  (fun _ ops draw=>tN P ops draw)
  (fun _ _ ia ib=>Qv ia ib)
  (fun c _ _ ia ib=>GR c ia ib)
  (fun id _ ic=>zz id ic)
  (fun c ic=>xn c ic)
  (fun _ _ _ _ _ _ _ _=>False)
  (fun id S Q=>Q (.exit id) S)
  (fun _ ic S Q=>ic S Q)
  (fun _ S Q=>Q .norm S)
  (fun _ _ _=>False)
  (fun S Q=>Q .ret S)
  (fun _ _ _=>False) c
theorem dI(P:Program):∀ (c:Code),vU P c=mq P c
 | .skip=>by funext S Q;simp only[mq];rfl
 | .region id ops draw=>by
  funext S Q
  show tN P ops draw S Q=_
  unfold tN mq;cases draw
  ·simp only[Cn,L2,C3]
  ·simp only[zu,L2,C3]
 | .seq a b=>by
  funext S Q
  show Qv (vU P a) (vU P b) S Q=_
  rw[dI P a,dI P b];simp only[mq];rfl
 | .cond c a b=>by
  funext S Q
  show GR c (vU P a) (vU P b) S Q=_
  rw[dI P a,dI P b];simp only[mq];rfl
 | .block id c=>by
  funext S Q
  show zz id (vU P c) S Q=_
  rw[dI P c];simp only[mq];rfl
 | .loop c=>by
  funext S Q
  show xn c (vU P c) S Q=_
  rw[dI P c];simp only[mq];unfold xn;simp only[zx,zq,iN,kF,L2,C3,tD];rfl
 | .rangeFunc _ _ _ _=>by funext S Q;simp only[mq];rfl
 | .exit id=>by funext S Q;simp only[mq];rfl
 | .scope c=>by
  funext S Q
  show vU P c S Q=_
  rw[dI P c];simp only[mq]
 | .label l=>by funext S Q;simp only[mq];rfl
 | .goto l=>by funext S Q;simp only[mq];rfl
 | .ret=>by funext S Q;simp only[mq];rfl
 | .refuse w=>by funext S Q;simp only[mq];rfl
def EU(P:Program)(fn:Func)(args:List AV)(res:AV):Prop :=
 match fn.body with
 | none=>False
 | some c=>iy ⟨args++List.replicate (fn.ntmps-args.length) .any,List.replicate fn.ntmps .none,.plain⟩ fun S=>vU P c S fun e S=>match e with
  | .exit _=>False
  | _=>match dA P S fn.results.toList with
   | some l=>WC (fF l).fin fun v=>v=res
   | none=>False
theorem IT(P:Program)(fn:Func)(args:List AV)(res:AV):EU P fn args res=GU P fn args res:=by
 unfold EU GU;simp only[dI,L2,C3,tz,dZ];rfl
theorem dJ{P:Program}(hm:P.follows .mixedOrders=true){f:FuncId}{fn:Func}{args:List AV}{res:AV}(hf:P.funcs[f]? = some fn)(J7:(fn.name == "runtime.NumGoroutine")=false) (h:EU P fn args res):PC P f args res :=
 Cf hm hf J7 (by rw[<- IT];exact h)
def J8(P:Program)(fn:Func)(args:List AV)(ins:List Row)(res:AV)(o9:List Row):Prop :=
 match fn.body with
 | none=>False
 | some c=>(av ins.length args && ins.all (fun r=>D9 ins.length r && r.live) && Nat.ble args.length fn.ntmps)=true /\
  iy ⟨au (List.range' fn.ntmps ins.length) args++List.replicate (fn.ntmps-args.length) .any,List.replicate fn.ntmps .none++ins.map (A0 (List.range' fn.ntmps ins.length)),.plain⟩ fun S=>vU P c S fun e S=>match e with
  | .exit _=>False
  | _=>match bN P S fn.results.toList with
   | some l=>∃ news:List Nat,(aw (List.range' fn.ntmps ins.length++news) && Nat.beq o9.length (List.range' fn.ntmps ins.length++news).length && res.under o9.length && o9.all (D9 o9.length))=true /\
     WC (fF l).fin fun v=>v=res.ren (List.range' fn.ntmps ins.length++news)/\(List.range' fn.ntmps ins.length++news).map S.row=o9.map (A0 (List.range' fn.ntmps ins.length++news))
   | none=>False
theorem EV(P:Program)(fn:Func)(args:List AV)(ins:List Row)(res:AV)(o9:List Row):J8 P fn args ins res o9=zE P fn args ins res o9:=by
 unfold J8 zE;simp only[dI,L2,C3,tz,dZ];rfl
theorem u4{P:Program}(hm:P.follows .mixedOrders=true){f:FuncId}{fn:Func}{args:List AV}{ins o9:List Row}{res:AV}(hf:P.funcs[f]? = some fn)(J7:(fn.name == "runtime.NumGoroutine")=false) (h:J8 P fn args ins res o9):PW P f args ins res o9 :=
 Cg hm hf J7 (by rw[<- EV];exact h)

end Go.Ev
