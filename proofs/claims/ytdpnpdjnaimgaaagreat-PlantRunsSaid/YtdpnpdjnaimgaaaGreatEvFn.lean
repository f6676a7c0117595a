/- The executor by recursors where function values hold on to what is not frozen. A helper text: it speaks of no program. -/
import Derived.Test.YtdpnpdjnaimgaaaGreatEvSix
import Derived.Test.YtdpnpdjnaimgaaaGreatEvEight
set_option linter.unusedVariables false
set_option linter.unusedSimpArgs false
namespace Go.Ev
def zF(P:Program)(o:Oper)(S:St)(K:St->Out->Prop):Prop :=
 match o.op with
 | .makeFunc f xs ys=>K S ⟨.fn f (xs.toList.map S.get) (ys.toList.map S.get),[]⟩
 | .call c=>match c.callee with
  | .value f=>match S.get f with
   | .fn (.func _) first A6=>(match F9 (first++c.args.toList.map S.get++A6)with
    | true=>JJ P o.dst (.call c) S.get S.row fun out _=>K S out
    | false=>∃ frz:Bool,match frz with
     | false=>JJ P o.dst (.call c) S.get S.row fun out _=>K S out
     | true=>gY (S.freeze (gW ((first++c.args.toList.map S.get++A6).flatMap (M3 4 S.row)))) fun S=>JJ P o.dst (.call c) S.get S.row fun out _=>K S out)∨JK P c f S K
   | _=>fy P o S K
  | _=>fy P o S K
 | _=>fy P o S K
theorem JY(P:Program)(o:Oper)(S:St)(K:St->Out->Prop):zF P o S K=fy P o S K:=by
 unfold zF;split
 ·rename_i f xs ys h;unfold fy;simp only[h]
 ·rename_i c h;split
  ·rename_i f hf;split
   ·rename_i x first A6 hg
    unfold fy;simp only[h,hf,hg];simp only[CH,M6,B5,wQ];rfl
   ·rfl
  ·rfl
 ·rfl
def JZ(P:Program)(o:Oper)(S:St)(K:St->Out->Prop):Prop :=
 match X1 o.op with
 | true=>match o.dst with
  | some d=>match A8 S d with
   | true=>gY (S.kill d) fun S=>zF P o S K
   | false=>False
  | none=>zF P o S K
 | false=>zF P o S K
theorem Ka(P:Program)(o:Oper)(S:St)(K:St->Out->Prop):JZ P o S K=JR P o S K:=by
 unfold JZ JR;simp only[JY,M6,B5];rfl
def nA(P:Program)(all:List Oper)(o:Oper)(ih:Nat->St->(St->Prop)->Prop)(k:Nat)(S:St)(K:St->Prop):Prop :=
 match gw all.toArray S o with
 | some true=>JZ P o S fun S out=>bQ (uA all k) out fun out=>wO S o.dst out fun S=>ih (k+1) S K
 | some false=>wO S o.dst ⟨.tup [],[]⟩ fun S=>ih (k+1) S K
 | none=>False
def Kb(P:Program)(all l:List Oper)(k:Nat)(S:St)(K:St->Prop):Prop :=
 List.rec (motive:=fun _=>Nat->St->(St->Prop)->Prop) (fun _ S K=>K S) (fun o _ ih=>nA P all o ih) l k S K
theorem zG(P:Program)(all:List Oper):∀ (l:List Oper) (k:Nat) (S:St) (K:St->Prop),Kb P all l k S K=rv P all l k S K
 | [],_,_,_=>rfl
 | o :: l,k,S,K=>by
  show nA P all o (fun k S K=>Kb P all l k S K) k S K=_
  unfold nA rv;simp only[zG P all l,Ka,wP];rfl
def rA(P:Program)(ops:Array Oper)(draw:Bool)(S:St)(Q:Ex->St->Prop):Prop :=
 match draw with
 | false=>Kb P ops.toList ops.toList 0 S fun S=>gY S (Q .norm)
 | true=>(uB P ops && (cB P ops.toList).all (A8 S) && jn ops.toList)=true/\gY (S.kills (cB P ops.toList)) fun S=>Ns P ops.toList ops.toList 0 S [] fun S=>gY S (Q .norm)
def tI(P:Program)(c:Code):GX :=
 Code.rec (motive:=fun _=>GX)
  (fun S Q=>Q .norm S)
  (fun _ ops draw=>rA P ops draw)
  (fun _ _ ia ib=>Nt ia ib)
  (fun c _ _ ia ib=>EC c ia ib)
  (fun id _ ic=>wU id ic)
  (fun c ic=>uI c ic)
  (fun _ _ _ _ _ _ _ _=>False)
  (fun id S Q=>Q (.exit id) S)
  (fun _ ic S Q=>ic S Q)
  (fun _ S Q=>Q .norm S)
  (fun _ _ _=>False)
  (fun S Q=>Q .ret S)
  (fun _ _ _=>False) c
theorem cM(P:Program):∀ (c:Code),tI P c=kM P c
 | .skip=>by funext S Q;simp only[kM];rfl
 | .region id ops draw=>by
  funext S Q
  show rA P ops draw S Q=_
  unfold rA kM;cases draw
  ·simp only[zG,M6,B5]
  ·simp only[wR,M6,B5]
 | .seq a b=>by
  funext S Q
  show Nt (tI P a) (tI P b) S Q=_
  rw[cM P a,cM P b];simp only[kM];rfl
 | .cond c a b=>by
  funext S Q
  show EC c (tI P a) (tI P b) S Q=_
  rw[cM P a,cM P b];simp only[kM];rfl
 | .block id c=>by
  funext S Q
  show wU id (tI P c) S Q=_
  rw[cM P c];simp only[kM];rfl
 | .loop c=>by
  funext S Q
  show uI c (tI P c) S Q=_
  rw[cM P c];simp only[kM];unfold uI;simp only[wS,CG,kE,M6,B5,rn];rfl
 | .rangeFunc _ _ _ _=>by funext S Q;simp only[kM];rfl
 | .exit id=>by funext S Q;simp only[kM];rfl
 | .scope c=>by
  funext S Q
  show tI P c S Q=_
  rw[cM P c];simp only[kM]
 | .label l=>by funext S Q;simp only[kM];rfl
 | .goto l=>by funext S Q;simp only[kM];rfl
 | .ret=>by funext S Q;simp only[kM];rfl
 | .refuse w=>by funext S Q;simp only[kM];rfl
def CS(P:Program)(fn:Func)(args:List AV)(res:AV):Prop :=
 match fn.body with
 | none=>False
 | some c=>gY ⟨args++List.replicate (fn.ntmps-args.length) .any,List.replicate fn.ntmps .none,.plain⟩ fun S=>tI P c S fun e S=>match e with
  | .exit _=>False
  | _=>match cJ P S fn.results.toList with
   | some l=>SV (dS l).fin fun v=>v=res
   | none=>False
theorem Gz(P:Program)(fn:Func)(args:List AV)(res:AV):CS P fn args res=EE P fn args res:=by
 unfold CS EE;simp only[cM,M6,B5,rh,cX];rfl
theorem cN{P:Program}(hm:P.follows .mixedOrders=true){f:FuncId}{fn:Func}{args:List AV}{res:AV}(hf:P.funcs[f]? = some fn)(J8:(fn.name == "runtime.NumGoroutine")=false) (h:CS P fn args res):PC P f args res :=
 zx hm hf J8 (by rw[<- Gz];exact h)
def V8(P:Program)(fn:Func)(args:List AV)(ins:List Row)(res:AV)(n7:List Row):Prop :=
 match fn.body with
 | none=>False
 | some c=>(Z0 ins.length args && ins.all (fun r=>E4 ins.length r && r.live) && Nat.ble args.length fn.ntmps)=true /\
  gY ⟨aX (List.range' fn.ntmps ins.length) args++List.replicate (fn.ntmps-args.length) .any,List.replicate fn.ntmps .none++ins.map (C1 (List.range' fn.ntmps ins.length)),.plain⟩ fun S=>tI P c S fun e S=>match e with
  | .exit _=>False
  | _=>match bh P S fn.results.toList with
   | some l=>∃ news:List Nat,(di (List.range' fn.ntmps ins.length++news) && Nat.beq n7.length (List.range' fn.ntmps ins.length++news).length && res.under n7.length && n7.all (E4 n7.length))=true /\
     SV (dS l).fin fun v=>v=res.ren (List.range' fn.ntmps ins.length++news)/\(List.range' fn.ntmps ins.length++news).map S.row=n7.map (C1 (List.range' fn.ntmps ins.length++news))
   | none=>False
theorem CT(P:Program)(fn:Func)(args:List AV)(ins:List Row)(res:AV)(n7:List Row):V8 P fn args ins res n7=wZ P fn args ins res n7:=by
 unfold V8 wZ;simp only[cM,M6,B5,rh,cX];rfl
theorem A7{P:Program}(hm:P.follows .mixedOrders=true){f:FuncId}{fn:Func}{args:List AV}{ins n7:List Row}{res:AV}(hf:P.funcs[f]? = some fn)(J8:(fn.name == "runtime.NumGoroutine")=false) (h:V8 P fn args ins res n7):PW P f args ins res n7 :=
 zy hm hf J8 (by rw[<- CT];exact h)

end Go.Ev
