/- The executor by recursors where function values hold on to what is not frozen. A helper text: it speaks of no program. -/
import Derived.Test.YtpmmjoccamogdaaGreatEvSix
import Derived.Test.YtpmmjoccamogdaaGreatEvEight
set_option linter.unusedVariables false
set_option linter.unusedSimpArgs false
namespace Go.Ev
def qe (P:Program) (o:Oper) (S:St) (K:St->Out->Prop):Prop :=
 match o.op with
 | .makeFunc f xs ys=>K S ⟨.fn f (xs.toList.map S.get) (ys.toList.map S.get),[]⟩
 | .call c=>match c.callee with
  | .value f=>match S.get f with
   | .fn (.func _) first u4=>(match B4 (first++c.args.toList.map S.get++u4) with
    | true=>xA P o.dst (.call c) S.get S.row fun out _=>K S out
    | false=>∃ frz:Bool,match frz with
     | false=>xA P o.dst (.call c) S.get S.row fun out _=>K S out
     | true=>bE (S.freeze (bN ((first++c.args.toList.map S.get++u4).flatMap (E7 4 S.row)))) fun S=>xA P o.dst (.call c) S.get S.row fun out _=>K S out)∨xB P c f S K
   | _=>aQ P o S K
  | _=>aQ P o S K
 | _=>aQ P o S K
theorem xQ (P:Program) (o:Oper) (S:St) (K:St->Out->Prop):qe P o S K=aQ P o S K:=by
 unfold qe
 split
 ·rename_i f xs ys h
  unfold aQ
  simp only [h]
 ·rename_i c h
  split
  ·rename_i f hf
   split
   ·rename_i x first u4 hg
    unfold aQ
    simp only [h,hf,hg]
    simp only [sg,E1,w9,nG]
    rfl
   ·rfl
  ·rfl
 ·rfl
def xR (P:Program) (o:Oper) (S:St) (K:St->Out->Prop):Prop :=
 match N2 o.op with
 | true=>match o.dst with
  | some d=>match u3 S d with
   | true=>bE (S.kill d) fun S=>qe P o S K
   | false=>False
  | none=>qe P o S K
 | false=>qe P o S K
theorem xS (P:Program) (o:Oper) (S:St) (K:St->Out->Prop):xR P o S K=xJ P o S K:=by
 unfold xR xJ
 simp only [xQ,E1,w9]
 rfl
def gj (P:Program) (all:List Oper) (o:Oper) (ih:Nat->St->(St->Prop)->Prop) (k:Nat) (S:St) (K:St->Prop):Prop :=
 match gw all.toArray S o with
 | some true=>xR P o S fun S out=>N7 (gW all k) out fun out=>lp S o.dst out fun S=>ih (k + 1) S K
 | some false=>lp S o.dst ⟨.tup [],[]⟩ fun S=>ih (k + 1) S K
 | none=>False
def xT (P:Program) (all l:List Oper) (k:Nat) (S:St) (K:St->Prop):Prop :=
 List.rec (motive:=fun _=>Nat->St->(St->Prop)->Prop) (fun _ S K=>K S) (fun o _ ih=>gj P all o ih) l k S K
theorem qf (P:Program) (all:List Oper):∀ (l:List Oper) (k:Nat) (S:St) (K:St->Prop),xT P all l k S K=jK P all l k S K
 | [],_,_,_=>rfl
 | o :: l,k,S,K=>by
  show gj P all o (fun k S K=>xT P all l k S K) k S K=_
  unfold gj jK
  simp only [qf P all l,xS,nF]
  rfl
def jN (P:Program) (ops:Array Oper) (draw:Bool) (S:St) (Q:Ex->St->Prop):Prop :=
 match draw with
 | false=>xT P ops.toList ops.toList 0 S fun S=>bE S (Q .norm)
 | true=>(lY P ops && (V5 P ops.toList).all (u3 S) && cL ops.toList)=true/\bE (S.kills (V5 P ops.toList)) fun S=>AE P ops.toList ops.toList 0 S [] fun S=>bE S (Q .norm)
def nU (P:Program) (c:Code):GX :=
 Code.rec (motive:=fun _=>GX)
  (fun S Q=>Q .norm S)
  (fun _ ops draw=>jN P ops draw)
  (fun _ _ ia ib=>AF ia ib)
  (fun c _ _ ia ib=>tE c ia ib)
  (fun id _ ic=>nL id ic)
  (fun c ic=>mh c ic)
  (fun _ _ _ _ _ _ _ _=>False)
  (fun id S Q=>Q (.exit id) S)
  (fun _ ic S Q=>ic S Q)
  (fun _ S Q=>Q .norm S)
  (fun _ _ _=>False)
  (fun S Q=>Q .ret S)
  (fun _ _ _=>False) c
theorem Z7 (P:Program):∀ (c:Code),nU P c=dZ P c
 | .skip=>by funext S Q;simp only [dZ];rfl
 | .region id ops draw=>by
  funext S Q
  show jN P ops draw S Q=_
  unfold jN dZ
  cases draw
  ·simp only [qf,E1,w9]
  ·simp only [nH,E1,w9]
 | .seq a b=>by
  funext S Q
  show AF (nU P a) (nU P b) S Q=_
  rw [Z7 P a,Z7 P b]
  simp only [dZ]
  rfl
 | .cond c a b=>by
  funext S Q
  show tE c (nU P a) (nU P b) S Q=_
  rw [Z7 P a,Z7 P b]
  simp only [dZ]
  rfl
 | .block id c=>by
  funext S Q
  show nL id (nU P c) S Q=_
  rw [Z7 P c]
  simp only [dZ]
  rfl
 | .loop c=>by
  funext S Q
  show mh c (nU P c) S Q=_
  rw [Z7 P c]
  simp only [dZ]
  unfold mh
  simp only [nJ,sd,dK,cM,E1,w9,jH]
  rfl
 | .rangeFunc _ _ _ _=>by funext S Q;simp only [dZ];rfl
 | .exit id=>by funext S Q;simp only [dZ];rfl
 | .scope c=>by
  funext S Q
  show nU P c S Q=_
  rw [Z7 P c]
  simp only [dZ]
 | .label l=>by funext S Q;simp only [dZ];rfl
 | .goto l=>by funext S Q;simp only [dZ];rfl
 | .ret=>by funext S Q;simp only [dZ];rfl
 | .refuse w=>by funext S Q;simp only [dZ];rfl
def nV (P:Program) (fn:Func) (args:List AV) (ins:List Row) (res:AV) (l5:List Row):Prop :=
 match fn.body with
 | none=>False
 | some c=>(O6 ins.length args && ins.all (fun r=>A4 ins.length r && r.live) && Nat.ble args.length fn.ntmps)=true /\
  bE ⟨P8 (List.range' fn.ntmps ins.length) args++List.replicate (fn.ntmps - args.length) .any,List.replicate fn.ntmps .none++ins.map (x6 (List.range' fn.ntmps ins.length)),.plain⟩ fun S=>nU P c S fun e S=>match e with
  | .exit _=>False
  | _=>match T1 P S fn.results.toList with
   | some l=>∃ news:List Nat,(aq (List.range' fn.ntmps ins.length++news) && Nat.beq l5.length (List.range' fn.ntmps ins.length++news).length && res.under l5.length && l5.all (A4 l5.length))=true /\
     FL (cn l).fin fun v=>v=res.ren (List.range' fn.ntmps ins.length++news)/\(List.range' fn.ntmps ins.length++news).map S.row=l5.map (x6 (List.range' fn.ntmps ins.length++news))
   | none=>False
theorem so (P:Program) (fn:Func) (args:List AV) (ins:List Row) (res:AV) (l5:List Row):nV P fn args ins res l5=nQ P fn args ins res l5:=by
 unfold nV nQ
 simp only [Z7,E1,w9,nE,bg]
 rfl
theorem M8 {P:Program} (hm:P.follows .mixedOrders=true) {f:FuncId} {fn:Func} {args:List AV} {ins l5:List Row} {res:AV} (hf:P.funcs[f]? = some fn) (I8:(fn.name == "runtime.NumGoroutine")=false) (h:nV P fn args ins res l5):PW P f args ins res l5 :=
 pY hm hf I8 (by rw [<- so];exact h)

end Go.Ev
