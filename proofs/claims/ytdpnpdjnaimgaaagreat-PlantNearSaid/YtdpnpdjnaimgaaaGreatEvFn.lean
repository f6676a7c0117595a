/- The executor by recursors where function values hold on to what is not frozen. A helper text: it speaks of no program. -/
import Derived.Test.YtdpnpdjnaimgaaaGreatEvSix
import Derived.Test.YtdpnpdjnaimgaaaGreatEvEight
set_option linter.unusedVariables false
set_option linter.unusedSimpArgs false
namespace Go.Ev
def a6Q (P:Program) (o:Oper) (S:St) (K:St->Out->Prop):Prop :=
 match o.op with
 | .makeFunc f xs ys=>K S ⟨.fn f (xs.toList.map S.get) (ys.toList.map S.get),[]⟩
 | .call c=>match c.callee with
  | .value f=>match S.get f with
   | .fn (.func _) first caps=>(match s9 (first++c.args.toList.map S.get++caps) with
    | true=>gOp P o.dst (.call c) S.get S.row fun out _=>K S out
    | false=>∃ frz:Bool,match frz with
     | false=>gOp P o.dst (.call c) S.get S.row fun out _=>K S out
     | true=>gSt (S.freeze (V3 ((first++c.args.toList.map S.get++caps).flatMap (idsN 4 S.row)))) fun S=>gOp P o.dst (.call c) S.get S.row fun out _=>K S out)∨gwOp P c f S K
   | _=>R6 P o S K
  | _=>R6 P o S K
 | _=>R6 P o S K
theorem b1O (P:Program) (o:Oper) (S:St) (K:St->Out->Prop):a6Q P o S K=R6 P o S K:=by
 unfold a6Q
 split
 ·rename_i f xs ys h
  unfold R6
  simp only [h]
 ·rename_i c h
  split
  ·rename_i f hf
   split
   ·rename_i x first caps hg
    unfold R6
    simp only [h,hf,hg]
    simp only [a8u,y7,l5,a5l]
    rfl
   ·rfl
  ·rfl
 ·rfl
def b1P (P:Program) (o:Oper) (S:St) (K:St->Out->Prop):Prop :=
 match E0 o.op with
 | true=>match o.dst with
  | some d=>match k8 S d with
   | true=>gSt (S.kill d) fun S=>a6Q P o S K
   | false=>False
  | none=>a6Q P o S K
 | false=>a6Q P o S K
theorem b1Q (P:Program) (o:Oper) (S:St) (K:St->Out->Prop):b1P P o S K=uOpN P o S K:=by
 unfold b1P uOpN
 simp only [b1O,y7,l5]
 rfl
def a1o (P:Program) (all:List Oper) (o:Oper) (ih:Nat->St->(St->Prop)->Prop) (k:Nat) (S:St) (K:St->Prop):Prop :=
 match gw all.toArray S o with
 | some true=>b1P P o S fun S out=>J3 (a32 all k) out fun out=>gPut S o.dst out fun S=>ih (k + 1) S K
 | some false=>gPut S o.dst ⟨.tup [],[]⟩ fun S=>ih (k + 1) S K
 | none=>False
def b1R (P:Program) (all l:List Oper) (k:Nat) (S:St) (K:St->Prop):Prop :=
 List.rec (motive:=fun _=>Nat->St->(St->Prop)->Prop) (fun _ S K=>K S) (fun o _ ih=>a1o P all o ih) l k S K
theorem a6R (P:Program) (all:List Oper):∀ (l:List Oper) (k:Nat) (S:St) (K:St->Prop),b1R P all l k S K=a2O P all l k S K
 | [],_,_,_=>rfl
 | o :: l,k,S,K=>by
  show a1o P all o (fun k S K=>b1R P all l k S K) k S K=_
  unfold a1o a2O
  simp only [a6R P all l,b1Q,a5k]
  rfl
def a2R (P:Program) (ops:Array Oper) (draw:Bool) (S:St) (Q:Ex->St->Prop):Prop :=
 match draw with
 | false=>b1R P ops.toList ops.toList 0 S fun S=>gSt S (Q .norm)
 | true=>(a33 P ops && (K3 P ops.toList).all (k8 S) && Z2 ops.toList)=true/\gSt (S.kills (K3 P ops.toList)) fun S=>gLex P ops.toList ops.toList 0 S [] fun S=>gSt S (Q .norm)
def gExN (P:Program) (c:Code):GX :=
 Code.rec (motive:=fun _=>GX)
  (fun S Q=>Q .norm S)
  (fun _ ops draw=>a2R P ops draw)
  (fun _ _ ia ib=>gSeq ia ib)
  (fun c _ _ ia ib=>a9s c ia ib)
  (fun id _ ic=>a5p id ic)
  (fun c ic=>a38 c ic)
  (fun _ _ _ _ _ _ _ _=>False)
  (fun id S Q=>Q (.exit id) S)
  (fun _ ic S Q=>ic S Q)
  (fun _ S Q=>Q .norm S)
  (fun _ _ _=>False)
  (fun S Q=>Q .ret S)
  (fun _ _ _=>False) c
theorem L1 (P:Program):∀ (c:Code),gExN P c=exN P c
 | .skip=>by funext S Q; simp only [exN]; rfl
 | .region id ops draw=>by
  funext S Q
  show a2R P ops draw S Q=_
  unfold a2R exN
  cases draw
  ·simp only [a6R,y7,l5]
  ·simp only [a5m,y7,l5]
 | .seq a b=>by
  funext S Q
  show gSeq (gExN P a) (gExN P b) S Q=_
  rw [L1 P a,L1 P b]
  simp only [exN]
  rfl
 | .cond c a b=>by
  funext S Q
  show a9s c (gExN P a) (gExN P b) S Q=_
  rw [L1 P a,L1 P b]
  simp only [exN]
  rfl
 | .block id c=>by
  funext S Q
  show a5p id (gExN P c) S Q=_
  rw [L1 P c]
  simp only [exN]
  rfl
 | .loop c=>by
  funext S Q
  show a38 c (gExN P c) S Q=_
  rw [L1 P c]
  simp only [exN]
  unfold a38
  simp only [a5n,a8t,a0x,y7,l5,a2L]
  rfl
 | .rangeFunc _ _ _ _=>by funext S Q; simp only [exN]; rfl
 | .exit id=>by funext S Q; simp only [exN]; rfl
 | .scope c=>by
  funext S Q
  show gExN P c S Q=_
  rw [L1 P c]
  simp only [exN]
 | .label l=>by funext S Q; simp only [exN]; rfl
 | .goto l=>by funext S Q; simp only [exN]; rfl
 | .ret=>by funext S Q; simp only [exN]; rfl
 | .refuse w=>by funext S Q; simp only [exN]; rfl
def a8C (P:Program) (fn:Func) (args:List AV) (res:AV):Prop :=
 match fn.body with
 | none=>False
 | some c=>gSt ⟨args++List.replicate (fn.ntmps - args.length) .any,List.replicate fn.ntmps .none,.plain⟩ fun S=>gExN P c S fun e S=>match e with
  | .exit _=>False
  | _=>match K7 P S fn.results.toList with
   | some l=>av3 (O6 l).fin fun v=>v=res
   | none=>False
theorem b0p (P:Program) (fn:Func) (args:List AV) (res:AV):a8C P fn args res=a9t P fn args res:=by
 unfold a8C a9t
 simp only [L1,y7,l5,a2H,M5]
 rfl
theorem L2 {P:Program} (hm:P.follows .mixedOrders=true) {f:FuncId} {fn:Func} {args:List AV} {res:AV} (hf:P.funcs[f]? = some fn) (hname:(fn.name == "runtime.NumGoroutine")=false) (h:a8C P fn args res):PC P f args res :=
 a6I hm hf hname (by rw [<- b0p]; exact h)
def D7 (P:Program) (fn:Func) (args:List AV) (ins:List Row) (res:AV) (outs:List Row):Prop :=
 match fn.body with
 | none=>False
 | some c=>(F7 ins.length args && ins.all (fun r=>r5 ins.length r && r.live) && Nat.ble args.length fn.ntmps)=true /\
  gSt ⟨renL (List.range' fn.ntmps ins.length) args++List.replicate (fn.ntmps - args.length) .any,List.replicate fn.ntmps .none++ins.map (l9 (List.range' fn.ntmps ins.length)),.plain⟩ fun S=>gExN P c S fun e S=>match e with
  | .exit _=>False
  | _=>match I3 P S fn.results.toList with
   | some l=>∃ news:List Nat,(N1 (List.range' fn.ntmps ins.length++news) && Nat.beq outs.length (List.range' fn.ntmps ins.length++news).length && res.under outs.length && outs.all (r5 outs.length))=true /\
     av3 (O6 l).fin fun v=>v=res.ren (List.range' fn.ntmps ins.length++news)/\(List.range' fn.ntmps ins.length++news).map S.row=outs.map (l9 (List.range' fn.ntmps ins.length++news))
   | none=>False
theorem a8D (P:Program) (fn:Func) (args:List AV) (ins:List Row) (res:AV) (outs:List Row):D7 P fn args ins res outs=a5t P fn args ins res outs:=by
 unfold D7 a5t
 simp only [L1,y7,l5,a2H,M5]
 rfl
theorem j9 {P:Program} (hm:P.follows .mixedOrders=true) {f:FuncId} {fn:Func} {args:List AV} {ins outs:List Row} {res:AV} (hf:P.funcs[f]? = some fn) (hname:(fn.name == "runtime.NumGoroutine")=false) (h:D7 P fn args ins res outs):PW P f args ins res outs :=
 a6J hm hf hname (by rw [<- a8D]; exact h)

end Go.Ev
