/- The executor by recursors where function values hold on to what is not frozen. A helper text: it speaks of no program. -/
import Derived.Test.YtdpnpdjnaimgaaaGreatEvSix
import Derived.Test.YtdpnpdjnaimgaaaGreatEvEight
set_option linter.unusedVariables false
set_option linter.unusedSimpArgs false
namespace Go.Ev
def gOp1N (P : Program) (o : Oper) (S : St) (K : St → Out → Prop) : Prop :=
  match o.op with
  | .makeFunc f xs ys => K S ⟨.fn f (xs.toList.map S.get) (ys.toList.map S.get), []⟩
  | .call c => match c.callee with
    | .value f => match S.get f with
      | .fn (.func _) first caps => (match closedL (first ++ c.args.toList.map S.get ++ caps) with
        | true => gOp P o.dst (.call c) S.get S.row fun out _ => K S out
        | false => ∃ frz : Bool, match frz with
          | false => gOp P o.dst (.call c) S.get S.row fun out _ => K S out
          | true => gSt (S.freeze (idSet ((first ++ c.args.toList.map S.get ++ caps).flatMap (idsN 4 S.row)))) fun S => gOp P o.dst (.call c) S.get S.row fun out _ => K S out) ∨ gwOp P c f S K
      | _ => uOp1N P o S K
    | _ => uOp1N P o S K
  | _ => uOp1N P o S K
def gOpUN (P : Program) (o : Oper) (S : St) (K : St → Out → Prop) : Prop :=
  match allocs o.op with
  | true => match o.dst with
    | some d => match mayKill S d with
      | true => gSt (S.kill d) fun S => gOp1N P o S K
      | false => False
    | none => gOp1N P o S K
  | false => gOp1N P o S K
def gRunStepN (P : Program) (all : List Oper) (o : Oper) (ih : Nat → St → (St → Prop) → Prop) (k : Nat) (S : St) (K : St → Prop) : Prop :=
  match gw all.toArray S o with
  | some true => gOpUN P o S fun S out => splitOut (isSrc all k) out fun out => gPut S o.dst out fun S => ih (k + 1) S K
  | some false => gPut S o.dst ⟨.tup [], []⟩ fun S => ih (k + 1) S K
  | none => False
def gRunN (P : Program) (all l : List Oper) (k : Nat) (S : St) (K : St → Prop) : Prop :=
  List.rec (motive := fun _ => Nat → St → (St → Prop) → Prop) (fun _ S K => K S) (fun o _ ih => gRunStepN P all o ih) l k S K
def gRegionN (P : Program) (ops : Array Oper) (draw : Bool) (S : St) (Q : Ex → St → Prop) : Prop :=
  match draw with
  | false => gRunN P ops.toList ops.toList 0 S fun S => gSt S (Q .norm)
  | true => (drawB P ops && (allocD P ops.toList).all (mayKill S) && noDefer ops.toList) = true ∧ gSt (S.kills (allocD P ops.toList)) fun S => gLex P ops.toList ops.toList 0 S [] fun S => gSt S (Q .norm)
def gExN (P : Program) (c : Code) : GX :=
  Code.rec (motive := fun _ => GX)
    (fun S Q => Q .norm S)
    (fun _ ops draw => gRegionN P ops draw)
    (fun _ _ ia ib => gSeq ia ib)
    (fun c _ _ ia ib => gCond c ia ib)
    (fun id _ ic => gBlock id ic)
    (fun c ic => gLoop c ic)
    (fun _ _ _ _ _ _ _ _ => False)
    (fun id S Q => Q (.exit id) S)
    (fun _ _ _ _ => False)
    (fun _ S Q => Q .norm S)
    (fun _ _ _ => False)
    (fun S Q => Q .ret S)
    (fun _ _ _ => False) c
def gBodyN (P : Program) (fn : Func) (args : List AV) (res : AV) : Prop :=
  match fn.body with
  | none => False
  | some c => gSt ⟨args ++ List.replicate (fn.ntmps - args.length) .any, List.replicate fn.ntmps .none, .plain⟩ fun S => gExN P c S fun e S => match e with
    | .exit _ => False
    | _ => match retAV P S fn.results.toList with
      | some l => av3 (retOf l).fin fun v => v = res
      | none => False
def gBodyWN (P : Program) (fn : Func) (args : List AV) (ins : List Row) (res : AV) (outs : List Row) : Prop :=
  match fn.body with
  | none => False
  | some c => (underL ins.length args && ins.all (fun r => underRow ins.length r && r.live) && Nat.ble args.length fn.ntmps) = true ∧
    gSt ⟨renL (List.range' fn.ntmps ins.length) args ++ List.replicate (fn.ntmps - args.length) .any, List.replicate fn.ntmps .none ++ ins.map (renRow (List.range' fn.ntmps ins.length)), .plain⟩ fun S => gExN P c S fun e S => match e with
    | .exit _ => False
    | _ => match retRaw P S fn.results.toList with
      | some l => ∃ news : List Nat, (nodupB (List.range' fn.ntmps ins.length ++ news) && Nat.beq outs.length (List.range' fn.ntmps ins.length ++ news).length && res.under outs.length && outs.all (underRow outs.length)) = true ∧
          av3 (retOf l).fin fun v => v = res.ren (List.range' fn.ntmps ins.length ++ news) ∧ (List.range' fn.ntmps ins.length ++ news).map S.row = outs.map (renRow (List.range' fn.ntmps ins.length ++ news))
      | none => False
end Go.Ev
