/- A helper text: contracts of functions of the program, and plain lemmas. -/
import Derived.Test.YtdpnpdjnaimgaaaGreatEvFive
set_option linter.unusedVariables false
set_option linter.unusedSimpArgs false
/- The executor where function values hold on to what is not frozen. A helper text: it speaks of no program. -/
namespace Go.Ev
def nilRow : Row → Prop
  | .vec _ _ _ _ l => l.length = 0
  | .nest _ _ _ _ _ _ _ _ l => l.length = 0
  | _ => False
def uOp1N (P : Program) (o : Oper) (S : St) (K : St → Out → Prop) : Prop :=
  match o.op with
  | .makeFunc f xs ys => K S ⟨.fn f (xs.toList.map S.get) (ys.toList.map S.get), []⟩
  | .binOp op t x y yt => match S.get y with
    | .nils => match S.get x with
      | .sl _ _ _ l => match P.underlying t with
        | some (.slice _) => nilCmp op l fun v => K S ⟨v, []⟩
        | _ => False
      | .own id => match S.row id with
        | .vec _ _ _ _ l => match P.underlying t with
          | some (.slice _) => nilCmp op l fun v => K S ⟨v, []⟩
          | _ => False
        | _ => False
      | _ => evN P o.dst (.binOp op t x y yt) S.get S.row fun out _ => K S out
    | _ => evN P o.dst (.binOp op t x y yt) S.get S.row fun out _ => K S out
  | .call c => match c.callee with
    | .value f => match S.get f with
      | .fn (.func _) first caps => (match closedL (first ++ c.args.toList.map S.get ++ caps) with
        | true => evN P o.dst (.call c) S.get S.row fun out _ => K S out
        | false => ∃ frz : Bool, match frz with
          | false => evN P o.dst (.call c) S.get S.row fun out _ => K S out
          | true => fSt (S.freeze (idSet ((first ++ c.args.toList.map S.get ++ caps).flatMap (idsN 4 S.row)))) fun S => evN P o.dst (.call c) S.get S.row fun out _ => K S out) ∨ wOp P c f S K
      | .fn (.yield l) [] [] => match S.row S.t.length with
        | .ctr l' xs k false => (l = l' ∧ xs[k]? = some (c.args.toList.map S.get) ∧ flatL (c.args.toList.map S.get) = true) ∧ K S ⟨.tt, [(S.t.length, .ctr l' xs (k + 1) false)]⟩ ∧ K S ⟨.ff, [(S.t.length, .ctr l' xs (k + 1) true)]⟩
        | _ => False
      | _ => False
    | _ => evN P o.dst (.call c) S.get S.row fun out _ => K S out
  | .assign x => match S.get x, o.dst with
    | .nils, some d => evN P o.dst o.op S.get S.row (fun out _ => K S out) ∨ (mayKill S d = true ∧ ∃ r : Row, nilRow r ∧ fSt (S.kill d) fun S' => K S' ⟨.own d, [(d, r)]⟩)
    | _, _ => evN P o.dst o.op S.get S.row fun out _ => K S out
  | op => evN P o.dst op S.get S.row fun out _ => K S out
def uOpN (P : Program) (o : Oper) (S : St) (K : St → Out → Prop) : Prop :=
  match allocs o.op with
  | true => match o.dst with
    | some d => match mayKill S d with
      | true => fSt (S.kill d) fun S => uOp1N P o S K
      | false => False
    | none => uOp1N P o S K
  | false => uOp1N P o S K
def uRunN (P : Program) (all : List Oper) : List Oper → Nat → St → (St → Prop) → Prop
  | [], _, S, K => K S
  | o :: l, k, S, K => match gw all.toArray S o with
    | some true => uOpN P o S fun S out => splitOut (isSrc all k) out fun out => fPut S o.dst out fun S => uRunN P all l (k + 1) S K
    | some false => fPut S o.dst ⟨.tup [], []⟩ fun S => uRunN P all l (k + 1) S K
    | none => False
def exN (P : Program) : Code → St → (Ex → St → Prop) → Prop
  | .skip, S, Q => Q .norm S
  | .label _, S, Q => Q .norm S
  | .region _ ops draw, S, Q => match draw with
    | false => uRunN P ops.toList ops.toList 0 S fun S => fSt S (Q .norm)
    | true => (drawB P ops && (allocD P ops.toList).all (mayKill S) && noDefer ops.toList) = true ∧ fSt (S.kills (allocD P ops.toList)) fun S => lexRun P ops.toList ops.toList 0 S [] fun S => fSt S (Q .norm)
  | .seq a b, S, Q => exN P a S fun e S => match e with
    | .norm => exN P b S Q
    | e => Q e S
  | .cond c a b, S, Q => match S.get c with
    | .tt => exN P a S Q
    | .ff => exN P b S Q
    | .bool x => (x = true → exN P a S Q) ∧ (x = false → exN P b S Q)
    | _ => False
  | .block id c, S, Q => exN P c S fun e S => match e with
    | .exit i => match Nat.beq i id with
      | true => Q .norm S
      | false => Q (.exit i) S
    | e => Q e S
  | .loop c, S, Q => (∃ n, unr (exN P c) n S Q) ∨
      ∃ (ι : Type) (ws bs : List Nat) (vs : List (Nat × VT)) (V : ι → List AV) (BR VR : ι → List Row) (μ : ι → Nat) (I : ι → Prop), fNs (dstsC c) fun ds => fSt (canonV vs S) fun S0 =>
        (∃ i, atHead ds S0 ws bs vs S fun vals brows vrows => I i ∧ vals = V i ∧ brows = BR i ∧ vrows = VR i) ∧
        ∀ i, I i → fSt (mkHead ds S0 ws bs vs (V i) (BR i) (VR i)) fun S1 => exN P c S1 fun e S2 => match e with
          | .norm => ∃ i', atHead ds S0 ws bs vs S2 fun vals brows vrows => (μ i' < μ i ∧ I i') ∧ vals = V i' ∧ brows = BR i' ∧ vrows = VR i'
          | e => Q e S2
  | .rangeFunc _ _ _ _, _, _ => False
  | .ret, S, Q => Q .ret S
  | .exit id, S, Q => Q (.exit id) S
  | _, _, _ => False
def bodyN (P : Program) (fn : Func) (args : List AV) (res : AV) : Prop :=
  match fn.body with
  | none => False
  | some c => fSt ⟨args ++ List.replicate (fn.ntmps - args.length) .any, List.replicate fn.ntmps .none, .plain⟩ fun S => exN P c S fun e S => match e with
    | .exit _ => False
    | _ => match retAV P S fn.results.toList with
      | some l => fAV (retOf l).fin fun v => v = res
      | none => False
def bodyWN (P : Program) (fn : Func) (args : List AV) (ins : List Row) (res : AV) (outs : List Row) : Prop :=
  match fn.body with
  | none => False
  | some c => (underL ins.length args && ins.all (fun r => underRow ins.length r && r.live) && Nat.ble args.length fn.ntmps) = true ∧
    fSt ⟨renL (List.range' fn.ntmps ins.length) args ++ List.replicate (fn.ntmps - args.length) .any, List.replicate fn.ntmps .none ++ ins.map (renRow (List.range' fn.ntmps ins.length)), .plain⟩ fun S => exN P c S fun e S => match e with
    | .exit _ => False
    | _ => match retRaw P S fn.results.toList with
      | some l => ∃ news : List Nat, (nodupB (List.range' fn.ntmps ins.length ++ news) && Nat.beq outs.length (List.range' fn.ntmps ins.length ++ news).length && res.under outs.length && outs.all (underRow outs.length)) = true ∧
          fAV (retOf l).fin fun v => v = res.ren (List.range' fn.ntmps ins.length ++ news) ∧ (List.range' fn.ntmps ins.length ++ news).map S.row = outs.map (renRow (List.range' fn.ntmps ins.length ++ news))
      | none => False
end Go.Ev
/- The executor where function values hold on to what is not frozen: it is sound. A helper text: it speaks of no program. -/
namespace Go.Ev
section
variable {P : Program} {B : Nat → Prop} {w0 : World} {F0 : Env P} {S : St} {β : Nat → Option Hd} {F : Nat → Prop} {a : Act} {w : World} {ops : Array Oper}
end
section
variable {P : Program} {B : Nat → Prop} {w0 : World} {F0 : Env P} {S : St} {β : Nat → Option Hd} {F : Nat → Prop} {a : Act} {w : World}
end
section
variable {P : Program} {B : Nat → Prop} {w0 : World} {F0 : Env P} {S : St} {β : Nat → Option Hd} {F : Nat → Prop} {a : Act} {w : World}
end
end Go.Ev
