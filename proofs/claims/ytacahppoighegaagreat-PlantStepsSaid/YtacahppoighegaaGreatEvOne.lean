/- Helper lemmas. -/
import Derived.Deep.Quiet
import Derived.Below
import Derived.KernelRfl
import Derived.Laws.AppendOwn
import Derived.Laws.CopyRow
import Derived.RangeFuncNested
import Derived.Laws.StructEq
import Derived.ChangeKeysEq
set_option linter.unusedVariables false
set_option linter.unusedSimpArgs false
/- Abstract values, and how they stand for values in memory. A helper text: it speaks of no program. -/
namespace Go.Ev
theorem zA0{p:Prop}[inst:Decidable p]:decide p=false->¬p:=of_decide_eq_false
theorem zA1{p:Prop}[inst:Decidable p]:decide p=true->p:=of_decide_eq_true
theorem zA2(a b:Bool):((a&&b)=true)=(a=true/\b=true):=Bool.and_eq_true a b
theorem zA3{p:Prop}[inst:Decidable p]:(decide p=true)=p:=decide_eq_true_eq
theorem zA4{p:Prop}[inst:Decidable p]:p->decide p=true:=decide_eq_true
theorem zA5{p:Prop}[inst:Decidable p]:¬p->decide p=false:=decide_eq_false
theorem zA6{α:Type _}{l:List α}{i:Nat}(h:i<l.length):l[i]?=some l[i]:=List.getElem?_eq_getElem h
theorem zA7{α:Type _}{l:List α}{i:Nat}(h:l.length<=i):l[i]?=none:=List.getElem?_eq_none h
theorem zA8{n m:Nat}:Nat.beq n m=true->n=m:=Nat.eq_of_beq_eq_true
theorem zA9(a b:Bool):((a||b)=true)=(a=true∨b=true):=Bool.or_eq_true a b
theorem zB0:(false=true)=False:=Bool.false_eq_true
theorem zB1{α:Type _}{i:Nat}{l:List α}:(l.take i).length=min i l.length:=by rw[List.length_take]
theorem zB2{α:Type _}{a:α}{l:List α}:(a::l).length=l.length+1:=by rw[List.length_cons]
theorem zB3(n:Nat):¬n<0:=Nat.not_lt_zero n
theorem zB4(n:Nat):0<=n:=Nat.zero_le n
theorem zB5{n m k:Nat}:n<m->m<=k->n<k:=Nat.lt_of_lt_of_le
inductive AV:Type 1
 | any|tt|ff
 | bool (b:Bool)
 | int (k:IntKind) (n:Int)
 | str (s:ByteArray)
 | mapv (c:Nat)
 | nilp|nils|nilf
 | agg (l:List AV)
 | tup (l:List AV)
 | sl {α:Type} (sz:Nat) (d:α) (enc:α->List AV) (l:List α)
 | slc (sz:Nat) (E5:List (List AV))
 | sf {α:Type} (sz:Nat) (d:α) (enc:α->List AV) (l:List α)
 | pt (cs:List AV) (off:Nat)
 | ptr (id sz i off:Nat)
 | own (id:Nat)
 | mem (id i:Nat)
 | mptr (id i k:Nat)
 | fn (f:Fn) (first B2:List AV)
structure Hd where
 b:Option Nat
 len:Nat
 cap:Nat
 m:Nat->Option Nat×Nat×Nat
def jr:Nat->Option Nat×Nat×Nat:=fun _=>(none,0,0)
def Z1:Option Hd->Nat->Prop
 | none,_=>False
 | some hd,b=>hd.b=some b∨∃ k,(hd.m k).1=some b
@[simp] theorem Wr(b:Nat):Z1 none b↔False:=Iff.rfl
@[simp] theorem P7{x:Option Nat}{len cap b:Nat}:Z1 (some ⟨x,len,cap,jr⟩) b↔x=some b:=by simp[Z1,jr]
theorem A8{hd:Hd}{b:Nat}(h:hd.b=some b):Z1 (some hd) b := .inl h
theorem aX{hd:Hd}{k b:Nat}(h:(hd.m k).1=some b):Z1 (some hd) b := .inr ⟨k,h⟩
theorem gE{hd:Hd}{b:Nat}(hm:hd.m=jr):Z1 (some hd) b↔hd.b=some b:=by simp[Z1,hm,jr]
def mW:Obj->Bool
 | .cells .. => true
 | .map .. => true
 | .mapIter .. => true
 | _=>false
structure ZH where
 Φ:(Nat->Prop)->Hd->World->Prop
 st:∀ (F F':Nat->Prop) (hd:Hd) (w w':World),(∀ b,F b->F' b)->(∀ (b o:Nat) (v:Value),F b->w.cell? ⟨b,o,none⟩=some v->w'.cell? ⟨b,o,none⟩=some v)->(∀ b,Z1 (some hd) b->w'.heap[b]? = w.heap[b]?)->Φ F hd w->Φ F' hd w'
 fr:∀ (F:Nat->Prop) (hd:Hd) (w:World) (b:Nat),Φ F hd w->Z1 (some hd) b->∃ o,w.heap[b]? = some o/\mW o=true
inductive Row:Type 1
 | none
 | cells (ty:TypeId) (cs:List AV)
 | lit (ty:TypeId) (sz:Nat) (E5:List (List AV))
 | vec {α:Type} (ty:TypeId) (sz:Nat) (d:α) (enc:α->List AV) (l:List α)
 | ctr (l:Nat) (xs:List (List AV)) (k:Nat) (e:Bool)
 | nest {α:Type} (ty:TypeId) (sz j0:Nat) (G7:TypeId) (d:α) (enc:α->List AV) (ys:α->List Int) (ho:Option Nat) (l:List α)
 | opq (o:ZH)
inductive y6 (F:Nat->Prop) (w:World):AV->Value->Prop
 | any (v):y6 F w .any v
 | tt:y6 F w .tt (.bool true)
 | ff:y6 F w .ff (.bool false)
 | bool (b):y6 F w (.bool b) (.bool b)
 | int (k n):y6 F w (.int k n) (.int k n)
 | str (s):y6 F w (.str s) (.string s)
 | mapv (c):y6 F w (.mapv c) (.map (some c))
 | nilp:y6 F w .nilp (.pointer none)
 | nils:y6 F w .nils (.slice none 0 0)
 | nilf:y6 F w .nilf .nilFunc
 | agg {xs:List AV} {vs:Array Value} (hl:xs.length=vs.size) (h:∀ i,i<xs.length->y6 F w (xs.getD i .any) (vs.getD i undef)):y6 F w (.agg xs) (.agg vs)
 | tup {xs:List AV} {vs:Array Value} (hl:xs.length=vs.size) (h:∀ i,i<xs.length->y6 F w (xs.getD i .any) (vs.getD i undef)):y6 F w (.tup xs) (.tuple vs)
 | slnil {α:Type} {sz:Nat} {d:α} {enc:α->List AV} {x:Option Addr} {cap:Nat}:y6 F w (.sl sz d enc []) (.slice x 0 cap)
 | sl {α:Type} {sz:Nat} {d:α} {enc:α->List AV} {l:List α} {b o cap:Nat} (g:Nat->Nat->Value) (hc:l.length<=cap)
   (hb:∀ i j,i<l.length->j<sz->F b/\w.cell? ⟨b,o+i*sz+j,none⟩=some (g i j))
   (h:∀ i j,i<l.length->j<sz->y6 F w ((enc (l.getD i d)).getD j .any) (g i j)) :
   y6 F w (.sl sz d enc l) (.slice (some ⟨b,o,none⟩) l.length cap)
 | sfnil {α:Type} {sz:Nat} {d:α} {enc:α->List AV} {x:Option Addr}:y6 F w (.sf sz d enc []) (.slice x 0 0)
 | sf {α:Type} {sz:Nat} {d:α} {enc:α->List AV} {l:List α} {b o:Nat} (g:Nat->Nat->Value)
   (hb:∀ i j,i<l.length->j<sz->F b/\w.cell? ⟨b,o+i*sz+j,none⟩=some (g i j))
   (h:∀ i j,i<l.length->j<sz->y6 F w ((enc (l.getD i d)).getD j .any) (g i j)) :
   y6 F w (.sf sz d enc l) (.slice (some ⟨b,o,none⟩) l.length l.length)
 | slcnil {sz:Nat}:y6 F w (.slc sz []) (.slice none 0 0)
 | slc {sz:Nat} {E5:List (List AV)} {b o cap:Nat} (g:Nat->Nat->Value) (hc:E5.length<=cap)
   (hb:∀ i j,i<E5.length->j<sz->F b/\w.cell? ⟨b,o+i*sz+j,none⟩=some (g i j))
   (h:∀ i j,i<E5.length->j<sz->y6 F w ((E5.getD i []).getD j .any) (g i j)) :
   y6 F w (.slc sz E5) (.slice (some ⟨b,o,none⟩) E5.length cap)
 | pt {cs:List AV} {off b o:Nat} (g:Nat->Value)
   (hb:∀ j,j<cs.length->F b/\w.cell? ⟨b,o+j,none⟩=some (g j))
   (h:∀ j,j<cs.length->y6 F w (cs.getD j .any) (g j)):y6 F w (.pt cs off) (.pointer (some ⟨b,o+off,none⟩))
 | fn {f:Fn} {xs ys:List AV} {vs us:Array Value} (hl:xs.length=vs.size) (h:∀ i,i<xs.length->y6 F w (xs.getD i .any) (vs.getD i undef))
   (hm:ys.length=us.size) (k:∀ i,i<ys.length->y6 F w (ys.getD i .any) (us.getD i undef)):y6 F w (.fn f xs ys) (.func f vs us)
theorem y6.mono{F F':Nat->Prop}{w w':World}(hF:∀ b,F b->F' b)(hw:∀ b o v,F b->w.cell? ⟨b,o,none⟩=some v->w'.cell? ⟨b,o,none⟩=some v)
  {x:AV} {v:Value} (h:y6 F w x v):y6 F' w' x v:=by
 induction h with
 | any v=>exact .any v
 | tt=>exact .tt
 | ff=>exact .ff
 | bool b=>exact .bool b
 | int k n=>exact .int k n
 | str s=>exact .str s
 | mapv c=>exact .mapv c
 | nilp=>exact .nilp
 | nils=>exact .nils
 | nilf=>exact .nilf
 | agg hl _ ih=>exact .agg hl ih
 | tup hl _ ih=>exact .tup hl ih
 | slnil=>exact .slnil
 | sl g hc hb _ ih=>exact .sl g hc (fun i j hi hj=>⟨hF _ (hb i j hi hj).1,hw _ _ _ (hb i j hi hj).1 (hb i j hi hj).2⟩) ih
 | sfnil=>exact .sfnil
 | sf g hb _ ih=>exact .sf g (fun i j hi hj=>⟨hF _ (hb i j hi hj).1,hw _ _ _ (hb i j hi hj).1 (hb i j hi hj).2⟩) ih
 | slcnil=>exact .slcnil
 | slc g hc hb _ ih=>exact .slc g hc (fun i j hi hj=>⟨hF _ (hb i j hi hj).1,hw _ _ _ (hb i j hi hj).1 (hb i j hi hj).2⟩) ih
 | pt g hb _ ih=>exact .pt g (fun j hj=>⟨hF _ (hb j hj).1,hw _ _ _ (hb j hj).1 (hb j hj).2⟩) ih
 | fn hl _ hm _ ih ik=>exact .fn hl ih hm ik
theorem y6.there{F:Nat->Prop}{w:World}{x:AV}{v:Value}(h:y6 F w x v):y6 (fun b=>F b/\b<w.heap.size) w x v:=by
 have lt:∀ {b o:Nat} {u:Value},w.cell? ⟨b,o,none⟩=some u->b<w.heap.size:=fun {b o u} hc=>World.block_lt_of_cell? w ⟨b,o,none⟩ hc
 induction h with
 | any v=>exact .any v
 | tt=>exact .tt
 | ff=>exact .ff
 | bool b=>exact .bool b
 | int k n=>exact .int k n
 | str s=>exact .str s
 | mapv c=>exact .mapv c
 | nilp=>exact .nilp
 | nils=>exact .nils
 | nilf=>exact .nilf
 | agg hl _ ih=>exact .agg hl ih
 | tup hl _ ih=>exact .tup hl ih
 | slnil=>exact .slnil
 | sl g hc hb _ ih=>exact .sl g hc (fun i j hi hj=>⟨⟨(hb i j hi hj).1,lt (hb i j hi hj).2⟩,(hb i j hi hj).2⟩) ih
 | sfnil=>exact .sfnil
 | sf g hb _ ih=>exact .sf g (fun i j hi hj=>⟨⟨(hb i j hi hj).1,lt (hb i j hi hj).2⟩,(hb i j hi hj).2⟩) ih
 | slcnil=>exact .slcnil
 | slc g hc hb _ ih=>exact .slc g hc (fun i j hi hj=>⟨⟨(hb i j hi hj).1,lt (hb i j hi hj).2⟩,(hb i j hi hj).2⟩) ih
 | pt g hb _ ih=>exact .pt g (fun j hj=>⟨⟨(hb j hj).1,lt (hb j hj).2⟩,(hb j hj).2⟩) ih
 | fn hl _ hm _ ih ik=>exact .fn hl ih hm ik
inductive C4 (β:Nat->Option Hd) (F:Nat->Prop) (w:World):AV->Value->Prop
 | imm {x v} (h:y6 F w x v):C4 β F w x v
 | ptr {id sz i off b:Nat} {hd:Hd} (hb:β id=some hd) (hh:hd.b=some b):C4 β F w (.ptr id sz i off) (.pointer (some ⟨b,i*sz+off,none⟩))
 | own {id:Nat} {hd:Hd} (hb:β id=some hd):C4 β F w (.own id) (.slice (hd.b.map fun b=>⟨b,0,none⟩) hd.len hd.cap)
 | mem {id i:Nat} {hd:Hd} (hb:β id=some hd) (hi:i<hd.len):C4 β F w (.mem id i) (.slice ((hd.m i).1.map fun b=>⟨b,0,none⟩) (hd.m i).2.1 (hd.m i).2.2)
 | mptr {id i k b:Nat} {hd:Hd} (hb:β id=some hd) (hh:(hd.m i).1=some b) (hi:i<hd.len) (hk:k<(hd.m i).2.1):C4 β F w (.mptr id i k) (.pointer (some ⟨b,k,none⟩))
 | agg {xs:List AV} {vs:Array Value} (hl:xs.length=vs.size) (h:∀ i,i<xs.length->C4 β F w (xs.getD i .any) (vs.getD i undef)):C4 β F w (.agg xs) (.agg vs)
 | tup {xs:List AV} {vs:Array Value} (hl:xs.length=vs.size) (h:∀ i,i<xs.length->C4 β F w (xs.getD i .any) (vs.getD i undef)):C4 β F w (.tup xs) (.tuple vs)
 | fn {f:Fn} {xs ys:List AV} {vs us:Array Value} (hl:xs.length=vs.size) (h:∀ i,i<xs.length->C4 β F w (xs.getD i .any) (vs.getD i undef))
   (hm:ys.length=us.size) (k:∀ i,i<ys.length->C4 β F w (ys.getD i .any) (us.getD i undef)):C4 β F w (.fn f xs ys) (.func f vs us)
def C5(F:Nat->Prop)(w w':World):Prop:=∀ (b o:Nat) (v:Value),F b->w.cell? ⟨b,o,none⟩=some v->w'.cell? ⟨b,o,none⟩=some v
theorem C5.refl(F:Nat->Prop)(w:World):C5 F w w:=fun _ _ _ _ h=>h
theorem C4.grow{β β':Nat->Option Hd}{F F':Nat->Prop}{w w':World}(hβ:∀ j,β j≠none->β' j=β j)(hF:∀ b,F b->F' b)(hw:C5 F w w')
  {x:AV} {v:Value} (h:C4 β F w x v):C4 β' F' w' x v:=by
 induction h with
 | imm h=>exact .imm (h.mono hF hw)
 | ptr hb hh=>exact .ptr ((hβ _ (by simp[hb])).trans hb) hh
 | own hb=>exact .own ((hβ _ (by simp[hb])).trans hb)
 | mem hb hi=>exact .mem ((hβ _ (by simp[hb])).trans hb) hi
 | mptr hb hh hi hk=>exact .mptr ((hβ _ (by simp[hb])).trans hb) hh hi hk
 | agg hl _ ih=>exact .agg hl ih
 | tup hl _ ih=>exact .tup hl ih
 | fn hl _ hm _ ih ik=>exact .fn hl ih hm ik
mutual
def AV.names(id:Nat):AV->Bool
 | .ptr j _ _ _=>Nat.beq j id
 | .own j=>Nat.beq j id
 | .mem j _=>Nat.beq j id
 | .mptr j _ _=>Nat.beq j id
 | .agg l=>jF id l
 | .tup l=>jF id l
 | .fn _ a b=>jF id a || jF id b
 | _=>false
def jF(id:Nat):List AV->Bool
 | []=>false
 | a :: l=>a.names id || jF id l
end
theorem cH{id:Nat}:∀ {l:List AV},jF id l=false->∀ i,i<l.length->(l.getD i .any).names id=false
 | a :: l,h,0,_=>by simp[jF]at h;exact h.1
 | a :: l,h,i+1,hi=>by
  simp[jF]at h;have:=cH h.2 i (by simpa using hi);simpa using this
theorem C4.turn{β β':Nat->Option Hd}{F:Nat->Prop}{w:World}{id:Nat}(hβ:∀ j,j≠id->β' j=β j){x:AV}{v:Value}(h:C4 β F w x v)(hx:x.names id=false):C4 β' F w x v:=by
 induction h with
 | imm h=>exact .imm h
 | ptr hb hh=>exact .ptr ((hβ _ (fun e=>by subst e;simp[AV.names]at hx)).trans hb) hh
 | own hb=>exact .own ((hβ _ (fun e=>by subst e;simp[AV.names]at hx)).trans hb)
 | mem hb hi=>exact .mem ((hβ _ (fun e=>by subst e;simp[AV.names]at hx)).trans hb) hi
 | mptr hb hh hi hk=>exact .mptr ((hβ _ (fun e=>by subst e;simp[AV.names]at hx)).trans hb) hh hi hk
 | agg hl _ ih=>exact .agg hl fun i hi=>ih i hi (cH (by simpa[AV.names]using hx) i hi)
 | tup hl _ ih=>exact .tup hl fun i hi=>ih i hi (cH (by simpa[AV.names]using hx) i hi)
 | fn hl _ hm _ ih ik =>
  simp[AV.names]at hx;exact .fn hl (fun i hi=>ih i hi (cH hx.1 i hi)) hm (fun i hi=>ik i hi (cH hx.2 i hi))
mutual
def AV.closed:AV->Bool
 | .ptr .. => false
 | .own .. => false
 | .mem .. => false
 | .mptr .. => false
 | .agg l=>G8 l
 | .tup l=>G8 l
 | .fn _ a b=>G8 a && G8 b
 | _=>true
def G8:List AV->Bool
 | []=>true
 | a :: l=>a.closed && G8 l
end
theorem H0:∀ {l:List AV},G8 l=true->∀ i,(l.getD i .any).closed=true
 | [],_,_=>rfl
 | a :: l,h,0=>by simp[G8]at h;exact h.1
 | a :: l,h,i+1=>by
  simp[G8]at h;have:=H0 h.2 i;simpa using this
theorem C4.shut{β:Nat->Option Hd}{F:Nat->Prop}{w:World}{x:AV}{v:Value}(h:C4 β F w x v)(hx:x.closed=true):y6 F w x v:=by
 induction h with
 | imm h=>exact h
 | ptr=>simp[AV.closed]at hx
 | own=>simp[AV.closed]at hx
 | mem=>simp[AV.closed]at hx
 | mptr=>simp[AV.closed]at hx
 | agg hl _ ih=>exact .agg hl fun i hi=>ih i hi (H0 (by simpa[AV.closed]using hx) i)
 | tup hl _ ih=>exact .tup hl fun i hi=>ih i hi (H0 (by simpa[AV.closed]using hx) i)
 | fn hl _ hm _ ih ik =>
  simp[AV.closed]at hx;exact .fn hl (fun i hi=>ih i hi (H0 hx.1 i)) hm (fun i hi=>ik i hi (H0 hx.2 i))
mutual
def AV.flat:AV->Bool
 | .any | .tt | .ff | .bool _ | .int _ _ | .str _ | .mapv _ | .nilp | .nils | .nilf=>true
 | .agg l=>dY l
 | .tup l=>dY l
 | .fn _ a b=>dY a && dY b
 | _=>false
def dY:List AV->Bool
 | []=>true
 | a :: l=>a.flat && dY l
end
theorem P8:∀ {l:List AV},dY l=true->∀ i,(l.getD i .any).flat=true
 | [],_,_=>rfl
 | a :: l,h,0=>by simp[dY]at h;exact h.1
 | a :: l,h,i+1=>by
  simp[dY]at h;have:=P8 h.2 i;simpa using this
theorem y6.lift{F F':Nat->Prop}{w w':World}{x:AV}{v:Value}(h:y6 F w x v)(hx:x.flat=true):y6 F' w' x v:=by
 induction h with
 | any v=>exact .any v
 | tt=>exact .tt
 | ff=>exact .ff
 | bool b=>exact .bool b
 | int k n=>exact .int k n
 | str s=>exact .str s
 | mapv c=>exact .mapv c
 | nilp=>exact .nilp
 | nils=>exact .nils
 | nilf=>exact .nilf
 | agg hl _ ih=>exact .agg hl fun i hi=>ih i hi (P8 (by simpa[AV.flat]using hx) i)
 | tup hl _ ih=>exact .tup hl fun i hi=>ih i hi (P8 (by simpa[AV.flat]using hx) i)
 | fn hl _ hm _ ih ik =>
  simp[AV.flat]at hx;exact .fn hl (fun i hi=>ih i hi (P8 hx.1 i)) hm (fun i hi=>ik i hi (P8 hx.2 i))
 | _=>simp[AV.flat]at hx
def AV.ofConst:Value->AV
 | .bool true => .tt
 | .bool false => .ff
 | .int k n => .int k n
 | .string s => .str s
 | .pointer none => .nilp
 | .slice none 0 0 => .nils
 | .nilFunc => .nilf
 | _ => .any
theorem y6.ofConst{F:Nat->Prop}{w:World}(v:Value):y6 F w (.ofConst v) v:=by
 unfold AV.ofConst;split<;>constructor
def AV.cells:AV->List AV
 | .agg l=>l
 | x=>[x]
inductive Md
 | plain
 | round (ks:List Nat)
 | iter
structure St:Type 1 where
 t:List AV
 h:List Row
 n:Md
structure Out:Type 1 where
 v:AV
 rows:List (Nat×Row)
def St.get(S:St):Operand->AV
 | .tmp i=>S.t.getD i .any
 | .const v=>AV.ofConst v
 | .global _ => .any
 | .func f => .fn (.func f) [] []
def St.row(S:St)(id:Nat):Row:=S.h.getD id .none
def r8(h:List Row):List (Nat×Row)->List Row
 | []=>h
 | (i,r) :: l=>r8 (h.set i r) l
def fO(t:List AV)(dst:Option Nat)(v:AV):List AV :=
 match dst with
 | some d=>t.set d v
 | none=>t
def St.put(S:St)(dst:Option Nat)(o:Out):St:=⟨fO S.t dst o.v,r8 S.h o.rows,S.n⟩
def fP(i:Nat):List Nat->Bool
 | []=>false
 | d :: l=>match Nat.beq i d with
  | true=>true
  | false=>fP i l
def A3(S:St)(d:Nat):Bool :=
 match Nat.blt d S.t.length with
 | true=>match S.n with
  | .round ks=>fP d ks
  | _=>true
 | false=>false
def iz(w:World)(ty:TypeId)(m:Option Nat×Nat×Nat):Option (List Int)->Value->Prop
 | none,_=>m=(none,0,0)
 | some zs,v=>v = .slice (m.1.map fun b=>⟨b,0,none⟩) m.2.1 m.2.2/\m.2.1=zs.length/\((zs=[]/\m.1=none/\m.2.2=0)∨∃ c us,m.1=some c/\w.heap[c]? = some (.cells us ty (0,0)) /\
   zs.length<=m.2.2/\m.2.2<=maxLen/\us.size=m.2.2/\∀ k,k<zs.length->us.getD k undef = .int .i64 (zs.getD k 0))
def jh{α:Type}(ys:α->List Int)(d:α)(ho:Option Nat)(l:List α)(i:Nat):Option (List Int):=if i<l.length/\ho≠some i then some (ys (l.getD i d))else none
theorem iz.same{w w':World}{ty:TypeId}{m:Option Nat×Nat×Nat}{o:Option (List Int)}{v:Value}(hb:∀ c,m.1=some c->w'.heap[c]? = w.heap[c]?)(h:iz w ty m o v):iz w' ty m o v:=by
 cases o with
 | none=>exact h
 | some zs =>
  obtain⟨h1,h2,h3⟩:=h;refine⟨h1,h2,?_⟩;rcases h3 with h3|⟨c,us,h4,h5,h6⟩
  ·exact .inl h3
  ·exact .inr ⟨c,us,h4,(hb c h4).trans h5,h6⟩
theorem iz.cells{w:World}{ty:TypeId}{m:Option Nat×Nat×Nat}{o:Option (List Int)}{v:Value}(h:iz w ty m o v){c:Nat}(hc:m.1=some c):∃ us,w.heap[c]? = some (.cells us ty (0,0)):=by
 cases o with
 | none=>rw[show m=(none,0,0) from h]at hc;cases hc
 | some zs =>
  obtain⟨_,_,h3⟩:=h;rcases h3 with ⟨_,h3,_⟩|⟨c',us,h4,h5,_⟩
  ·rw[h3]at hc;cases hc
  ·rw[h4]at hc;cases hc;exact⟨us,h5⟩
def y8(β:Nat->Option Hd)(F:Nat->Prop)(w:World)(id:Nat):Row->Prop
 | .none=>True
 | .ctr _ _ _ _=>∃ hd,β id=some hd/\hd.m=jr/\hd.b=none
 | .cells ty cs=>∃ hd b vs,β id=some hd/\hd.m=jr/\hd.b=some b/\w.heap[b]? = some (.cells vs ty (0,0))/\vs.size=cs.length/\∀ i,i<cs.length->C4 β F w (cs.getD i .any) (vs.getD i undef)
 | .lit ty sz E5=>∃ hd b vs,β id=some hd/\hd.m=jr/\hd.b=some b/\w.heap[b]? = some (.cells vs ty (0,0))/\hd.len=E5.length/\hd.cap=E5.length/\vs.size=E5.length*sz/\E5.length<=maxLen /\
   ∀ i j,i<E5.length->j<sz->C4 β F w ((E5.getD i []).getD j .any) (vs.getD (i*sz+j) undef)
 | .vec ty sz d enc l=>∃ hd,β id=some hd/\hd.m=jr/\hd.len=l.length/\((l=[]/\hd.b=none/\hd.cap=0)∨∃ b vs,hd.b=some b/\w.heap[b]? = some (.cells vs ty (0,0)) /\
   l.length<=hd.cap/\hd.cap<=maxLen/\vs.size=hd.cap*sz/\∀ i j,i<l.length->j<sz->y6 F w ((enc (l.getD i d)).getD j .any) (vs.getD (i*sz+j) undef))
 | .nest ty sz j0 G7 d enc ys ho l=>∃ hd,β id=some hd/\hd.len=l.length/\((l=[]/\hd.b=none/\hd.cap=0/\hd.m=jr)∨∃ b vs,hd.b=some b/\w.heap[b]? = some (.cells vs ty (0,0)) /\
   l.length<=hd.cap/\hd.cap<=maxLen/\vs.size=hd.cap*sz /\
   (∀ i j,i<l.length->j<sz->j≠j0->y6 F w ((enc (l.getD i d)).getD j .any) (vs.getD (i*sz+j) undef)) /\
   (∀ i,iz w G7 (hd.m i) (jh ys d ho l i) (vs.getD (i*sz+j0) undef))/\(∀ i k c,(hd.m i).1=some c->(hd.m k).1=some c->i=k)/\∀ i c,(hd.m i).1=some c->c≠b)
 | .opq o=>∃ hd,β id=some hd/\o.Φ F hd w
def x7(β:Nat->Option Hd)(i b:Nat):Prop:=Z1 (β i) b
structure H3 (O:Nat->Prop) (w w':World):Prop where
 os:w'.os=w.os
 tape:w'.tape=w.tape
 output:w'.output=w.output
 size:w.heap.size<=w'.heap.size
 block:∀ k,¬ O k->w'.heap[k]? = w.heap[k]?
theorem H3.refl(O:Nat->Prop)(w:World):H3 O w w:=⟨rfl,rfl,rfl,Nat.le_refl _,fun _ _=>rfl⟩
theorem H3.trans{O:Nat->Prop}{a b c:World}(h:H3 O a b)(k:H3 O b c):H3 O a c :=
 ⟨k.os.trans h.os,k.tape.trans h.tape,k.output.trans h.output,Nat.le_trans h.size k.size,fun i hi=>(k.block i hi).trans (h.block i hi)⟩
theorem H3.alloc{O:Nat->Prop}{a w:World}(h:H3 O a w)(hB:∀ b,w.heap.size<=b->O b)(o:Obj):H3 O a (w.alloc o) :=
 h.trans ⟨rfl,rfl,rfl,by simp,fun k hk=>RowKit.Below.heap_alloc _ _ _ (Nat.lt_of_not_le fun hle=>hk (hB k hle))⟩
theorem H3.mono{O O':Nat->Prop}{w w':World}(h:H3 O w w')(hO:∀ b,O b->O' b):H3 O' w w':=⟨h.os,h.tape,h.output,h.size,fun k hk=>h.block k fun ho=>hk (hO k ho)⟩
theorem H3.below{n:Nat}{w w':World}(h:H3 (fun b=>n<=b) w w'):RowKit.Below n w w':=⟨h.os,h.tape,h.output,h.size,fun k hk=>h.block k (by omega)⟩
structure Env (P:Program):Type 1 where
 F:Nat->Prop
 β:Nat->Option Hd
 r:Option Nat
 n:Md
 nr:(∀ ks,n ≠ .round ks)->r=none
 l:Nat
 xs:List (List AV)
 J:Nat->Bool->(Nat->Prop)->World->Prop
 ni:∀ k e O w,J k e O w->n = .iter
 st:∀ k e O w w',J k e O w->(∀ b,b<w.heap.size->¬ O b->w'.heap[b]? = w.heap[b]?)->w'.os=w.os->w'.tape=w.tape->w'.output=w.output->w.heap.size<=w'.heap.size ->
  J k e (fun b=>O b∨(w.heap.size<=b/\b<w'.heap.size)) w'
 rd:∀ k O W vs x,J k false O W->xs[k]? = some x->(∀ b,O b->b<W.heap.size)->vs.size=x.length->(∀ i,i<x.length->y6 (fun _=>False) W (x.getD i .any) (vs.getD i undef)) ->
  YieldAt Fence.wide 0 P l vs W fun e W'=>W'.os=W.os/\W'.tape=W.tape/\W'.output=W.output/\W.heap.size<=W'.heap.size/\(∀ b,O b->W'.heap[b]? = W.heap[b]?)/\C5 F W W' /\
   ((e = .returned (.bool true)/\J (k+1) false O W')∨(e = .returned (.bool false)/\J (k+1) true O W'))
def Env.plain(P:Program)(F:Nat->Prop)(β:Nat->Option Hd)(r:Option Nat)(n:Md)(nr:(∀ ks,n ≠ .round ks)->r=none):Env P :=
 ⟨F,β,r,n,nr,0,[],fun _ _ _ _=>False,fun _ _ _ _ h=>h.elim,fun _ _ _ _ _ h=>h.elim,fun _ _ _ _ _ h=>h.elim⟩
abbrev P9(D:Nat):Deferred:={ target := .collected D,args:=#[] }
structure Rel {P:Program} (B:Nat->Prop) (w0:World) (F0:Env P) (S:St) (β:Nat->Option Hd) (F:Nat->Prop) (a:Act) (w:World):Prop where
 len:S.t.length=a.tmps.size
 slots:∀ i,i<S.t.length->C4 β F w (S.t.getD i .any) (a.tmps.getD i undef)
 marks:∃ Ds:List Nat,(a.defers=Ds.map P9/\(F0.n ≠ .plain->Ds=[]))/\Ds.Nodup/\∀ D ∈ Ds,w.heap[D]? = some (.deferred (some []))/\B D/\w0.heap.size<=D
 rows:∀ id,y8 β F w id (S.row id)
 inj:∀ i j b,S.row i ≠ .none->S.row j ≠ .none->x7 β i b->x7 β j b->i=j
 bF:∀ i b,S.row i ≠ .none->x7 β i b->¬ F b
 bB:∀ i b,x7 β i b->B b/\b<w.heap.size
 FB:∀ b,F b->b<w.heap.size/\(F0.F b∨B b)
 below:H3 B w0 w
 BW:∀ b,w.heap.size<=b->B b
 top:∀ j hd,F0.β j=some hd->β j=some hd
 topn:∀ j,A3 S j=true->F0.β j=none
 nn:S.n=F0.n
 inc:∀ b,F0.F b->F b
 keep:C5 F0.F w0 w
 sol:F0.n ≠ .iter->∀ (k:Nat) (o:Obj),w0.heap[k]? = some o->mW o=false->w.heap[k]? = some o
 yl:∀ id l xs k e,S.row id = .ctr l xs k e->l=F0.l/\xs=F0.xs/\((∀ b,B b)/\F0.r=none)/\∃ O,F0.J k e O w/\(∀ b,O b->b<w.heap.size)/\(∀ i b,S.row i ≠ .none->x7 β i b->O b)/\(∀ b,F b->F0.F b∨O b)/\(∀ D,P9 D ∈ a.defers->O D)/\∀ oZ l' Bi k' e',S.row oZ = .ctr l' Bi k' e'->oZ=id
theorem Rel.get{P:Program}{B w0}{F0:Env P}{S β F a w}(h:Rel B w0 F0 S β F a w)(x:Operand):C4 β F w (S.get x) (a.eval x):=by
 cases x with
 | tmp i =>
  by_cases hi:i<S.t.length
  ·exact h.slots i hi
  ·have:S.t.getD i .any = .any:=by simp[List.getD,zA7 (Nat.le_of_not_lt hi)]
   show C4 β F w (S.t.getD i .any) _
   rw[this];exact .imm (.any _)
 | const v=>exact .imm (.ofConst v)
 | global g=>exact .imm (.any _)
 | func f=>exact .imm (.fn rfl (fun i hi=>absurd hi (zB3 i)) rfl (fun i hi=>absurd hi (zB3 i)))
theorem aC(t:List AV)(dst:Option Nat)(v:AV)(i:Nat):(fO t dst v).getD i .any=if dst=some i/\i<t.length then v else t.getD i .any:=by
 cases dst with
 | none=>simp[fO]
 | some d =>
  simp only[fO,List.getD,List.getElem?_set];by_cases hd:d=i
  ·subst hd;by_cases hl:d<t.length<;>simp[hl]
  ·simp[hd]
theorem V2(t:List AV)(dst:Option Nat)(v:AV):(fO t dst v).length=t.length:=by cases dst<;>simp[fO]
theorem vF(a:Act)(dst:Option Nat)(v:Value)(i:Nat):(a.put dst v).tmps.getD i undef=if dst=some i/\i<a.tmps.size then v else a.tmps.getD i undef:=by
 cases dst with
 | none=>simp[Act.put]
 | some d =>
  simp only[Act.put,Array.getD_eq_getD_getElem?,Array.getElem?_setIfInBounds];by_cases hd:d=i
  ·subst hd;by_cases hl:d<a.tmps.size<;>simp[hl]
  ·simp[hd]
theorem vG(a:Act)(dst:Option Nat)(v:Value):(a.put dst v).tmps.size=a.tmps.size:=by cases dst<;>simp[Act.put]
theorem sD(a:Act)(dst:Option Nat)(v:Value):(a.put dst v).defers=a.defers:=by cases dst<;>rfl
theorem y8.grow{β β':Nat->Option Hd}{F F':Nat->Prop}{w w':World}{id:Nat}(hβ:∀ j,β j≠none->β' j=β j)(hF:∀ b,F b->F' b)(hw:C5 F w w')
  (hb:∀ b,x7 β id b->w'.heap[b]? = w.heap[b]?) {r:Row} (h:y8 β F w id r):y8 β' F' w' id r:=by
 cases r with
 | none=>trivial
 | ctr l xs k e=>obtain⟨hd,h1,hm,h2⟩:=h;exact⟨hd,(hβ _ (by simp[h1])).trans h1,hm,h2⟩
 | cells ty cs =>
  obtain⟨hd,b,vs,h1,hm,TB,h2,h3,h4⟩:=h;exact⟨hd,b,vs,(hβ _ (by simp[h1])).trans h1,hm,TB,(hb b (by simp[x7,Z1,h1,TB])).trans h2,h3,fun i hi=>(h4 i hi).grow hβ hF hw⟩
 | lit ty sz E5 =>
  obtain⟨hd,b,vs,h1,hm,TB,h2,h3,h4,h5,h6,h7⟩:=h;exact⟨hd,b,vs,(hβ _ (by simp[h1])).trans h1,hm,TB,(hb b (by simp[x7,Z1,h1,TB])).trans h2,h3,h4,h5,h6,fun i j hi hj=>(h7 i j hi hj).grow hβ hF hw⟩
 | vec ty sz d enc l =>
  obtain⟨hd,h1,hm,h2,h3⟩:=h;refine⟨hd,(hβ _ (by simp[h1])).trans h1,hm,h2,?_⟩;rcases h3 with h3|⟨b,vs,h4,h5,h6,h7,h8,h9⟩
  ·exact .inl h3
  ·exact .inr ⟨b,vs,h4,(hb b (by simp[x7,Z1,h1,h4])).trans h5,h6,h7,h8,fun i j hi hj=>(h9 i j hi hj).mono hF hw⟩
 | nest ty sz j0 G7 d enc ys ho l =>
  obtain⟨hd,h1,h2,h3⟩:=h;refine⟨hd,(hβ _ (by simp[h1])).trans h1,h2,?_⟩;rcases h3 with h3|⟨b,vs,h4,h5,h6,h7,h8,h9,TC,ZI⟩
  ·exact .inl h3
  ·exact .inr ⟨b,vs,h4,(hb b (by simp[x7,Z1,h1,h4])).trans h5,h6,h7,h8,fun i j hi hj hn=>(h9 i j hi hj hn).mono hF hw,
    fun i=>(TC i).same fun c hc=>hb c (by rw[x7,h1];exact aX hc),ZI⟩
 | opq o=>obtain⟨hd,h1,h2⟩:=h;exact⟨hd,(hβ _ (by simp[h1])).trans h1,o.st F F' hd w w' hF hw (fun b oV=>hb b (by rw[x7,h1];exact oV)) h2⟩
theorem y8.some{β:Nat->Option Hd}{F:Nat->Prop}{w:World}{id:Nat}{r:Row}(h:y8 β F w id r)(hr:r ≠ .none):∃ hd,β id=some hd:=by
 cases r with
 | none=>exact absurd rfl hr
 | ctr l xs k e=>obtain⟨hd,h1,_⟩:=h;exact⟨hd,h1⟩
 | cells ty cs=>obtain⟨hd,b,vs,h1,_⟩:=h;exact⟨hd,h1⟩
 | lit ty sz E5=>obtain⟨hd,b,vs,h1,_⟩:=h;exact⟨hd,h1⟩
 | vec ty sz d enc l=>obtain⟨hd,h1,_⟩:=h;exact⟨hd,h1⟩
 | nest ty sz j0 G7 d enc ys ho l=>obtain⟨hd,h1,_⟩:=h;exact⟨hd,h1⟩
 | opq o=>obtain⟨hd,h1,_⟩:=h;exact⟨hd,h1⟩
theorem jG{β:Nat->Option Hd}{F:Nat->Prop}{w:World}{id:Nat}{r:Row}(h:y8 β F w id r)(hr:r ≠ .none){b:Nat}(hb:x7 β id b):∃ o,w.heap[b]? = some o/\mW o=true:=by
 cases r with
 | none=>exact absurd rfl hr
 | ctr l xs k e=>obtain⟨hd,h1,hm,h2⟩:=h;rw[x7,h1,gE hm,h2]at hb;cases hb
 | cells ty cs=>obtain⟨hd,b',vs,h1,hm,h2,h3,_⟩:=h;rw[x7,h1,gE hm,h2]at hb;cases hb;exact⟨_,h3,rfl⟩
 | lit ty sz E5=>obtain⟨hd,b',vs,h1,hm,h2,h3,_⟩:=h;rw[x7,h1,gE hm,h2]at hb;cases hb;exact⟨_,h3,rfl⟩
 | vec ty sz d enc l =>
  obtain⟨hd,h1,hm,_,h3⟩:=h;rw[x7,h1,gE hm]at hb;rcases h3 with ⟨_,h4,_⟩|⟨b',vs,h4,h5,_⟩
  ·rw[h4]at hb;cases hb
  ·rw[h4]at hb;cases hb;exact⟨_,h5,rfl⟩
 | nest ty sz j0 G7 d enc ys ho l =>
  obtain⟨hd,h1,_,h3⟩:=h;rw[x7,h1]at hb;rcases h3 with ⟨_,h4,_,hm⟩|⟨b',vs,h4,h5,_,_,_,_,TC,_⟩
  ·rw[gE hm,h4]at hb;cases hb
  ·rcases hb with hb|⟨k,hk⟩
   ·rw[h4]at hb;cases hb;exact⟨_,h5,rfl⟩
   ·obtain⟨us,hu⟩:=(TC k).cells hk;exact⟨_,hu,rfl⟩
 | opq o=>obtain⟨hd,h1,h2⟩:=h;rw[x7,h1]at hb;exact o.fr F hd w b h2 hb
theorem Rel.ylOf{P:Program}{B w0}{F0:Env P}{S β F a w}(hR:Rel B w0 F0 S β F a w){S':St}{β':Nat->Option Hd}{F':Nat->Prop}(m:Nat->Nat)(h1:∀ id l xs k e,S'.row id = .ctr l xs k e->S.row (m id) = .ctr l xs k e)(hm:∀ i j,S'.row i ≠ .none->S'.row j ≠ .none->m i=m j->i=j)
  (h2:∀ i b,S'.row i ≠ .none->x7 β' i b->∃ j,S.row j ≠ .none/\x7 β j b) (h3:∀ b,F' b->F b∨∃ j,S.row j ≠ .none/\x7 β j b) :
  ∀ id l xs k e,S'.row id = .ctr l xs k e->l=F0.l/\xs=F0.xs/\((∀ b,B b)/\F0.r=none)/\∃ O,F0.J k e O w/\(∀ b,O b->b<w.heap.size)/\(∀ i b,S'.row i ≠ .none->x7 β' i b->O b)/\(∀ b,F' b->F0.F b∨O b)/\(∀ D,P9 D ∈ a.defers->O D)/\∀ oZ l' Bi k' e',S'.row oZ = .ctr l' Bi k' e'->oZ=id:=by
 intro id l xs k e h;obtain⟨hl,hx,hz,O,g1,g2,g3,g4,g5,g6⟩:=hR.yl (m id) l xs k e (h1 id l xs k e h);refine⟨hl,hx,hz,O,g1,g2,fun i b hi B3=>?_,fun b hf=>?_,g5,fun oZ l' Bi k' e' h'=>hm _ _ (by rw[h'];simp) (by rw[h];simp) (g6 _ _ _ _ _ (h1 _ _ _ _ _ h'))⟩
 ·obtain⟨j,hj,P6⟩:=h2 i b hi B3;exact g3 j b hj P6
 ·rcases h3 b hf with h|⟨j,hj,P6⟩
  ·exact g4 b h
  ·exact .inr (g3 j b hj P6)
theorem Rel.solid{P:Program}{B w0}{F0:Env P}{S β F a w}(hR:Rel B w0 F0 S β F a w){w':World}(Bj:∀ b,b<w.heap.size->(∀ j,S.row j ≠ .none->¬ x7 β j b)->w'.heap[b]? = w.heap[b]?)
  {k:Nat} {o:Obj} (ho:w.heap[k]? = some o) (hc:mW o=false):w'.heap[k]? = some o :=
 (Bj k (Array.getElem?_eq_some_iff.1 ho).1 fun j hj hb=>by
  obtain⟨o',h,hf⟩:=jG (hR.rows j) hj hb
  rw[h]at ho;cases ho;rw[hf]at hc;cases hc).trans ho
theorem Rel.step{P:Program}{B w0}{F0:Env P}{S β F a w}(hR:Rel B w0 F0 S β F a w){w':World}{β':Nat->Option Hd}{F':Nat->Prop}{dst:Option Nat}{out:Out}{v:Value}
  (hβ:∀ j,β j≠none->β' j=β j) (hF:∀ b,F b->F' b) (TD:∀ b,F' b->b<w'.heap.size/\(F0.F b∨B b)) (hw:C5 F w w')
  (lp:w'.os=w.os/\w'.tape=w.tape/\w'.output=w.output) (aY:w.heap.size<=w'.heap.size) (hv:C4 β' F' w' out.v v) (jH:∀ j,y8 β' F' w' j ((r8 S.h out.rows).getD j .none))
  (js:∀ i j b,(r8 S.h out.rows).getD i .none ≠ .none->(r8 S.h out.rows).getD j .none ≠ .none->x7 β' i b->x7 β' j b->i=j)
  (WO:∀ i b,(r8 S.h out.rows).getD i .none ≠ .none->x7 β' i b->¬ F' b) (AZ:∀ i b,x7 β' i b->B b/\b<w'.heap.size)
  (Bj:∀ b,b<w.heap.size->(∀ j,S.row j ≠ .none->¬ x7 β j b)->w'.heap[b]? = w.heap[b]?)
  (L6:∀ i b,(r8 S.h out.rows).getD i .none ≠ .none->x7 β' i b->(∃ j,S.row j ≠ .none/\x7 β j b)∨w.heap.size<=b)
  (hFn:∀ b,F' b->F b∨(∃ j,S.row j ≠ .none/\x7 β j b)∨w.heap.size<=b)
  (PG:∀ id l xs k e,(r8 S.h out.rows).getD id .none = .ctr l xs k e->S.row id = .ctr l xs k e) :
  Rel B w0 F0 (S.put dst out) β' F' (a.put dst v) w' where
 len:=by simp[St.put,V2,vG,hR.len]
 slots:=by
  intro i hi;simp only[St.put,V2]at hi;simp only[St.put,aC,vF,hR.len];split
  ·exact hv
  ·exact(hR.slots i hi).grow hβ hF hw
 marks:=by
  rw[sD];obtain⟨Ds,⟨h1,h0⟩,h2,h3⟩:=hR.marks;exact⟨Ds,⟨h1,h0⟩,h2,fun D hD=>⟨hR.solid Bj (h3 D hD).1 rfl,(h3 D hD).2⟩⟩
 rows:=jH
 inj:=js
 bF:=WO
 bB:=AZ
 FB:=TD
 below:=hR.below.trans ⟨lp.1,lp.2.1,lp.2.2,aY,fun k hk=>by
   by_cases z8:k<w.heap.size
   ·exact Bj k z8 fun j _ hb=>hk (hR.bB j k hb).1
   ·exact absurd (hR.BW k (Nat.le_of_not_lt z8)) hk⟩
 BW:=fun b hb=>hR.BW b (Nat.le_trans aY hb)
 top:=fun j hd h=>(hβ j (by rw[hR.top j hd h];simp)).trans (hR.top j hd h)
 topn:=fun j hj=>hR.topn j (by simpa[St.put,A3,V2]using hj)
 nn:=hR.nn
 inc:=fun b hb=>hF b (hR.inc b hb)
 keep:=fun b o u hb hc=>hw b o u (hR.inc b hb) (hR.keep b o u hb hc)
 sol:=fun hn k o ho hc=>hR.solid Bj (hR.sol hn k o ho hc) hc
 yl:=by
  rw[sD];intro id l xs k e DS;obtain⟨hl,hx,hz,O,h1,h2,h3,h4,h5,h6⟩:=hR.yl id l xs k e (PG id l xs k e DS);have new:∀ b,b<w'.heap.size->w.heap.size<=b->O b∨(w.heap.size<=b/\b<w'.heap.size):=fun b g1 g2 => .inr ⟨g2,g1⟩
  refine⟨hl,hx,hz,_,F0.st k e O w w' h1 (fun b hb hn=>Bj b hb fun j hj P6=>hn (h3 j b hj P6)) lp.1 lp.2.1 lp.2.2 aY,fun b hb=>?_,fun i b hi B3=>?_,fun b hb=>?_,fun D hD => .inl (h5 D hD),fun oZ l' Bi k' e' h'=>h6 oZ l' Bi k' e' (PG _ _ _ _ _ h')⟩
  ·rcases hb with hb|hb
   ·exact zB5 (h2 b hb) aY
   ·exact hb.2
  ·rcases L6 i b hi B3 with ⟨j,hj,P6⟩|h
   ·exact .inl (h3 j b hj P6)
   ·exact new b (AZ i b B3).2 h
  ·rcases hFn b hb with h|⟨j,hj,P6⟩|h
   ·exact(h4 b h).imp (fun h=>h) .inl
   ·exact .inr (.inl (h3 j b hj P6))
   ·exact .inr (new b (TD b hb).1 h)
theorem Rel.still{P:Program}{B w0}{F0:Env P}{S β F a w}(hR:Rel B w0 F0 S β F a w){dst:Option Nat}{x:AV}{v:Value}(hv:C4 β F w x v):Rel B w0 F0 (S.put dst ⟨x,[]⟩) β F (a.put dst v) w :=
 hR.step (fun _ _=>rfl) (fun _ h=>h) hR.FB (C5.refl _ _) ⟨rfl,rfl,rfl⟩ (Nat.le_refl _) hv hR.rows hR.inj hR.bF hR.bB (fun _ _ _=>rfl) (fun i b hi hb => .inl ⟨i,hi,hb⟩) (fun b hb => .inl hb) (fun id l xs k e h=>h)
theorem Bl(F:Nat->Prop)(w:World)(o:Obj)(h:∀ b,F b->b<w.heap.size):C5 F w (w.alloc o):=fun b o' v hb hc=>by
 have:=h b hb;rw[World.cell?_of_block (w:=w) (RowKit.Below.heap_alloc w o b this)];exact hc
theorem size_alloc(w:World)(o:Obj):(w.alloc o).heap.size=w.heap.size+1:=by simp
theorem O7(w:World)(o:Obj):(w.alloc o).heap[w.heap.size]? = some o:=heap_alloc_new w o
theorem r7(h:List Row)(i:Nat)(r:Row)(j:Nat):(h.set i r).getD j .none=if i=j/\i<h.length then r else h.getD j .none:=by
 simp only[List.getD,List.getElem?_set];by_cases hd:i=j
 ·subst hd;by_cases hl:i<h.length<;>simp[hl]
 ·simp[hd]
theorem fQ{S:St}{id:Nat}(h:S.row id ≠ .none):id<S.h.length:=by
 rcases Nat.lt_or_ge id S.h.length with h' | h'
 ·exact h'
 ·exact absurd (by simp[St.row,List.getD,zA7 h']) h
theorem Rel.alloc{P:Program}{B w0}{F0:Env P}{S β F a w}(hR:Rel B w0 F0 S β F a w){d:Nat}(hd:β d=none){dst:Option Nat}{x:AV}{v:Value}{r:Row}{vs:Array Value}{ty:TypeId}(len cap:Nat)
  (hv:∀ β',β' d=some ⟨some w.heap.size,len,cap,jr⟩->(∀ j,β j≠none->β' j=β j)->C4 β' F (w.alloc (.cells vs ty)) x v)
  (hr:∀ β',β' d=some ⟨some w.heap.size,len,cap,jr⟩->(∀ j,β j≠none->β' j=β j)->C5 F w (w.alloc (.cells vs ty))->y8 β' F (w.alloc (.cells vs ty)) d r) (rk:∀ l xs k e,r ≠ .ctr l xs k e) :
  ∃ β',(∀ j,j≠d->β' j=β j)/\Rel B w0 F0 (S.put dst ⟨x,[(d,r)]⟩) β' F (a.put dst v) (w.alloc (.cells vs ty)):=by
 let β':Nat->Option Hd:=fun j=>if j=d then some ⟨some w.heap.size,len,cap,jr⟩else β j
 have h1:β' d=some ⟨some w.heap.size,len,cap,jr⟩:=by simp[β']
 have h2:∀ j,j≠d->β' j=β j:=fun j hj=>by simp[β',hj]
 have h3:∀ j,β j≠none->β' j=β j:=fun j hj=>h2 j (fun e=>hj (e ▸ hd))
 have b1:∀ b,x7 β' d b↔some w.heap.size=some b:=fun b=>by rw[x7,h1,P7]
 have b2:∀ j b,j≠d->(x7 β' j b↔x7 β j b):=fun j b hj=>by rw[x7,x7,h2 j hj]
 have hk:=Bl F w (.cells vs ty) (fun b hb=>(hR.FB b hb).1);have TE:=hR.BW;refine⟨β',h2,hR.step h3 (fun _ h=>h) (fun b hb=>⟨?_,(hR.FB b hb).2⟩) hk ⟨rfl,rfl,rfl⟩ (by rw[size_alloc];omega) (hv β' h1 h3) ?_ ?_ ?_ ?_ (fun b hb _=>RowKit.Below.heap_alloc w _ b hb) ?_ (fun b hb => .inl hb) ?_⟩
 ·have:=(hR.FB b hb).1;rw[size_alloc];omega
 ·intro j;simp only[r8,r7];split
  ·rename_i h;obtain⟨rfl,_⟩:=h;exact hr β' h1 h3 hk
  ·rename_i h;by_cases hj:j=d
   ·subst hj;have:S.h.getD j .none = .none:=by
     have:¬ j<S.h.length:=fun hl=>h ⟨rfl,hl⟩
     simp[List.getD,zA7 (Nat.le_of_not_lt this)]
    rw[this];trivial
   ·have:=hR.rows j;exact this.grow h3 (fun _ h=>h) hk fun b hb=>RowKit.Below.heap_alloc w _ b (hR.bB j b hb).2
 ·intro i j b hi hj B3 P6;by_cases e:i=d
  ·by_cases e':j=d
   ·exact e.trans e'.symm
   ·subst e;rw[b1]at B3;rw[b2 j _ e']at P6;have:=(hR.bB j b P6).2;simp at B3;omega
  ·by_cases e':j=d
   ·subst e';rw[b1]at P6;rw[b2 i _ e]at B3;have:=(hR.bB i b B3).2;simp at P6;omega
   ·rw[b2 i _ e]at B3;rw[b2 j _ e']at P6;simp only[r8,r7]at hi hj;have ni:¬ (d=i/\d<S.h.length):=fun h=>e h.1.symm
    have nj:¬ (d=j/\d<S.h.length):=fun h=>e' h.1.symm
    simp only[ni,nj,if_false]at hi hj;exact hR.inj i j b hi hj B3 P6
 ·intro i b hi B3 hF;by_cases e:i=d
  ·subst e;rw[b1]at B3;have:=(hR.FB b hF).1;simp at B3;omega
  ·rw[b2 i _ e]at B3;simp only[r8,r7]at hi;have ni:¬ (d=i/\d<S.h.length):=fun h=>e h.1.symm
   simp only[ni,if_false]at hi;exact hR.bF i b hi B3 hF
 ·intro i b B3;rw[size_alloc];by_cases e:i=d
  ·subst e;rw[b1]at B3;simp at B3;exact⟨TE b (by omega),by omega⟩
  ·rw[b2 i _ e]at B3;have:=hR.bB i b B3;exact⟨this.1,by omega⟩
 ·intro i b hi B3;by_cases e:i=d
  ·subst e;rw[b1]at B3;simp at B3;exact .inr (by omega)
  ·rw[b2 i _ e]at B3;simp only[r8,r7]at hi;have ni:¬ (d=i/\d<S.h.length):=fun h=>e h.1.symm
   simp only[ni,if_false]at hi;exact .inl ⟨i,hi,B3⟩
 ·intro id l xs k e h;simp only[r8,r7]at h;split at h
  ·exact absurd h (rk l xs k e)
  ·exact h
theorem Rel.write{P:Program}{B w0}{F0:Env P}{S β F a w}(hR:Rel B w0 F0 S β F a w){id b:Nat}(A5:S.row id ≠ .none)(hb:x7 β id b){dst:Option Nat}{x:AV}{v:Value}{r:Row}{w':World}
  (lp:w'.os=w.os/\w'.tape=w.tape/\w'.output=w.output/\w'.heap.size=w.heap.size) (aj:∀ k,k≠b->w'.heap[k]? = w.heap[k]?)
  (hv:C5 F w w'->C4 β F w' x v) (hr:C5 F w w'->y8 β F w' id r) (rk:∀ l xs k e,r ≠ .ctr l xs k e):Rel B w0 F0 (S.put dst ⟨x,[(id,r)]⟩) β F (a.put dst v) w':=by
 have hk:C5 F w w':=fun k o u hF hc=>by
  have:k≠b:=fun e=>hR.bF id b A5 hb (e ▸ hF)
  rw[World.cell?_of_block (w:=w) (aj k this)];exact hc
 have hl:=fQ A5;have AZ:=hR.bB id b hb;refine hR.step (fun _ _=>rfl) (fun _ h=>h) (fun k hk=>⟨?_,(hR.FB k hk).2⟩) hk ⟨lp.1,lp.2.1,lp.2.2.1⟩ (by rw[lp.2.2.2];exact Nat.le_refl _) (hv hk) ?_ ?_ ?_ ?_ (fun k _ hn=>aj k fun e=>hn id A5 (e ▸ hb)) ?_ (fun k hk => .inl hk) ?_
 ·rw[lp.2.2.2];exact(hR.FB k hk).1
 ·intro j;simp only[r8,r7];split
  ·rename_i h;obtain⟨rfl,_⟩:=h;exact hr hk
  ·rename_i h;have hj:j≠id:=fun e=>h ⟨e.symm,hl⟩
   by_cases hn:S.row j = .none
   ·show y8 β F w' j (S.row j)
    rw[hn];trivial
   ·refine(hR.rows j).grow (fun _ _=>rfl) (fun _ h=>h) hk fun k Ws=>aj k fun e=>?_
    subst e;exact hj (hR.inj j id k hn A5 Ws hb)
 ·intro i j k hi hj B3 P6;have up:∀ i,(r8 S.h [(id,r)]).getD i .none ≠ .none->S.row i ≠ .none:=fun i hi=>by
   by_cases e:i=id
   ·rw[e];exact A5
   ·simp only[r8,r7]at hi;have ni:¬ (id=i/\id<S.h.length):=fun h=>e h.1.symm
    simpa[ni,St.row]using hi
  exact hR.inj i j k (up i hi) (up j hj) B3 P6
 ·intro i k hi B3;refine hR.bF i k ?_ B3;by_cases e:i=id
  ·rw[e];exact A5
  ·simp only[r8,r7]at hi;have ni:¬ (id=i/\id<S.h.length):=fun h=>e h.1.symm
   simpa[ni,St.row]using hi
 ·intro i k B3;rw[lp.2.2.2];exact hR.bB i k B3
 ·intro i k hi B3;refine .inl ⟨i,?_,B3⟩;by_cases e:i=id
  ·rw[e];exact A5
  ·simp only[r8,r7]at hi;have ni:¬ (id=i/\id<S.h.length):=fun h=>e h.1.symm
   simpa[ni,St.row]using hi
 ·intro oZ l xs k e h;simp only[r8,r7]at h;split at h
  ·exact absurd h (rk l xs k e)
  ·exact h
theorem Rel.called{P:Program}{B w0}{F0:Env P}{S β F a w}(hR:Rel B w0 F0 S β F a w){w':World}(hb:RowKit.Below w.heap.size w w'){dst:Option Nat}{x:AV}{v:Value}
  (hv:∀ F',(∀ b,F b->F' b)->(∀ b,w.heap.size<=b->b<w'.heap.size->F' b)->C5 F w w'->C4 β F' w' x v) :
  ∃ F',Rel B w0 F0 (S.put dst ⟨x,[]⟩) β F' (a.put dst v) w':=by
 have hk:C5 F w w':=fun k o u hF hc=>by
  rw[World.cell?_of_block (w:=w) (hb.block k (hR.FB k hF).1)];exact hc
 have TE:=hR.BW;refine⟨fun b=>F b∨(w.heap.size<=b/\b<w'.heap.size),hR.step (fun _ _=>rfl) (fun _ h => .inl h) ?_ hk ⟨hb.os,hb.tape,hb.output⟩ hb.size (hv _ (fun _ h => .inl h) (fun b h1 h2 => .inr ⟨h1,h2⟩) hk) ?_ hR.inj ?_ ?_ (fun b h _=>hb.block b h) (fun i b hi B3 => .inl ⟨i,hi,B3⟩) (fun b h=>h.elim .inl fun h => .inr (.inr h.1)) (fun id l xs k e h=>h)⟩
 ·intro b oV;rcases oV with h|h
  ·have h1:=hR.FB b h;have:=hb.size;exact⟨by omega,h1.2⟩
  ·exact⟨h.2,.inr (TE b h.1)⟩
 ·intro j;exact(hR.rows j).grow (fun _ _=>rfl) (fun _ h => .inl h) hk fun b h=>hb.block b (hR.bB j b h).2
 ·intro i b hi B3 h;rcases h with h|h
  ·exact hR.bF i b hi B3 h
  ·have:=(hR.bB i b B3).2;omega
 ·intro i b B3;have:=hR.bB i b B3;have:=hb.size;exact⟨‹_/\_›.1,by omega⟩
theorem WQ{c:Bool}{A B:Prop}(a:c=true->A)(b:c=false->B):(c=true->A)/\(c=false->B):=⟨a,b⟩
theorem TF{A B:Prop}(a:A):(true=true->A)/\(true=false->B):=⟨fun _=>a,fun h=>Bool.noConfusion h⟩
theorem TG{A B:Prop}(b:B):(false=true->A)/\(false=false->B):=⟨fun h=>Bool.noConfusion h,fun _=>b⟩
theorem WR{p A B:Prop}[Decidable p](h:p)(a:A):(decide p=true->A)/\(decide p=false->B):=⟨fun _=>a,fun e=>absurd h (zA0 e)⟩
theorem WS{p A B:Prop}[Decidable p](h:¬p)(b:B):(decide p=true->A)/\(decide p=false->B):=⟨fun e=>absurd (zA1 e) h,fun _=>b⟩
theorem a2I{p q K:Prop}(a:p)(b:q)(k:K):(p/\q)/\K:=⟨⟨a,b⟩,k⟩
theorem yC:(∀ (p:Prop) [Decidable p],(decide p=true)=p)/\(∀ (p:Prop) [Decidable p],(decide p=false)=¬p)/\(∀ a b:Bool,((a || b)=true)=(a=true∨b=true))/\(∀ a b:Bool,((a && b)=true)=(a=true/\b=true)) /\
  (∀ a b:Bool,((a || b)=false)=(a=false/\b=false))/\(∀ a b:Bool,((a && b)=false)=(a=false∨b=false))/\(∀ a:Bool,((!a)=true)=(a=false))/\(∀ a:Bool,((!a)=false)=(a=true))/\(∀ a b:Int,(a ≥ b)=(b<=a))/\(∀ a b:Int,(a > b)=(b<a))/\(∀ a b:Nat,(a ≥ b)=(b<=a))/\(∀ a b:Nat,(a > b)=(b<a)):=by
 refine⟨fun p _=>by simp,fun p _=>by simp,?_,?_,?_,?_,?_,?_,fun a b=>rfl,fun a b=>rfl,fun a b=>rfl,fun a b=>rfl⟩<;>(intro a;cases a)<;>first|(simp;done)|(intro b;cases b<;>simp)
theorem aL{α:Type}[LE α]{a b:α}(h:a<=b:=by omega):a<=b:=h
theorem aN{α:Type}{a b:α}(h:a≠b:=by omega):a≠b:=h
theorem aT{α:Type}[LT α]{a b:α}(h:a<b:=by omega):a<b:=h
theorem aB{p q:Prop}(h:p:=by first|omega|decide)(g:q:=by first|omega|decide):p/\q:=⟨h,g⟩
theorem lB{p q:Prop}(h:p:=by decide)(g:q:=by first|decide|(simp;done)|(simp only[zB2,List.length_nil];decide)):p/\q:=⟨h,g⟩
theorem kR{A B:Prop}(k:B)(h:A:=by first|kernel_rfl|exact aB|exact aL|exact aN):A/\B:=⟨h,k⟩
theorem kT{A B:Prop}(k:B)(h:A:=by first|kernel_rfl|exact aB|exact aL|exact aN|exact aT):A/\B:=⟨h,k⟩
theorem kL{A B:Prop}(k:B)(h:A:=by first|kernel_rfl|exact lB):A/\B:=⟨h,k⟩
theorem aS{c:Bool}{p q A B:Prop}(a:p->A)(b:q->B)(h:(c=true)=p:=by(try simp only[yC]);exact rfl)(g:(c=false)=q:=by(try simp only[yC]);exact rfl):(c=true->A)/\(c=false->B):=⟨fun e=>a (h.mp e),fun e=>b (g.mp e)⟩
theorem va0{c:Bool}{p q A B:Prop}(a:p->A)(b:q->B)(h:(c=true)=p:=by first|exact eq_false (by(intro hh;(try simp only[yC]at hh);first|omega|(simp[*]at hh;done)|(exfalso;revert hh;decide)|exact absurd (by assumption) hh))|((try simp only[yC]);exact rfl))(g:(c=false)=q:=by first|exact eq_false (by(intro hh;(try simp only[yC]at hh);first|omega|(simp[*]at hh;done)|(exfalso;revert hh;decide)|exact absurd (by assumption) hh))|((try simp only[yC]);exact rfl)):(c=true->A)/\(c=false->B):=⟨fun e=>a (h.mp e),fun e=>b (g.mp e)⟩
theorem va1{P:Prop}(h:P:=by((repeat' ((first|(refine⟨[],by kernel_rfl,?_⟩;(conv=>whnf);exact⟨rfl,rfl⟩)|refine va0 (fun hh=>?_) fun hh=>?_|refine kR ?_|((try refine .inl ?_;conv=>whnf);(try refine⟨false,?_⟩;conv=>whnf);refine⟨_,by assumption,?_⟩)|fail)<;>first|exact hh.elim|conv=>whnf));all_goals rfl)):P:=h
theorem rt{P:Prop}(h:P:=by((repeat' ((first|(refine⟨[],by kernel_rfl,?_⟩;(conv=>whnf);exact⟨rfl,rfl⟩)|refine va0 (fun hh=>?_) fun hh=>?_|refine kT ?_|((try refine .inl ?_;conv=>whnf);(try refine⟨false,?_⟩;conv=>whnf);refine⟨_,by assumption,?_⟩)|fail)<;>first|exact hh.elim|conv=>whnf));all_goals rfl)):P:=h
theorem va4.{u}{A:Sort u}{a b:A}(h:a=b:=by kernel_rfl):a=b:=h
theorem va5{p:Prop}(h:p:=by omega):p:=h
theorem va8{p:Prop}(h:p:=by decide):p:=h
theorem va9{p:Prop}(h:p:=by simp):p:=h
theorem va2{E:Prop}{A B:List Nat->List Nat->Prop}(a b:List Nat)(k:B a b)(h:A a b:=by kernel_rfl):E∨∃ x y,A x y/\B x y:=.inr ⟨a,b,h,k⟩
theorem va3.{u1,u2,u3,u4,u5}{I:Type u1}{A:Type u2}{R:Type u3}{O:Type u4}{V:Type u5}{p q r s K:I->A->R->O->V->Prop}(i:I){a:A}{b:R}{c:O}{d:V}(x:p i a b c d)(k:K i a b c d)(h1:q i a b c d:=by exact rfl)(h2:r i a b c d:=by exact rfl)(h3:s i a b c d:=by kernel_rfl):∃ i a b c d,(p i a b c d/\q i a b c d/\r i a b c d/\s i a b c d)/\K i a b c d:=⟨i,a,b,c,d,⟨x,h1,h2,h3⟩,k⟩
structure vb0 (R:Prop):Prop where
 o:R
theorem vb6{G R:Prop}(k:R)(h:vb0 R->G:=by(intro vb2;(repeat' ((first|refine TF ?_|refine TG ?_|refine dD ?_|refine dN ?_|refine dB ?_|refine va0 (fun vb1=>?_) fun vb1=>?_|refine kR ?_|((try refine .inl ?_;conv=>whnf);(try refine⟨false,?_⟩;conv=>whnf);refine⟨_,by assumption,?_⟩)|fail)<;>first|exact vb1.elim|conv=>whnf));(repeat revert vb1);exact vb2.o)):G:=h ⟨k⟩
theorem vb7{G R:Prop}(k:R)(h:vb0 R->G:=by(intro vb2;(repeat' ((first|refine TF ?_|refine TG ?_|refine dD ?_|refine dN ?_|refine dB ?_|refine va0 (fun vb1=>?_) fun vb1=>?_|refine kR ?_|fail)<;>first|exact vb1.elim|conv=>whnf));(repeat revert vb1);exact vb2.o)):G:=h ⟨k⟩
theorem vb8{G R1 R2 R3:Prop}(k1:R1)(k2:R2)(k3:R3)(h:vb0 R1->vb0 R2->vb0 R3->G:=by(intro vb21 vb22 vb23;(repeat' ((first|refine TF ?_|refine TG ?_|refine dD ?_|refine dN ?_|refine dB ?_|refine va0 (fun vb1=>?_) fun vb1=>?_|refine kR ?_|fail)<;>first|exact vb1.elim|conv=>whnf));(repeat revert vb1);exact vb21.o;(repeat revert vb1);exact vb22.o;(repeat revert vb1);exact vb23.o)):G:=h ⟨k1⟩ ⟨k2⟩ ⟨k3⟩
theorem vb9{G R1 R2 R3 R4 R5:Prop}(k1:R1)(k2:R2)(k3:R3)(k4:R4)(k5:R5)(h:vb0 R1->vb0 R2->vb0 R3->vb0 R4->vb0 R5->G:=by(intro vb21 vb22 vb23 vb24 vb25;(repeat' ((first|refine TF ?_|refine TG ?_|refine dD ?_|refine dN ?_|refine dB ?_|refine va0 (fun vb1=>?_) fun vb1=>?_|refine kR ?_|fail)<;>first|exact vb1.elim|conv=>whnf));(repeat revert vb1);exact vb21.o;(repeat revert vb1);exact vb22.o;(repeat revert vb1);exact vb23.o;(repeat revert vb1);exact vb24.o;(repeat revert vb1);exact vb25.o)):G:=h ⟨k1⟩ ⟨k2⟩ ⟨k3⟩ ⟨k4⟩ ⟨k5⟩
theorem vc0{G R:Prop}(k:R)(h:vb0 R->G:=by(intro vb2;(repeat' ((first|refine TF ?_|refine TG ?_|((try refine .inl ?_;conv=>whnf);(try refine⟨false,?_⟩;conv=>whnf);refine⟨_,by assumption,?_⟩)|refine lD ?_|refine lN ?_|refine kL ?_|fail);conv=>whnf));(repeat revert vb1);exact vb2.o)):G:=h ⟨k⟩
theorem vc1{P:Prop}(h:P:=by(repeat' ((first|refine TF ?_|refine TG ?_|((try refine .inl ?_;conv=>whnf);(try refine⟨false,?_⟩;conv=>whnf);refine⟨_,by assumption,?_⟩)|refine lD ?_|refine lN ?_|refine kL ?_|fail);conv=>whnf))):P:=h
theorem vc2{G Cp R1:Prop}(cp:Cp)(k1:R1)(h:Cp->vb0 R1->G:=by(intro vb2p vb21;(repeat' ((first|refine TF ?_|refine TG ?_|((try refine .inl ?_;conv=>whnf);(try refine⟨false,?_⟩;conv=>whnf);refine⟨_,by first|assumption|exact vb2p _|exact vb2p _ _|exact vb2p _ _ _,?_⟩)|refine lD ?_|refine lN ?_|refine kL ?_|fail);conv=>whnf));(repeat revert vb1);exact vb21.o)):G:=h cp ⟨k1⟩
theorem vc3{G Cp Cq R1:Prop}(cp:Cp)(cq:Cq)(k1:R1)(h:Cp->Cq->vb0 R1->G:=by(intro vb2p vb2q vb21;(repeat' ((first|refine TF ?_|refine TG ?_|((try refine .inl ?_;conv=>whnf);(try refine⟨false,?_⟩;conv=>whnf);refine⟨_,by first|assumption|exact vb2p _|exact vb2p _ _|exact vb2p _ _ _|exact vb2q _|exact vb2q _ _|exact vb2q _ _ _,?_⟩)|refine lD ?_|refine lN ?_|refine kL ?_|fail);conv=>whnf));(repeat revert vb1);exact vb21.o)):G:=h cp cq ⟨k1⟩
theorem vc4{G R:Prop}(k:R)(h:vb0 R->G:=by(intro vb2;(repeat' ((first|refine TF ?_|refine TG ?_|refine lD ?_|refine lN ?_|refine kL ?_|fail);conv=>whnf));(repeat revert vb1);exact vb2.o)):G:=h ⟨k⟩
theorem vc5{P:Prop}(h:P:=by(repeat' ((first|refine TF ?_|refine TG ?_|refine lD ?_|refine lN ?_|refine kL ?_|fail);conv=>whnf))):P:=h
theorem vc6{G R:Prop}(k:R)(h:vb0 R->G:=by(intro vb2;(repeat' ((first|refine va0 (fun vb1=>?_) fun vb1=>?_|refine kR ?_|((try refine .inl ?_;conv=>whnf);(try refine⟨false,?_⟩;conv=>whnf);refine⟨_,by assumption,?_⟩)|fail)<;>first|exact vb1.elim|conv=>whnf));(repeat revert vb1);exact vb2.o)):G:=h ⟨k⟩
theorem vc7{G R1 R2:Prop}(k1:R1)(k2:R2)(h:vb0 R1->vb0 R2->G:=by(intro vb21 vb22;(repeat' ((first|refine va0 (fun vb1=>?_) fun vb1=>?_|refine kR ?_|((try refine .inl ?_;conv=>whnf);(try refine⟨false,?_⟩;conv=>whnf);refine⟨_,by assumption,?_⟩)|fail)<;>first|exact vb1.elim|conv=>whnf));(repeat revert vb1);exact vb21.o;(repeat revert vb1);exact vb22.o)):G:=h ⟨k1⟩ ⟨k2⟩
theorem vc8{G R1 R2 R3:Prop}(k1:R1)(k2:R2)(k3:R3)(h:vb0 R1->vb0 R2->vb0 R3->G:=by(intro vb21 vb22 vb23;(repeat' ((first|refine va0 (fun vb1=>?_) fun vb1=>?_|refine kR ?_|((try refine .inl ?_;conv=>whnf);(try refine⟨false,?_⟩;conv=>whnf);refine⟨_,by assumption,?_⟩)|fail)<;>first|exact vb1.elim|conv=>whnf));(repeat revert vb1);exact vb21.o;(repeat revert vb1);exact vb22.o;(repeat revert vb1);exact vb23.o)):G:=h ⟨k1⟩ ⟨k2⟩ ⟨k3⟩
theorem vc9{G R1 R2 R3 R4:Prop}(k1:R1)(k2:R2)(k3:R3)(k4:R4)(h:vb0 R1->vb0 R2->vb0 R3->vb0 R4->G:=by(intro vb21 vb22 vb23 vb24;(repeat' ((first|refine va0 (fun vb1=>?_) fun vb1=>?_|refine kR ?_|((try refine .inl ?_;conv=>whnf);(try refine⟨false,?_⟩;conv=>whnf);refine⟨_,by assumption,?_⟩)|fail)<;>first|exact vb1.elim|conv=>whnf));(repeat revert vb1);exact vb21.o;(repeat revert vb1);exact vb22.o;(repeat revert vb1);exact vb23.o;(repeat revert vb1);exact vb24.o)):G:=h ⟨k1⟩ ⟨k2⟩ ⟨k3⟩ ⟨k4⟩
theorem vd0{G R1 R2 R3 R4 R5:Prop}(k1:R1)(k2:R2)(k3:R3)(k4:R4)(k5:R5)(h:vb0 R1->vb0 R2->vb0 R3->vb0 R4->vb0 R5->G:=by(intro vb21 vb22 vb23 vb24 vb25;(repeat' ((first|refine va0 (fun vb1=>?_) fun vb1=>?_|refine kR ?_|((try refine .inl ?_;conv=>whnf);(try refine⟨false,?_⟩;conv=>whnf);refine⟨_,by assumption,?_⟩)|fail)<;>first|exact vb1.elim|conv=>whnf));(repeat revert vb1);exact vb21.o;(repeat revert vb1);exact vb22.o;(repeat revert vb1);exact vb23.o;(repeat revert vb1);exact vb24.o;(repeat revert vb1);exact vb25.o)):G:=h ⟨k1⟩ ⟨k2⟩ ⟨k3⟩ ⟨k4⟩ ⟨k5⟩
theorem vd1{G R1 R2 R3 R4 R5 R6:Prop}(k1:R1)(k2:R2)(k3:R3)(k4:R4)(k5:R5)(k6:R6)(h:vb0 R1->vb0 R2->vb0 R3->vb0 R4->vb0 R5->vb0 R6->G:=by(intro vb21 vb22 vb23 vb24 vb25 vb26;(repeat' ((first|refine va0 (fun vb1=>?_) fun vb1=>?_|refine kR ?_|((try refine .inl ?_;conv=>whnf);(try refine⟨false,?_⟩;conv=>whnf);refine⟨_,by assumption,?_⟩)|fail)<;>first|exact vb1.elim|conv=>whnf));(repeat revert vb1);exact vb21.o;(repeat revert vb1);exact vb22.o;(repeat revert vb1);exact vb23.o;(repeat revert vb1);exact vb24.o;(repeat revert vb1);exact vb25.o;(repeat revert vb1);exact vb26.o)):G:=h ⟨k1⟩ ⟨k2⟩ ⟨k3⟩ ⟨k4⟩ ⟨k5⟩ ⟨k6⟩
theorem vd2{G R1 R2 R3 R4 R5 R6 R7:Prop}(k1:R1)(k2:R2)(k3:R3)(k4:R4)(k5:R5)(k6:R6)(k7:R7)(h:vb0 R1->vb0 R2->vb0 R3->vb0 R4->vb0 R5->vb0 R6->vb0 R7->G:=by(intro vb21 vb22 vb23 vb24 vb25 vb26 vb27;(repeat' ((first|refine va0 (fun vb1=>?_) fun vb1=>?_|refine kR ?_|((try refine .inl ?_;conv=>whnf);(try refine⟨false,?_⟩;conv=>whnf);refine⟨_,by assumption,?_⟩)|fail)<;>first|exact vb1.elim|conv=>whnf));(repeat revert vb1);exact vb21.o;(repeat revert vb1);exact vb22.o;(repeat revert vb1);exact vb23.o;(repeat revert vb1);exact vb24.o;(repeat revert vb1);exact vb25.o;(repeat revert vb1);exact vb26.o;(repeat revert vb1);exact vb27.o)):G:=h ⟨k1⟩ ⟨k2⟩ ⟨k3⟩ ⟨k4⟩ ⟨k5⟩ ⟨k6⟩ ⟨k7⟩
theorem vd3{G R1 R2 R3 R4 R5 R6 R7 R8 R9:Prop}(k1:R1)(k2:R2)(k3:R3)(k4:R4)(k5:R5)(k6:R6)(k7:R7)(k8:R8)(k9:R9)(h:vb0 R1->vb0 R2->vb0 R3->vb0 R4->vb0 R5->vb0 R6->vb0 R7->vb0 R8->vb0 R9->G:=by(intro vb21 vb22 vb23 vb24 vb25 vb26 vb27 vb28 vb29;(repeat' ((first|refine va0 (fun vb1=>?_) fun vb1=>?_|refine kR ?_|((try refine .inl ?_;conv=>whnf);(try refine⟨false,?_⟩;conv=>whnf);refine⟨_,by assumption,?_⟩)|fail)<;>first|exact vb1.elim|conv=>whnf));(repeat revert vb1);exact vb21.o;(repeat revert vb1);exact vb22.o;(repeat revert vb1);exact vb23.o;(repeat revert vb1);exact vb24.o;(repeat revert vb1);exact vb25.o;(repeat revert vb1);exact vb26.o;(repeat revert vb1);exact vb27.o;(repeat revert vb1);exact vb28.o;(repeat revert vb1);exact vb29.o)):G:=h ⟨k1⟩ ⟨k2⟩ ⟨k3⟩ ⟨k4⟩ ⟨k5⟩ ⟨k6⟩ ⟨k7⟩ ⟨k8⟩ ⟨k9⟩
theorem vd4{G Cp R1:Prop}(cp:Cp)(k1:R1)(h:Cp->vb0 R1->G:=by(intro vb2p vb21;(repeat' ((first|refine va0 (fun vb1=>?_) fun vb1=>?_|refine kR ?_|((try refine .inl ?_;conv=>whnf);(try refine⟨false,?_⟩;conv=>whnf);refine⟨_,by first|assumption|exact vb2p _|exact vb2p _ _|exact vb2p _ _ _,?_⟩)|fail)<;>first|exact vb1.elim|conv=>whnf));(repeat revert vb1);exact vb21.o)):G:=h cp ⟨k1⟩
theorem vd5{G Cp:Prop}(cp:Cp)(h:Cp->G:=by(intro vb2p;(repeat' ((first|refine va0 (fun vb1=>?_) fun vb1=>?_|refine kR ?_|((try refine .inl ?_;conv=>whnf);(try refine⟨false,?_⟩;conv=>whnf);refine⟨_,by first|assumption|exact vb2p _|exact vb2p _ _|exact vb2p _ _ _,?_⟩)|fail)<;>first|exact vb1.elim|conv=>whnf)))):G:=h cp
theorem vd6{G Cp R1 R2:Prop}(cp:Cp)(k1:R1)(k2:R2)(h:Cp->vb0 R1->vb0 R2->G:=by(intro vb2p vb21 vb22;(repeat' ((first|refine va0 (fun vb1=>?_) fun vb1=>?_|refine kR ?_|((try refine .inl ?_;conv=>whnf);(try refine⟨false,?_⟩;conv=>whnf);refine⟨_,by first|assumption|exact vb2p _|exact vb2p _ _|exact vb2p _ _ _,?_⟩)|fail)<;>first|exact vb1.elim|conv=>whnf));(repeat revert vb1);exact vb21.o;(repeat revert vb1);exact vb22.o)):G:=h cp ⟨k1⟩ ⟨k2⟩
theorem vd7{G Cp R1 R2 R3:Prop}(cp:Cp)(k1:R1)(k2:R2)(k3:R3)(h:Cp->vb0 R1->vb0 R2->vb0 R3->G:=by(intro vb2p vb21 vb22 vb23;(repeat' ((first|refine va0 (fun vb1=>?_) fun vb1=>?_|refine kR ?_|((try refine .inl ?_;conv=>whnf);(try refine⟨false,?_⟩;conv=>whnf);refine⟨_,by first|assumption|exact vb2p _|exact vb2p _ _|exact vb2p _ _ _,?_⟩)|fail)<;>first|exact vb1.elim|conv=>whnf));(repeat revert vb1);exact vb21.o;(repeat revert vb1);exact vb22.o;(repeat revert vb1);exact vb23.o)):G:=h cp ⟨k1⟩ ⟨k2⟩ ⟨k3⟩
theorem vd8{G Cp R1 R2 R3 R4:Prop}(cp:Cp)(k1:R1)(k2:R2)(k3:R3)(k4:R4)(h:Cp->vb0 R1->vb0 R2->vb0 R3->vb0 R4->G:=by(intro vb2p vb21 vb22 vb23 vb24;(repeat' ((first|refine va0 (fun vb1=>?_) fun vb1=>?_|refine kR ?_|((try refine .inl ?_;conv=>whnf);(try refine⟨false,?_⟩;conv=>whnf);refine⟨_,by first|assumption|exact vb2p _|exact vb2p _ _|exact vb2p _ _ _,?_⟩)|fail)<;>first|exact vb1.elim|conv=>whnf));(repeat revert vb1);exact vb21.o;(repeat revert vb1);exact vb22.o;(repeat revert vb1);exact vb23.o;(repeat revert vb1);exact vb24.o)):G:=h cp ⟨k1⟩ ⟨k2⟩ ⟨k3⟩ ⟨k4⟩
theorem vd9{G Cp R1 R2 R3 R4 R5:Prop}(cp:Cp)(k1:R1)(k2:R2)(k3:R3)(k4:R4)(k5:R5)(h:Cp->vb0 R1->vb0 R2->vb0 R3->vb0 R4->vb0 R5->G:=by(intro vb2p vb21 vb22 vb23 vb24 vb25;(repeat' ((first|refine va0 (fun vb1=>?_) fun vb1=>?_|refine kR ?_|((try refine .inl ?_;conv=>whnf);(try refine⟨false,?_⟩;conv=>whnf);refine⟨_,by first|assumption|exact vb2p _|exact vb2p _ _|exact vb2p _ _ _,?_⟩)|fail)<;>first|exact vb1.elim|conv=>whnf));(repeat revert vb1);exact vb21.o;(repeat revert vb1);exact vb22.o;(repeat revert vb1);exact vb23.o;(repeat revert vb1);exact vb24.o;(repeat revert vb1);exact vb25.o)):G:=h cp ⟨k1⟩ ⟨k2⟩ ⟨k3⟩ ⟨k4⟩ ⟨k5⟩
theorem ve0{G Cp R1 R2 R3 R4 R5 R6:Prop}(cp:Cp)(k1:R1)(k2:R2)(k3:R3)(k4:R4)(k5:R5)(k6:R6)(h:Cp->vb0 R1->vb0 R2->vb0 R3->vb0 R4->vb0 R5->vb0 R6->G:=by(intro vb2p vb21 vb22 vb23 vb24 vb25 vb26;(repeat' ((first|refine va0 (fun vb1=>?_) fun vb1=>?_|refine kR ?_|((try refine .inl ?_;conv=>whnf);(try refine⟨false,?_⟩;conv=>whnf);refine⟨_,by first|assumption|exact vb2p _|exact vb2p _ _|exact vb2p _ _ _,?_⟩)|fail)<;>first|exact vb1.elim|conv=>whnf));(repeat revert vb1);exact vb21.o;(repeat revert vb1);exact vb22.o;(repeat revert vb1);exact vb23.o;(repeat revert vb1);exact vb24.o;(repeat revert vb1);exact vb25.o;(repeat revert vb1);exact vb26.o)):G:=h cp ⟨k1⟩ ⟨k2⟩ ⟨k3⟩ ⟨k4⟩ ⟨k5⟩ ⟨k6⟩
theorem ve1{G Cp Cq R1:Prop}(cp:Cp)(cq:Cq)(k1:R1)(h:Cp->Cq->vb0 R1->G:=by(intro vb2p vb2q vb21;(repeat' ((first|refine va0 (fun vb1=>?_) fun vb1=>?_|refine kR ?_|((try refine .inl ?_;conv=>whnf);(try refine⟨false,?_⟩;conv=>whnf);refine⟨_,by first|assumption|exact vb2p _|exact vb2p _ _|exact vb2p _ _ _|exact vb2q _|exact vb2q _ _|exact vb2q _ _ _,?_⟩)|fail)<;>first|exact vb1.elim|conv=>whnf));(repeat revert vb1);exact vb21.o)):G:=h cp cq ⟨k1⟩
theorem ve2{G Cp Cq:Prop}(cp:Cp)(cq:Cq)(h:Cp->Cq->G:=by(intro vb2p vb2q;(repeat' ((first|refine va0 (fun vb1=>?_) fun vb1=>?_|refine kR ?_|((try refine .inl ?_;conv=>whnf);(try refine⟨false,?_⟩;conv=>whnf);refine⟨_,by first|assumption|exact vb2p _|exact vb2p _ _|exact vb2p _ _ _|exact vb2q _|exact vb2q _ _|exact vb2q _ _ _,?_⟩)|fail)<;>first|exact vb1.elim|conv=>whnf)))):G:=h cp cq
theorem ve3{G Cp Cq R1 R2:Prop}(cp:Cp)(cq:Cq)(k1:R1)(k2:R2)(h:Cp->Cq->vb0 R1->vb0 R2->G:=by(intro vb2p vb2q vb21 vb22;(repeat' ((first|refine va0 (fun vb1=>?_) fun vb1=>?_|refine kR ?_|((try refine .inl ?_;conv=>whnf);(try refine⟨false,?_⟩;conv=>whnf);refine⟨_,by first|assumption|exact vb2p _|exact vb2p _ _|exact vb2p _ _ _|exact vb2q _|exact vb2q _ _|exact vb2q _ _ _,?_⟩)|fail)<;>first|exact vb1.elim|conv=>whnf));(repeat revert vb1);exact vb21.o;(repeat revert vb1);exact vb22.o)):G:=h cp cq ⟨k1⟩ ⟨k2⟩
theorem ve4{G R:Prop}(k:R)(h:vb0 R->G:=by(intro vb2;(repeat' ((first|refine va0 (fun vb1=>?_) fun vb1=>?_|refine kR ?_|fail)<;>first|exact vb1.elim|conv=>whnf));(repeat revert vb1);exact vb2.o)):G:=h ⟨k⟩
theorem ve5{G R1 R2:Prop}(k1:R1)(k2:R2)(h:vb0 R1->vb0 R2->G:=by(intro vb21 vb22;(repeat' ((first|refine va0 (fun vb1=>?_) fun vb1=>?_|refine kR ?_|fail)<;>first|exact vb1.elim|conv=>whnf));(repeat revert vb1);exact vb21.o;(repeat revert vb1);exact vb22.o)):G:=h ⟨k1⟩ ⟨k2⟩
theorem ve6{G R1 R2 R3:Prop}(k1:R1)(k2:R2)(k3:R3)(h:vb0 R1->vb0 R2->vb0 R3->G:=by(intro vb21 vb22 vb23;(repeat' ((first|refine va0 (fun vb1=>?_) fun vb1=>?_|refine kR ?_|fail)<;>first|exact vb1.elim|conv=>whnf));(repeat revert vb1);exact vb21.o;(repeat revert vb1);exact vb22.o;(repeat revert vb1);exact vb23.o)):G:=h ⟨k1⟩ ⟨k2⟩ ⟨k3⟩
theorem ve7{G R1 R2 R3 R4:Prop}(k1:R1)(k2:R2)(k3:R3)(k4:R4)(h:vb0 R1->vb0 R2->vb0 R3->vb0 R4->G:=by(intro vb21 vb22 vb23 vb24;(repeat' ((first|refine va0 (fun vb1=>?_) fun vb1=>?_|refine kR ?_|fail)<;>first|exact vb1.elim|conv=>whnf));(repeat revert vb1);exact vb21.o;(repeat revert vb1);exact vb22.o;(repeat revert vb1);exact vb23.o;(repeat revert vb1);exact vb24.o)):G:=h ⟨k1⟩ ⟨k2⟩ ⟨k3⟩ ⟨k4⟩
theorem ve8{G R1 R2 R3 R4 R5 R6:Prop}(k1:R1)(k2:R2)(k3:R3)(k4:R4)(k5:R5)(k6:R6)(h:vb0 R1->vb0 R2->vb0 R3->vb0 R4->vb0 R5->vb0 R6->G:=by(intro vb21 vb22 vb23 vb24 vb25 vb26;(repeat' ((first|refine va0 (fun vb1=>?_) fun vb1=>?_|refine kR ?_|fail)<;>first|exact vb1.elim|conv=>whnf));(repeat revert vb1);exact vb21.o;(repeat revert vb1);exact vb22.o;(repeat revert vb1);exact vb23.o;(repeat revert vb1);exact vb24.o;(repeat revert vb1);exact vb25.o;(repeat revert vb1);exact vb26.o)):G:=h ⟨k1⟩ ⟨k2⟩ ⟨k3⟩ ⟨k4⟩ ⟨k5⟩ ⟨k6⟩
theorem ve9{G R1 R2 R3 R4 R5 R6 R7 R8:Prop}(k1:R1)(k2:R2)(k3:R3)(k4:R4)(k5:R5)(k6:R6)(k7:R7)(k8:R8)(h:vb0 R1->vb0 R2->vb0 R3->vb0 R4->vb0 R5->vb0 R6->vb0 R7->vb0 R8->G:=by(intro vb21 vb22 vb23 vb24 vb25 vb26 vb27 vb28;(repeat' ((first|refine va0 (fun vb1=>?_) fun vb1=>?_|refine kR ?_|fail)<;>first|exact vb1.elim|conv=>whnf));(repeat revert vb1);exact vb21.o;(repeat revert vb1);exact vb22.o;(repeat revert vb1);exact vb23.o;(repeat revert vb1);exact vb24.o;(repeat revert vb1);exact vb25.o;(repeat revert vb1);exact vb26.o;(repeat revert vb1);exact vb27.o;(repeat revert vb1);exact vb28.o)):G:=h ⟨k1⟩ ⟨k2⟩ ⟨k3⟩ ⟨k4⟩ ⟨k5⟩ ⟨k6⟩ ⟨k7⟩ ⟨k8⟩
theorem vf0{G R:Prop}(k:R)(h:vb0 R->G:=by(intro vb2;(repeat' ((first|refine va0 (fun vb1=>?_) fun vb1=>?_|refine kT ?_|((try refine .inl ?_;conv=>whnf);(try refine⟨false,?_⟩;conv=>whnf);refine⟨_,by assumption,?_⟩)|fail)<;>first|exact vb1.elim|conv=>whnf));(repeat revert vb1);exact vb2.o)):G:=h ⟨k⟩
theorem vf1{G R1 R2:Prop}(k1:R1)(k2:R2)(h:vb0 R1->vb0 R2->G:=by(intro vb21 vb22;(repeat' ((first|refine va0 (fun vb1=>?_) fun vb1=>?_|refine kT ?_|((try refine .inl ?_;conv=>whnf);(try refine⟨false,?_⟩;conv=>whnf);refine⟨_,by assumption,?_⟩)|fail)<;>first|exact vb1.elim|conv=>whnf));(repeat revert vb1);exact vb21.o;(repeat revert vb1);exact vb22.o)):G:=h ⟨k1⟩ ⟨k2⟩
theorem vf2{G R:Prop}(k:R)(h:vb0 R->G:=by(intro vb2;(repeat' ((first|refine va0 (fun vb1=>?_) fun vb1=>?_|refine kT ?_|fail)<;>first|exact vb1.elim|conv=>whnf));(repeat revert vb1);exact vb2.o)):G:=h ⟨k⟩
theorem vf3{G R1 R2:Prop}(k1:R1)(k2:R2)(h:vb0 R1->vb0 R2->G:=by(intro vb21 vb22;(repeat' ((first|refine va0 (fun vb1=>?_) fun vb1=>?_|refine kT ?_|fail)<;>first|exact vb1.elim|conv=>whnf));(repeat revert vb1);exact vb21.o;(repeat revert vb1);exact vb22.o)):G:=h ⟨k1⟩ ⟨k2⟩
theorem vf4{G R1 R2 R3:Prop}(k1:R1)(k2:R2)(k3:R3)(h:vb0 R1->vb0 R2->vb0 R3->G:=by(intro vb21 vb22 vb23;(repeat' ((first|refine va0 (fun vb1=>?_) fun vb1=>?_|refine kT ?_|fail)<;>first|exact vb1.elim|conv=>whnf));(repeat revert vb1);exact vb21.o;(repeat revert vb1);exact vb22.o;(repeat revert vb1);exact vb23.o)):G:=h ⟨k1⟩ ⟨k2⟩ ⟨k3⟩
theorem vf5{G R1 R2 R3 R4:Prop}(k1:R1)(k2:R2)(k3:R3)(k4:R4)(h:vb0 R1->vb0 R2->vb0 R3->vb0 R4->G:=by(intro vb21 vb22 vb23 vb24;(repeat' ((first|refine va0 (fun vb1=>?_) fun vb1=>?_|refine kT ?_|fail)<;>first|exact vb1.elim|conv=>whnf));(repeat revert vb1);exact vb21.o;(repeat revert vb1);exact vb22.o;(repeat revert vb1);exact vb23.o;(repeat revert vb1);exact vb24.o)):G:=h ⟨k1⟩ ⟨k2⟩ ⟨k3⟩ ⟨k4⟩
theorem vb3{G R:Prop}(k:R)(h:vb0 R->G:=by(intro vb2;(conv=>whnf);exact vb2.o)):G:=h ⟨k⟩
theorem aU{c:Bool}{p A B:Prop}(b:p->B)(h:c=true->False:=by(intro hh;(try simp only[yC]at hh);first|omega|(simp[*]at hh;done)|(exfalso;revert hh;decide)|exact absurd (by assumption) hh))(g:(c=false)=p:=by(try simp only[yC]);exact rfl):(c=true->A)/\(c=false->B):=⟨fun e=>(h e).elim,fun e=>b (g.mp e)⟩
theorem aV{c:Bool}{p A B:Prop}(a:p->A)(h:c=false->False:=by(intro hh;(try simp only[yC]at hh);first|omega|(simp[*]at hh;done)|(exfalso;revert hh;decide)|exact absurd (by assumption) hh))(g:(c=true)=p:=by(try simp only[yC]);exact rfl):(c=true->A)/\(c=false->B):=⟨fun e=>a (g.mp e),fun e=>(h e).elim⟩
theorem kK{A B C:Prop}(a:A)(h:B:=by kernel_rfl)(g:C:=by kernel_rfl):A/\B/\C:=⟨a,h,g⟩
theorem lD{p A B:Prop}[Decidable p](a:A)(h:p:=by first|(simp[*];done)|omega):(decide p=true->A)/\(decide p=false->B):=WR h a
theorem lN{p A B:Prop}[Decidable p](b:B)(h:¬p:=by first|(simp[*];done)|omega):(decide p=true->A)/\(decide p=false->B):=WS h b
theorem dD{p A B:Prop}[Decidable p](a:A)(h:p:=by first|decide|(simp only[zB2,List.length_nil];decide)):(decide p=true->A)/\(decide p=false->B):=WR h a
theorem dN{p A B:Prop}[Decidable p](b:B)(h:¬p:=by first|decide|(simp only[zB2,List.length_nil];decide)):(decide p=true->A)/\(decide p=false->B):=WS h b
theorem dB{p q K:Prop}(k:K)(h:p:=by first|decide|(simp only[zB2,List.length_nil];decide))(g:q:=by first|decide|(simp only[zB2,List.length_nil];decide)):(p/\q)/\K:=⟨⟨h,g⟩,k⟩
/- The operations on abstract values. A helper text: it speaks of no program. -/
mutual
def DT:AV->(AV->Prop)->Prop
 | .any,K=>K .any
 | .tt,K=>K .tt
 | .ff,K=>K .ff
 | .bool b,K=>K (.bool b)
 | .int k n,K=>K (.int k n)
 | .str s,K=>K (.str s)
 | .mapv c,K=>K (.mapv c)
 | .nilp,K=>K .nilp
 | .nils,K=>K .nils
 | .nilf,K=>K .nilf
 | .agg l,K=>fL l fun l=>K (.agg l)
 | .tup l,K=>fL l fun l=>K (.tup l)
 | .sl sz d enc l,K=>K (.sl sz d enc l)
 | .slc sz E5,K=>WT E5 fun E5=>K (.slc sz E5)
 | .sf sz d enc l,K=>K (.sf sz d enc l)
 | .pt cs off,K=>fL cs fun cs=>K (.pt cs off)
 | .ptr id sz i off,K=>K (.ptr id sz i off)
 | .own id,K=>K (.own id)
 | .mem id i,K=>K (.mem id i)
 | .mptr id i k,K=>K (.mptr id i k)
 | .fn f a b,K=>fL a fun a=>fL b fun b=>K (.fn f a b)
def fL:List AV->(List AV->Prop)->Prop
 | [],K=>K []
 | a :: l,K=>DT a fun a=>fL l fun l=>K (a :: l)
def WT:List (List AV)->(List (List AV)->Prop)->Prop
 | [],K=>K []
 | a :: l,K=>fL a fun a=>WT l fun l=>K (a :: l)
end
mutual
theorem dZ:∀ (x:AV) (K:AV->Prop),DT x K=K x
 | .any,_=>rfl
 | .tt,_=>rfl
 | .ff,_=>rfl
 | .bool _,_=>rfl
 | .int _ _,_=>rfl
 | .str _,_=>rfl
 | .mapv _,_=>rfl
 | .nilp,_=>rfl
 | .nils,_=>rfl
 | .nilf,_=>rfl
 | .agg l,K=>by simp only[DT];exact bA l _
 | .tup l,K=>by simp only[DT];exact bA l _
 | .sl _ _ _ _,_=>rfl
 | .slc _ E5,K=>by simp only[DT];exact Ec E5 _
 | .sf _ _ _ _,_=>rfl
 | .pt cs _,K=>by simp only[DT];exact bA cs _
 | .ptr _ _ _ _,_=>rfl
 | .own _,_=>rfl
 | .mem _ _,_=>rfl
 | .mptr _ _ _,_=>rfl
 | .fn f a b,K=>by simp only[DT];rw[bA a,bA b]
theorem bA:∀ (l:List AV) (K:List AV->Prop),fL l K=K l
 | [],_=>rfl
 | a :: l,K=>by simp only[fL];rw[dZ a,bA l]
theorem Ec:∀ (l:List (List AV)) (K:List (List AV)->Prop),WT l K=K l
 | [],_=>rfl
 | a :: l,K=>by simp only[WT];rw[bA a,Ec l]
end
def TH:Row->(Row->Prop)->Prop
 | .none,K=>K .none
 | .cells ty cs,K=>fL cs fun cs=>K (.cells ty cs)
 | .lit ty sz E5,K=>WT E5 fun E5=>K (.lit ty sz E5)
 | .vec ty sz d enc l,K=>K (.vec ty sz d enc l)
 | .ctr l xs k e,K=>K (.ctr l xs k e)
 | .nest ty sz j0 G7 d enc ys ho l,K=>K (.nest ty sz j0 G7 d enc ys ho l)
 | .opq o,K=>K (.opq o)
def mX:List Row->(List Row->Prop)->Prop
 | [],K=>K []
 | a :: l,K=>TH a fun a=>mX l fun l=>K (a :: l)
theorem PH(r:Row)(K:Row->Prop):TH r K=K r:=by
 cases r<;>simp only[TH]<;>first|rw[bA]|rw[Ec]
theorem X1:∀ (l:List Row) (K:List Row->Prop),mX l K=K l
 | [],_=>rfl
 | a :: l,K=>by simp only[mX];rw[PH a,X1 l]
def ZJ:Md->(Md->Prop)->Prop
 | .plain,K=>K .plain
 | .round ks,K=>K (.round ks)
 | .iter,K=>K .iter
theorem Lk(n:Md)(K:Md->Prop):ZJ n K=K n:=by cases n<;>rfl
def jC(S:St)(K:St->Prop):Prop :=
 match S with
 | ⟨St,Sh,Sn⟩=>ZJ Sn fun n=>fL St fun t=>mX Sh fun h=>K ⟨t,h,n⟩
theorem C3(S:St)(K:St->Prop):jC S K=K S:=by cases S;simp only[jC];rw[Lk,bA,X1]
def PC(P:Program)(f:FuncId)(args:List AV)(res:AV):Prop :=
 ∀ (F:Nat->Prop) (w:World) (vs:Array Value),(∀ b,F b->b<w.heap.size)->vs.size=args.length->(∀ i,i<args.length->y6 F w (args.getD i .any) (vs.getD i undef)) ->
  ((callFunc f vs).run P w = .ok (.enter f vs) w /\
   Calls P f vs w fun e w'=>∃ v,e = .returned v/\RowKit.Below w.heap.size w w'/\y6 (fun b=>F b∨w.heap.size<=b) w' res v) ∨
  ∃ v,(callFunc f vs).run P w = .ok (.value v) w/\y6 F w res v
def aR(n:Int):List AV:=[.int .i64 n]
def yD{α:Type}(j0:Nat)(enc:α->List AV)(ys:α->List Int)(x:α):List AV:=(enc x).set j0 (.sl 1 0 aR (ys x))
def E3:Nat->(Nat->Row)->AV->AV
 | 0,_,x=>match x.closed with
  | true=>x
  | false => .any
 | n+1,r,x=>match x with
  | .ptr id sz i off=>match r id with
   | .cells _ cs => .pt (cs.map (E3 n r)) (i*sz+off)
   | _ => .any
  | .own id=>match r id with
   | .vec _ sz d enc l => .sl sz d enc l
   | .lit _ sz E5 => .slc sz (E5.map fun cs=>cs.map (E3 n r))
   | .nest _ sz j0 _ d enc ys none l => .sl sz d (yD j0 enc ys) l
   | _ => .any
  | .mem id i=>match r id with
   | .nest _ _ _ _ d _ ys none l => .sl 1 0 aR (ys (l.getD i d))
   | _ => .any
  | .mptr _ _ _ => .any
  | .agg l => .agg (l.map (E3 n r))
  | .tup l => .tup (l.map (E3 n r))
  | .fn f a b => .fn f (a.map (E3 n r)) (b.map (E3 n r))
  | x=>x
def N1:Nat->(Nat->Row)->AV->List Nat
 | 0,_,_=>[]
 | n+1,r,x=>match x with
  | .ptr id _ _ _=>id :: match r id with
   | .cells _ cs=>cs.flatMap (N1 n r)
   | _=>[]
  | .own id=>id :: match r id with
   | .lit _ _ E5=>E5.flatMap fun cs=>cs.flatMap (N1 n r)
   | _=>[]
  | .mem id _=>[id]
  | .mptr id _ _=>[id]
  | .agg l=>l.flatMap (N1 n r)
  | .tup l=>l.flatMap (N1 n r)
  | .fn _ a b=>a.flatMap (N1 n r)++b.flatMap (N1 n r)
  | _=>[]
theorem u0(f:AV->AV)(hf:f .any = .any)(l:List AV)(i:Nat):(l.map f).getD i .any=f (l.getD i .any):=by
 simp only[List.getD,List.getElem?_map];cases l[i]? <;> simp[hf]
theorem L1:∀ (n:Nat) (r:Nat->Row),E3 n r .any = .any
 | 0,_=>rfl
 | _+1,_=>rfl
def mY(S:St)(β:Nat->Option Hd)(b:Nat):Prop:=∃ i,S.row i ≠ .none/\x7 β i b
theorem G3{w:World}{b:Nat}{vs:Array Value}{ty:TypeId}{fz:Nat×Nat}(h:w.heap[b]? = some (.cells vs ty fz)){i:Nat}(hi:i<vs.size):w.cell? ⟨b,i,none⟩=some (vs.getD i undef):=by
 simp[World.cell?,h,hi]
theorem yE{α:Type}{j0:Nat}{enc:α->List AV}{ys:α->List Int}{x:α}{j:Nat}:(yD j0 enc ys x).getD j .any=if j=j0/\j<(enc x).length then .sl 1 0 aR (ys x)else(enc x).getD j .any:=by
 simp only[yD,List.getD,List.getElem?_set];by_cases h:j0=j
 ·subst h;by_cases hl:j0<(enc x).length<;>simp[hl]
 ·simp[h,Ne.symm h]
theorem Bm{F:Nat->Prop}{w:World}{ty:TypeId}{m:Option Nat×Nat×Nat}{zs:List Int}{v:Value}(h:iz w ty m (some zs) v)(hF:∀ c,m.1=some c->F c):y6 F w (.sl 1 0 aR zs) v:=by
 obtain⟨h1,h2,h3⟩:=h;rw[h1];rcases h3 with ⟨h3,h4,h5⟩|⟨c,us,h4,h5,h6,h7,h8,h9⟩
 ·subst h3;rw[h2];exact .slnil
 ·rw[h2,h4];refine .sl (o:=0) (fun i j=>us.getD (i*1+j) undef) h6 (fun i j hi hj=>⟨hF c h4,?_⟩) fun i j hi hj=>?_
  ·rw[Nat.zero_add];exact G3 h5 va5
  ·have e:j=0:=by omega
   subst e;rw[Nat.mul_one,Nat.add_zero,h9 i hi];exact .int _ _
theorem z6{i j n sz:Nat}(hi:i<n)(hj:j<sz):i*sz+j<n*sz:=by
 have:(i+1)*sz<=n*sz:=Nat.mul_le_mul_right sz hi;rw[Nat.add_mul]at this;omega
theorem F9{P:Program}{B w0}{F0:Env P}{S β F a w}(hR:Rel B w0 F0 S β F a w):∀ (n:Nat) {x:AV} {v:Value},C4 β F w x v->y6 (fun b=>F b∨mY S β b) w (E3 n S.row x) v
 | 0,x,v,h=>by
  simp only[E3];cases hc:x.closed
  ·exact .any _
  ·exact(h.shut hc).mono (fun _ h => .inl h) (fun _ _ _ _ h=>h)
 | n+1,x,v,h=>by
  cases h with
  | imm h =>
   have h':y6 (fun b=>F b∨mY S β b) w x v:=h.mono (fun _ h => .inl h) (fun _ _ _ _ h=>h);cases h with
   | agg hl h =>
    refine .agg (by simpa using hl) fun i hi=>?_
    rw[u0 _ (L1 _ _)];exact F9 hR n (.imm (h i (by simpa using hi)))
   | tup hl h =>
    refine .tup (by simpa using hl) fun i hi=>?_
    rw[u0 _ (L1 _ _)];exact F9 hR n (.imm (h i (by simpa using hi)))
   | fn hl h hm k =>
    refine .fn (by simpa using hl) (fun i hi=>?_) (by simpa using hm) (fun i hi=>?_)
    ·rw[u0 _ (L1 _ _)];exact F9 hR n (.imm (h i (by simpa using hi)))
    ·rw[u0 _ (L1 _ _)];exact F9 hR n (.imm (k i (by simpa using hi)))
   | _=>exact h'
  | @ptr id sz i off b hd hb hh =>
   simp only[E3];cases hr:S.row id with
   | cells ty cs =>
    have A1:=hR.rows id;rw[hr]at A1;obtain⟨hd',b',vs,e1,em,e2,e3,e4,e5⟩:=A1;rw[hb]at e1;cases e1
    rw[hh]at e2;cases e2
    have:=y6.pt (F:=fun b=>F b∨mY S β b) (w:=w) (cs:=cs.map (E3 n S.row)) (off:=i*sz+off) (b:=b) (o:=0) (fun j=>vs.getD j undef)
     (fun j hj=>⟨.inr ⟨id,by rw[hr];simp,by rw[x7,hb];exact A8 hh⟩,by rw[Nat.zero_add];exact G3 e3 (by rw[e4];simpa using hj)⟩)
     (fun j hj=>by rw[u0 _ (L1 _ _)];exact F9 hR n (e5 j (by simpa using hj)))
    simpa using this
   | _=>exact .any _
  | @own id hd hb =>
   simp only[E3];cases hr:S.row id with
   | vec ty sz d enc l =>
    have A1:=hR.rows id;rw[hr]at A1;obtain⟨hd',e1,em,e2,e3⟩:=A1;rw[hb]at e1;cases e1
    rcases e3 with ⟨rfl,e4,e5⟩|⟨b,vs,e4,e5,e6,e7,e8,e9⟩
    ·simp only[List.length_nil]at e2;rw[e2,e4,e5];exact .slnil
    ·rw[e2,e4];refine .sl (o:=0) (fun i j=>vs.getD (i*sz+j) undef) e6 (fun i j hi hj=>⟨.inr ⟨id,by rw[hr];simp,by rw[x7,hb];exact A8 e4⟩,?_⟩)
      (fun i j hi hj=>(e9 i j hi hj).mono (fun _ h => .inl h) (fun _ _ _ _ h=>h))
     have:=z6 (zB5 hi e6) hj;rw[Nat.zero_add];exact G3 e5 va5
   | lit ty sz E5 =>
    have A1:=hR.rows id;rw[hr]at A1;obtain⟨hd',b,vs,e1,em,e2,e3,e4,e5,e6,e7,e8⟩:=A1;rw[hb]at e1;cases e1
    rw[e4,e2,e5];have hg:∀ i,(E5.map fun cs=>cs.map (E3 n S.row)).getD i []=(E5.getD i []).map (E3 n S.row):=by
     intro i;simp only[List.getD,List.getElem?_map];cases E5[i]? <;> simp
    have hlen:E5.length=(E5.map fun cs=>cs.map (E3 n S.row)).length:=by simp
    rw[hlen];refine .slc (o:=0) (fun i j=>vs.getD (i*sz+j) undef) (Nat.le_refl _) (fun i j hi hj=>⟨.inr ⟨id,by rw[hr];simp,by rw[x7,hb];exact A8 e2⟩,?_⟩) (fun i j hi hj=>?_)
    ·have:=z6 (by simpa using hi) hj;rw[Nat.zero_add];exact G3 e3 va5
    ·rw[hg,u0 _ (L1 _ _)];exact F9 hR n (e8 i j (by simpa using hi) hj)
   | nest ty sz j0 G7 d enc ys ho l =>
    have A1:=hR.rows id;rw[hr]at A1;obtain⟨hd',e1,e2,e3⟩:=A1;rw[hb]at e1;cases e1
    cases ho with
    | some h=>exact .any _
    | none =>
     rcases e3 with ⟨rfl,e4,e5,_⟩|⟨b,vs,e4,e5,e6,e7,e8,e9,Ll,WU⟩
     ·simp only[List.length_nil]at e2;rw[e2,e4,e5];exact .slnil
     ·rw[e2,e4];refine .sl (o:=0) (fun i j=>vs.getD (i*sz+j) undef) e6 (fun i j hi hj=>⟨.inr ⟨id,by rw[hr];simp,by rw[x7,hb];exact A8 e4⟩,?_⟩) (fun i j hi hj=>?_)
      ·have:=z6 (zB5 hi e6) hj;rw[Nat.zero_add];exact G3 e5 va5
      ·rw[yE];by_cases mZ:j=j0/\j<(enc (l.getD i d)).length
       ·rw[if_pos mZ];obtain⟨mZ,_⟩:=mZ;subst mZ;have hm:=Ll i;rw[jh,if_pos ⟨hi,by simp⟩]at hm;exact Bm hm fun c hc => .inr ⟨id,by rw[hr];simp,by rw[x7,hb];exact aX hc⟩
       ·rw[if_neg mZ];by_cases wS:j=j0
        ·have:(enc (l.getD i d)).getD j .any = .any:=by
          have:¬ j<(enc (l.getD i d)).length:=fun h=>mZ ⟨wS,h⟩
          rw[List.getD,zA7 (Nat.le_of_not_lt this)];rfl
         rw[this];exact .any _
        ·exact(e9 i j hi hj wS).mono (fun _ h => .inl h) (fun _ _ _ _ h=>h)
   | _=>exact .any _
  | @mem id i hd hb hi =>
   simp only[E3];cases hr:S.row id with
   | nest ty sz j0 G7 d enc ys ho l =>
    have A1:=hR.rows id;rw[hr]at A1;obtain⟨hd',e1,e2,e3⟩:=A1;rw[hb]at e1;cases e1
    cases ho with
    | some h=>exact .any _
    | none =>
     rcases e3 with ⟨rfl,e4,e5,_⟩|⟨b,vs,e4,e5,e6,e7,e8,e9,Ll,WU⟩
     ·rw[e2]at hi;simp at hi
     ·have hm:=Ll i;rw[jh,if_pos ⟨va5,by simp⟩]at hm;have:=Bm (F:=fun b=>F b∨mY S β b) hm fun c hc => .inr ⟨id,by rw[hr];simp,by rw[x7,hb];exact aX hc⟩
      rw[hm.1]at this;exact this
   | _=>exact .any _
  | mptr=>exact .any _
  | agg hl h =>
   refine .agg (by simpa using hl) fun i hi=>?_
   rw[u0 _ (L1 _ _)];exact F9 hR n (h i (by simpa using hi))
  | tup hl h =>
   refine .tup (by simpa using hl) fun i hi=>?_
   rw[u0 _ (L1 _ _)];exact F9 hR n (h i (by simpa using hi))
  | fn hl h hm k =>
   refine .fn (by simpa using hl) (fun i hi=>?_) (by simpa using hm) (fun i hi=>?_)
   ·rw[u0 _ (L1 _ _)];exact F9 hR n (h i (by simpa using hi))
   ·rw[u0 _ (L1 _ _)];exact F9 hR n (k i (by simpa using hi))
theorem na{r r':Nat->Row}:∀ (n:Nat) (x:AV),(∀ i,i ∈ N1 n r x->r' i=r i)->E3 n r' x=E3 n r x
 | 0,x,_=>rfl
 | n+1,x,h=>by
  have hl:∀ l:List AV,(∀ i,i ∈ l.flatMap (N1 n r)->r' i=r i)->l.map (E3 n r')=l.map (E3 n r):=fun l hl =>
   List.map_congr_left fun y hy=>na n y fun i hi=>hl i (List.mem_flatMap.2 ⟨y,hy,hi⟩)
  cases x with
  | ptr id sz i off =>
   have e:=h id (by simp[N1]);simp only[E3,e];cases hr:r id with
   | cells ty cs =>
    have:=hl cs fun i hi=>h i (by simp only[N1,hr];exact List.mem_cons_of_mem _ hi)
    simp only[this]
   | _=>rfl
  | own id =>
   have e:=h id (by simp[N1]);simp only[E3,e];cases hr:r id with
   | lit ty sz E5 =>
    have:(E5.map fun cs=>cs.map (E3 n r'))=E5.map fun cs=>cs.map (E3 n r):=List.map_congr_left fun cs rO =>
     hl cs fun i hi=>h i (by simp only[N1,hr];exact List.mem_cons_of_mem _ (List.mem_flatMap.2 ⟨cs,rO,hi⟩))
    simp only[this]
   | nest _ _ _ _ _ _ _ ho _=>cases ho<;>rfl
   | _=>rfl
  | mem id i =>
   have e:=h id (by simp[N1]);simp only[E3,e]
  | agg l=>simp only[E3];rw[hl l fun i hi=>h i (by simpa only[N1]using hi)]
  | tup l=>simp only[E3];rw[hl l fun i hi=>h i (by simpa only[N1]using hi)]
  | fn f a b =>
   simp only[E3];rw[hl a fun i hi=>h i (by simp only[N1];exact List.mem_append_left _ hi),hl b fun i hi=>h i (by simp only[N1];exact List.mem_append_right _ hi)]
  | _=>rfl
/- The operations on abstract values: what each asks, what it gives. A helper text: it speaks of no program. -/
def Ed(lit:Bool)(c:Prop)[Decidable c](K:Prop):Prop :=
 match lit with
 | true=>match decide c with
  | true=>K
  | false=>False
 | false=>c/\K
theorem D4(lit:Bool)(c:Prop)[Decidable c](K:Prop):Ed lit c K↔c/\K:=by
 cases lit
 ·exact Iff.rfl
 ·by_cases h:c<;>simp[Ed,h]
def Gu:Operand->Bool
 | .const _=>true
 | _=>false
def AV.toB:AV->Option Bool
 | .tt=>some true
 | .ff=>some false
 | .bool b=>some b
 | _=>none
def wT(op:BinOp)(lit:Bool)(k:IntKind)(a:Int)(k':IntKind)(b:Int)(K:AV->Prop):Prop :=
 match op with
 | .shl=>Ed lit (0<=b) (K (.int k (k.wrap (a*2^min b.toNat k.bits))))
 | .shr=>Ed lit (0<=b) (K (.int k (a.fdiv (2^min b.toNat k.bits))))
 | op=>match decide (k=k')with
  | false=>False
  | true=>match op with
   | .add=>K (.int k (k.wrap (a+b)))
   | .sub=>K (.int k (k.wrap (a-b)))
   | .mul=>K (.int k (k.wrap (a*b)))
   | .quo=>Ed lit (b≠0) (K (.int k (k.wrap (a.tdiv b))))
   | .rem=>Ed lit (b≠0) (K (.int k (a.tmod b)))
   | .and=>K (.int k (bits .and k a b))
   | .or=>K (.int k (bits .or k a b))
   | .xor=>K (.int k (bits .xor k a b))
   | .andNot=>K (.int k (bits .andNot k a b))
   | .eql=>K (.bool (decide (a=b)))
   | .neq=>K (.bool (!decide (a=b)))
   | .lss=>K (.bool (decide (a<b)))
   | .leq=>K (.bool (decide (a<=b)))
   | .gtr=>K (.bool (decide (a > b)))
   | .geq=>K (.bool (decide (a ≥ b)))
   | _=>False
def fR:Bool->AV->AV->Option Bool
 | true,.int k a,.int k' b=>match decide (k=k')with
  | true=>some (decide (a=b))
  | false=>none
 | false,.bool a,.bool b=>some (a == b)
 | false,.tt,.bool b=>some b
 | false,.ff,.bool b=>some (!b)
 | false,.bool b,.tt=>some b
 | false,.bool b,.ff=>some (!b)
 | false,.tt,.tt=>some true
 | false,.ff,.ff=>some true
 | false,.tt,.ff=>some false
 | false,.ff,.tt=>some false
 | _,_,_=>none
def H5:List Bool->List AV->List AV->Option Bool
 | [],[],[]=>some true
 | k :: ks,a :: l,b :: m=>match fR k a b,H5 ks l m with
  | some x,some y=>some (x && y)
  | _,_=>none
 | _,_,_=>none
mutual
def bI(P:Program):Nat->TypeId->Option (List Bool)
 | 0,_=>none
 | n+1,t=>match P.underlying t with
  | some (.int _)=>match Nat.beq (P.cellsOf t) 1 with
   | true=>some [true]
   | false=>none
  | some .bool=>match Nat.beq (P.cellsOf t) 1 with
   | true=>some [false]
   | false=>none
  | some (.struct fs)=>match P.stoodInHeld t with
   | false=>match X2 P n fs.toList 0 with
    | some ks=>match Nat.beq ks.length (P.cellsOf t)with
     | true=>some ks
     | false=>none
    | none=>none
   | true=>none
  | _=>none
def X2(P:Program):Nat->List Field->Nat->Option (List Bool)
 | 0,_,_=>none
 | _+1,[],_=>some []
 | n+1,f :: fs,at_=>match (f.name != "_") && Nat.beq f.offset at_ with
  | true=>match bI P n f.type with
   | some ks=>match X2 P n fs (at_+ks.length)with
    | some ls=>some (ks++ls)
    | none=>none
   | none=>none
  | false=>none
end
def T5(op:BinOp)(A C:Prop):Prop :=
 match op with
 | .eql=>A
 | .neq=>C
 | _=>False
theorem Q2{op:BinOp}{A C:Prop}(h:T5 op A C):(op = .eql/\A)∨(op = .neq/\C):=by
 cases op<;>first|exact h.elim|exact .inl ⟨rfl,h⟩|exact .inr ⟨rfl,h⟩
def kC:List AV->List Bool
 | []=>[]
 | .int _ _ :: l=>true :: kC l
 | _ :: l=>false :: kC l
def SU(P:Program)(t:TypeId)(ks:List Bool):Bool :=
 match P.underlying t,P.eqGuardType P.depth t with
 | some (.struct _),false=>match bI P 40 t with
  | some WV=>WV == ks
  | none=>false
 | _,_=>false
def Lm(P:Program)(t:TypeId)(ks:List Bool):Bool :=
 match P.underlying t,P.eqGuardType P.depth t with
 | some (.array len e),false=>match P.info? e,P.underlying e with
  | some _,some (.int _)=>Nat.beq (P.cellsOf e) 1 && (Nat.beq ks.length len && ks.all fun k=>k)
  | _,_=>false
 | _,_=>false
def wU(P:Program)(op:BinOp)(t:TypeId)(lit:Bool)(x y:AV)(K:AV->Prop):Prop :=
 match x with
 | .int k a=>match y with
  | .int k' b=>wT op lit k a k' b K
  | _=>False
 | .agg xs=>match y with
  | .agg ys=>(SU P t (kC xs) || Lm P t (kC xs))=true/\match H5 (kC xs) xs ys with
   | some b=>T5 op (K (.bool b)) (K (.bool (!b)))
   | none=>False
  | _=>False
 | x=>match x.toB,y.toB with
  | some a,some b=>match P.underlying t with
   | some .bool=>T5 op (K (.bool (a == b))) (K (.bool (a != b)))
   | _=>False
  | _,_=>match P.underlying t with
   | some (.pointer _)=>match x,y with
    | .nilp,.nilp=>T5 op (K .tt) (K .ff)
    | .nilp,.pt (_ :: _) _=>T5 op (K .ff) (K .tt)
    | .nilp,.ptr .. => T5 op (K .ff) (K .tt)
    | .pt _ _,.nilp=>T5 op (K .ff) (K .tt)
    | .ptr ..,.nilp=>T5 op (K .ff) (K .tt)
    | _,_=>False
   | some (.slice _)=>match x,y with
    | .nils,.nils=>T5 op (K .tt) (K .ff)
    | _,_=>False
   | _=>False
def HS(op:UnOp)(x:AV)(K:AV->Prop):Prop :=
 match op,x with
 | .not,.tt=>K .ff
 | .not,.ff=>K .tt
 | .not,.bool b=>K (.bool (!b))
 | .neg,.int k n=>K (.int k (k.wrap (0-n)))
 | .xor,.int k n=>K (.int k (bits .xor k (if k.signed then -1 else k.max) n))
 | _,_=>False
def aZ:TypeDesc->Bool
 | .struct _ | .array _ _=>true
 | _=>false
def lG(agg:Bool)(n:Nat)(cs:List AV)(off:Nat):Option AV :=
 match agg with
 | true=>match Nat.ble (off+n) cs.length with
  | true=>some (.agg ((cs.drop off).take n))
  | false=>none
 | false=>match Nat.blt off cs.length with
  | true=>some (cs.getD off .any)
  | false=>none
def setCells(cs:List AV)(off:Nat)(l:List AV):List AV:=cs.take off++l++cs.drop (off+l.length)
def AV.one:AV->Bool
 | .any | .agg _ | .tup _=>false
 | _=>true
def bJ:List AV->Bool
 | []=>true
 | a :: l=>a.one && bJ l
def AV.cells? : AV->Option (List AV)
 | .any=>none
 | .tup _=>none
 | .agg l=>match bJ l with
  | true=>some l
  | false=>none
 | x=>some [x]
def dc(P:Program)(t:TypeId):Option (List AV) :=
 match P.info? t with
 | some i=>match i.zero with
  | some v=>some (v.cells.toList.map AV.ofConst)
  | none=>none
 | none=>none
def fS(place:Nat->Option (Nat×Nat))(cs:List AV):List (Nat×AV)->Option (List AV)
 | []=>some cs
 | (i,x) :: rest=>match place i with
  | none=>none
  | some (off,size)=>match x.cells? with
   | none=>none
   | some l=>match Nat.beq l.length size with
    | false=>none
    | true=>match Nat.ble (off+size) cs.length with
     | false=>none
     | true=>fS place (setCells cs off l) rest
structure Pq:Type 1 where
 α:Type
 sz:Nat
 d:α
 enc:α->List AV
 l:List α
def Q3:AV->AV
 | .tt => .bool true
 | .ff => .bool false
 | x=>x
def sE(r:Nat->Row)(x:AV)(D:Pq):Prop :=
 match x with
 | .nils=>D.l=[]
 | .sl sz d enc l=>Pq.mk _ sz d enc l=D
 | .slc sz E5=>sz=D.sz/\E5=D.l.map D.enc
 | .sf sz d enc l=>Pq.mk _ sz d enc l=D
 | .own id=>match r id with
  | .vec _ sz d enc l=>Pq.mk _ sz d enc l=D
  | .lit _ sz E5=>sz=D.sz/\(E5.map fun cs=>cs.map Q3)=D.l.map D.enc
  | _=>False
 | _=>False
def eu:AV->List Nat
 | .own id=>[id]
 | _=>[]
def Row.tyIs(t:TypeId):Row->Bool
 | .none=>false
 | .cells ty _=>Nat.beq ty t
 | .lit ty _ _=>Nat.beq ty t
 | .vec ty _ _ _ _=>Nat.beq ty t
 | .ctr _ _ _ _=>false
 | .nest ty _ _ _ _ _ _ _ _=>Nat.beq ty t
 | .opq _=>false
def pd(r:Nat->Row)(e:TypeId):AV->Bool
 | .nils=>true
 | .own id=>(r id).tyIs e
 | _=>false
def fT(r:Nat->Row)(x y:AV):Bool :=
 match x with
 | .sf _ _ _ _=>match y with
  | .own q=>match r q with
   | .lit _ _ (_ :: _)=>true
   | _=>false
  | _=>false
 | _=>false
def Pr(g:Operand->AV)(o:Option Operand)(l:AV):AV :=
 match o with
 | some y=>g y
 | none=>l
def pg(s:ByteArray)(i:Nat):Int:=match s[i]? with
 | some b=>b.toNat
 | none=>0
def y0(P:Program)(dst:Option Nat)(op:Op)(g:Operand->AV)(r:Nat->Row)(K:Out->List Nat->Prop):Prop :=
 match op with
 | .move x=>K ⟨g x,[]⟩ []
 | .assign x=>K ⟨g x,[]⟩ []
 | .pick c a b=>match g c with
  | .tt=>K ⟨g a,[]⟩ []
  | .ff=>K ⟨g b,[]⟩ []
  | .bool c=>(c=true->K ⟨g a,[]⟩ [])/\(c=false->K ⟨g b,[]⟩ [])
  | _=>False
 | .alloc t=>match dst,dc P t with
  | some d,some cs=>K ⟨.ptr d 0 0 0,[(d,.cells t cs)]⟩ []
  | _,_=>False
 | .box t x=>match dst,(g x).cells? with
  | some d,some cs=>K ⟨.ptr d 0 0 0,[(d,.cells t cs)]⟩ []
  | _,_=>False
 | .build t k9=>match dc P t with
  | none=>False
  | some z=>match P.underlying t with
   | some (.struct fs)=>match fs.toList.all fun f=>(P.info? f.type).isSome with
    | true=>match fS (fun i=>(fs.toList.map fun f=>(f.offset,P.cellsOf f.type))[i]?) z (k9.toList.map fun p=>(p.1,g p.2))with
     | some cs=>K ⟨.agg cs,[]⟩ []
     | none=>False
    | false=>False
   | some (.array _ e)=>match P.info? e with
    | some _=>match fS (fun i=>some (i*P.cellsOf e,P.cellsOf e)) z (k9.toList.map fun p=>(p.1,g p.2))with
     | some cs=>K ⟨.agg cs,[]⟩ []
     | none=>False
    | none=>False
   | _=>False
 | .load t x=>match P.info? t,P.underlying t with
  | some i,some d=>match g x with
   | .pt cs off=>match lG (aZ d) i.size cs off with
    | some v=>K ⟨v,[]⟩ []
    | none=>False
   | .ptr id sz j off=>match r id with
    | .cells _ cs=>match lG (aZ d) i.size cs (j*sz+off)with
     | some v=>K ⟨v,[]⟩ [id]
     | none=>False
    | .vec _ Ba d' enc l=>match Nat.beq sz Ba with
     | true=>match Nat.beq (enc (l.getD j d')).length sz with
      | true=>match lG (aZ d) i.size (enc (l.getD j d')) off with
       | some v=>j<l.length/\K ⟨v,[]⟩ [id]
       | none=>False
      | false=>False
     | false=>False
    | .lit _ Ba E5=>match Nat.beq sz Ba with
     | true=>match Nat.beq (E5.getD j []).length sz with
      | true=>match lG (aZ d) i.size (E5.getD j []) off with
       | some v=>match Nat.blt j E5.length with
        | true=>K ⟨v,[]⟩ [id]
        | false=>False
       | none=>False
      | false=>False
     | false=>False
    | _=>False
   | _=>False
  | _,_=>False
 | .store t x y=>match P.info? t with
  | some i=>match (g y).cells? with
   | some l=>match Nat.beq l.length i.size with
    | true=>match g x with
     | .ptr id sz j off=>match r id with
      | .cells ty cs=>match Nat.ble (j*sz+off+l.length) cs.length with
       | true=>K ⟨.any,[(id,.cells ty (setCells cs (j*sz+off) l))]⟩ [id]
       | false=>False
      | .vec ty Ba d enc zs=>match Nat.beq sz Ba with
       | true=>match G8 l with
        | true=>match Nat.ble (off+l.length) sz with
         | true=>match Nat.beq (enc (zs.getD j d)).length sz with
          | true=>∃ y,enc y=setCells (enc (zs.getD j d)) off (l.map Q3)/\j<zs.length/\K ⟨.any,[(id,.vec ty sz d enc (zs.set j y))]⟩ [id]
          | false=>False
         | false=>False
        | false=>False
       | false=>False
      | _=>False
     | _=>False
    | false=>False
   | none=>False
  | none=>False
 | .index t x i=>match g i with
  | .int _ n=>match g x with
   | .str s=>match P.underlying t with
    | some .string=>Ed false (0<=n/\n<s.size) (K ⟨.int .u8 (pg s n.toNat),[]⟩ [])
    | _=>False
   | .agg l=>match P.underlying t with
    | some (.array len e)=>match P.info? e,P.underlying e with
     | some inf,some d=>match !(aZ d) && (Nat.beq inf.size 1 && Nat.beq l.length len)with
      | true=>Ed (Gu i) (0<=n/\n<len) (K ⟨l.getD n.toNat .any,[]⟩ [])
      | false=>False
     | _,_=>False
    | _=>False
   | _=>False
  | _=>False
 | .nilCheck x=>match g x with
  | .pt (c :: cs) off=>K ⟨.pt (c :: cs) off,[]⟩ []
  | .ptr id sz j off=>K ⟨.ptr id sz j off,[]⟩ []
  | _=>False
 | .binOp op t x y _=>wU P op t (Gu y) (g x) (g y) fun v=>K ⟨v,[]⟩ []
 | .unOp op _ x=>HS op (g x) fun v=>K ⟨v,[]⟩ []
 | .convert src t x=>match P.underlying src,P.underlying t,g x with
  | some _,some (.int k),.int _ n=>K ⟨.int k (k.wrap n),[]⟩ []
  | _,_,_=>False
 | .makeFunc f first B2=>K ⟨.fn f (first.toList.map g) (B2.toList.map g),[]⟩ []
 | .fieldAddr s x f=>match P.underlying s with
  | some (.struct fs)=>match fs[f]? with
   | some fd=>match P.info? fd.type with
    | some i=>match Nat.beq i.size 0 with
     | true=>False
     | false=>match g x with
      | .pt cs off=>K ⟨.pt cs (off+fd.offset),[]⟩ []
      | .ptr id sz j off=>K ⟨.ptr id sz j (off+fd.offset),[]⟩ []
      | _=>False
    | none=>False
   | none=>False
  | _=>False
 | .indexAddr t x i=>match g i with
  | .int _ n=>match P.underlying t with
   | some (.slice e)=>match P.info? e with
    | some inf=>match g x with
     | .sl sz d enc l=>match Nat.beq sz inf.size with
      | true=>Ed false (0<=n/\n<l.length) (match Nat.beq (enc (l.getD n.toNat d)).length sz with
       | true=>K ⟨.pt (enc (l.getD n.toNat d)) 0,[]⟩ []
       | false=>False)
      | false=>False
     | .slc sz E5=>match Nat.beq sz inf.size with
      | true=>Ed (Gu i) (0<=n/\n<E5.length) (match Nat.ble (E5.getD n.toNat []).length sz with
       | true=>K ⟨.pt (E5.getD n.toNat []) 0,[]⟩ []
       | false=>False)
      | false=>False
     | .own id=>match r id with
      | .vec _ sz _ _ l=>match Nat.beq sz inf.size with
       | true=>Ed false (0<=n/\n<l.length) (K ⟨.ptr id sz n.toNat 0,[]⟩ [id])
       | false=>False
      | .lit _ sz E5=>match Nat.beq sz inf.size with
       | true=>Ed false (0<=n/\n<E5.length) (K ⟨.ptr id sz n.toNat 0,[]⟩ [id])
       | false=>False
      | _=>False
     | _=>False
    | none=>False
   | some (.array len e)=>match P.info? e with
    | some inf=>Ed (Gu i) (0<=n/\n<len) (match g x with
     | .pt cs off=>K ⟨.pt cs (off+n.toNat*inf.size),[]⟩ []
     | .ptr id sz j off=>K ⟨.ptr id sz j (off+n.toNat*inf.size),[]⟩ []
     | _=>False)
    | none=>False
   | _=>False
  | _=>False
 | .extract x i=>match g x with
  | .tup l=>match Nat.blt i l.length with
   | true=>K ⟨l.getD i .any,[]⟩ []
   | false=>False
  | _=>False
 | .buildSlice t n k9=>match dst,P.underlying t with
  | some d,some (.slice e)=>match P.info? e,dc P e with
   | some i,some z=>match Nat.beq z.length i.size with
    | true=>match Nat.ble (n*i.size) 16777216 && Nat.blt 0 i.size with
     | true=>match fS (fun j=>some (j*i.size,i.size)) (List.replicate n z).flatten (k9.toList.map fun p=>(p.1,g p.2))with
      | some cs=>K ⟨.own d,[(d,.lit e i.size ((List.range n).map fun j=>(cs.drop (j*i.size)).take i.size))]⟩ []
      | none=>False
     | false=>False
    | false=>False
   | _,_=>False
  | _,_=>False
 | .slice t x lo hi mx=>match mx with
  | some m=>match lo,hi with
   | none,some h=>match P.underlying t with
    | some (.slice e)=>match P.info? e with
     | some inf=>match g x with
      | .sl sz d enc l=>match Nat.beq sz inf.size with
       | true=>match g h,g m with
        | .int _ b,.int _ c=>Ed false (0<=b/\b<=l.length/\c=b) (K ⟨.sf sz d enc (l.take b.toNat),[]⟩ [])
        | _,_=>False
       | false=>False
      | _=>False
     | none=>False
    | _=>False
   | _,_=>False
  | none=>match P.underlying t with
   | some (.slice e)=>match P.info? e with
    | some inf=>match g x with
     | .sl sz d enc l=>match Nat.beq sz inf.size with
      | true=>match Pr g lo (.int .i64 0),Pr g hi (.int .i64 l.length)with
       | .int _ a,.int _ b=>Ed false (0<=a/\a<=b/\b<=l.length) (K ⟨.sl sz d enc ((l.drop a.toNat).take (b-a).toNat),[]⟩ [])
       | _,_=>False
      | false=>False
     | _=>False
    | none=>False
   | _=>False
 | .makeSlice t len cap=>match dst,P.underlying t with
  | some d,some (.slice e)=>match P.info? e,dc P e with
   | some i,some z=>match Nat.beq z.length i.size with
    | true=>match g len,g cap with
     | .int _ n,.int _ c=>∃ (α:Type) (y:α) (enc:α->List AV),enc y=z/\n=c/\0<=n/\n<=1048576/\i.bytes<=1048576/\K ⟨.own d,[(d,.vec e i.size y enc (List.replicate n.toNat y))]⟩ []
     | _,_=>False
    | false=>False
   | _,_=>False
  | _,_=>False
 | .call c=>match c.callee with
  | .builtin .len=>match c.args.toList,c.argTypes.toList with
   | [x],[t]=>match P.underlying t with
    | some (.slice _)=>match g x with
     | .nils=>K ⟨.int .i64 0,[]⟩ []
     | .sl _ _ _ l=>K ⟨.int .i64 l.length,[]⟩ []
     | .slc _ E5=>K ⟨.int .i64 E5.length,[]⟩ []
     | .own id=>match r id with
      | .vec _ _ _ _ l=>K ⟨.int .i64 l.length,[]⟩ [id]
      | .lit _ _ E5=>K ⟨.int .i64 E5.length,[]⟩ [id]
      | _=>False
     | _=>False
    | some (.array n _)=>K ⟨.int .i64 n,[]⟩ []
    | _=>False
   | _,_=>False
  | .builtin .max=>match c.args.toList with
   | [x,y]=>match g x,g y with
    | .int k a,.int _ b=>K ⟨.int k (if b > a then b else a),[]⟩ []
    | _,_=>False
   | _=>False
  | .builtin .min=>match c.args.toList with
   | [x,y]=>match g x,g y with
    | .int k a,.int _ b=>K ⟨.int k (if b<a then b else a),[]⟩ []
    | _,_=>False
   | _=>False
  | .builtin .append=>match c.args.toList,c.argTypes.toList with
   | [s,x],[t,t']=>match dst,P.underlying t,Nat.beq t t' with
    | some d,some (.slice e),true=>match P.info? e,dc P e with
     | some i,some z=>match Nat.beq z.length i.size with
      | true=>match Nat.blt 0 i.size with
       | true=>match pd r e (g s) || fT r (g s) (g x)with
        | true=>∃ (D:Pq) (l':List D.α),D.sz=i.size/\sE r (g s) D/\sE r (g x) ⟨D.α,D.sz,D.d,D.enc,l'⟩/\(D.l.length+l'.length)*i.bytes<=1099511627776/\D.l.length+l'.length<=1099511627776 /\
          (∀ y ∈ D.l++l',(D.enc y).length=D.sz/\G8 (D.enc y)=true/\bJ (D.enc y)=true) /\
          K ⟨.own d,((eu (g s)).map fun id=>(id,.none))++[(d,.vec e D.sz D.d D.enc (D.l++l'))]⟩ (eu (g s)++eu (g x))
        | false=>False
       | false=>False
      | false=>False
     | _,_=>False
    | _,_,_=>False
   | _,_=>False
  | .value f=>match g f with
   | .fn (.func h) first B2=>match G8 (first++c.args.toList.map g++B2)with
    | true=>fL (first++c.args.toList.map g++B2) fun ar=>∃ v,PC P h ar v/\K ⟨v,[]⟩ []
    | false=>fL ((first++c.args.toList.map g++B2).map (E3 4 r)) fun ar=>∃ v,PC P h ar v/\match v.flat with
     | true=>K ⟨v,[]⟩ ((first++c.args.toList.map g++B2).flatMap (N1 4 r))
     | false=>False
   | _=>False
  | _=>False
 | _=>False
/- Each operation does what its abstract twin says. A helper text: it speaks of no program. -/
section
variable {β:Nat->Option Hd}{F:Nat->Prop}{w:World}{v:Value}
theorem C4.tt_inv(h:C4 β F w .tt v):v = .bool true:=by cases h with|imm h=>cases h;rfl
theorem C4.ff_inv(h:C4 β F w .ff v):v = .bool false:=by cases h with|imm h=>cases h;rfl
theorem C4.bool_inv{b}(h:C4 β F w (.bool b) v):v = .bool b:=by cases h with|imm h=>cases h;rfl
theorem C4.int_inv{k n}(h:C4 β F w (.int k n) v):v = .int k n:=by cases h with|imm h=>cases h;rfl
theorem C4.nilp_inv(h:C4 β F w .nilp v):v = .pointer none:=by cases h with|imm h=>cases h;rfl
theorem C4.nils_inv(h:C4 β F w .nils v):v = .slice none 0 0:=by cases h with|imm h=>cases h;rfl
theorem C4.toB_inv{x:AV}{b:Bool}(h:C4 β F w x v)(hb:x.toB=some b):v = .bool b:=by
 cases x<;>simp[AV.toB]at hb
 ·rw[hb];exact h.tt_inv
 ·rw[hb];exact h.ff_inv
 ·rw[<- hb];exact h.bool_inv
theorem C4.agg_inv{xs}(h:C4 β F w (.agg xs) v):∃ vs:Array Value,v = .agg vs/\xs.length=vs.size/\∀ i,i<xs.length->C4 β F w (xs.getD i .any) (vs.getD i undef):=by
 cases h with
 | imm h=>cases h with|agg hl h=>exact⟨_,rfl,hl,fun i hi => .imm (h i hi)⟩
 | agg hl h=>exact⟨_,rfl,hl,h⟩
theorem C4.tup_inv{xs}(h:C4 β F w (.tup xs) v):∃ vs:Array Value,v = .tuple vs/\xs.length=vs.size/\∀ i,i<xs.length->C4 β F w (xs.getD i .any) (vs.getD i undef):=by
 cases h with
 | imm h=>cases h with|tup hl h=>exact⟨_,rfl,hl,fun i hi => .imm (h i hi)⟩
 | tup hl h=>exact⟨_,rfl,hl,h⟩
theorem C4.fn_inv{f xs ys}(h:C4 β F w (.fn f xs ys) v):∃ vs us:Array Value,v = .func f vs us/\xs.length=vs.size/\ys.length=us.size /\
  (∀ i,i<xs.length->C4 β F w (xs.getD i .any) (vs.getD i undef))/\∀ i,i<ys.length->C4 β F w (ys.getD i .any) (us.getD i undef):=by
 cases h with
 | imm h=>cases h with|fn hl h hm k=>exact⟨_,_,rfl,hl,hm,fun i hi => .imm (h i hi),fun i hi => .imm (k i hi)⟩
 | fn hl h hm k=>exact⟨_,_,rfl,hl,hm,h,k⟩
theorem C4.ptr_inv{id sz i off}(h:C4 β F w (.ptr id sz i off) v):∃ hd b,β id=some hd/\hd.b=some b/\v = .pointer (some ⟨b,i*sz+off,none⟩):=by
 cases h with
 | imm h=>cases h
 | ptr hb hh=>exact⟨_,_,hb,hh,rfl⟩
theorem C4.own_inv{id}(h:C4 β F w (.own id) v):∃ hd,β id=some hd/\v = .slice (hd.b.map fun b=>⟨b,0,none⟩) hd.len hd.cap:=by
 cases h with
 | imm h=>cases h
 | own hb=>exact⟨_,hb,rfl⟩
theorem C4.pt_inv{cs off}(h:C4 β F w (.pt cs off) v):∃ (b o:Nat) (g:Nat->Value),v = .pointer (some ⟨b,o+off,none⟩)/\(∀ j,j<cs.length->F b/\w.cell? ⟨b,o+j,none⟩=some (g j))/\∀ j,j<cs.length->y6 F w (cs.getD j .any) (g j):=by
 cases h with|imm h=>cases h with|pt g hb h=>exact⟨_,_,g,rfl,hb,h⟩
theorem C4.sl_inv{α:Type}{sz:Nat}{d:α}{enc:α->List AV}{l:List α}(h:C4 β F w (.sl sz d enc l) v):(l=[]/\∃ x cap,v = .slice x 0 cap)∨∃ (b o cap:Nat) (g:Nat->Nat->Value),v = .slice (some ⟨b,o,none⟩) l.length cap/\l.length<=cap /\
  (∀ i j,i<l.length->j<sz->F b/\w.cell? ⟨b,o+i*sz+j,none⟩=some (g i j))/\∀ i j,i<l.length->j<sz->y6 F w ((enc (l.getD i d)).getD j .any) (g i j):=by
 cases h with
 | imm h =>
  cases h with
  | slnil=>exact .inl ⟨rfl,_,_,rfl⟩
  | sl g hc hb h=>exact .inr ⟨_,_,_,g,rfl,hc,hb,h⟩
theorem C4.sf_inv{α:Type}{sz:Nat}{d:α}{enc:α->List AV}{l:List α}(h:C4 β F w (.sf sz d enc l) v):(l=[]/\∃ x,v = .slice x 0 0)∨∃ (b o:Nat) (g:Nat->Nat->Value),v = .slice (some ⟨b,o,none⟩) l.length l.length /\
  (∀ i j,i<l.length->j<sz->F b/\w.cell? ⟨b,o+i*sz+j,none⟩=some (g i j))/\(∀ i j,i<l.length->j<sz->y6 F w ((enc (l.getD i d)).getD j .any) (g i j)):=by
 cases h with
 | imm h =>
  cases h with
  | sfnil=>exact .inl ⟨rfl,_,rfl⟩
  | sf g hb h=>exact .inr ⟨_,_,g,rfl,hb,h⟩
theorem C4.slc_inv{sz:Nat}{E5:List (List AV)}(h:C4 β F w (.slc sz E5) v):(E5=[]/\v = .slice none 0 0)∨∃ (b o cap:Nat) (g:Nat->Nat->Value),v = .slice (some ⟨b,o,none⟩) E5.length cap/\E5.length<=cap /\
  (∀ i j,i<E5.length->j<sz->F b/\w.cell? ⟨b,o+i*sz+j,none⟩=some (g i j))/\∀ i j,i<E5.length->j<sz->y6 F w ((E5.getD i []).getD j .any) (g i j):=by
 cases h with
 | imm h =>
  cases h with
  | slcnil=>exact .inl ⟨rfl,rfl⟩
  | slc g hc hb h=>exact .inr ⟨_,_,_,g,rfl,hc,hb,h⟩
end
theorem C4.one_cell{β F w}{x:AV}{v:Value}(h:C4 β F w x v)(hx:x.one=true):v.oneCell'=true/\v.cells=#[v]:=by
 cases h with
 | imm h=>cases h<;>first|(simp[AV.one]at hx;done)|exact⟨rfl,rfl⟩
 | _=>first|(simp[AV.one]at hx;done)|exact⟨rfl,rfl⟩
theorem fx:∀ {l:List AV},bJ l=true->∀ i,i<l.length->(l.getD i .any).one=true
 | a :: l,h,0,_=>by simp[bJ]at h;exact h.1
 | a :: l,h,i+1,hi=>by
  simp[bJ]at h;have:=fx h.2 i (by simpa using hi);simpa using this
theorem cells?_rep{β F w}{x:AV}{v:Value}{l:List AV}(h:C4 β F w x v)(hx:x.cells? = some l) :
  v.cells.size=l.length/\(∀ i,i<l.length->C4 β F w (l.getD i .any) (v.cells.getD i undef))/\∀ u ∈ v.cells.toList,u.oneCell'=true:=by
 have single:x.one=true->l=[x]->v.cells.size=l.length/\(∀ i,i<l.length->C4 β F w (l.getD i .any) (v.cells.getD i undef))/\∀ u ∈ v.cells.toList,u.oneCell'=true:=by
  rintro h1 rfl;obtain⟨h2,h3⟩:=h.one_cell h1;rw[h3];refine⟨rfl,fun i hi=>?_,fun u hu=>?_⟩
  ·have:i=0:=by simp at hi;omega
   subst this;exact h
  ·simp at hu;rw[hu];exact h2
 cases x with
 | agg xs =>
  simp only[AV.cells?]at hx;cases ho:bJ xs with
  | false=>simp[ho]at hx
  | true =>
   simp only[ho,Option.some.injEq]at hx;subst hx;obtain⟨vs,rfl,hl,hr⟩:=h.agg_inv;refine⟨hl.symm,hr,fun u hu=>?_⟩;obtain⟨i,hi,rfl⟩:=List.getElem_of_mem hu;have cI:i<xs.length:=by rw[hl];simpa[Value.cells]using hi
   have:=((hr i cI).one_cell (fx ho i cI)).1;have e:vs.getD i undef=(Value.agg vs).cells.toList[i]:=by
    simp only[Value.cells,Array.getElem_toList];simp[Array.getD_eq_getD_getElem?,hl ▸ cI]
   rw[<- e];exact this
 | any=>simp[AV.cells?]at hx
 | tup=>simp[AV.cells?]at hx
 | _=>exact single rfl (by simpa[AV.cells?]using hx.symm)
theorem fU{cs l:List AV}{off:Nat}(h:off+l.length<=cs.length)(i:Nat) :
  (setCells cs off l).getD i .any=if off<=i/\i<off+l.length then l.getD (i-off) .any else cs.getD i .any:=by
 have hlen:(cs.take off).length=off:=by simp;omega
 simp only[setCells,List.getD,List.append_assoc];by_cases h1:i<off
 ·rw[List.getElem?_append_left va5,List.getElem?_take_of_lt h1];simp[show ¬ (off<=i/\i<off+l.length)by omega]
 ·rw[List.getElem?_append_right va5,hlen];by_cases h2:i<off+l.length
  ·rw[List.getElem?_append_left va5];simp[show off<=i/\i<off+l.length by omega]
  ·rw[List.getElem?_append_right va5,List.getElem?_drop];simp[show ¬ (off<=i/\i<off+l.length)by omega,show off+l.length+(i-off-l.length)=i by omega]
theorem dh{cs l:List AV}{off:Nat}(h:off+l.length<=cs.length):(setCells cs off l).length=cs.length:=by
 simp[setCells];omega
def x8(cs:Array Value)(off:Nat)(l:List Value):Array Value:=(cs.toList.take off++l++cs.toList.drop (off+l.length)).toArray
theorem B9{cs:Array Value}{l:List Value}{off:Nat}(h:off+l.length<=cs.size)(i:Nat) :
  (x8 cs off l).getD i undef=if off<=i/\i<off+l.length then l.getD (i-off) undef else cs.getD i undef:=by
 have hs:cs.toList.length=cs.size:=by simp
 have hlen:(cs.toList.take off).length=off:=by simp;omega
 simp only[x8,Array.getD_eq_getD_getElem?,List.getElem?_toArray,List.getD,List.append_assoc];by_cases h1:i<off
 ·rw[List.getElem?_append_left va5,List.getElem?_take_of_lt h1];simp[show ¬ (off<=i/\i<off+l.length)by omega]
 ·rw[List.getElem?_append_right va5,hlen];by_cases h2:i<off+l.length
  ·rw[List.getElem?_append_left va5];simp[show off<=i/\i<off+l.length by omega]
  ·rw[List.getElem?_append_right va5,List.getElem?_drop];simp[show ¬ (off<=i/\i<off+l.length)by omega,show off+l.length+(i-off-l.length)=i by omega]
theorem C0{cs:Array Value}{l:List Value}{off:Nat}(h:off+l.length<=cs.size):(x8 cs off l).size=cs.size:=by
 simp[x8];omega
def jt(R:AV->Value->Prop)(xs:List AV)(vs:Array Value):Prop:=xs.length=vs.size/\∀ i,i<xs.length->R (xs.getD i .any) (vs.getD i undef)
theorem jt.set{R:AV->Value->Prop}{xs l:List AV}{vs ls:Array Value}{off:Nat}(h:jt R xs vs)(hl:jt R l ls)(ho:off+l.length<=xs.length):jt R (setCells xs off l) (x8 vs off ls.toList):=by
 have e:ls.toList.length=l.length:=by rw[hl.1];simp
 have L0:off+ls.toList.length<=vs.size:=by rw[e,<- h.1];exact ho
 refine⟨by rw[dh ho,C0 L0];exact h.1,fun i hi=>?_⟩;rw[dh ho]at hi;rw[fU ho,B9 L0,e];split
 ·rename_i hc;have:=hl.2 (i-off) va5;have e2:ls.toList.getD (i-off) undef=ls.getD (i-off) undef:=by simp[List.getD,Array.getD_eq_getD_getElem?]
  rw[e2];exact this
 ·exact h.2 i hi
theorem lH:∀ (l:List Value) (cs:Array Value) (off k:Nat),off+k+l.length<=cs.size ->
  (l.zipIdx k).foldl (fun(cs:Array Value) (x:Value×Nat)=>cs.setIfInBounds (off+x.2) x.1) cs=x8 cs (off+k) l
 | [],cs,off,k,_=>by
  apply Array.ext';simp[x8]
 | v :: l,cs,off,k,h=>by
  simp only[zB2]at h;simp only[List.zipIdx_cons,List.foldl_cons];rw[lH l _ off (k+1) (by simp;omega)];apply Array.ext';have:=list_seg_step cs.toList (off+k) v l (by simp;omega);simp only[x8,Array.toList_setIfInBounds,zB2];rw[show off+(k+1)=off+k+1 by omega];simpa[Nat.add_assoc,Nat.add_comm,Nat.add_left_comm]using this
theorem nc{β F w}{place:Nat->Option (Nat×Nat)}:∀ {k9:List (Nat×AV)} {ps:List (Nat×Value)} {xs:List AV} {vs:Array Value} {cs:List AV},
  List.length k9=ps.length->(∀ i,i<k9.length->(k9.getD i (0,.any)).1=(ps.getD i (0,undef)).1/\C4 β F w (k9.getD i (0,.any)).2 (ps.getD i (0,undef)).2) ->
  jt (C4 β F w) xs vs->fS place xs k9=some cs->∃ us,Instr.fill place vs ps=some us/\jt (C4 β F w) cs us
 | [],[],xs,vs,cs,_,_,h,hf=>by simp[fS]at hf;subst hf;exact⟨vs,rfl,h⟩
 | (i,x) :: k9,(i',v) :: ps,xs,vs,cs,hl,hp,h,hf=>by
  obtain⟨e,hx⟩:=hp 0 va9;simp only[List.getD_cons_zero]at e hx;subst e;simp only[fS]at hf;cases ji:place i with
  | none=>simp[ji]at hf
  | some os =>
   obtain⟨off,size⟩:=os;simp only[ji]at hf;cases hc:x.cells? with
   | none=>simp[hc]at hf
   | some l =>
    simp only[hc]at hf;cases hb:Nat.beq l.length size with
    | false=>simp[hb]at hf
    | true =>
     simp only[hb]at hf;cases cJ:Nat.ble (off+size) xs.length with
     | false=>simp[cJ]at hf
     | true =>
      simp only[cJ]at hf;have e1:l.length=size:=zA8 hb;have e2:off+size<=xs.length:=Nat.le_of_ble_eq_true cJ;obtain⟨c1,c2,c3⟩:=cells?_rep hx hc;have Ln:=h.set (l:=l) (ls:=v.cells) (off:=off) ⟨c1.symm,c2⟩ va5;obtain⟨us,Ee,Gv⟩:=nc (k9:=k9) (ps:=ps) (by simpa using hl) (fun j hj=>by have:=hp (j+1) (by simpa using hj);simpa using this) Ln hf;refine⟨us,?_,Gv⟩;have TI:v.cells.toList.length=v.cells.size:=by simp
      have sF:=lH v.cells.toList vs off 0 (by rw[TI,c1,e1,<- h.1];omega);simp only[Instr.fill,ji];have c4:¬ (v.cells.size≠size):=by omega
      have c5:¬ (vs.size<off+v.cells.size):=by rw[<- h.1];omega
      have hz:v.cells.zipIdx.foldl (fun cs (c,j)=>cs.setIfInBounds (off+j) c) vs=x8 vs off v.cells.toList:=by
       rw[<- Array.foldl_toList];simpa using sF
      simp only[c4,c5,hz,if_false,decide_false,Bool.or_false,Bool.false_or,gt_iff_lt];simpa[c4,c5]using Ee
theorem y6.tts{F:Nat->Prop}{w:World}{x:AV}{v:Value}(h:y6 F w x v):y6 F w (Q3 x) v:=by
 cases x
 case tt=>cases h;exact .bool _
 case ff=>cases h;exact .bool _
 all_goals exact h
theorem C4.tts{β:Nat->Option Hd}{F:Nat->Prop}{w:World}{x:AV}{v:Value}(h:C4 β F w x v):C4 β F w (Q3 x) v:=by
 cases x
 case tt=>cases h with
  | imm h=>exact .imm h.tts
 case ff=>cases h with
  | imm h=>exact .imm h.tts
 all_goals exact h
theorem gF(args:List AV)(i:Nat):(args.map Q3).getD i .any=Q3 (args.getD i .any):=by
 simp only[List.getD,List.getElem?_map];cases args[i]? <;> rfl
theorem wV{α:Type}{E5:List (List AV)}{enc:α->List AV}{l:List α}{d:α}(h:(E5.map fun cs=>cs.map Q3)=l.map enc){i:Nat}(hi:i<l.length):(E5.getD i []).map Q3=enc (l.getD i d):=by
 have e1:(E5.map fun cs=>cs.map Q3).getD i []=(E5.getD i []).map Q3:=by
  simp only[List.getD,List.getElem?_map];cases E5[i]? <;> rfl
 have e2:(l.map enc).getD i []=enc (l.getD i d):=by simp[List.getD,hi]
 rw[<- e1,h,e2]
theorem jI{α:Type}{E5:List (List AV)}{enc:α->List AV}{l:List α}(h:(E5.map fun cs=>cs.map Q3)=l.map enc):E5.length=l.length:=by
 have:=congrArg List.length h;simpa using this

end Go.Ev
