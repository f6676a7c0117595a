/- Helper lemmas. -/
import Derived.Deep.Quiet
import Derived.Below
import Derived.KernelRfl
import Derived.Laws.AppendOwn
import Derived.Laws.CopyRow
import Derived.RangeFuncNested
import Derived.Laws.StructEq
import Derived.ChangeKeysEq
set_option linter.unusedVariables false
set_option linter.unusedSimpArgs false
/- Abstract values, and how they stand for values in memory. A helper text: it speaks of no program. -/
namespace Go.Ev
inductive AV:Type 1
 | any|tt|ff
 | bool (b:Bool)
 | int (k:IntKind) (n:Int)
 | str (s:ByteArray)
 | mapv (c:Nat)
 | nilp|nils|nilf
 | agg (l:List AV)
 | tup (l:List AV)
 | sl {α:Type} (sz:Nat) (d:α) (enc:α->List AV) (l:List α)
 | slc (sz:Nat) (z7:List (List AV))
 | sf {α:Type} (sz:Nat) (d:α) (enc:α->List AV) (l:List α)
 | pt (cs:List AV) (off:Nat)
 | ptr (id sz i off:Nat)
 | own (id:Nat)
 | mem (id i:Nat)
 | mptr (id i k:Nat)
 | fn (f:Fn) (first u4:List AV)
structure Hd where
 b:Option Nat
 len:Nat
 cap:Nat
 m:Nat->Option Nat×Nat×Nat
def bd:Nat->Option Nat×Nat×Nat:=fun _=>(none,0,0)
def N4:Option Hd->Nat->Prop
 | none,_=>False
 | some hd,b=>hd.b=some b∨∃ k,(hd.m k).1=some b
@[simp] theorem Eb (b:Nat):N4 none b↔False:=Iff.rfl
@[simp] theorem F8 {x:Option Nat} {len cap b:Nat}:N4 (some ⟨x,len,cap,bd⟩) b↔x=some b:=by simp [N4,bd]
theorem w8 {hd:Hd} {b:Nat} (h:hd.b=some b):N4 (some hd) b := .inl h
theorem N5 {hd:Hd} {k b:Nat} (h:(hd.m k).1=some b):N4 (some hd) b := .inr ⟨k,h⟩
theorem X4 {hd:Hd} {b:Nat} (hm:hd.m=bd):N4 (some hd) b↔hd.b=some b:=by simp [N4,hm,bd]
def ed:Obj->Bool
 | .cells .. => true
 | .map .. => true
 | .mapIter .. => true
 | _=>false
structure zR where
 Φ:(Nat->Prop)->Hd->World->Prop
 st:∀ (F F':Nat->Prop) (hd:Hd) (w w':World),(∀ b,F b->F' b)->(∀ (b o:Nat) (v:Value),F b->w.cell? ⟨b,o,none⟩=some v->w'.cell? ⟨b,o,none⟩=some v)->(∀ b,N4 (some hd) b->w'.heap[b]? = w.heap[b]?)->Φ F hd w->Φ F' hd w'
 fr:∀ (F:Nat->Prop) (hd:Hd) (w:World) (b:Nat),Φ F hd w->N4 (some hd) b->∃ o,w.heap[b]? = some o/\ed o=true
inductive Row:Type 1
 | none
 | cells (ty:TypeId) (cs:List AV)
 | lit (ty:TypeId) (sz:Nat) (z7:List (List AV))
 | vec {α:Type} (ty:TypeId) (sz:Nat) (d:α) (enc:α->List AV) (l:List α)
 | ctr (l:Nat) (xs:List (List AV)) (k:Nat) (e:Bool)
 | nest {α:Type} (ty:TypeId) (sz j0:Nat) (F5:TypeId) (d:α) (enc:α->List AV) (ys:α->List Int) (ho:Option Nat) (l:List α)
 | opq (o:zR)
inductive p9 (F:Nat->Prop) (w:World):AV->Value->Prop
 | any (v):p9 F w .any v
 | tt:p9 F w .tt (.bool true)
 | ff:p9 F w .ff (.bool false)
 | bool (b):p9 F w (.bool b) (.bool b)
 | int (k n):p9 F w (.int k n) (.int k n)
 | str (s):p9 F w (.str s) (.string s)
 | mapv (c):p9 F w (.mapv c) (.map (some c))
 | nilp:p9 F w .nilp (.pointer none)
 | nils:p9 F w .nils (.slice none 0 0)
 | nilf:p9 F w .nilf .nilFunc
 | agg {xs:List AV} {vs:Array Value} (hl:xs.length=vs.size) (h:∀ i,i < xs.length->p9 F w (xs.getD i .any) (vs.getD i undef)):p9 F w (.agg xs) (.agg vs)
 | tup {xs:List AV} {vs:Array Value} (hl:xs.length=vs.size) (h:∀ i,i < xs.length->p9 F w (xs.getD i .any) (vs.getD i undef)):p9 F w (.tup xs) (.tuple vs)
 | slnil {α:Type} {sz:Nat} {d:α} {enc:α->List AV} {x:Option Addr} {cap:Nat}:p9 F w (.sl sz d enc []) (.slice x 0 cap)
 | sl {α:Type} {sz:Nat} {d:α} {enc:α->List AV} {l:List α} {b o cap:Nat} (g:Nat->Nat->Value) (hc:l.length<=cap)
   (hb:∀ i j,i < l.length->j < sz->F b/\w.cell? ⟨b,o + i * sz + j,none⟩=some (g i j))
   (h:∀ i j,i < l.length->j < sz->p9 F w ((enc (l.getD i d)).getD j .any) (g i j)) :
   p9 F w (.sl sz d enc l) (.slice (some ⟨b,o,none⟩) l.length cap)
 | sfnil {α:Type} {sz:Nat} {d:α} {enc:α->List AV} {x:Option Addr}:p9 F w (.sf sz d enc []) (.slice x 0 0)
 | sf {α:Type} {sz:Nat} {d:α} {enc:α->List AV} {l:List α} {b o:Nat} (g:Nat->Nat->Value)
   (hb:∀ i j,i < l.length->j < sz->F b/\w.cell? ⟨b,o + i * sz + j,none⟩=some (g i j))
   (h:∀ i j,i < l.length->j < sz->p9 F w ((enc (l.getD i d)).getD j .any) (g i j)) :
   p9 F w (.sf sz d enc l) (.slice (some ⟨b,o,none⟩) l.length l.length)
 | slcnil {sz:Nat}:p9 F w (.slc sz []) (.slice none 0 0)
 | slc {sz:Nat} {z7:List (List AV)} {b o cap:Nat} (g:Nat->Nat->Value) (hc:z7.length<=cap)
   (hb:∀ i j,i < z7.length->j < sz->F b/\w.cell? ⟨b,o + i * sz + j,none⟩=some (g i j))
   (h:∀ i j,i < z7.length->j < sz->p9 F w ((z7.getD i []).getD j .any) (g i j)) :
   p9 F w (.slc sz z7) (.slice (some ⟨b,o,none⟩) z7.length cap)
 | pt {cs:List AV} {off b o:Nat} (g:Nat->Value)
   (hb:∀ j,j < cs.length->F b/\w.cell? ⟨b,o + j,none⟩=some (g j))
   (h:∀ j,j < cs.length->p9 F w (cs.getD j .any) (g j)):p9 F w (.pt cs off) (.pointer (some ⟨b,o + off,none⟩))
 | fn {f:Fn} {xs ys:List AV} {vs us:Array Value} (hl:xs.length=vs.size) (h:∀ i,i < xs.length->p9 F w (xs.getD i .any) (vs.getD i undef))
   (hm:ys.length=us.size) (k:∀ i,i < ys.length->p9 F w (ys.getD i .any) (us.getD i undef)):p9 F w (.fn f xs ys) (.func f vs us)
theorem p9.mono {F F':Nat->Prop} {w w':World} (hF:∀ b,F b->F' b) (hw:∀ b o v,F b->w.cell? ⟨b,o,none⟩=some v->w'.cell? ⟨b,o,none⟩=some v)
  {x:AV} {v:Value} (h:p9 F w x v):p9 F' w' x v:=by
 induction h with
 | any v=>exact .any v
 | tt=>exact .tt
 | ff=>exact .ff
 | bool b=>exact .bool b
 | int k n=>exact .int k n
 | str s=>exact .str s
 | mapv c=>exact .mapv c
 | nilp=>exact .nilp
 | nils=>exact .nils
 | nilf=>exact .nilf
 | agg hl _ ih=>exact .agg hl ih
 | tup hl _ ih=>exact .tup hl ih
 | slnil=>exact .slnil
 | sl g hc hb _ ih=>exact .sl g hc (fun i j hi hj=>⟨hF _ (hb i j hi hj).1,hw _ _ _ (hb i j hi hj).1 (hb i j hi hj).2⟩) ih
 | sfnil=>exact .sfnil
 | sf g hb _ ih=>exact .sf g (fun i j hi hj=>⟨hF _ (hb i j hi hj).1,hw _ _ _ (hb i j hi hj).1 (hb i j hi hj).2⟩) ih
 | slcnil=>exact .slcnil
 | slc g hc hb _ ih=>exact .slc g hc (fun i j hi hj=>⟨hF _ (hb i j hi hj).1,hw _ _ _ (hb i j hi hj).1 (hb i j hi hj).2⟩) ih
 | pt g hb _ ih=>exact .pt g (fun j hj=>⟨hF _ (hb j hj).1,hw _ _ _ (hb j hj).1 (hb j hj).2⟩) ih
 | fn hl _ hm _ ih ik=>exact .fn hl ih hm ik
theorem p9.there {F:Nat->Prop} {w:World} {x:AV} {v:Value} (h:p9 F w x v):p9 (fun b=>F b/\b < w.heap.size) w x v:=by
 have lt:∀ {b o:Nat} {u:Value},w.cell? ⟨b,o,none⟩=some u->b < w.heap.size:=fun {b o u} hc=>World.block_lt_of_cell? w ⟨b,o,none⟩ hc
 induction h with
 | any v=>exact .any v
 | tt=>exact .tt
 | ff=>exact .ff
 | bool b=>exact .bool b
 | int k n=>exact .int k n
 | str s=>exact .str s
 | mapv c=>exact .mapv c
 | nilp=>exact .nilp
 | nils=>exact .nils
 | nilf=>exact .nilf
 | agg hl _ ih=>exact .agg hl ih
 | tup hl _ ih=>exact .tup hl ih
 | slnil=>exact .slnil
 | sl g hc hb _ ih=>exact .sl g hc (fun i j hi hj=>⟨⟨(hb i j hi hj).1,lt (hb i j hi hj).2⟩,(hb i j hi hj).2⟩) ih
 | sfnil=>exact .sfnil
 | sf g hb _ ih=>exact .sf g (fun i j hi hj=>⟨⟨(hb i j hi hj).1,lt (hb i j hi hj).2⟩,(hb i j hi hj).2⟩) ih
 | slcnil=>exact .slcnil
 | slc g hc hb _ ih=>exact .slc g hc (fun i j hi hj=>⟨⟨(hb i j hi hj).1,lt (hb i j hi hj).2⟩,(hb i j hi hj).2⟩) ih
 | pt g hb _ ih=>exact .pt g (fun j hj=>⟨⟨(hb j hj).1,lt (hb j hj).2⟩,(hb j hj).2⟩) ih
 | fn hl _ hm _ ih ik=>exact .fn hl ih hm ik
inductive v7 (β:Nat->Option Hd) (F:Nat->Prop) (w:World):AV->Value->Prop
 | imm {x v} (h:p9 F w x v):v7 β F w x v
 | ptr {id sz i off b:Nat} {hd:Hd} (hb:β id=some hd) (hh:hd.b=some b):v7 β F w (.ptr id sz i off) (.pointer (some ⟨b,i * sz + off,none⟩))
 | own {id:Nat} {hd:Hd} (hb:β id=some hd):v7 β F w (.own id) (.slice (hd.b.map fun b=>⟨b,0,none⟩) hd.len hd.cap)
 | mem {id i:Nat} {hd:Hd} (hb:β id=some hd) (hi:i < hd.len):v7 β F w (.mem id i) (.slice ((hd.m i).1.map fun b=>⟨b,0,none⟩) (hd.m i).2.1 (hd.m i).2.2)
 | mptr {id i k b:Nat} {hd:Hd} (hb:β id=some hd) (hh:(hd.m i).1=some b) (hi:i < hd.len) (hk:k < (hd.m i).2.1):v7 β F w (.mptr id i k) (.pointer (some ⟨b,k,none⟩))
 | agg {xs:List AV} {vs:Array Value} (hl:xs.length=vs.size) (h:∀ i,i < xs.length->v7 β F w (xs.getD i .any) (vs.getD i undef)):v7 β F w (.agg xs) (.agg vs)
 | tup {xs:List AV} {vs:Array Value} (hl:xs.length=vs.size) (h:∀ i,i < xs.length->v7 β F w (xs.getD i .any) (vs.getD i undef)):v7 β F w (.tup xs) (.tuple vs)
 | fn {f:Fn} {xs ys:List AV} {vs us:Array Value} (hl:xs.length=vs.size) (h:∀ i,i < xs.length->v7 β F w (xs.getD i .any) (vs.getD i undef))
   (hm:ys.length=us.size) (k:∀ i,i < ys.length->v7 β F w (ys.getD i .any) (us.getD i undef)):v7 β F w (.fn f xs ys) (.func f vs us)
def y0 (F:Nat->Prop) (w w':World):Prop:=∀ (b o:Nat) (v:Value),F b->w.cell? ⟨b,o,none⟩=some v->w'.cell? ⟨b,o,none⟩=some v
theorem y0.refl (F:Nat->Prop) (w:World):y0 F w w:=fun _ _ _ _ h=>h
theorem v7.grow {β β':Nat->Option Hd} {F F':Nat->Prop} {w w':World} (hβ:∀ j,β j≠none->β' j=β j) (hF:∀ b,F b->F' b) (hw:y0 F w w')
  {x:AV} {v:Value} (h:v7 β F w x v):v7 β' F' w' x v:=by
 induction h with
 | imm h=>exact .imm (h.mono hF hw)
 | ptr hb hh=>exact .ptr ((hβ _ (by simp [hb])).trans hb) hh
 | own hb=>exact .own ((hβ _ (by simp [hb])).trans hb)
 | mem hb hi=>exact .mem ((hβ _ (by simp [hb])).trans hb) hi
 | mptr hb hh hi hk=>exact .mptr ((hβ _ (by simp [hb])).trans hb) hh hi hk
 | agg hl _ ih=>exact .agg hl ih
 | tup hl _ ih=>exact .tup hl ih
 | fn hl _ hm _ ih ik=>exact .fn hl ih hm ik
mutual
def AV.names (id:Nat):AV->Bool
 | .ptr j _ _ _=>Nat.beq j id
 | .own j=>Nat.beq j id
 | .mem j _=>Nat.beq j id
 | .mptr j _ _=>Nat.beq j id
 | .agg l=>bX id l
 | .tup l=>bX id l
 | .fn _ a b=>bX id a || bX id b
 | _=>false
def bX (id:Nat):List AV->Bool
 | []=>false
 | a :: l=>a.names id || bX id l
end
theorem U2 {id:Nat}:∀ {l:List AV},bX id l=false->∀ i,i < l.length->(l.getD i .any).names id=false
 | a :: l,h,0,_=>by simp [bX] at h;exact h.1
 | a :: l,h,i + 1,hi=>by
  simp [bX] at h
  have:=U2 h.2 i (by simpa using hi)
  simpa using this
theorem v7.turn {β β':Nat->Option Hd} {F:Nat->Prop} {w:World} {id:Nat} (hβ:∀ j,j≠id->β' j=β j) {x:AV} {v:Value} (h:v7 β F w x v) (hx:x.names id=false):v7 β' F w x v:=by
 induction h with
 | imm h=>exact .imm h
 | ptr hb hh=>exact .ptr ((hβ _ (fun e=>by subst e;simp [AV.names] at hx)).trans hb) hh
 | own hb=>exact .own ((hβ _ (fun e=>by subst e;simp [AV.names] at hx)).trans hb)
 | mem hb hi=>exact .mem ((hβ _ (fun e=>by subst e;simp [AV.names] at hx)).trans hb) hi
 | mptr hb hh hi hk=>exact .mptr ((hβ _ (fun e=>by subst e;simp [AV.names] at hx)).trans hb) hh hi hk
 | agg hl _ ih=>exact .agg hl fun i hi=>ih i hi (U2 (by simpa [AV.names] using hx) i hi)
 | tup hl _ ih=>exact .tup hl fun i hi=>ih i hi (U2 (by simpa [AV.names] using hx) i hi)
 | fn hl _ hm _ ih ik =>
  simp [AV.names] at hx
  exact .fn hl (fun i hi=>ih i hi (U2 hx.1 i hi)) hm (fun i hi=>ik i hi (U2 hx.2 i hi))
mutual
def AV.closed:AV->Bool
 | .ptr .. => false
 | .own .. => false
 | .mem .. => false
 | .mptr .. => false
 | .agg l=>B4 l
 | .tup l=>B4 l
 | .fn _ a b=>B4 a && B4 b
 | _=>true
def B4:List AV->Bool
 | []=>true
 | a :: l=>a.closed && B4 l
end
theorem B8:∀ {l:List AV},B4 l=true->∀ i,(l.getD i .any).closed=true
 | [],_,_=>rfl
 | a :: l,h,0=>by simp [B4] at h;exact h.1
 | a :: l,h,i + 1=>by
  simp [B4] at h
  have:=B8 h.2 i
  simpa using this
theorem v7.shut {β:Nat->Option Hd} {F:Nat->Prop} {w:World} {x:AV} {v:Value} (h:v7 β F w x v) (hx:x.closed=true):p9 F w x v:=by
 induction h with
 | imm h=>exact h
 | ptr=>simp [AV.closed] at hx
 | own=>simp [AV.closed] at hx
 | mem=>simp [AV.closed] at hx
 | mptr=>simp [AV.closed] at hx
 | agg hl _ ih=>exact .agg hl fun i hi=>ih i hi (B8 (by simpa [AV.closed] using hx) i)
 | tup hl _ ih=>exact .tup hl fun i hi=>ih i hi (B8 (by simpa [AV.closed] using hx) i)
 | fn hl _ hm _ ih ik =>
  simp [AV.closed] at hx
  exact .fn hl (fun i hi=>ih i hi (B8 hx.1 i)) hm (fun i hi=>ik i hi (B8 hx.2 i))
mutual
def AV.flat:AV->Bool
 | .any | .tt | .ff | .bool _ | .int _ _ | .str _ | .mapv _ | .nilp | .nils | .nilf=>true
 | .agg l=>Y7 l
 | .tup l=>Y7 l
 | .fn _ a b=>Y7 a && Y7 b
 | _=>false
def Y7:List AV->Bool
 | []=>true
 | a :: l=>a.flat && Y7 l
end
theorem H9:∀ {l:List AV},Y7 l=true->∀ i,(l.getD i .any).flat=true
 | [],_,_=>rfl
 | a :: l,h,0=>by simp [Y7] at h;exact h.1
 | a :: l,h,i + 1=>by
  simp [Y7] at h
  have:=H9 h.2 i
  simpa using this
theorem p9.lift {F F':Nat->Prop} {w w':World} {x:AV} {v:Value} (h:p9 F w x v) (hx:x.flat=true):p9 F' w' x v:=by
 induction h with
 | any v=>exact .any v
 | tt=>exact .tt
 | ff=>exact .ff
 | bool b=>exact .bool b
 | int k n=>exact .int k n
 | str s=>exact .str s
 | mapv c=>exact .mapv c
 | nilp=>exact .nilp
 | nils=>exact .nils
 | nilf=>exact .nilf
 | agg hl _ ih=>exact .agg hl fun i hi=>ih i hi (H9 (by simpa [AV.flat] using hx) i)
 | tup hl _ ih=>exact .tup hl fun i hi=>ih i hi (H9 (by simpa [AV.flat] using hx) i)
 | fn hl _ hm _ ih ik =>
  simp [AV.flat] at hx
  exact .fn hl (fun i hi=>ih i hi (H9 hx.1 i)) hm (fun i hi=>ik i hi (H9 hx.2 i))
 | _=>simp [AV.flat] at hx
def AV.ofConst:Value->AV
 | .bool true => .tt
 | .bool false => .ff
 | .int k n => .int k n
 | .string s => .str s
 | .pointer none => .nilp
 | .slice none 0 0 => .nils
 | .nilFunc => .nilf
 | _ => .any
theorem p9.ofConst {F:Nat->Prop} {w:World} (v:Value):p9 F w (.ofConst v) v:=by
 unfold AV.ofConst
 split<;>constructor
def AV.cells:AV->List AV
 | .agg l=>l
 | x=>[x]
inductive Md
 | plain
 | round (ks:List Nat)
 | iter
structure St:Type 1 where
 t:List AV
 h:List Row
 n:Md
structure Out:Type 1 where
 v:AV
 rows:List (Nat×Row)
def St.get (S:St):Operand->AV
 | .tmp i=>S.t.getD i .any
 | .const v=>AV.ofConst v
 | .global _ => .any
 | .func f => .fn (.func f) [] []
def St.row (S:St) (id:Nat):Row:=S.h.getD id .none
def m0 (h:List Row):List (Nat×Row)->List Row
 | []=>h
 | (i,r) :: l=>m0 (h.set i r) l
def V0 (t:List AV) (dst:Option Nat) (v:AV):List AV :=
 match dst with
 | some d=>t.set d v
 | none=>t
def St.put (S:St) (dst:Option Nat) (o:Out):St:=⟨V0 S.t dst o.v,m0 S.h o.rows,S.n⟩
def bR (i:Nat):List Nat->Bool
 | []=>false
 | d :: l=>match Nat.beq i d with
  | true=>true
  | false=>bR i l
def u3 (S:St) (d:Nat):Bool :=
 match Nat.blt d S.t.length with
 | true=>match S.n with
  | .round ks=>bR d ks
  | _=>true
 | false=>false
def bS (w:World) (ty:TypeId) (m:Option Nat×Nat×Nat):Option (List Int)->Value->Prop
 | none,_=>m=(none,0,0)
 | some zs,v=>v = .slice (m.1.map fun b=>⟨b,0,none⟩) m.2.1 m.2.2/\m.2.1=zs.length/\((zs=[]/\m.1=none/\m.2.2=0)∨∃ c us,m.1=some c/\w.heap[c]? = some (.cells us ty (0,0)) /\
   zs.length<=m.2.2/\m.2.2<=maxLen/\us.size=m.2.2/\∀ k,k < zs.length->us.getD k undef = .int .i64 (zs.getD k 0))
def dz {α:Type} (ys:α->List Int) (d:α) (ho:Option Nat) (l:List α) (i:Nat):Option (List Int):=if i < l.length/\ho≠some i then some (ys (l.getD i d)) else none
theorem bS.same {w w':World} {ty:TypeId} {m:Option Nat×Nat×Nat} {o:Option (List Int)} {v:Value} (hb:∀ c,m.1=some c->w'.heap[c]? = w.heap[c]?) (h:bS w ty m o v):bS w' ty m o v:=by
 cases o with
 | none=>exact h
 | some zs =>
  obtain ⟨h1,h2,h3⟩:=h
  refine ⟨h1,h2,?_⟩
  rcases h3 with h3|⟨c,us,h4,h5,h6⟩
  ·exact .inl h3
  ·exact .inr ⟨c,us,h4,(hb c h4).trans h5,h6⟩
theorem bS.cells {w:World} {ty:TypeId} {m:Option Nat×Nat×Nat} {o:Option (List Int)} {v:Value} (h:bS w ty m o v) {c:Nat} (hc:m.1=some c):∃ us,w.heap[c]? = some (.cells us ty (0,0)):=by
 cases o with
 | none=>rw [show m=(none,0,0) from h] at hc;cases hc
 | some zs =>
  obtain ⟨_,_,h3⟩:=h
  rcases h3 with ⟨_,h3,_⟩|⟨c',us,h4,h5,_⟩
  ·rw [h3] at hc;cases hc
  ·rw [h4] at hc;cases hc;exact ⟨us,h5⟩
def s9 (β:Nat->Option Hd) (F:Nat->Prop) (w:World) (id:Nat):Row->Prop
 | .none=>True
 | .ctr _ _ _ _=>∃ hd,β id=some hd/\hd.m=bd/\hd.b=none
 | .cells ty cs=>∃ hd b vs,β id=some hd/\hd.m=bd/\hd.b=some b/\w.heap[b]? = some (.cells vs ty (0,0))/\vs.size=cs.length/\∀ i,i < cs.length->v7 β F w (cs.getD i .any) (vs.getD i undef)
 | .lit ty sz z7=>∃ hd b vs,β id=some hd/\hd.m=bd/\hd.b=some b/\w.heap[b]? = some (.cells vs ty (0,0))/\hd.len=z7.length/\hd.cap=z7.length/\vs.size=z7.length * sz/\z7.length<=maxLen /\
   ∀ i j,i < z7.length->j < sz->v7 β F w ((z7.getD i []).getD j .any) (vs.getD (i * sz + j) undef)
 | .vec ty sz d enc l=>∃ hd,β id=some hd/\hd.m=bd/\hd.len=l.length/\((l=[]/\hd.b=none/\hd.cap=0)∨∃ b vs,hd.b=some b/\w.heap[b]? = some (.cells vs ty (0,0)) /\
   l.length<=hd.cap/\hd.cap<=maxLen/\vs.size=hd.cap * sz/\∀ i j,i < l.length->j < sz->p9 F w ((enc (l.getD i d)).getD j .any) (vs.getD (i * sz + j) undef))
 | .nest ty sz j0 F5 d enc ys ho l=>∃ hd,β id=some hd/\hd.len=l.length/\((l=[]/\hd.b=none/\hd.cap=0/\hd.m=bd)∨∃ b vs,hd.b=some b/\w.heap[b]? = some (.cells vs ty (0,0)) /\
   l.length<=hd.cap/\hd.cap<=maxLen/\vs.size=hd.cap * sz /\
   (∀ i j,i < l.length->j < sz->j≠j0->p9 F w ((enc (l.getD i d)).getD j .any) (vs.getD (i * sz + j) undef)) /\
   (∀ i,bS w F5 (hd.m i) (dz ys d ho l i) (vs.getD (i * sz + j0) undef))/\(∀ i k c,(hd.m i).1=some c->(hd.m k).1=some c->i=k)/\∀ i c,(hd.m i).1=some c->c≠b)
 | .opq o=>∃ hd,β id=some hd/\o.Φ F hd w
def o7 (β:Nat->Option Hd) (i b:Nat):Prop:=N4 (β i) b
structure D6 (O:Nat->Prop) (w w':World):Prop where
 os:w'.os=w.os
 tape:w'.tape=w.tape
 output:w'.output=w.output
 size:w.heap.size<=w'.heap.size
 block:∀ k,¬ O k->w'.heap[k]? = w.heap[k]?
theorem D6.refl (O:Nat->Prop) (w:World):D6 O w w:=⟨rfl,rfl,rfl,Nat.le_refl _,fun _ _=>rfl⟩
theorem D6.trans {O:Nat->Prop} {a b c:World} (h:D6 O a b) (k:D6 O b c):D6 O a c :=
 ⟨k.os.trans h.os,k.tape.trans h.tape,k.output.trans h.output,Nat.le_trans h.size k.size,fun i hi=>(k.block i hi).trans (h.block i hi)⟩
theorem D6.alloc {O:Nat->Prop} {a w:World} (h:D6 O a w) (hB:∀ b,w.heap.size<=b->O b) (o:Obj):D6 O a (w.alloc o) :=
 h.trans ⟨rfl,rfl,rfl,by simp,fun k hk=>RowKit.Below.heap_alloc _ _ _ (Nat.lt_of_not_le fun hle=>hk (hB k hle))⟩
theorem D6.mono {O O':Nat->Prop} {w w':World} (h:D6 O w w') (hO:∀ b,O b->O' b):D6 O' w w':=⟨h.os,h.tape,h.output,h.size,fun k hk=>h.block k fun ho=>hk (hO k ho)⟩
theorem D6.below {n:Nat} {w w':World} (h:D6 (fun b=>n<=b) w w'):RowKit.Below n w w':=⟨h.os,h.tape,h.output,h.size,fun k hk=>h.block k (by omega)⟩
structure Env (P:Program):Type 1 where
 F:Nat->Prop
 β:Nat->Option Hd
 r:Option Nat
 n:Md
 nr:(∀ ks,n ≠ .round ks)->r=none
 l:Nat
 xs:List (List AV)
 J:Nat->Bool->(Nat->Prop)->World->Prop
 ni:∀ k e O w,J k e O w->n = .iter
 st:∀ k e O w w',J k e O w->(∀ b,b < w.heap.size->¬ O b->w'.heap[b]? = w.heap[b]?)->w'.os=w.os->w'.tape=w.tape->w'.output=w.output->w.heap.size<=w'.heap.size ->
  J k e (fun b=>O b∨(w.heap.size<=b/\b < w'.heap.size)) w'
 rd:∀ k O W vs x,J k false O W->xs[k]? = some x->(∀ b,O b->b < W.heap.size)->vs.size=x.length->(∀ i,i < x.length->p9 (fun _=>False) W (x.getD i .any) (vs.getD i undef)) ->
  YieldAt Fence.wide 0 P l vs W fun e W'=>W'.os=W.os/\W'.tape=W.tape/\W'.output=W.output/\W.heap.size<=W'.heap.size/\(∀ b,O b->W'.heap[b]? = W.heap[b]?)/\y0 F W W' /\
   ((e = .returned (.bool true)/\J (k + 1) false O W')∨(e = .returned (.bool false)/\J (k + 1) true O W'))
def Env.plain (P:Program) (F:Nat->Prop) (β:Nat->Option Hd) (r:Option Nat) (n:Md) (nr:(∀ ks,n ≠ .round ks)->r=none):Env P :=
 ⟨F,β,r,n,nr,0,[],fun _ _ _ _=>False,fun _ _ _ _ h=>h.elim,fun _ _ _ _ _ h=>h.elim,fun _ _ _ _ _ h=>h.elim⟩
abbrev I0 (D:Nat):Deferred:={ target := .collected D,args:=#[] }
structure Rel {P:Program} (B:Nat->Prop) (w0:World) (F0:Env P) (S:St) (β:Nat->Option Hd) (F:Nat->Prop) (a:Act) (w:World):Prop where
 len:S.t.length=a.tmps.size
 slots:∀ i,i < S.t.length->v7 β F w (S.t.getD i .any) (a.tmps.getD i undef)
 marks:∃ Ds:List Nat,(a.defers=Ds.map I0/\(F0.n ≠ .plain->Ds=[]))/\Ds.Nodup/\∀ D ∈ Ds,w.heap[D]? = some (.deferred (some []))/\B D/\w0.heap.size<=D
 rows:∀ id,s9 β F w id (S.row id)
 inj:∀ i j b,S.row i ≠ .none->S.row j ≠ .none->o7 β i b->o7 β j b->i=j
 bF:∀ i b,S.row i ≠ .none->o7 β i b->¬ F b
 bB:∀ i b,o7 β i b->B b/\b < w.heap.size
 FB:∀ b,F b->b < w.heap.size/\(F0.F b∨B b)
 below:D6 B w0 w
 BW:∀ b,w.heap.size<=b->B b
 top:∀ j hd,F0.β j=some hd->β j=some hd
 topn:∀ j,u3 S j=true->F0.β j=none
 nn:S.n=F0.n
 inc:∀ b,F0.F b->F b
 keep:y0 F0.F w0 w
 sol:F0.n ≠ .iter->∀ (k:Nat) (o:Obj),w0.heap[k]? = some o->ed o=false->w.heap[k]? = some o
 yl:∀ id l xs k e,S.row id = .ctr l xs k e->l=F0.l/\xs=F0.xs/\((∀ b,B b)/\F0.r=none)/\∃ O,F0.J k e O w/\(∀ b,O b->b < w.heap.size)/\(∀ i b,S.row i ≠ .none->o7 β i b->O b)/\(∀ b,F b->F0.F b∨O b)/\(∀ D,I0 D ∈ a.defers->O D)/\∀ fM l' oR k' e',S.row fM = .ctr l' oR k' e'->fM=id
theorem Rel.get {P:Program} {B w0} {F0:Env P} {S β F a w} (h:Rel B w0 F0 S β F a w) (x:Operand):v7 β F w (S.get x) (a.eval x):=by
 cases x with
 | tmp i =>
  by_cases hi:i < S.t.length
  ·exact h.slots i hi
  ·have:S.t.getD i .any = .any:=by simp [List.getD,List.getElem?_eq_none (Nat.le_of_not_lt hi)]
   show v7 β F w (S.t.getD i .any) _
   rw [this];exact .imm (.any _)
 | const v=>exact .imm (.ofConst v)
 | global g=>exact .imm (.any _)
 | func f=>exact .imm (.fn rfl (fun i hi=>absurd hi (Nat.not_lt_zero i)) rfl (fun i hi=>absurd hi (Nat.not_lt_zero i)))
theorem P0 (t:List AV) (dst:Option Nat) (v:AV) (i:Nat):(V0 t dst v).getD i .any=if dst=some i/\i < t.length then v else t.getD i .any:=by
 cases dst with
 | none=>simp [V0]
 | some d =>
  simp only [V0,List.getD,List.getElem?_set]
  by_cases hd:d=i
  ·subst hd
   by_cases hl:d < t.length<;>simp [hl]
  ·simp [hd]
theorem L4 (t:List AV) (dst:Option Nat) (v:AV):(V0 t dst v).length=t.length:=by cases dst<;>simp [V0]
theorem kU (a:Act) (dst:Option Nat) (v:Value) (i:Nat):(a.put dst v).tmps.getD i undef=if dst=some i/\i < a.tmps.size then v else a.tmps.getD i undef:=by
 cases dst with
 | none=>simp [Act.put]
 | some d =>
  simp only [Act.put,Array.getD_eq_getD_getElem?,Array.getElem?_setIfInBounds]
  by_cases hd:d=i
  ·subst hd
   by_cases hl:d < a.tmps.size<;>simp [hl]
  ·simp [hd]
theorem kV (a:Act) (dst:Option Nat) (v:Value):(a.put dst v).tmps.size=a.tmps.size:=by cases dst<;>simp [Act.put]
theorem iT (a:Act) (dst:Option Nat) (v:Value):(a.put dst v).defers=a.defers:=by cases dst<;>rfl
theorem s9.grow {β β':Nat->Option Hd} {F F':Nat->Prop} {w w':World} {id:Nat} (hβ:∀ j,β j≠none->β' j=β j) (hF:∀ b,F b->F' b) (hw:y0 F w w')
  (hb:∀ b,o7 β id b->w'.heap[b]? = w.heap[b]?) {r:Row} (h:s9 β F w id r):s9 β' F' w' id r:=by
 cases r with
 | none=>trivial
 | ctr l xs k e=>obtain ⟨hd,h1,hm,h2⟩:=h;exact ⟨hd,(hβ _ (by simp [h1])).trans h1,hm,h2⟩
 | cells ty cs =>
  obtain ⟨hd,b,vs,h1,hm,Cq,h2,h3,h4⟩:=h
  exact ⟨hd,b,vs,(hβ _ (by simp [h1])).trans h1,hm,Cq,(hb b (by simp [o7,N4,h1,Cq])).trans h2,h3,fun i hi=>(h4 i hi).grow hβ hF hw⟩
 | lit ty sz z7 =>
  obtain ⟨hd,b,vs,h1,hm,Cq,h2,h3,h4,h5,h6,h7⟩:=h
  exact ⟨hd,b,vs,(hβ _ (by simp [h1])).trans h1,hm,Cq,(hb b (by simp [o7,N4,h1,Cq])).trans h2,h3,h4,h5,h6,fun i j hi hj=>(h7 i j hi hj).grow hβ hF hw⟩
 | vec ty sz d enc l =>
  obtain ⟨hd,h1,hm,h2,h3⟩:=h
  refine ⟨hd,(hβ _ (by simp [h1])).trans h1,hm,h2,?_⟩
  rcases h3 with h3|⟨b,vs,h4,h5,h6,h7,h8,h9⟩
  ·exact .inl h3
  ·exact .inr ⟨b,vs,h4,(hb b (by simp [o7,N4,h1,h4])).trans h5,h6,h7,h8,fun i j hi hj=>(h9 i j hi hj).mono hF hw⟩
 | nest ty sz j0 F5 d enc ys ho l =>
  obtain ⟨hd,h1,h2,h3⟩:=h
  refine ⟨hd,(hβ _ (by simp [h1])).trans h1,h2,?_⟩
  rcases h3 with h3|⟨b,vs,h4,h5,h6,h7,h8,h9,GS,Kh⟩
  ·exact .inl h3
  ·exact .inr ⟨b,vs,h4,(hb b (by simp [o7,N4,h1,h4])).trans h5,h6,h7,h8,fun i j hi hj hn=>(h9 i j hi hj hn).mono hF hw,
    fun i=>(GS i).same fun c hc=>hb c (by rw [o7,h1];exact N5 hc),Kh⟩
 | opq o=>obtain ⟨hd,h1,h2⟩:=h;exact ⟨hd,(hβ _ (by simp [h1])).trans h1,o.st F F' hd w w' hF hw (fun b iJ=>hb b (by rw [o7,h1];exact iJ)) h2⟩
theorem s9.some {β:Nat->Option Hd} {F:Nat->Prop} {w:World} {id:Nat} {r:Row} (h:s9 β F w id r) (hr:r ≠ .none):∃ hd,β id=some hd:=by
 cases r with
 | none=>exact absurd rfl hr
 | ctr l xs k e=>obtain ⟨hd,h1,_⟩:=h;exact ⟨hd,h1⟩
 | cells ty cs=>obtain ⟨hd,b,vs,h1,_⟩:=h;exact ⟨hd,h1⟩
 | lit ty sz z7=>obtain ⟨hd,b,vs,h1,_⟩:=h;exact ⟨hd,h1⟩
 | vec ty sz d enc l=>obtain ⟨hd,h1,_⟩:=h;exact ⟨hd,h1⟩
 | nest ty sz j0 F5 d enc ys ho l=>obtain ⟨hd,h1,_⟩:=h;exact ⟨hd,h1⟩
 | opq o=>obtain ⟨hd,h1,_⟩:=h;exact ⟨hd,h1⟩
theorem bY {β:Nat->Option Hd} {F:Nat->Prop} {w:World} {id:Nat} {r:Row} (h:s9 β F w id r) (hr:r ≠ .none) {b:Nat} (hb:o7 β id b):∃ o,w.heap[b]? = some o/\ed o=true:=by
 cases r with
 | none=>exact absurd rfl hr
 | ctr l xs k e=>obtain ⟨hd,h1,hm,h2⟩:=h;rw [o7,h1,X4 hm,h2] at hb;cases hb
 | cells ty cs=>obtain ⟨hd,b',vs,h1,hm,h2,h3,_⟩:=h;rw [o7,h1,X4 hm,h2] at hb;cases hb;exact ⟨_,h3,rfl⟩
 | lit ty sz z7=>obtain ⟨hd,b',vs,h1,hm,h2,h3,_⟩:=h;rw [o7,h1,X4 hm,h2] at hb;cases hb;exact ⟨_,h3,rfl⟩
 | vec ty sz d enc l =>
  obtain ⟨hd,h1,hm,_,h3⟩:=h
  rw [o7,h1,X4 hm] at hb
  rcases h3 with ⟨_,h4,_⟩|⟨b',vs,h4,h5,_⟩
  ·rw [h4] at hb;cases hb
  ·rw [h4] at hb;cases hb;exact ⟨_,h5,rfl⟩
 | nest ty sz j0 F5 d enc ys ho l =>
  obtain ⟨hd,h1,_,h3⟩:=h
  rw [o7,h1] at hb
  rcases h3 with ⟨_,h4,_,hm⟩|⟨b',vs,h4,h5,_,_,_,_,GS,_⟩
  ·rw [X4 hm,h4] at hb;cases hb
  ·rcases hb with hb|⟨k,hk⟩
   ·rw [h4] at hb;cases hb;exact ⟨_,h5,rfl⟩
   ·obtain ⟨us,hu⟩:=(GS k).cells hk
    exact ⟨_,hu,rfl⟩
 | opq o=>obtain ⟨hd,h1,h2⟩:=h;rw [o7,h1] at hb;exact o.fr F hd w b h2 hb
theorem Rel.ylOf {P:Program} {B w0} {F0:Env P} {S β F a w} (hR:Rel B w0 F0 S β F a w) {S':St} {β':Nat->Option Hd} {F':Nat->Prop} (m:Nat->Nat) (h1:∀ id l xs k e,S'.row id = .ctr l xs k e->S.row (m id) = .ctr l xs k e) (hm:∀ i j,S'.row i ≠ .none->S'.row j ≠ .none->m i=m j->i=j)
  (h2:∀ i b,S'.row i ≠ .none->o7 β' i b->∃ j,S.row j ≠ .none/\o7 β j b) (h3:∀ b,F' b->F b∨∃ j,S.row j ≠ .none/\o7 β j b) :
  ∀ id l xs k e,S'.row id = .ctr l xs k e->l=F0.l/\xs=F0.xs/\((∀ b,B b)/\F0.r=none)/\∃ O,F0.J k e O w/\(∀ b,O b->b < w.heap.size)/\(∀ i b,S'.row i ≠ .none->o7 β' i b->O b)/\(∀ b,F' b->F0.F b∨O b)/\(∀ D,I0 D ∈ a.defers->O D)/\∀ fM l' oR k' e',S'.row fM = .ctr l' oR k' e'->fM=id:=by
 intro id l xs k e h
 obtain ⟨hl,hx,hz,O,g1,g2,g3,g4,g5,g6⟩:=hR.yl (m id) l xs k e (h1 id l xs k e h)
 refine ⟨hl,hx,hz,O,g1,g2,fun i b hi u9=>?_,fun b hf=>?_,g5,fun fM l' oR k' e' h'=>hm _ _ (by rw [h'];simp) (by rw [h];simp) (g6 _ _ _ _ _ (h1 _ _ _ _ _ h'))⟩
 ·obtain ⟨j,hj,J5⟩:=h2 i b hi u9
  exact g3 j b hj J5
 ·rcases h3 b hf with h|⟨j,hj,J5⟩
  ·exact g4 b h
  ·exact .inr (g3 j b hj J5)
theorem Rel.solid {P:Program} {B w0} {F0:Env P} {S β F a w} (hR:Rel B w0 F0 S β F a w) {w':World} (oS:∀ b,b < w.heap.size->(∀ j,S.row j ≠ .none->¬ o7 β j b)->w'.heap[b]? = w.heap[b]?)
  {k:Nat} {o:Obj} (ho:w.heap[k]? = some o) (hc:ed o=false):w'.heap[k]? = some o :=
 (oS k (Array.getElem?_eq_some_iff.1 ho).1 fun j hj hb=>by
  obtain ⟨o',h,hf⟩:=bY (hR.rows j) hj hb
  rw [h] at ho;cases ho;rw [hf] at hc;cases hc).trans ho
theorem Rel.step {P:Program} {B w0} {F0:Env P} {S β F a w} (hR:Rel B w0 F0 S β F a w) {w':World} {β':Nat->Option Hd} {F':Nat->Prop} {dst:Option Nat} {out:Out} {v:Value}
  (hβ:∀ j,β j≠none->β' j=β j) (hF:∀ b,F b->F' b) (Cr:∀ b,F' b->b < w'.heap.size/\(F0.F b∨B b)) (hw:y0 F w w')
  (cR:w'.os=w.os/\w'.tape=w.tape/\w'.output=w.output) (Q2:w.heap.size<=w'.heap.size) (hv:v7 β' F' w' out.v v) (bZ:∀ j,s9 β' F' w' j ((m0 S.h out.rows).getD j .none))
  (eh:∀ i j b,(m0 S.h out.rows).getD i .none ≠ .none->(m0 S.h out.rows).getD j .none ≠ .none->o7 β' i b->o7 β' j b->i=j)
  (Ey:∀ i b,(m0 S.h out.rows).getD i .none ≠ .none->o7 β' i b->¬ F' b) (oN:∀ i b,o7 β' i b->B b/\b < w'.heap.size)
  (oS:∀ b,b < w.heap.size->(∀ j,S.row j ≠ .none->¬ o7 β j b)->w'.heap[b]? = w.heap[b]?)
  (K8:∀ i b,(m0 S.h out.rows).getD i .none ≠ .none->o7 β' i b->(∃ j,S.row j ≠ .none/\o7 β j b)∨w.heap.size<=b)
  (Ki:∀ b,F' b->F b∨(∃ j,S.row j ≠ .none/\o7 β j b)∨w.heap.size<=b)
  (zT:∀ id l xs k e,(m0 S.h out.rows).getD id .none = .ctr l xs k e->S.row id = .ctr l xs k e) :
  Rel B w0 F0 (S.put dst out) β' F' (a.put dst v) w' where
 len:=by simp [St.put,L4,kV,hR.len]
 slots:=by
  intro i hi
  simp only [St.put,L4] at hi
  simp only [St.put,P0,kU,hR.len]
  split
  ·exact hv
  ·exact (hR.slots i hi).grow hβ hF hw
 marks:=by
  rw [iT]
  obtain ⟨Ds,⟨h1,h0⟩,h2,h3⟩:=hR.marks
  exact ⟨Ds,⟨h1,h0⟩,h2,fun D hD=>⟨hR.solid oS (h3 D hD).1 rfl,(h3 D hD).2⟩⟩
 rows:=bZ
 inj:=eh
 bF:=Ey
 bB:=oN
 FB:=Cr
 below:=hR.below.trans ⟨cR.1,cR.2.1,cR.2.2,Q2,fun k hk=>by
   by_cases u2:k < w.heap.size
   ·exact oS k u2 fun j _ hb=>hk (hR.bB j k hb).1
   ·exact absurd (hR.BW k (Nat.le_of_not_lt u2)) hk⟩
 BW:=fun b hb=>hR.BW b (Nat.le_trans Q2 hb)
 top:=fun j hd h=>(hβ j (by rw [hR.top j hd h];simp)).trans (hR.top j hd h)
 topn:=fun j hj=>hR.topn j (by simpa [St.put,u3,L4] using hj)
 nn:=hR.nn
 inc:=fun b hb=>hF b (hR.inc b hb)
 keep:=fun b o u hb hc=>hw b o u (hR.inc b hb) (hR.keep b o u hb hc)
 sol:=fun hn k o ho hc=>hR.solid oS (hR.sol hn k o ho hc) hc
 yl:=by
  rw [iT]
  intro id l xs k e sW
  obtain ⟨hl,hx,hz,O,h1,h2,h3,h4,h5,h6⟩:=hR.yl id l xs k e (zT id l xs k e sW)
  have new:∀ b,b < w'.heap.size->w.heap.size<=b->O b∨(w.heap.size<=b/\b < w'.heap.size):=fun b g1 g2 => .inr ⟨g2,g1⟩
  refine ⟨hl,hx,hz,_,F0.st k e O w w' h1 (fun b hb hn=>oS b hb fun j hj J5=>hn (h3 j b hj J5)) cR.1 cR.2.1 cR.2.2 Q2,fun b hb=>?_,fun i b hi u9=>?_,fun b hb=>?_,fun D hD => .inl (h5 D hD),fun fM l' oR k' e' h'=>h6 fM l' oR k' e' (zT _ _ _ _ _ h')⟩
  ·rcases hb with hb|hb
   ·exact Nat.lt_of_lt_of_le (h2 b hb) Q2
   ·exact hb.2
  ·rcases K8 i b hi u9 with ⟨j,hj,J5⟩|h
   ·exact .inl (h3 j b hj J5)
   ·exact new b (oN i b u9).2 h
  ·rcases Ki b hb with h|⟨j,hj,J5⟩|h
   ·exact (h4 b h).imp (fun h=>h) .inl
   ·exact .inr (.inl (h3 j b hj J5))
   ·exact .inr (new b (Cr b hb).1 h)
theorem Rel.still {P:Program} {B w0} {F0:Env P} {S β F a w} (hR:Rel B w0 F0 S β F a w) {dst:Option Nat} {x:AV} {v:Value} (hv:v7 β F w x v):Rel B w0 F0 (S.put dst ⟨x,[]⟩) β F (a.put dst v) w :=
 hR.step (fun _ _=>rfl) (fun _ h=>h) hR.FB (y0.refl _ _) ⟨rfl,rfl,rfl⟩ (Nat.le_refl _) hv hR.rows hR.inj hR.bF hR.bB (fun _ _ _=>rfl) (fun i b hi hb => .inl ⟨i,hi,hb⟩) (fun b hb => .inl hb) (fun id l xs k e h=>h)
theorem oT (F:Nat->Prop) (w:World) (o:Obj) (h:∀ b,F b->b < w.heap.size):y0 F w (w.alloc o):=fun b o' v hb hc=>by
 have:=h b hb
 rw [World.cell?_of_block (w:=w) (RowKit.Below.heap_alloc w o b this)];exact hc
theorem size_alloc (w:World) (o:Obj):(w.alloc o).heap.size=w.heap.size + 1:=by simp
theorem G9 (w:World) (o:Obj):(w.alloc o).heap[w.heap.size]? = some o:=heap_alloc_new w o
theorem l9 (h:List Row) (i:Nat) (r:Row) (j:Nat):(h.set i r).getD j .none=if i=j/\i < h.length then r else h.getD j .none:=by
 simp only [List.getD,List.getElem?_set]
 by_cases hd:i=j
 ·subst hd
  by_cases hl:i < h.length<;>simp [hl]
 ·simp [hd]
theorem bf {S:St} {id:Nat} (h:S.row id ≠ .none):id < S.h.length:=by
 rcases Nat.lt_or_ge id S.h.length with h' | h'
 ·exact h'
 ·exact absurd (by simp [St.row,List.getD,List.getElem?_eq_none h']) h
theorem Rel.alloc {P:Program} {B w0} {F0:Env P} {S β F a w} (hR:Rel B w0 F0 S β F a w) {d:Nat} (hd:β d=none) {dst:Option Nat} {x:AV} {v:Value} {r:Row} {vs:Array Value} {ty:TypeId} (len cap:Nat)
  (hv:∀ β',β' d=some ⟨some w.heap.size,len,cap,bd⟩->(∀ j,β j≠none->β' j=β j)->v7 β' F (w.alloc (.cells vs ty)) x v)
  (hr:∀ β',β' d=some ⟨some w.heap.size,len,cap,bd⟩->(∀ j,β j≠none->β' j=β j)->y0 F w (w.alloc (.cells vs ty))->s9 β' F (w.alloc (.cells vs ty)) d r) (iU:∀ l xs k e,r ≠ .ctr l xs k e) :
  ∃ β',(∀ j,j≠d->β' j=β j)/\Rel B w0 F0 (S.put dst ⟨x,[(d,r)]⟩) β' F (a.put dst v) (w.alloc (.cells vs ty)):=by
 let β':Nat->Option Hd:=fun j=>if j=d then some ⟨some w.heap.size,len,cap,bd⟩ else β j
 have h1:β' d=some ⟨some w.heap.size,len,cap,bd⟩:=by simp [β']
 have h2:∀ j,j≠d->β' j=β j:=fun j hj=>by simp [β',hj]
 have h3:∀ j,β j≠none->β' j=β j:=fun j hj=>h2 j (fun e=>hj (e ▸ hd))
 have b1:∀ b,o7 β' d b↔some w.heap.size=some b:=fun b=>by rw [o7,h1,F8]
 have b2:∀ j b,j≠d->(o7 β' j b↔o7 β j b):=fun j b hj=>by rw [o7,o7,h2 j hj]
 have hk:=oT F w (.cells vs ty) (fun b hb=>(hR.FB b hb).1)
 have BK:=hR.BW
 refine ⟨β',h2,hR.step h3 (fun _ h=>h) (fun b hb=>⟨?_,(hR.FB b hb).2⟩) hk ⟨rfl,rfl,rfl⟩ (by rw [size_alloc];omega) (hv β' h1 h3) ?_ ?_ ?_ ?_ (fun b hb _=>RowKit.Below.heap_alloc w _ b hb) ?_ (fun b hb => .inl hb) ?_⟩
 ·have:=(hR.FB b hb).1;rw [size_alloc];omega
 ·intro j
  simp only [m0,l9]
  split
  ·rename_i h;obtain ⟨rfl,_⟩:=h;exact hr β' h1 h3 hk
  ·rename_i h
   by_cases hj:j=d
   ·subst hj
    have:S.h.getD j .none = .none:=by
     have:¬ j < S.h.length:=fun hl=>h ⟨rfl,hl⟩
     simp [List.getD,List.getElem?_eq_none (Nat.le_of_not_lt this)]
    rw [this];trivial
   ·have:=hR.rows j
    exact this.grow h3 (fun _ h=>h) hk fun b hb=>RowKit.Below.heap_alloc w _ b (hR.bB j b hb).2
 ·intro i j b hi hj u9 J5
  by_cases e:i=d
  ·by_cases e':j=d
   ·exact e.trans e'.symm
   ·subst e
    rw [b1] at u9;rw [b2 j _ e'] at J5
    have:=(hR.bB j b J5).2
    simp at u9;omega
  ·by_cases e':j=d
   ·subst e'
    rw [b1] at J5;rw [b2 i _ e] at u9
    have:=(hR.bB i b u9).2
    simp at J5;omega
   ·rw [b2 i _ e] at u9;rw [b2 j _ e'] at J5
    simp only [m0,l9] at hi hj
    have ni:¬ (d=i/\d < S.h.length):=fun h=>e h.1.symm
    have nj:¬ (d=j/\d < S.h.length):=fun h=>e' h.1.symm
    simp only [ni,nj,if_false] at hi hj
    exact hR.inj i j b hi hj u9 J5
 ·intro i b hi u9 hF
  by_cases e:i=d
  ·subst e;rw [b1] at u9;have:=(hR.FB b hF).1;simp at u9;omega
  ·rw [b2 i _ e] at u9
   simp only [m0,l9] at hi
   have ni:¬ (d=i/\d < S.h.length):=fun h=>e h.1.symm
   simp only [ni,if_false] at hi
   exact hR.bF i b hi u9 hF
 ·intro i b u9
  rw [size_alloc]
  by_cases e:i=d
  ·subst e;rw [b1] at u9;simp at u9;exact ⟨BK b (by omega),by omega⟩
  ·rw [b2 i _ e] at u9;have:=hR.bB i b u9;exact ⟨this.1,by omega⟩
 ·intro i b hi u9
  by_cases e:i=d
  ·subst e;rw [b1] at u9;simp at u9;exact .inr (by omega)
  ·rw [b2 i _ e] at u9
   simp only [m0,l9] at hi
   have ni:¬ (d=i/\d < S.h.length):=fun h=>e h.1.symm
   simp only [ni,if_false] at hi
   exact .inl ⟨i,hi,u9⟩
 ·intro id l xs k e h
  simp only [m0,l9] at h
  split at h
  ·exact absurd h (iU l xs k e)
  ·exact h
theorem Rel.write {P:Program} {B w0} {F0:Env P} {S β F a w} (hR:Rel B w0 F0 S β F a w) {id b:Nat} (v5:S.row id ≠ .none) (hb:o7 β id b) {dst:Option Nat} {x:AV} {v:Value} {r:Row} {w':World}
  (cR:w'.os=w.os/\w'.tape=w.tape/\w'.output=w.output/\w'.heap.size=w.heap.size) (J9:∀ k,k≠b->w'.heap[k]? = w.heap[k]?)
  (hv:y0 F w w'->v7 β F w' x v) (hr:y0 F w w'->s9 β F w' id r) (iU:∀ l xs k e,r ≠ .ctr l xs k e):Rel B w0 F0 (S.put dst ⟨x,[(id,r)]⟩) β F (a.put dst v) w':=by
 have hk:y0 F w w':=fun k o u hF hc=>by
  have:k≠b:=fun e=>hR.bF id b v5 hb (e ▸ hF)
  rw [World.cell?_of_block (w:=w) (J9 k this)];exact hc
 have hl:=bf v5
 have oN:=hR.bB id b hb
 refine hR.step (fun _ _=>rfl) (fun _ h=>h) (fun k hk=>⟨?_,(hR.FB k hk).2⟩) hk ⟨cR.1,cR.2.1,cR.2.2.1⟩ (by rw [cR.2.2.2];exact Nat.le_refl _) (hv hk) ?_ ?_ ?_ ?_ (fun k _ hn=>J9 k fun e=>hn id v5 (e ▸ hb)) ?_ (fun k hk => .inl hk) ?_
 ·rw [cR.2.2.2];exact (hR.FB k hk).1
 ·intro j
  simp only [m0,l9]
  split
  ·rename_i h;obtain ⟨rfl,_⟩:=h;exact hr hk
  ·rename_i h
   have hj:j≠id:=fun e=>h ⟨e.symm,hl⟩
   by_cases hn:S.row j = .none
   ·show s9 β F w' j (S.row j)
    rw [hn];trivial
   ·refine (hR.rows j).grow (fun _ _=>rfl) (fun _ h=>h) hk fun k Gn=>J9 k fun e=>?_
    subst e
    exact hj (hR.inj j id k hn v5 Gn hb)
 ·intro i j k hi hj u9 J5
  have up:∀ i,(m0 S.h [(id,r)]).getD i .none ≠ .none->S.row i ≠ .none:=fun i hi=>by
   by_cases e:i=id
   ·rw [e];exact v5
   ·simp only [m0,l9] at hi
    have ni:¬ (id=i/\id < S.h.length):=fun h=>e h.1.symm
    simpa [ni,St.row] using hi
  exact hR.inj i j k (up i hi) (up j hj) u9 J5
 ·intro i k hi u9
  refine hR.bF i k ?_ u9
  by_cases e:i=id
  ·rw [e];exact v5
  ·simp only [m0,l9] at hi
   have ni:¬ (id=i/\id < S.h.length):=fun h=>e h.1.symm
   simpa [ni,St.row] using hi
 ·intro i k u9
  rw [cR.2.2.2];exact hR.bB i k u9
 ·intro i k hi u9
  refine .inl ⟨i,?_,u9⟩
  by_cases e:i=id
  ·rw [e];exact v5
  ·simp only [m0,l9] at hi
   have ni:¬ (id=i/\id < S.h.length):=fun h=>e h.1.symm
   simpa [ni,St.row] using hi
 ·intro fM l xs k e h
  simp only [m0,l9] at h
  split at h
  ·exact absurd h (iU l xs k e)
  ·exact h
theorem Rel.called {P:Program} {B w0} {F0:Env P} {S β F a w} (hR:Rel B w0 F0 S β F a w) {w':World} (hb:RowKit.Below w.heap.size w w') {dst:Option Nat} {x:AV} {v:Value}
  (hv:∀ F',(∀ b,F b->F' b)->(∀ b,w.heap.size<=b->b < w'.heap.size->F' b)->y0 F w w'->v7 β F' w' x v) :
  ∃ F',Rel B w0 F0 (S.put dst ⟨x,[]⟩) β F' (a.put dst v) w':=by
 have hk:y0 F w w':=fun k o u hF hc=>by
  rw [World.cell?_of_block (w:=w) (hb.block k (hR.FB k hF).1)];exact hc
 have BK:=hR.BW
 refine ⟨fun b=>F b∨(w.heap.size<=b/\b < w'.heap.size),hR.step (fun _ _=>rfl) (fun _ h => .inl h) ?_ hk ⟨hb.os,hb.tape,hb.output⟩ hb.size (hv _ (fun _ h => .inl h) (fun b h1 h2 => .inr ⟨h1,h2⟩) hk) ?_ hR.inj ?_ ?_ (fun b h _=>hb.block b h) (fun i b hi u9 => .inl ⟨i,hi,u9⟩) (fun b h=>h.elim .inl fun h => .inr (.inr h.1)) (fun id l xs k e h=>h)⟩
 ·intro b iJ
  rcases iJ with h|h
  ·have h1:=hR.FB b h;have:=hb.size;exact ⟨by omega,h1.2⟩
  ·exact ⟨h.2,.inr (BK b h.1)⟩
 ·intro j
  exact (hR.rows j).grow (fun _ _=>rfl) (fun _ h => .inl h) hk fun b h=>hb.block b (hR.bB j b h).2
 ·intro i b hi u9 h
  rcases h with h|h
  ·exact hR.bF i b hi u9 h
  ·have:=(hR.bB i b u9).2;omega
 ·intro i b u9
  have:=hR.bB i b u9;have:=hb.size;exact ⟨‹_/\_›.1,by omega⟩
theorem Kj {c:Bool} {A B:Prop} (a:c=true->A) (b:c=false->B):(c=true->A)/\(c=false->B):=⟨a,b⟩
theorem u6 {A B:Prop} (a:A):(true=true->A)/\(true=false->B):=⟨fun _=>a,fun h=>Bool.noConfusion h⟩
theorem u7 {A B:Prop} (b:B):(false=true->A)/\(false=false->B):=⟨fun h=>Bool.noConfusion h,fun _=>b⟩
theorem Ez {p A B:Prop} [Decidable p] (h:p) (a:A):(decide p=true->A)/\(decide p=false->B):=⟨fun _=>a,fun e=>absurd h (of_decide_eq_false e)⟩
theorem EA {p A B:Prop} [Decidable p] (h:¬p) (b:B):(decide p=true->A)/\(decide p=false->B):=⟨fun e=>absurd (of_decide_eq_true e) h,fun _=>b⟩
theorem Kk {p q K:Prop} (a:p) (b:q) (k:K):(p/\q)/\K:=⟨⟨a,b⟩,k⟩
theorem oU:(∀ (p:Prop) [Decidable p],(decide p=true)=p)/\(∀ (p:Prop) [Decidable p],(decide p=false)=¬p)/\(∀ a b:Bool,((a || b)=true)=(a=true∨b=true))/\(∀ a b:Bool,((a && b)=true)=(a=true/\b=true)) /\
  (∀ a b:Bool,((a || b)=false)=(a=false/\b=false))/\(∀ a b:Bool,((a && b)=false)=(a=false∨b=false))/\(∀ a:Bool,((!a)=true)=(a=false))/\(∀ a:Bool,((!a)=false)=(a=true))/\(∀ a b:Int,(a ≥ b)=(b<=a))/\(∀ a b:Int,(a > b)=(b < a))/\(∀ a b:Nat,(a ≥ b)=(b<=a))/\(∀ a b:Nat,(a > b)=(b < a)):=by
 refine ⟨fun p _=>by simp,fun p _=>by simp,?_,?_,?_,?_,?_,?_,fun a b=>rfl,fun a b=>rfl,fun a b=>rfl,fun a b=>rfl⟩<;>(intro a;cases a)<;>first|(simp;done)|(intro b;cases b<;>simp)
theorem aL {α:Type} [LE α] {a b:α} (h:a<=b:=by omega):a<=b:=h
theorem aN {α:Type} {a b:α} (h:a≠b:=by omega):a≠b:=h
theorem aT {α:Type} [LT α] {a b:α} (h:a < b:=by omega):a < b:=h
theorem aB {p q:Prop} (h:p:=by first|omega|decide) (g:q:=by first|omega|decide):p/\q:=⟨h,g⟩
theorem lB {p q:Prop} (h:p:=by decide) (g:q:=by first|decide|(simp;done)|(simp only [List.length_cons,List.length_nil];decide)):p/\q:=⟨h,g⟩
theorem kR {A B:Prop} (k:B) (h:A:=by first|kernel_rfl|exact aB|exact aL|exact aN):A/\B:=⟨h,k⟩
theorem kT {A B:Prop} (k:B) (h:A:=by first|kernel_rfl|exact aB|exact aL|exact aN|exact aT):A/\B:=⟨h,k⟩
theorem kL {A B:Prop} (k:B) (h:A:=by first|kernel_rfl|exact lB):A/\B:=⟨h,k⟩
theorem aS {c:Bool} {p q A B:Prop} (a:p->A) (b:q->B) (h:(c=true)=p:=by (try simp only [oU]);exact rfl) (g:(c=false)=q:=by (try simp only [oU]);exact rfl):(c=true->A)/\(c=false->B):=⟨fun e=>a (h.mp e),fun e=>b (g.mp e)⟩
theorem aU {c:Bool} {p A B:Prop} (b:p->B) (h:c=true->False:=by (intro hh;(try simp only [oU] at hh);first|omega|(simp [*] at hh;done)|(exfalso;revert hh;decide)|exact absurd (by assumption) hh)) (g:(c=false)=p:=by (try simp only [oU]);exact rfl):(c=true->A)/\(c=false->B):=⟨fun e=>(h e).elim,fun e=>b (g.mp e)⟩
theorem aV {c:Bool} {p A B:Prop} (a:p->A) (h:c=false->False:=by (intro hh;(try simp only [oU] at hh);first|omega|(simp [*] at hh;done)|(exfalso;revert hh;decide)|exact absurd (by assumption) hh)) (g:(c=true)=p:=by (try simp only [oU]);exact rfl):(c=true->A)/\(c=false->B):=⟨fun e=>a (g.mp e),fun e=>(h e).elim⟩
theorem kK {A B C:Prop} (a:A) (h:B:=by kernel_rfl) (g:C:=by kernel_rfl):A/\B/\C:=⟨a,h,g⟩
theorem lD {p A B:Prop} [Decidable p] (a:A) (h:p:=by first|(simp [*];done)|omega):(decide p=true->A)/\(decide p=false->B):=Ez h a
theorem lN {p A B:Prop} [Decidable p] (b:B) (h:¬p:=by first|(simp [*];done)|omega):(decide p=true->A)/\(decide p=false->B):=EA h b
theorem dD {p A B:Prop} [Decidable p] (a:A) (h:p:=by first|decide|(simp only [List.length_cons,List.length_nil];decide)):(decide p=true->A)/\(decide p=false->B):=Ez h a
theorem dN {p A B:Prop} [Decidable p] (b:B) (h:¬p:=by first|decide|(simp only [List.length_cons,List.length_nil];decide)):(decide p=true->A)/\(decide p=false->B):=EA h b
theorem dB {p q K:Prop} (k:K) (h:p:=by first|decide|(simp only [List.length_cons,List.length_nil];decide)) (g:q:=by first|decide|(simp only [List.length_cons,List.length_nil];decide)):(p/\q)/\K:=⟨⟨h,g⟩,k⟩
/- The operations on abstract values. A helper text: it speaks of no program. -/
mutual
def sX:AV->(AV->Prop)->Prop
 | .any,K=>K .any
 | .tt,K=>K .tt
 | .ff,K=>K .ff
 | .bool b,K=>K (.bool b)
 | .int k n,K=>K (.int k n)
 | .str s,K=>K (.str s)
 | .mapv c,K=>K (.mapv c)
 | .nilp,K=>K .nilp
 | .nils,K=>K .nils
 | .nilf,K=>K .nilf
 | .agg l,K=>fL l fun l=>K (.agg l)
 | .tup l,K=>fL l fun l=>K (.tup l)
 | .sl sz d enc l,K=>K (.sl sz d enc l)
 | .slc sz z7,K=>EB z7 fun z7=>K (.slc sz z7)
 | .sf sz d enc l,K=>K (.sf sz d enc l)
 | .pt cs off,K=>fL cs fun cs=>K (.pt cs off)
 | .ptr id sz i off,K=>K (.ptr id sz i off)
 | .own id,K=>K (.own id)
 | .mem id i,K=>K (.mem id i)
 | .mptr id i k,K=>K (.mptr id i k)
 | .fn f a b,K=>fL a fun a=>fL b fun b=>K (.fn f a b)
def fL:List AV->(List AV->Prop)->Prop
 | [],K=>K []
 | a :: l,K=>sX a fun a=>fL l fun l=>K (a :: l)
def EB:List (List AV)->(List (List AV)->Prop)->Prop
 | [],K=>K []
 | a :: l,K=>fL a fun a=>EB l fun l=>K (a :: l)
end
mutual
theorem bg:∀ (x:AV) (K:AV->Prop),sX x K=K x
 | .any,_=>rfl
 | .tt,_=>rfl
 | .ff,_=>rfl
 | .bool _,_=>rfl
 | .int _ _,_=>rfl
 | .str _,_=>rfl
 | .mapv _,_=>rfl
 | .nilp,_=>rfl
 | .nils,_=>rfl
 | .nilf,_=>rfl
 | .agg l,K=>by simp only [sX];exact R8 l _
 | .tup l,K=>by simp only [sX];exact R8 l _
 | .sl _ _ _ _,_=>rfl
 | .slc _ z7,K=>by simp only [sX];exact ru z7 _
 | .sf _ _ _ _,_=>rfl
 | .pt cs _,K=>by simp only [sX];exact R8 cs _
 | .ptr _ _ _ _,_=>rfl
 | .own _,_=>rfl
 | .mem _ _,_=>rfl
 | .mptr _ _ _,_=>rfl
 | .fn f a b,K=>by simp only [sX];rw [R8 a,R8 b]
theorem R8:∀ (l:List AV) (K:List AV->Prop),fL l K=K l
 | [],_=>rfl
 | a :: l,K=>by simp only [fL];rw [bg a,R8 l]
theorem ru:∀ (l:List (List AV)) (K:List (List AV)->Prop),EB l K=K l
 | [],_=>rfl
 | a :: l,K=>by simp only [EB];rw [R8 a,ru l]
end
def Cs:Row->(Row->Prop)->Prop
 | .none,K=>K .none
 | .cells ty cs,K=>fL cs fun cs=>K (.cells ty cs)
 | .lit ty sz z7,K=>EB z7 fun z7=>K (.lit ty sz z7)
 | .vec ty sz d enc l,K=>K (.vec ty sz d enc l)
 | .ctr l xs k e,K=>K (.ctr l xs k e)
 | .nest ty sz j0 F5 d enc ys ho l,K=>K (.nest ty sz j0 F5 d enc ys ho l)
 | .opq o,K=>K (.opq o)
def eo:List Row->(List Row->Prop)->Prop
 | [],K=>K []
 | a :: l,K=>Cs a fun a=>eo l fun l=>K (a :: l)
theorem zU (r:Row) (K:Row->Prop):Cs r K=K r:=by
 cases r<;>simp only [Cs]<;>first|rw [R8]|rw [ru]
theorem M0:∀ (l:List Row) (K:List Row->Prop),eo l K=K l
 | [],_=>rfl
 | a :: l,K=>by simp only [eo];rw [zU a,M0 l]
def GU:Md->(Md->Prop)->Prop
 | .plain,K=>K .plain
 | .round ks,K=>K (.round ks)
 | .iter,K=>K .iter
theorem wq (n:Md) (K:Md->Prop):GU n K=K n:=by cases n<;>rfl
def cb (S:St) (K:St->Prop):Prop :=
 match S with
 | ⟨St,Sh,Sn⟩=>GU Sn fun n=>fL St fun t=>eo Sh fun h=>K ⟨t,h,n⟩
theorem w9 (S:St) (K:St->Prop):cb S K=K S:=by cases S;simp only [cb];rw [wq,R8,M0]
def PC (P:Program) (f:FuncId) (args:List AV) (res:AV):Prop :=
 ∀ (F:Nat->Prop) (w:World) (vs:Array Value),(∀ b,F b->b < w.heap.size)->vs.size=args.length->(∀ i,i < args.length->p9 F w (args.getD i .any) (vs.getD i undef)) ->
  ((callFunc f vs).run P w = .ok (.enter f vs) w /\
   Calls P f vs w fun e w'=>∃ v,e = .returned v/\RowKit.Below w.heap.size w w'/\p9 (fun b=>F b∨w.heap.size<=b) w' res v) ∨
  ∃ v,(callFunc f vs).run P w = .ok (.value v) w/\p9 F w res v
def R6 (n:Int):List AV:=[.int .i64 n]
def mR {α:Type} (j0:Nat) (enc:α->List AV) (ys:α->List Int) (x:α):List AV:=(enc x).set j0 (.sl 1 0 R6 (ys x))
def z8:Nat->(Nat->Row)->AV->AV
 | 0,_,x=>match x.closed with
  | true=>x
  | false => .any
 | n + 1,r,x=>match x with
  | .ptr id sz i off=>match r id with
   | .cells _ cs => .pt (cs.map (z8 n r)) (i * sz + off)
   | _ => .any
  | .own id=>match r id with
   | .vec _ sz d enc l => .sl sz d enc l
   | .lit _ sz z7 => .slc sz (z7.map fun cs=>cs.map (z8 n r))
   | .nest _ sz j0 _ d enc ys none l => .sl sz d (mR j0 enc ys) l
   | _ => .any
  | .mem id i=>match r id with
   | .nest _ _ _ _ d _ ys none l => .sl 1 0 R6 (ys (l.getD i d))
   | _ => .any
  | .mptr _ _ _ => .any
  | .agg l => .agg (l.map (z8 n r))
  | .tup l => .tup (l.map (z8 n r))
  | .fn f a b => .fn f (a.map (z8 n r)) (b.map (z8 n r))
  | x=>x
def E7:Nat->(Nat->Row)->AV->List Nat
 | 0,_,_=>[]
 | n + 1,r,x=>match x with
  | .ptr id _ _ _=>id :: match r id with
   | .cells _ cs=>cs.flatMap (E7 n r)
   | _=>[]
  | .own id=>id :: match r id with
   | .lit _ _ z7=>z7.flatMap fun cs=>cs.flatMap (E7 n r)
   | _=>[]
  | .mem id _=>[id]
  | .mptr id _ _=>[id]
  | .agg l=>l.flatMap (E7 n r)
  | .tup l=>l.flatMap (E7 n r)
  | .fn _ a b=>a.flatMap (E7 n r)++b.flatMap (E7 n r)
  | _=>[]
theorem n4 (f:AV->AV) (hf:f .any = .any) (l:List AV) (i:Nat):(l.map f).getD i .any=f (l.getD i .any):=by
 simp only [List.getD,List.getElem?_map]
 cases l[i]? <;> simp [hf]
theorem F9:∀ (n:Nat) (r:Nat->Row),z8 n r .any = .any
 | 0,_=>rfl
 | _ + 1,_=>rfl
def et (S:St) (β:Nat->Option Hd) (b:Nat):Prop:=∃ i,S.row i ≠ .none/\o7 β i b
theorem A6 {w:World} {b:Nat} {vs:Array Value} {ty:TypeId} {fz:Nat×Nat} (h:w.heap[b]? = some (.cells vs ty fz)) {i:Nat} (hi:i < vs.size):w.cell? ⟨b,i,none⟩=some (vs.getD i undef):=by
 simp [World.cell?,h,hi]
theorem mS {α:Type} {j0:Nat} {enc:α->List AV} {ys:α->List Int} {x:α} {j:Nat}:(mR j0 enc ys x).getD j .any=if j=j0/\j < (enc x).length then .sl 1 0 R6 (ys x) else (enc x).getD j .any:=by
 simp only [mR,List.getD,List.getElem?_set]
 by_cases h:j0=j
 ·subst h
  by_cases hl:j0 < (enc x).length<;>simp [hl]
 ·simp [h,Ne.symm h]
theorem oV {F:Nat->Prop} {w:World} {ty:TypeId} {m:Option Nat×Nat×Nat} {zs:List Int} {v:Value} (h:bS w ty m (some zs) v) (hF:∀ c,m.1=some c->F c):p9 F w (.sl 1 0 R6 zs) v:=by
 obtain ⟨h1,h2,h3⟩:=h
 rw [h1]
 rcases h3 with ⟨h3,h4,h5⟩|⟨c,us,h4,h5,h6,h7,h8,h9⟩
 ·subst h3
  rw [h2];exact .slnil
 ·rw [h2,h4]
  refine .sl (o:=0) (fun i j=>us.getD (i * 1 + j) undef) h6 (fun i j hi hj=>⟨hF c h4,?_⟩) fun i j hi hj=>?_
  ·rw [Nat.zero_add]
   exact A6 h5 (by omega)
  ·have e:j=0:=by omega
   subst e
   rw [Nat.mul_one,Nat.add_zero,h9 i hi]
   exact .int _ _
theorem u1 {i j n sz:Nat} (hi:i < n) (hj:j < sz):i * sz + j < n * sz:=by
 have:(i + 1) * sz<=n * sz:=Nat.mul_le_mul_right sz hi
 rw [Nat.add_mul] at this
 omega
theorem C0 {P:Program} {B w0} {F0:Env P} {S β F a w} (hR:Rel B w0 F0 S β F a w):∀ (n:Nat) {x:AV} {v:Value},v7 β F w x v->p9 (fun b=>F b∨et S β b) w (z8 n S.row x) v
 | 0,x,v,h=>by
  simp only [z8]
  cases hc:x.closed
  ·exact .any _
  ·exact (h.shut hc).mono (fun _ h => .inl h) (fun _ _ _ _ h=>h)
 | n + 1,x,v,h=>by
  cases h with
  | imm h =>
   have h':p9 (fun b=>F b∨et S β b) w x v:=h.mono (fun _ h => .inl h) (fun _ _ _ _ h=>h)
   cases h with
   | agg hl h =>
    refine .agg (by simpa using hl) fun i hi=>?_
    rw [n4 _ (F9 _ _)]
    exact C0 hR n (.imm (h i (by simpa using hi)))
   | tup hl h =>
    refine .tup (by simpa using hl) fun i hi=>?_
    rw [n4 _ (F9 _ _)]
    exact C0 hR n (.imm (h i (by simpa using hi)))
   | fn hl h hm k =>
    refine .fn (by simpa using hl) (fun i hi=>?_) (by simpa using hm) (fun i hi=>?_)
    ·rw [n4 _ (F9 _ _)]
     exact C0 hR n (.imm (h i (by simpa using hi)))
    ·rw [n4 _ (F9 _ _)]
     exact C0 hR n (.imm (k i (by simpa using hi)))
   | _=>exact h'
  | @ptr id sz i off b hd hb hh =>
   simp only [z8]
   cases hr:S.row id with
   | cells ty cs =>
    have o9:=hR.rows id
    rw [hr] at o9
    obtain ⟨hd',b',vs,e1,em,e2,e3,e4,e5⟩:=o9
    rw [hb] at e1
    cases e1
    rw [hh] at e2
    cases e2
    have:=p9.pt (F:=fun b=>F b∨et S β b) (w:=w) (cs:=cs.map (z8 n S.row)) (off:=i * sz + off) (b:=b) (o:=0) (fun j=>vs.getD j undef)
     (fun j hj=>⟨.inr ⟨id,by rw [hr];simp,by rw [o7,hb];exact w8 hh⟩,by rw [Nat.zero_add];exact A6 e3 (by rw [e4];simpa using hj)⟩)
     (fun j hj=>by rw [n4 _ (F9 _ _)];exact C0 hR n (e5 j (by simpa using hj)))
    simpa using this
   | _=>exact .any _
  | @own id hd hb =>
   simp only [z8]
   cases hr:S.row id with
   | vec ty sz d enc l =>
    have o9:=hR.rows id
    rw [hr] at o9
    obtain ⟨hd',e1,em,e2,e3⟩:=o9
    rw [hb] at e1
    cases e1
    rcases e3 with ⟨rfl,e4,e5⟩|⟨b,vs,e4,e5,e6,e7,e8,e9⟩
    ·simp only [List.length_nil] at e2
     rw [e2,e4,e5];exact .slnil
    ·rw [e2,e4]
     refine .sl (o:=0) (fun i j=>vs.getD (i * sz + j) undef) e6 (fun i j hi hj=>⟨.inr ⟨id,by rw [hr];simp,by rw [o7,hb];exact w8 e4⟩,?_⟩)
      (fun i j hi hj=>(e9 i j hi hj).mono (fun _ h => .inl h) (fun _ _ _ _ h=>h))
     have:=u1 (Nat.lt_of_lt_of_le hi e6) hj
     rw [Nat.zero_add]
     exact A6 e5 (by omega)
   | lit ty sz z7 =>
    have o9:=hR.rows id
    rw [hr] at o9
    obtain ⟨hd',b,vs,e1,em,e2,e3,e4,e5,e6,e7,e8⟩:=o9
    rw [hb] at e1
    cases e1
    rw [e4,e2,e5]
    have hg:∀ i,(z7.map fun cs=>cs.map (z8 n S.row)).getD i []=(z7.getD i []).map (z8 n S.row):=by
     intro i;simp only [List.getD,List.getElem?_map];cases z7[i]? <;> simp
    have hlen:z7.length=(z7.map fun cs=>cs.map (z8 n S.row)).length:=by simp
    rw [hlen]
    refine .slc (o:=0) (fun i j=>vs.getD (i * sz + j) undef) (Nat.le_refl _) (fun i j hi hj=>⟨.inr ⟨id,by rw [hr];simp,by rw [o7,hb];exact w8 e2⟩,?_⟩) (fun i j hi hj=>?_)
    ·have:=u1 (by simpa using hi) hj
     rw [Nat.zero_add]
     exact A6 e3 (by omega)
    ·rw [hg,n4 _ (F9 _ _)]
     exact C0 hR n (e8 i j (by simpa using hi) hj)
   | nest ty sz j0 F5 d enc ys ho l =>
    have o9:=hR.rows id
    rw [hr] at o9
    obtain ⟨hd',e1,e2,e3⟩:=o9
    rw [hb] at e1
    cases e1
    cases ho with
    | some h=>exact .any _
    | none =>
     rcases e3 with ⟨rfl,e4,e5,_⟩|⟨b,vs,e4,e5,e6,e7,e8,e9,zV,EC⟩
     ·simp only [List.length_nil] at e2
      rw [e2,e4,e5];exact .slnil
     ·rw [e2,e4]
      refine .sl (o:=0) (fun i j=>vs.getD (i * sz + j) undef) e6 (fun i j hi hj=>⟨.inr ⟨id,by rw [hr];simp,by rw [o7,hb];exact w8 e4⟩,?_⟩) (fun i j hi hj=>?_)
      ·have:=u1 (Nat.lt_of_lt_of_le hi e6) hj
       rw [Nat.zero_add]
       exact A6 e5 (by omega)
      ·rw [mS]
       by_cases iV:j=j0/\j < (enc (l.getD i d)).length
       ·rw [if_pos iV]
        obtain ⟨iV,_⟩:=iV
        subst iV
        have hm:=zV i
        rw [dz,if_pos ⟨hi,by simp⟩] at hm
        exact oV hm fun c hc => .inr ⟨id,by rw [hr];simp,by rw [o7,hb];exact N5 hc⟩
       ·rw [if_neg iV]
        by_cases mT:j=j0
        ·have:(enc (l.getD i d)).getD j .any = .any:=by
          have:¬ j < (enc (l.getD i d)).length:=fun h=>iV ⟨mT,h⟩
          rw [List.getD,List.getElem?_eq_none (Nat.le_of_not_lt this)];rfl
         rw [this];exact .any _
        ·exact (e9 i j hi hj mT).mono (fun _ h => .inl h) (fun _ _ _ _ h=>h)
   | _=>exact .any _
  | @mem id i hd hb hi =>
   simp only [z8]
   cases hr:S.row id with
   | nest ty sz j0 F5 d enc ys ho l =>
    have o9:=hR.rows id
    rw [hr] at o9
    obtain ⟨hd',e1,e2,e3⟩:=o9
    rw [hb] at e1
    cases e1
    cases ho with
    | some h=>exact .any _
    | none =>
     rcases e3 with ⟨rfl,e4,e5,_⟩|⟨b,vs,e4,e5,e6,e7,e8,e9,zV,EC⟩
     ·rw [e2] at hi;simp at hi
     ·have hm:=zV i
      rw [dz,if_pos ⟨by omega,by simp⟩] at hm
      have:=oV (F:=fun b=>F b∨et S β b) hm fun c hc => .inr ⟨id,by rw [hr];simp,by rw [o7,hb];exact N5 hc⟩
      rw [hm.1] at this
      exact this
   | _=>exact .any _
  | mptr=>exact .any _
  | agg hl h =>
   refine .agg (by simpa using hl) fun i hi=>?_
   rw [n4 _ (F9 _ _)]
   exact C0 hR n (h i (by simpa using hi))
  | tup hl h =>
   refine .tup (by simpa using hl) fun i hi=>?_
   rw [n4 _ (F9 _ _)]
   exact C0 hR n (h i (by simpa using hi))
  | fn hl h hm k =>
   refine .fn (by simpa using hl) (fun i hi=>?_) (by simpa using hm) (fun i hi=>?_)
   ·rw [n4 _ (F9 _ _)]
    exact C0 hR n (h i (by simpa using hi))
   ·rw [n4 _ (F9 _ _)]
    exact C0 hR n (k i (by simpa using hi))
theorem eu {r r':Nat->Row}:∀ (n:Nat) (x:AV),(∀ i,i ∈ E7 n r x->r' i=r i)->z8 n r' x=z8 n r x
 | 0,x,_=>rfl
 | n + 1,x,h=>by
  have hl:∀ l:List AV,(∀ i,i ∈ l.flatMap (E7 n r)->r' i=r i)->l.map (z8 n r')=l.map (z8 n r):=fun l hl =>
   List.map_congr_left fun y hy=>eu n y fun i hi=>hl i (List.mem_flatMap.2 ⟨y,hy,hi⟩)
  cases x with
  | ptr id sz i off =>
   have e:=h id (by simp [E7])
   simp only [z8,e]
   cases hr:r id with
   | cells ty cs =>
    have:=hl cs fun i hi=>h i (by simp only [E7,hr];exact List.mem_cons_of_mem _ hi)
    simp only [this]
   | _=>rfl
  | own id =>
   have e:=h id (by simp [E7])
   simp only [z8,e]
   cases hr:r id with
   | lit ty sz z7 =>
    have:(z7.map fun cs=>cs.map (z8 n r'))=z7.map fun cs=>cs.map (z8 n r):=List.map_congr_left fun cs oO =>
     hl cs fun i hi=>h i (by simp only [E7,hr];exact List.mem_cons_of_mem _ (List.mem_flatMap.2 ⟨cs,oO,hi⟩))
    simp only [this]
   | nest _ _ _ _ _ _ _ ho _=>cases ho<;>rfl
   | _=>rfl
  | mem id i =>
   have e:=h id (by simp [E7])
   simp only [z8,e]
  | agg l=>simp only [z8];rw [hl l fun i hi=>h i (by simpa only [E7] using hi)]
  | tup l=>simp only [z8];rw [hl l fun i hi=>h i (by simpa only [E7] using hi)]
  | fn f a b =>
   simp only [z8]
   rw [hl a fun i hi=>h i (by simp only [E7];exact List.mem_append_left _ hi),hl b fun i hi=>h i (by simp only [E7];exact List.mem_append_right _ hi)]
  | _=>rfl
/- The operations on abstract values: what each asks, what it gives. A helper text: it speaks of no program. -/
def rv (lit:Bool) (c:Prop) [Decidable c] (K:Prop):Prop :=
 match lit with
 | true=>match decide c with
  | true=>K
  | false=>False
 | false=>c/\K
theorem y7 (lit:Bool) (c:Prop) [Decidable c] (K:Prop):rv lit c K↔c/\K:=by
 cases lit
 ·exact Iff.rfl
 ·by_cases h:c<;>simp [rv,h]
def sY:Operand->Bool
 | .const _=>true
 | _=>false
def AV.toB:AV->Option Bool
 | .tt=>some true
 | .ff=>some false
 | .bool b=>some b
 | _=>none
def lP (op:BinOp) (lit:Bool) (k:IntKind) (a:Int) (k':IntKind) (b:Int) (K:AV->Prop):Prop :=
 match op with
 | .shl=>rv lit (0<=b) (K (.int k (k.wrap (a * 2 ^ min b.toNat k.bits))))
 | .shr=>rv lit (0<=b) (K (.int k (a.fdiv (2 ^ min b.toNat k.bits))))
 | op=>match decide (k=k') with
  | false=>False
  | true=>match op with
   | .add=>K (.int k (k.wrap (a + b)))
   | .sub=>K (.int k (k.wrap (a - b)))
   | .mul=>K (.int k (k.wrap (a * b)))
   | .quo=>rv lit (b≠0) (K (.int k (k.wrap (a.tdiv b))))
   | .rem=>rv lit (b≠0) (K (.int k (a.tmod b)))
   | .and=>K (.int k (bits .and k a b))
   | .or=>K (.int k (bits .or k a b))
   | .xor=>K (.int k (bits .xor k a b))
   | .andNot=>K (.int k (bits .andNot k a b))
   | .eql=>K (.bool (decide (a=b)))
   | .neq=>K (.bool (!decide (a=b)))
   | .lss=>K (.bool (decide (a < b)))
   | .leq=>K (.bool (decide (a<=b)))
   | .gtr=>K (.bool (decide (a > b)))
   | .geq=>K (.bool (decide (a ≥ b)))
   | _=>False
def af:Bool->AV->AV->Option Bool
 | true,.int k a,.int k' b=>match decide (k=k') with
  | true=>some (decide (a=b))
  | false=>none
 | false,.bool a,.bool b=>some (a == b)
 | false,.tt,.bool b=>some b
 | false,.ff,.bool b=>some (!b)
 | false,.bool b,.tt=>some b
 | false,.bool b,.ff=>some (!b)
 | false,.tt,.tt=>some true
 | false,.ff,.ff=>some true
 | false,.tt,.ff=>some false
 | false,.ff,.tt=>some false
 | _,_,_=>none
def C2:List Bool->List AV->List AV->Option Bool
 | [],[],[]=>some true
 | k :: ks,a :: l,b :: m=>match af k a b,C2 ks l m with
  | some x,some y=>some (x && y)
  | _,_=>none
 | _,_,_=>none
mutual
def S9 (P:Program):Nat->TypeId->Option (List Bool)
 | 0,_=>none
 | n + 1,t=>match P.underlying t with
  | some (.int _)=>match Nat.beq (P.cellsOf t) 1 with
   | true=>some [true]
   | false=>none
  | some .bool=>match Nat.beq (P.cellsOf t) 1 with
   | true=>some [false]
   | false=>none
  | some (.struct fs)=>match P.stoodInHeld t with
   | false=>match M1 P n fs.toList 0 with
    | some ks=>match Nat.beq ks.length (P.cellsOf t) with
     | true=>some ks
     | false=>none
    | none=>none
   | true=>none
  | _=>none
def M1 (P:Program):Nat->List Field->Nat->Option (List Bool)
 | 0,_,_=>none
 | _ + 1,[],_=>some []
 | n + 1,f :: fs,at_=>match (f.name != "_") && Nat.beq f.offset at_ with
  | true=>match S9 P n f.type with
   | some ks=>match M1 P n fs (at_ + ks.length) with
    | some ls=>some (ks++ls)
    | none=>none
   | none=>none
  | false=>none
end
def K0 (op:BinOp) (A C:Prop):Prop :=
 match op with
 | .eql=>A
 | .neq=>C
 | _=>False
theorem I1 {op:BinOp} {A C:Prop} (h:K0 op A C):(op = .eql/\A)∨(op = .neq/\C):=by
 cases op<;>first|exact h.elim|exact .inl ⟨rfl,h⟩|exact .inr ⟨rfl,h⟩
def cJ:List AV->List Bool
 | []=>[]
 | .int _ _ :: l=>true :: cJ l
 | _ :: l=>false :: cJ l
def BL (P:Program) (t:TypeId) (ks:List Bool):Bool :=
 match P.underlying t,P.eqGuardType P.depth t with
 | some (.struct _),false=>match S9 P 40 t with
  | some ED=>ED == ks
  | none=>false
 | _,_=>false
def wv (P:Program) (t:TypeId) (ks:List Bool):Bool :=
 match P.underlying t,P.eqGuardType P.depth t with
 | some (.array len e),false=>match P.info? e,P.underlying e with
  | some _,some (.int _)=>Nat.beq (P.cellsOf e) 1 && (Nat.beq ks.length len && ks.all fun k=>k)
  | _,_=>false
 | _,_=>false
def lQ (P:Program) (op:BinOp) (t:TypeId) (lit:Bool) (x y:AV) (K:AV->Prop):Prop :=
 match x with
 | .int k a=>match y with
  | .int k' b=>lP op lit k a k' b K
  | _=>False
 | .agg xs=>match y with
  | .agg ys=>(BL P t (cJ xs) || wv P t (cJ xs))=true/\match C2 (cJ xs) xs ys with
   | some b=>K0 op (K (.bool b)) (K (.bool (!b)))
   | none=>False
  | _=>False
 | x=>match x.toB,y.toB with
  | some a,some b=>match P.underlying t with
   | some .bool=>K0 op (K (.bool (a == b))) (K (.bool (a != b)))
   | _=>False
  | _,_=>match P.underlying t with
   | some (.pointer _)=>match x,y with
    | .nilp,.nilp=>K0 op (K .tt) (K .ff)
    | .nilp,.pt (_ :: _) _=>K0 op (K .ff) (K .tt)
    | .nilp,.ptr .. => K0 op (K .ff) (K .tt)
    | .pt _ _,.nilp=>K0 op (K .ff) (K .tt)
    | .ptr ..,.nilp=>K0 op (K .ff) (K .tt)
    | _,_=>False
   | some (.slice _)=>match x,y with
    | .nils,.nils=>K0 op (K .tt) (K .ff)
    | _,_=>False
   | _=>False
def ug (op:UnOp) (x:AV) (K:AV->Prop):Prop :=
 match op,x with
 | .not,.tt=>K .ff
 | .not,.ff=>K .tt
 | .not,.bool b=>K (.bool (!b))
 | .neg,.int k n=>K (.int k (k.wrap (0 - n)))
 | .xor,.int k n=>K (.int k (bits .xor k (if k.signed then -1 else k.max) n))
 | _,_=>False
def Q3:TypeDesc->Bool
 | .struct _ | .array _ _=>true
 | _=>false
def dh (agg:Bool) (n:Nat) (cs:List AV) (off:Nat):Option AV :=
 match agg with
 | true=>match Nat.ble (off + n) cs.length with
  | true=>some (.agg ((cs.drop off).take n))
  | false=>none
 | false=>match Nat.blt off cs.length with
  | true=>some (cs.getD off .any)
  | false=>none
def setCells (cs:List AV) (off:Nat) (l:List AV):List AV:=cs.take off++l++cs.drop (off + l.length)
def AV.one:AV->Bool
 | .any | .agg _ | .tup _=>false
 | _=>true
def T0:List AV->Bool
 | []=>true
 | a :: l=>a.one && T0 l
def AV.cells? : AV->Option (List AV)
 | .any=>none
 | .tup _=>none
 | .agg l=>match T0 l with
  | true=>some l
  | false=>none
 | x=>some [x]
def V1 (P:Program) (t:TypeId):Option (List AV) :=
 match P.info? t with
 | some i=>match i.zero with
  | some v=>some (v.cells.toList.map AV.ofConst)
  | none=>none
 | none=>none
def ag (place:Nat->Option (Nat×Nat)) (cs:List AV):List (Nat×AV)->Option (List AV)
 | []=>some cs
 | (i,x) :: rest=>match place i with
  | none=>none
  | some (off,size)=>match x.cells? with
   | none=>none
   | some l=>match Nat.beq l.length size with
    | false=>none
    | true=>match Nat.ble (off + size) cs.length with
     | false=>none
     | true=>ag place (setCells cs off l) rest
structure Ct:Type 1 where
 α:Type
 sz:Nat
 d:α
 enc:α->List AV
 l:List α
def I2:AV->AV
 | .tt => .bool true
 | .ff => .bool false
 | x=>x
def iW (r:Nat->Row) (x:AV) (D:Ct):Prop :=
 match x with
 | .nils=>D.l=[]
 | .sl sz d enc l=>Ct.mk _ sz d enc l=D
 | .slc sz z7=>sz=D.sz/\z7=D.l.map D.enc
 | .sf sz d enc l=>Ct.mk _ sz d enc l=D
 | .own id=>match r id with
  | .vec _ sz d enc l=>Ct.mk _ sz d enc l=D
  | .lit _ sz z7=>sz=D.sz/\(z7.map fun cs=>cs.map I2)=D.l.map D.enc
  | _=>False
 | _=>False
def X5:AV->List Nat
 | .own id=>[id]
 | _=>[]
def Row.tyIs (t:TypeId):Row->Bool
 | .none=>false
 | .cells ty _=>Nat.beq ty t
 | .lit ty _ _=>Nat.beq ty t
 | .vec ty _ _ _ _=>Nat.beq ty t
 | .ctr _ _ _ _=>false
 | .nest ty _ _ _ _ _ _ _ _=>Nat.beq ty t
 | .opq _=>false
def fN (r:Nat->Row) (e:TypeId):AV->Bool
 | .nils=>true
 | .own id=>(r id).tyIs e
 | _=>false
def ah (r:Nat->Row) (x y:AV):Bool :=
 match x with
 | .sf _ _ _ _=>match y with
  | .own q=>match r q with
   | .lit _ _ (_ :: _)=>true
   | _=>false
  | _=>false
 | _=>false
def zE (g:Operand->AV) (o:Option Operand) (l:AV):AV :=
 match o with
 | some y=>g y
 | none=>l
def fO (s:ByteArray) (i:Nat):Int:=match s[i]? with
 | some b=>b.toNat
 | none=>0
def o5 (P:Program) (dst:Option Nat) (op:Op) (g:Operand->AV) (r:Nat->Row) (K:Out->List Nat->Prop):Prop :=
 match op with
 | .move x=>K ⟨g x,[]⟩ []
 | .assign x=>K ⟨g x,[]⟩ []
 | .pick c a b=>match g c with
  | .tt=>K ⟨g a,[]⟩ []
  | .ff=>K ⟨g b,[]⟩ []
  | .bool c=>(c=true->K ⟨g a,[]⟩ [])/\(c=false->K ⟨g b,[]⟩ [])
  | _=>False
 | .alloc t=>match dst,V1 P t with
  | some d,some cs=>K ⟨.ptr d 0 0 0,[(d,.cells t cs)]⟩ []
  | _,_=>False
 | .box t x=>match dst,(g x).cells? with
  | some d,some cs=>K ⟨.ptr d 0 0 0,[(d,.cells t cs)]⟩ []
  | _,_=>False
 | .build t S8=>match V1 P t with
  | none=>False
  | some z=>match P.underlying t with
   | some (.struct fs)=>match fs.toList.all fun f=>(P.info? f.type).isSome with
    | true=>match ag (fun i=>(fs.toList.map fun f=>(f.offset,P.cellsOf f.type))[i]?) z (S8.toList.map fun p=>(p.1,g p.2)) with
     | some cs=>K ⟨.agg cs,[]⟩ []
     | none=>False
    | false=>False
   | some (.array _ e)=>match P.info? e with
    | some _=>match ag (fun i=>some (i * P.cellsOf e,P.cellsOf e)) z (S8.toList.map fun p=>(p.1,g p.2)) with
     | some cs=>K ⟨.agg cs,[]⟩ []
     | none=>False
    | none=>False
   | _=>False
 | .load t x=>match P.info? t,P.underlying t with
  | some i,some d=>match g x with
   | .pt cs off=>match dh (Q3 d) i.size cs off with
    | some v=>K ⟨v,[]⟩ []
    | none=>False
   | .ptr id sz j off=>match r id with
    | .cells _ cs=>match dh (Q3 d) i.size cs (j * sz + off) with
     | some v=>K ⟨v,[]⟩ [id]
     | none=>False
    | .vec _ oP d' enc l=>match Nat.beq sz oP with
     | true=>match Nat.beq (enc (l.getD j d')).length sz with
      | true=>match dh (Q3 d) i.size (enc (l.getD j d')) off with
       | some v=>j < l.length/\K ⟨v,[]⟩ [id]
       | none=>False
      | false=>False
     | false=>False
    | .lit _ oP z7=>match Nat.beq sz oP with
     | true=>match Nat.beq (z7.getD j []).length sz with
      | true=>match dh (Q3 d) i.size (z7.getD j []) off with
       | some v=>match Nat.blt j z7.length with
        | true=>K ⟨v,[]⟩ [id]
        | false=>False
       | none=>False
      | false=>False
     | false=>False
    | _=>False
   | _=>False
  | _,_=>False
 | .store t x y=>match P.info? t with
  | some i=>match (g y).cells? with
   | some l=>match Nat.beq l.length i.size with
    | true=>match g x with
     | .ptr id sz j off=>match r id with
      | .cells ty cs=>match Nat.ble (j * sz + off + l.length) cs.length with
       | true=>K ⟨.any,[(id,.cells ty (setCells cs (j * sz + off) l))]⟩ [id]
       | false=>False
      | .vec ty oP d enc zs=>match Nat.beq sz oP with
       | true=>match B4 l with
        | true=>match Nat.ble (off + l.length) sz with
         | true=>match Nat.beq (enc (zs.getD j d)).length sz with
          | true=>∃ y,enc y=setCells (enc (zs.getD j d)) off (l.map I2)/\j < zs.length/\K ⟨.any,[(id,.vec ty sz d enc (zs.set j y))]⟩ [id]
          | false=>False
         | false=>False
        | false=>False
       | false=>False
      | _=>False
     | _=>False
    | false=>False
   | none=>False
  | none=>False
 | .index t x i=>match g i with
  | .int _ n=>match g x with
   | .str s=>match P.underlying t with
    | some .string=>rv false (0<=n/\n < s.size) (K ⟨.int .u8 (fO s n.toNat),[]⟩ [])
    | _=>False
   | .agg l=>match P.underlying t with
    | some (.array len e)=>match P.info? e,P.underlying e with
     | some inf,some d=>match !(Q3 d) && (Nat.beq inf.size 1 && Nat.beq l.length len) with
      | true=>rv (sY i) (0<=n/\n < len) (K ⟨l.getD n.toNat .any,[]⟩ [])
      | false=>False
     | _,_=>False
    | _=>False
   | _=>False
  | _=>False
 | .nilCheck x=>match g x with
  | .pt (c :: cs) off=>K ⟨.pt (c :: cs) off,[]⟩ []
  | .ptr id sz j off=>K ⟨.ptr id sz j off,[]⟩ []
  | _=>False
 | .binOp op t x y _=>lQ P op t (sY y) (g x) (g y) fun v=>K ⟨v,[]⟩ []
 | .unOp op _ x=>ug op (g x) fun v=>K ⟨v,[]⟩ []
 | .convert src t x=>match P.underlying src,P.underlying t,g x with
  | some _,some (.int k),.int _ n=>K ⟨.int k (k.wrap n),[]⟩ []
  | _,_,_=>False
 | .makeFunc f first u4=>K ⟨.fn f (first.toList.map g) (u4.toList.map g),[]⟩ []
 | .fieldAddr s x f=>match P.underlying s with
  | some (.struct fs)=>match fs[f]? with
   | some fd=>match P.info? fd.type with
    | some i=>match Nat.beq i.size 0 with
     | true=>False
     | false=>match g x with
      | .pt cs off=>K ⟨.pt cs (off + fd.offset),[]⟩ []
      | .ptr id sz j off=>K ⟨.ptr id sz j (off + fd.offset),[]⟩ []
      | _=>False
    | none=>False
   | none=>False
  | _=>False
 | .indexAddr t x i=>match g i with
  | .int _ n=>match P.underlying t with
   | some (.slice e)=>match P.info? e with
    | some inf=>match g x with
     | .sl sz d enc l=>match Nat.beq sz inf.size with
      | true=>rv false (0<=n/\n < l.length) (match Nat.beq (enc (l.getD n.toNat d)).length sz with
       | true=>K ⟨.pt (enc (l.getD n.toNat d)) 0,[]⟩ []
       | false=>False)
      | false=>False
     | .slc sz z7=>match Nat.beq sz inf.size with
      | true=>rv (sY i) (0<=n/\n < z7.length) (match Nat.ble (z7.getD n.toNat []).length sz with
       | true=>K ⟨.pt (z7.getD n.toNat []) 0,[]⟩ []
       | false=>False)
      | false=>False
     | .own id=>match r id with
      | .vec _ sz _ _ l=>match Nat.beq sz inf.size with
       | true=>rv false (0<=n/\n < l.length) (K ⟨.ptr id sz n.toNat 0,[]⟩ [id])
       | false=>False
      | .lit _ sz z7=>match Nat.beq sz inf.size with
       | true=>rv false (0<=n/\n < z7.length) (K ⟨.ptr id sz n.toNat 0,[]⟩ [id])
       | false=>False
      | _=>False
     | _=>False
    | none=>False
   | some (.array len e)=>match P.info? e with
    | some inf=>rv (sY i) (0<=n/\n < len) (match g x with
     | .pt cs off=>K ⟨.pt cs (off + n.toNat * inf.size),[]⟩ []
     | .ptr id sz j off=>K ⟨.ptr id sz j (off + n.toNat * inf.size),[]⟩ []
     | _=>False)
    | none=>False
   | _=>False
  | _=>False
 | .extract x i=>match g x with
  | .tup l=>match Nat.blt i l.length with
   | true=>K ⟨l.getD i .any,[]⟩ []
   | false=>False
  | _=>False
 | .buildSlice t n S8=>match dst,P.underlying t with
  | some d,some (.slice e)=>match P.info? e,V1 P e with
   | some i,some z=>match Nat.beq z.length i.size with
    | true=>match Nat.ble (n * i.size) 16777216 && Nat.blt 0 i.size with
     | true=>match ag (fun j=>some (j * i.size,i.size)) (List.replicate n z).flatten (S8.toList.map fun p=>(p.1,g p.2)) with
      | some cs=>K ⟨.own d,[(d,.lit e i.size ((List.range n).map fun j=>(cs.drop (j * i.size)).take i.size))]⟩ []
      | none=>False
     | false=>False
    | false=>False
   | _,_=>False
  | _,_=>False
 | .slice t x lo hi mx=>match mx with
  | some m=>match lo,hi with
   | none,some h=>match P.underlying t with
    | some (.slice e)=>match P.info? e with
     | some inf=>match g x with
      | .sl sz d enc l=>match Nat.beq sz inf.size with
       | true=>match g h,g m with
        | .int _ b,.int _ c=>rv false (0<=b/\b<=l.length/\c=b) (K ⟨.sf sz d enc (l.take b.toNat),[]⟩ [])
        | _,_=>False
       | false=>False
      | _=>False
     | none=>False
    | _=>False
   | _,_=>False
  | none=>match P.underlying t with
   | some (.slice e)=>match P.info? e with
    | some inf=>match g x with
     | .sl sz d enc l=>match Nat.beq sz inf.size with
      | true=>match zE g lo (.int .i64 0),zE g hi (.int .i64 l.length) with
       | .int _ a,.int _ b=>rv false (0<=a/\a<=b/\b<=l.length) (K ⟨.sl sz d enc ((l.drop a.toNat).take (b - a).toNat),[]⟩ [])
       | _,_=>False
      | false=>False
     | _=>False
    | none=>False
   | _=>False
 | .makeSlice t len cap=>match dst,P.underlying t with
  | some d,some (.slice e)=>match P.info? e,V1 P e with
   | some i,some z=>match Nat.beq z.length i.size with
    | true=>match g len,g cap with
     | .int _ n,.int _ c=>∃ (α:Type) (y:α) (enc:α->List AV),enc y=z/\n=c/\0<=n/\n<=1048576/\i.bytes<=1048576/\K ⟨.own d,[(d,.vec e i.size y enc (List.replicate n.toNat y))]⟩ []
     | _,_=>False
    | false=>False
   | _,_=>False
  | _,_=>False
 | .call c=>match c.callee with
  | .builtin .len=>match c.args.toList,c.argTypes.toList with
   | [x],[t]=>match P.underlying t with
    | some (.slice _)=>match g x with
     | .nils=>K ⟨.int .i64 0,[]⟩ []
     | .sl _ _ _ l=>K ⟨.int .i64 l.length,[]⟩ []
     | .slc _ z7=>K ⟨.int .i64 z7.length,[]⟩ []
     | .own id=>match r id with
      | .vec _ _ _ _ l=>K ⟨.int .i64 l.length,[]⟩ [id]
      | .lit _ _ z7=>K ⟨.int .i64 z7.length,[]⟩ [id]
      | _=>False
     | _=>False
    | some (.array n _)=>K ⟨.int .i64 n,[]⟩ []
    | _=>False
   | _,_=>False
  | .builtin .max=>match c.args.toList with
   | [x,y]=>match g x,g y with
    | .int k a,.int _ b=>K ⟨.int k (if b > a then b else a),[]⟩ []
    | _,_=>False
   | _=>False
  | .builtin .min=>match c.args.toList with
   | [x,y]=>match g x,g y with
    | .int k a,.int _ b=>K ⟨.int k (if b < a then b else a),[]⟩ []
    | _,_=>False
   | _=>False
  | .builtin .append=>match c.args.toList,c.argTypes.toList with
   | [s,x],[t,t']=>match dst,P.underlying t,Nat.beq t t' with
    | some d,some (.slice e),true=>match P.info? e,V1 P e with
     | some i,some z=>match Nat.beq z.length i.size with
      | true=>match Nat.blt 0 i.size with
       | true=>match fN r e (g s) || ah r (g s) (g x) with
        | true=>∃ (D:Ct) (l':List D.α),D.sz=i.size/\iW r (g s) D/\iW r (g x) ⟨D.α,D.sz,D.d,D.enc,l'⟩/\(D.l.length + l'.length) * i.bytes<=1099511627776/\D.l.length + l'.length<=1099511627776 /\
          (∀ y ∈ D.l++l',(D.enc y).length=D.sz/\B4 (D.enc y)=true/\T0 (D.enc y)=true) /\
          K ⟨.own d,((X5 (g s)).map fun id=>(id,.none))++[(d,.vec e D.sz D.d D.enc (D.l++l'))]⟩ (X5 (g s)++X5 (g x))
        | false=>False
       | false=>False
      | false=>False
     | _,_=>False
    | _,_,_=>False
   | _,_=>False
  | .value f=>match g f with
   | .fn (.func h) first u4=>match B4 (first++c.args.toList.map g++u4) with
    | true=>fL (first++c.args.toList.map g++u4) fun ar=>∃ v,PC P h ar v/\K ⟨v,[]⟩ []
    | false=>fL ((first++c.args.toList.map g++u4).map (z8 4 r)) fun ar=>∃ v,PC P h ar v/\match v.flat with
     | true=>K ⟨v,[]⟩ ((first++c.args.toList.map g++u4).flatMap (E7 4 r))
     | false=>False
   | _=>False
  | _=>False
 | _=>False
/- Each operation does what its abstract twin says. A helper text: it speaks of no program. -/
section
variable {β:Nat->Option Hd} {F:Nat->Prop} {w:World} {v:Value}
theorem v7.tt_inv (h:v7 β F w .tt v):v = .bool true:=by cases h with|imm h=>cases h;rfl
theorem v7.ff_inv (h:v7 β F w .ff v):v = .bool false:=by cases h with|imm h=>cases h;rfl
theorem v7.bool_inv {b} (h:v7 β F w (.bool b) v):v = .bool b:=by cases h with|imm h=>cases h;rfl
theorem v7.int_inv {k n} (h:v7 β F w (.int k n) v):v = .int k n:=by cases h with|imm h=>cases h;rfl
theorem v7.nilp_inv (h:v7 β F w .nilp v):v = .pointer none:=by cases h with|imm h=>cases h;rfl
theorem v7.nils_inv (h:v7 β F w .nils v):v = .slice none 0 0:=by cases h with|imm h=>cases h;rfl
theorem v7.toB_inv {x:AV} {b:Bool} (h:v7 β F w x v) (hb:x.toB=some b):v = .bool b:=by
 cases x<;>simp [AV.toB] at hb
 ·rw [hb];exact h.tt_inv
 ·rw [hb];exact h.ff_inv
 ·rw [<- hb];exact h.bool_inv
theorem v7.agg_inv {xs} (h:v7 β F w (.agg xs) v):∃ vs:Array Value,v = .agg vs/\xs.length=vs.size/\∀ i,i < xs.length->v7 β F w (xs.getD i .any) (vs.getD i undef):=by
 cases h with
 | imm h=>cases h with|agg hl h=>exact ⟨_,rfl,hl,fun i hi => .imm (h i hi)⟩
 | agg hl h=>exact ⟨_,rfl,hl,h⟩
theorem v7.tup_inv {xs} (h:v7 β F w (.tup xs) v):∃ vs:Array Value,v = .tuple vs/\xs.length=vs.size/\∀ i,i < xs.length->v7 β F w (xs.getD i .any) (vs.getD i undef):=by
 cases h with
 | imm h=>cases h with|tup hl h=>exact ⟨_,rfl,hl,fun i hi => .imm (h i hi)⟩
 | tup hl h=>exact ⟨_,rfl,hl,h⟩
theorem v7.fn_inv {f xs ys} (h:v7 β F w (.fn f xs ys) v):∃ vs us:Array Value,v = .func f vs us/\xs.length=vs.size/\ys.length=us.size /\
  (∀ i,i < xs.length->v7 β F w (xs.getD i .any) (vs.getD i undef))/\∀ i,i < ys.length->v7 β F w (ys.getD i .any) (us.getD i undef):=by
 cases h with
 | imm h=>cases h with|fn hl h hm k=>exact ⟨_,_,rfl,hl,hm,fun i hi => .imm (h i hi),fun i hi => .imm (k i hi)⟩
 | fn hl h hm k=>exact ⟨_,_,rfl,hl,hm,h,k⟩
theorem v7.ptr_inv {id sz i off} (h:v7 β F w (.ptr id sz i off) v):∃ hd b,β id=some hd/\hd.b=some b/\v = .pointer (some ⟨b,i * sz + off,none⟩):=by
 cases h with
 | imm h=>cases h
 | ptr hb hh=>exact ⟨_,_,hb,hh,rfl⟩
theorem v7.own_inv {id} (h:v7 β F w (.own id) v):∃ hd,β id=some hd/\v = .slice (hd.b.map fun b=>⟨b,0,none⟩) hd.len hd.cap:=by
 cases h with
 | imm h=>cases h
 | own hb=>exact ⟨_,hb,rfl⟩
theorem v7.pt_inv {cs off} (h:v7 β F w (.pt cs off) v):∃ (b o:Nat) (g:Nat->Value),v = .pointer (some ⟨b,o + off,none⟩)/\(∀ j,j < cs.length->F b/\w.cell? ⟨b,o + j,none⟩=some (g j))/\∀ j,j < cs.length->p9 F w (cs.getD j .any) (g j):=by
 cases h with|imm h=>cases h with|pt g hb h=>exact ⟨_,_,g,rfl,hb,h⟩
theorem v7.sl_inv {α:Type} {sz:Nat} {d:α} {enc:α->List AV} {l:List α} (h:v7 β F w (.sl sz d enc l) v):(l=[]/\∃ x cap,v = .slice x 0 cap)∨∃ (b o cap:Nat) (g:Nat->Nat->Value),v = .slice (some ⟨b,o,none⟩) l.length cap/\l.length<=cap /\
  (∀ i j,i < l.length->j < sz->F b/\w.cell? ⟨b,o + i * sz + j,none⟩=some (g i j))/\∀ i j,i < l.length->j < sz->p9 F w ((enc (l.getD i d)).getD j .any) (g i j):=by
 cases h with
 | imm h =>
  cases h with
  | slnil=>exact .inl ⟨rfl,_,_,rfl⟩
  | sl g hc hb h=>exact .inr ⟨_,_,_,g,rfl,hc,hb,h⟩
theorem v7.sf_inv {α:Type} {sz:Nat} {d:α} {enc:α->List AV} {l:List α} (h:v7 β F w (.sf sz d enc l) v):(l=[]/\∃ x,v = .slice x 0 0)∨∃ (b o:Nat) (g:Nat->Nat->Value),v = .slice (some ⟨b,o,none⟩) l.length l.length /\
  (∀ i j,i < l.length->j < sz->F b/\w.cell? ⟨b,o + i * sz + j,none⟩=some (g i j))/\(∀ i j,i < l.length->j < sz->p9 F w ((enc (l.getD i d)).getD j .any) (g i j)):=by
 cases h with
 | imm h =>
  cases h with
  | sfnil=>exact .inl ⟨rfl,_,rfl⟩
  | sf g hb h=>exact .inr ⟨_,_,g,rfl,hb,h⟩
theorem v7.slc_inv {sz:Nat} {z7:List (List AV)} (h:v7 β F w (.slc sz z7) v):(z7=[]/\v = .slice none 0 0)∨∃ (b o cap:Nat) (g:Nat->Nat->Value),v = .slice (some ⟨b,o,none⟩) z7.length cap/\z7.length<=cap /\
  (∀ i j,i < z7.length->j < sz->F b/\w.cell? ⟨b,o + i * sz + j,none⟩=some (g i j))/\∀ i j,i < z7.length->j < sz->p9 F w ((z7.getD i []).getD j .any) (g i j):=by
 cases h with
 | imm h =>
  cases h with
  | slcnil=>exact .inl ⟨rfl,rfl⟩
  | slc g hc hb h=>exact .inr ⟨_,_,_,g,rfl,hc,hb,h⟩
end
theorem v7.one_cell {β F w} {x:AV} {v:Value} (h:v7 β F w x v) (hx:x.one=true):v.oneCell'=true/\v.cells=#[v]:=by
 cases h with
 | imm h=>cases h<;>first|(simp [AV.one] at hx;done)|exact ⟨rfl,rfl⟩
 | _=>first|(simp [AV.one] at hx;done)|exact ⟨rfl,rfl⟩
theorem Y8:∀ {l:List AV},T0 l=true->∀ i,i < l.length->(l.getD i .any).one=true
 | a :: l,h,0,_=>by simp [T0] at h;exact h.1
 | a :: l,h,i + 1,hi=>by
  simp [T0] at h
  have:=Y8 h.2 i (by simpa using hi)
  simpa using this
theorem cells?_rep {β F w} {x:AV} {v:Value} {l:List AV} (h:v7 β F w x v) (hx:x.cells? = some l) :
  v.cells.size=l.length/\(∀ i,i < l.length->v7 β F w (l.getD i .any) (v.cells.getD i undef))/\∀ u ∈ v.cells.toList,u.oneCell'=true:=by
 have single:x.one=true->l=[x]->v.cells.size=l.length/\(∀ i,i < l.length->v7 β F w (l.getD i .any) (v.cells.getD i undef))/\∀ u ∈ v.cells.toList,u.oneCell'=true:=by
  rintro h1 rfl
  obtain ⟨h2,h3⟩:=h.one_cell h1
  rw [h3]
  refine ⟨rfl,fun i hi=>?_,fun u hu=>?_⟩
  ·have:i=0:=by simp at hi;omega
   subst this
   exact h
  ·simp at hu;rw [hu];exact h2
 cases x with
 | agg xs =>
  simp only [AV.cells?] at hx
  cases ho:T0 xs with
  | false=>simp [ho] at hx
  | true =>
   simp only [ho,Option.some.injEq] at hx
   subst hx
   obtain ⟨vs,rfl,hl,hr⟩:=h.agg_inv
   refine ⟨hl.symm,hr,fun u hu=>?_⟩
   obtain ⟨i,hi,rfl⟩:=List.getElem_of_mem hu
   have U3:i < xs.length:=by rw [hl];simpa [Value.cells] using hi
   have:=((hr i U3).one_cell (Y8 ho i U3)).1
   have e:vs.getD i undef=(Value.agg vs).cells.toList[i]:=by
    simp only [Value.cells,Array.getElem_toList]
    simp [Array.getD_eq_getD_getElem?,hl ▸ U3]
   rw [<- e];exact this
 | any=>simp [AV.cells?] at hx
 | tup=>simp [AV.cells?] at hx
 | _=>exact single rfl (by simpa [AV.cells?] using hx.symm)
theorem ai {cs l:List AV} {off:Nat} (h:off + l.length<=cs.length) (i:Nat) :
  (setCells cs off l).getD i .any=if off<=i/\i < off + l.length then l.getD (i - off) .any else cs.getD i .any:=by
 have hlen:(cs.take off).length=off:=by simp;omega
 simp only [setCells,List.getD,List.append_assoc]
 by_cases h1:i < off
 ·rw [List.getElem?_append_left (by omega),List.getElem?_take_of_lt h1]
  simp [show ¬ (off<=i/\i < off + l.length) by omega]
 ·rw [List.getElem?_append_right (by omega),hlen]
  by_cases h2:i < off + l.length
  ·rw [List.getElem?_append_left (by omega)]
   simp [show off<=i/\i < off + l.length by omega]
  ·rw [List.getElem?_append_right (by omega),List.getElem?_drop]
   simp [show ¬ (off<=i/\i < off + l.length) by omega,show off + l.length + (i - off - l.length)=i by omega]
theorem V2 {cs l:List AV} {off:Nat} (h:off + l.length<=cs.length):(setCells cs off l).length=cs.length:=by
 simp [setCells];omega
def v8 (cs:Array Value) (off:Nat) (l:List Value):Array Value:=(cs.toList.take off++l++cs.toList.drop (off + l.length)).toArray
theorem A3 {cs:Array Value} {l:List Value} {off:Nat} (h:off + l.length<=cs.size) (i:Nat) :
  (v8 cs off l).getD i undef=if off<=i/\i < off + l.length then l.getD (i - off) undef else cs.getD i undef:=by
 have hs:cs.toList.length=cs.size:=by simp
 have hlen:(cs.toList.take off).length=off:=by simp;omega
 simp only [v8,Array.getD_eq_getD_getElem?,List.getElem?_toArray,List.getD,List.append_assoc]
 by_cases h1:i < off
 ·rw [List.getElem?_append_left (by omega),List.getElem?_take_of_lt h1]
  simp [show ¬ (off<=i/\i < off + l.length) by omega]
 ·rw [List.getElem?_append_right (by omega),hlen]
  by_cases h2:i < off + l.length
  ·rw [List.getElem?_append_left (by omega)]
   simp [show off<=i/\i < off + l.length by omega]
  ·rw [List.getElem?_append_right (by omega),List.getElem?_drop]
   simp [show ¬ (off<=i/\i < off + l.length) by omega,show off + l.length + (i - off - l.length)=i by omega]
theorem B2 {cs:Array Value} {l:List Value} {off:Nat} (h:off + l.length<=cs.size):(v8 cs off l).size=cs.size:=by
 simp [v8];omega
def bT (R:AV->Value->Prop) (xs:List AV) (vs:Array Value):Prop:=xs.length=vs.size/\∀ i,i < xs.length->R (xs.getD i .any) (vs.getD i undef)
theorem bT.set {R:AV->Value->Prop} {xs l:List AV} {vs ls:Array Value} {off:Nat} (h:bT R xs vs) (hl:bT R l ls) (ho:off + l.length<=xs.length):bT R (setCells xs off l) (v8 vs off ls.toList):=by
 have e:ls.toList.length=l.length:=by rw [hl.1];simp
 have C9:off + ls.toList.length<=vs.size:=by rw [e,<- h.1];exact ho
 refine ⟨by rw [V2 ho,B2 C9];exact h.1,fun i hi=>?_⟩
 rw [V2 ho] at hi
 rw [ai ho,A3 C9,e]
 split
 ·rename_i hc
  have:=hl.2 (i - off) (by omega)
  have e2:ls.toList.getD (i - off) undef=ls.getD (i - off) undef:=by simp [List.getD,Array.getD_eq_getD_getElem?]
  rw [e2];exact this
 ·exact h.2 i hi
theorem di:∀ (l:List Value) (cs:Array Value) (off k:Nat),off + k + l.length<=cs.size ->
  (l.zipIdx k).foldl (fun (cs:Array Value) (x:Value×Nat)=>cs.setIfInBounds (off + x.2) x.1) cs=v8 cs (off + k) l
 | [],cs,off,k,_=>by
  apply Array.ext'
  simp [v8]
 | v :: l,cs,off,k,h=>by
  simp only [List.length_cons] at h
  simp only [List.zipIdx_cons,List.foldl_cons]
  rw [di l _ off (k + 1) (by simp;omega)]
  apply Array.ext'
  have:=list_seg_step cs.toList (off + k) v l (by simp;omega)
  simp only [v8,Array.toList_setIfInBounds,List.length_cons]
  rw [show off + (k + 1)=off + k + 1 by omega]
  simpa [Nat.add_assoc,Nat.add_comm,Nat.add_left_comm] using this
theorem ew {β F w} {place:Nat->Option (Nat×Nat)}:∀ {S8:List (Nat×AV)} {ps:List (Nat×Value)} {xs:List AV} {vs:Array Value} {cs:List AV},
  List.length S8=ps.length->(∀ i,i < S8.length->(S8.getD i (0,.any)).1=(ps.getD i (0,undef)).1/\v7 β F w (S8.getD i (0,.any)).2 (ps.getD i (0,undef)).2) ->
  bT (v7 β F w) xs vs->ag place xs S8=some cs->∃ us,Instr.fill place vs ps=some us/\bT (v7 β F w) cs us
 | [],[],xs,vs,cs,_,_,h,hf=>by simp [ag] at hf;subst hf;exact ⟨vs,rfl,h⟩
 | (i,x) :: S8,(i',v) :: ps,xs,vs,cs,hl,hp,h,hf=>by
  obtain ⟨e,hx⟩:=hp 0 (by simp)
  simp only [List.getD_cons_zero] at e hx
  subst e
  simp only [ag] at hf
  cases iy:place i with
  | none=>simp [iy] at hf
  | some os =>
   obtain ⟨off,size⟩:=os
   simp only [iy] at hf
   cases hc:x.cells? with
   | none=>simp [hc] at hf
   | some l =>
    simp only [hc] at hf
    cases hb:Nat.beq l.length size with
    | false=>simp [hb] at hf
    | true =>
     simp only [hb] at hf
     cases X0:Nat.ble (off + size) xs.length with
     | false=>simp [X0] at hf
     | true =>
      simp only [X0] at hf
      have e1:l.length=size:=Nat.eq_of_beq_eq_true hb
      have e2:off + size<=xs.length:=Nat.le_of_ble_eq_true X0
      obtain ⟨c1,c2,c3⟩:=cells?_rep hx hc
      have oW:=h.set (l:=l) (ls:=v.cells) (off:=off) ⟨c1.symm,c2⟩ (by omega)
      obtain ⟨us,ry,sZ⟩:=ew (S8:=S8) (ps:=ps) (by simpa using hl) (fun j hj=>by have:=hp (j + 1) (by simpa using hj);simpa using this) oW hf
      refine ⟨us,?_,sZ⟩
      have Cu:v.cells.toList.length=v.cells.size:=by simp
      have iX:=di v.cells.toList vs off 0 (by rw [Cu,c1,e1,<- h.1];omega)
      simp only [Instr.fill,iy]
      have c4:¬ (v.cells.size≠size):=by omega
      have c5:¬ (vs.size < off + v.cells.size):=by rw [<- h.1];omega
      have hz:v.cells.zipIdx.foldl (fun cs (c,j)=>cs.setIfInBounds (off + j) c) vs=v8 vs off v.cells.toList:=by
       rw [<- Array.foldl_toList]
       simpa using iX
      simp only [c4,c5,hz,if_false,decide_false,Bool.or_false,Bool.false_or,gt_iff_lt]
      simpa [c4,c5] using ry
theorem p9.tts {F:Nat->Prop} {w:World} {x:AV} {v:Value} (h:p9 F w x v):p9 F w (I2 x) v:=by
 cases x
 case tt=>cases h;exact .bool _
 case ff=>cases h;exact .bool _
 all_goals exact h
theorem v7.tts {β:Nat->Option Hd} {F:Nat->Prop} {w:World} {x:AV} {v:Value} (h:v7 β F w x v):v7 β F w (I2 x) v:=by
 cases x
 case tt=>cases h with
  | imm h=>exact .imm h.tts
 case ff=>cases h with
  | imm h=>exact .imm h.tts
 all_goals exact h
theorem aC (args:List AV) (i:Nat):(args.map I2).getD i .any=I2 (args.getD i .any):=by
 simp only [List.getD,List.getElem?_map]
 cases args[i]? <;> rfl
theorem lR {α:Type} {z7:List (List AV)} {enc:α->List AV} {l:List α} {d:α} (h:(z7.map fun cs=>cs.map I2)=l.map enc) {i:Nat} (hi:i < l.length):(z7.getD i []).map I2=enc (l.getD i d):=by
 have e1:(z7.map fun cs=>cs.map I2).getD i []=(z7.getD i []).map I2:=by
  simp only [List.getD,List.getElem?_map]
  cases z7[i]? <;> rfl
 have e2:(l.map enc).getD i []=enc (l.getD i d):=by simp [List.getD,hi]
 rw [<- e1,h,e2]
theorem cd {α:Type} {z7:List (List AV)} {enc:α->List AV} {l:List α} (h:(z7.map fun cs=>cs.map I2)=l.map enc):z7.length=l.length:=by
 have:=congrArg List.length h
 simpa using this

end Go.Ev
