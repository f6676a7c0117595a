/- slices.Insert at []int, as a call that takes over rows and hands back one. A helper text: it speaks of no program. -/
import Derived.Test.YtpmmjoccamogdaaGreatEvSeven
import Derived.Shelf.Spec.SlicesInsert
import Derived.Shelf.Spec.SlicesInsertGrow
import Derived.Conc.MuLone
set_option linter.unusedVariables false
set_option linter.unusedSimpArgs false
namespace Go.Ev
theorem nC {us:Array Value} {o:Nat} {v:Value} {vs:List Value} (h:o + (vs.length + 1)<=us.size):v8 (us.setIfInBounds o v) (o + 1) vs=v8 us o (v :: vs):=by
 apply Array.ext'
 have:=list_seg_step us.toList o v vs (by simp;omega)
 simp only [v8,Array.toList_setIfInBounds,List.length_cons]
 simpa [Nat.add_assoc,Nat.add_comm,Nat.add_left_comm] using this
theorem D3 {b:Nat} {ty:TypeId}:∀ (vs:List Value) (o:Nat) (w:World) (us:Array Value),w.heap[b]? = some (.cells us ty (0,0))->o + vs.length<=us.size ->
  (w.setCells b o vs).heap[b]? = some (.cells (v8 us o vs) ty (0,0))/\(∀ k,k≠b->(w.setCells b o vs).heap[k]? = w.heap[k]?)/\(w.setCells b o vs).heap.size=w.heap.size /\
   (w.setCells b o vs).os=w.os/\(w.setCells b o vs).tape=w.tape/\(w.setCells b o vs).output=w.output
 | [],o,w,us,h,hl=>by
  have:v8 us o []=us:=by apply Array.ext'; simp [v8]
  rw [this]
  exact ⟨h,fun _ _=>rfl,rfl,rfl,rfl,rfl⟩
 | v :: vs,o,w,us,h,hl=>by
  simp only [List.length_cons] at hl
  have h1:(w.setCell ⟨b,o,none⟩ v).heap[b]? = some (.cells (us.setIfInBounds o v) ty (0,0)):=by
   simp [World.setCell,Array.getElem?_modify,h]
  have h2:∀ k,k≠b->(w.setCell ⟨b,o,none⟩ v).heap[k]? = w.heap[k]? := fun k hk=>by
   simp [World.setCell,Array.getElem?_modify,Ne.symm hk]
  obtain ⟨g1,g2,g3,g4,g5,g6⟩:=D3 vs (o + 1) (w.setCell ⟨b,o,none⟩ v) (us.setIfInBounds o v) h1 (by simp;omega)
  refine ⟨?_,fun k hk=>(g2 k hk).trans (h2 k hk),g3.trans (by simp [World.setCell]),g4,g5,g6⟩
  rw [<- nC (by omega)]
  exact g1
section
variable {P:Program} {β:Nat->Option Hd} {F:Nat->Prop} {w w':World}
theorem rY {ins:List Row} (ho:pz β F w ins) (hF:∀ b,F b->b < w.heap.size) {n:Nat} (hn:β n=none) {hd:Hd} {r:Row} {l5:List Row} (eN:∀ k,l5.getD k .none=if k=n then r else .none) (bU:D6 (fun b=>w.heap.size<=b∨cZ β b) w w')
  (hr:∀ β',β' n=some hd->s9 β' F w' n r) (hb:∀ c,N4 (some hd) c->c < w'.heap.size/\(w.heap.size<=c∨cZ β c)/\¬ F c) :
  ∃ v β' F',Ending.returned (.slice (hd.b.map fun b=>⟨b,0,none⟩) hd.len hd.cap) = .returned v/\D6 (fun b=>w.heap.size<=b∨cZ β b) w w'/\(∀ k hd,β k=some hd->β' k=some hd)/\(∀ b,F b->F' b) /\
   (∀ b,F' b->b < w'.heap.size/\(F b∨w.heap.size<=b∨cZ β b))/\v7 β' F' w' (.own n) v/\(∀ k,s9 β' F' w' k (l5.getD k .none)) /\
   (∀ i j b,l5.getD i .none ≠ .none->l5.getD j .none ≠ .none->o7 β' i b->o7 β' j b->i=j)/\(∀ i b,l5.getD i .none ≠ .none->o7 β' i b->¬ F' b) /\
   (∀ i b,o7 β' i b->b < w'.heap.size/\(w.heap.size<=b∨cZ β b)):=by
 let β':Nat->Option Hd:=fun j=>if j=n then some hd else β j
 have h1:β' n=some hd:=by simp [β']
 have h2:∀ j,j≠n->β' j=β j:=fun j hj=>by simp [β',hj]
 have live:∀ i,l5.getD i .none ≠ .none->i=n:=fun i hi=>by
  rw [eN] at hi
  by_cases e:i=n
  ·exact e
  ·rw [if_neg e] at hi;exact absurd rfl hi
 refine ⟨_,β',F,rfl,bU,fun k iC hk=>(h2 k (fun e=>by subst e;rw [hn] at hk;cases hk)).trans hk,fun _ h=>h,fun b X0=>⟨Nat.lt_of_lt_of_le (hF b X0) bU.size,.inl X0⟩,.own h1,fun k=>?_,fun i j b hi hj _ _=>(live i hi).trans (live j hj).symm,fun i b hi u9=>?_,fun i b u9=>?_⟩
 ·rw [eN]
  split
  ·rename_i e;subst e;exact hr β' h1
  ·trivial
 ·obtain rfl:=live i hi
  rw [o7,h1] at u9
  exact (hb b u9).2.2
 ·by_cases e:i=n
  ·subst e;rw [o7,h1] at u9;exact ⟨(hb b u9).1,(hb b u9).2.1⟩
  ·rw [o7,h2 i e] at u9
   exact ⟨Nat.lt_of_lt_of_le (ho.bB i b u9) bU.size,.inr ⟨i,u9⟩⟩
theorem pQ {β':Nat->Option Hd} {n b cap:Nat} {ty:TypeId} {zs:List Int} {vs:Array Value} (hβ:β' n=some ⟨some b,zs.length,cap,bd⟩) (hh:w'.heap[b]? = some (.cells vs ty (0,0))) (hc:zs.length<=cap) (hm:cap<=maxLen) (hs:vs.size=cap)
  (hv:∀ i,i < zs.length->vs.getD i undef = .int .i64 (zs.getD i 0)):s9 β' F w' n (.vec ty 1 (0:Int) R6 zs):=by
 refine ⟨_,hβ,rfl,rfl,.inr ⟨b,vs,rfl,hh,hc,hm,by simpa using hs,fun i j hi hj=>?_⟩⟩
 have e:j=0:=by omega
 subst e
 rw [Nat.mul_one,Nat.add_zero,hv i hi]
 exact .int _ _
theorem K3 {zs:List Int} {u:Int} {k:Nat} (hk:k<=zs.length) (i:Nat):(zs.take k++u :: zs.drop k).getD i 0=if i < k then zs.getD i 0 else if i=k then u else zs.getD (i - 1) 0:=by
 have hl:(zs.take k).length=k:=by simp [hk]
 simp only [List.getD]
 by_cases h1:i < k
 ·rw [if_pos h1,List.getElem?_append_left (by omega),List.getElem?_take_of_lt h1]
 ·rw [if_neg h1,List.getElem?_append_right (by omega),hl]
  by_cases h2:i=k
  ·subst h2;simp
  ·rw [if_neg h2]
   have:i - k=(i - k - 1) + 1:=by omega
   rw [this,List.getElem?_cons_succ,List.getElem?_drop]
   congr 2;omega
open Go.Proofs Go.Shelf in
theorem uU {ρ:Ren} (L:Lays2.n21 P ρ) {fn:Func} {c:Code} (hf:P.funcs[ρ.f 21]? = some fn) (I8:(fn.name == "runtime.NumGoroutine")=false) (hb:fn.body=some c) (zs:List Int) (u:Int) (k:Nat) (hk:k≤zs.length) (hl:zs.length < 1073741824) (tl:TypeId) :
  PW P (ρ.f 21) [.own 0,.int .i64 k,.own 1] [.vec (ρ.t 3) 1 (0:Int) R6 zs,.lit tl 1 [[.int .i64 u]]] (.own 2) [.none,.none,.vec (ρ.t 3) 1 (0:Int) R6 (zs.take k++u :: zs.drop k)]:=by
 intro F w vs β hF C1 G8 K8
 have r0:=G8 0 (by simp)
 have r1:=G8 1 (by simp)
 have r2:=G8 2 (by simp)
 simp only [List.getD_cons_zero,List.getD_cons_succ] at r0 r1 r2
 obtain ⟨Q9,b0,v0⟩:=r0.own_inv
 have v1:=r1.int_inv
 obtain ⟨dI,b1,v2⟩:=r2.own_inv
 have hv:vs=#[.slice (Q9.b.map fun b=>⟨b,0,none⟩) Q9.len Q9.cap,.int .i64 k,.slice (dI.b.map fun b=>⟨b,0,none⟩) dI.len dI.cap]:=by
  have h3:vs.size=3:=by simpa using C1
  rw [<- v0,<- v1,<- v2]
  apply Array.ext
  ·simp [h3]
  ·intro i Af uv
   have:i < 3:=by omega
   match i,this with
   | 0,_=>simp [Array.getD,Af]
   | 1,_=>simp [Array.getD,Af]
   | 2,_=>simp [Array.getD,Af]
 subst hv
 have q0:=K8.rows 0
 have q1:=K8.rows 1
 simp only [List.getD_cons_zero,List.getD_cons_succ] at q0 q1
 obtain ⟨Iu,e1,em,e2,e3⟩:=q0
 rw [b0] at e1;cases e1
 obtain ⟨Lf,bv,vv,f1,fm,f2,f3,f4,f5,f6,_,f8⟩:=q1
 rw [b1] at f1;cases f1
 have xn:β 2=none:=K8.dead 2 rfl
 have Iv:dI.len=1:=by simpa using f4
 have Lg:dI.cap=1:=by simpa using f5
 have Lh:vv.size=1:=by simpa using f6
 have fu:=f8 0 0 (by simp) (by omega)
 simp only [List.getD_cons_zero,Nat.zero_mul,Nat.add_zero] at fu
 have fu:=fu.int_inv
 have o0:∀ b,Q9.b=some b->o7 β 0 b:=fun b h=>by rw [o7,b0];exact w8 h
 have o1:o7 β 1 bv:=by rw [o7,b1];exact w8 f2
 refine ⟨Go.MuLone.run_callFunc_enter hf I8 hb _ _,?_⟩
 rw [f2,Iv,Lg]
 have tc:∀ j v,([Value.int .i64 u]:List Value)[j]? = some v->w.cell? ⟨bv,0 + j,none⟩=some v:=fun j v hj=>by
  have:j=0:=by
   rcases Nat.eq_zero_or_pos j with h|h
   ·exact h
   ·rw [List.getElem?_eq_none (by simp only [List.length_cons,List.length_nil];omega)] at hj;cases hj
  subst this
  simp only [List.getElem?_cons_zero,Option.some.injEq] at hj
  rw [<- hj,<- fu,Nat.zero_add]
  exact A6 f3 (by omega)
 have GF:∀ v ∈ ([Value.int .i64 u]:List Value),v.oneCell'=true:=fun v hv=>by simp at hv;rw [hv];rfl
 have l5:∀ k',([.none,.none,.vec (ρ.t 3) 1 (0:Int) R6 (zs.take k++u :: zs.drop k)]:List Row).getD k' .none=if k'=2 then .vec (ρ.t 3) 1 (0:Int) R6 (zs.take k++u :: zs.drop k) else .none:=fun k'=>by
  match k' with
  | 0=>rfl
  | 1=>rfl
  | 2=>rfl
  | _ + 3=>simp
 have te:(zs.take k++u :: zs.drop k).length=zs.length + 1:=by simp;omega
 have wf:∀ {w':World},w'.os=w.os->w'.tape=w.tape->w'.output=w.output->w.heap.size<=w'.heap.size->(∀ k,k < w.heap.size->(∀ b,Q9.b=some b->k≠b)->w'.heap[k]? = w.heap[k]?)->D6 (fun b=>w.heap.size<=b∨cZ β b) w w':=fun h1 h2 h3 h4 h5 =>
  ⟨h1,h2,h3,h4,fun k hk=>h5 k (Nat.lt_of_not_le fun h=>hk (.inl h)) fun b hb e=>hk (.inr ⟨0,e ▸ o0 b hb⟩)⟩
 -- a new row
 have grown:∀ (cap:Nat),cap<=maxLen->zs.length + 1<=cap->∀ (w':World) (us:Array Value),w'.heap[w.heap.size]? = some (.cells us (ρ.t 3) (0,0))->us.size=cap->(∀ i,i < zs.length + 1->us.getD i undef = .int .i64 ((zs.take k++u :: zs.drop k).getD i 0)) ->
   w'.os=w.os->w'.tape=w.tape->w'.output=w.output->w'.heap.size=w.heap.size + 1->(∀ j,j < w.heap.size->w'.heap[j]? = w.heap[j]?) ->
   ∃ v β' F',Ending.returned (.slice (some ⟨w.heap.size,0,none⟩) (zs.length + 1) cap) = .returned v/\D6 (fun b=>w.heap.size<=b∨cZ β b) w w'/\(∀ k hd,β k=some hd->β' k=some hd)/\(∀ b,F b->F' b) /\
    (∀ b,F' b->b < w'.heap.size/\(F b∨w.heap.size<=b∨cZ β b))/\v7 β' F' w' (.own 2) v/\(∀ k',s9 β' F' w' k' (([.none,.none,.vec (ρ.t 3) 1 (0:Int) R6 (zs.take k++u :: zs.drop k)]:List Row).getD k' .none)) /\
    (∀ i j b,([.none,.none,.vec (ρ.t 3) 1 (0:Int) R6 (zs.take k++u :: zs.drop k)]:List Row).getD i .none ≠ .none->([.none,.none,.vec (ρ.t 3) 1 (0:Int) R6 (zs.take k++u :: zs.drop k)]:List Row).getD j .none ≠ .none->o7 β' i b->o7 β' j b->i=j)/\(∀ i b,([.none,.none,.vec (ρ.t 3) 1 (0:Int) R6 (zs.take k++u :: zs.drop k)]:List Row).getD i .none ≠ .none->o7 β' i b->¬ F' b) /\
    (∀ i b,o7 β' i b->b < w'.heap.size/\(w.heap.size<=b∨cZ β b)):=by
  intro cap rD N0 w' us hh FH Iw g1 g2 g3 g4 g5
  refine rY K8 hF xn (hd:=⟨some w.heap.size,zs.length + 1,cap,bd⟩) l5 (wf g1 g2 g3 (by omega) (fun j hj _=>g5 j hj)) (fun β' dF=>pQ (by rw [te];exact dF) hh (by omega) rD FH (fun i hi=>?_)) (fun c hc=>?_)
  ·rw [te] at hi
   exact Iw i hi
  ·rw [F8,Option.some.injEq] at hc
   subst hc
   exact ⟨by omega,.inl (Nat.le_refl _),fun h=>by have:=hF _ h;omega⟩
 let cs:List Value:=zs.map fun z => .int .i64 z
 have N0:cs.length=zs.length:=by simp [cs]
 have xp:∀ i,i < zs.length->cs[i]? = some (.int .i64 (zs.getD i 0)):=fun i hi=>by simp [cs,List.getD,hi]
 have GG:∀ v ∈ cs,v.oneCell'=true:=fun v hv=>by obtain ⟨z,_,rfl⟩:=List.mem_map.1 hv;rfl
 have zc:∀ m,(Builtin.zeroCells (Value.int .i64 0).cells m).size=m:=fun m=>by rw [O1];simp [Value.cells]
 have zH:zs.length + 1<=maxLen:=by simp only [maxLen];omega
 have FI:∀ (base:Option Addr) (cp:Nat),k=zs.length->(base=none->zs.length=0)->zs.length<=cp->cp < zs.length + 1->(∀ a,base=some a->∀ j v,cs[j]? = some v->w.cell? (a.add j)=some v) ->
   Calls P (ρ.f 21) #[.slice base zs.length cp,.int .i64 k,.slice (some ⟨bv,0,none⟩) 1 1] w fun e w'=>∃ v β' F',e = .returned v/\D6 (fun b=>w.heap.size<=b∨cZ β b) w w'/\(∀ k hd,β k=some hd->β' k=some hd)/\(∀ b,F b->F' b) /\
    (∀ b,F' b->b < w'.heap.size/\(F b∨w.heap.size<=b∨cZ β b))/\v7 β' F' w' (.own 2) v/\(∀ k',s9 β' F' w' k' (([.none,.none,.vec (ρ.t 3) 1 (0:Int) R6 (zs.take k++u :: zs.drop k)]:List Row).getD k' .none)) /\
    (∀ i j b,([.none,.none,.vec (ρ.t 3) 1 (0:Int) R6 (zs.take k++u :: zs.drop k)]:List Row).getD i .none ≠ .none->([.none,.none,.vec (ρ.t 3) 1 (0:Int) R6 (zs.take k++u :: zs.drop k)]:List Row).getD j .none ≠ .none->o7 β' i b->o7 β' j b->i=j)/\(∀ i b,([.none,.none,.vec (ρ.t 3) 1 (0:Int) R6 (zs.take k++u :: zs.drop k)]:List Row).getD i .none ≠ .none->o7 β' i b->¬ F' b) /\
    (∀ i b,o7 β' i b->b < w'.heap.size/\(w.heap.size<=b∨cZ β b)):=by
  intro base cp FJ GH Ix Iy Li
  subst FJ
  refine (Any2.slices_Insert_int_end_grow L base zs.length cp bv 0 1 1 cs [.int .i64 u] w (by omega) Ix Iy (by omega) N0 rfl GH Li tc GF).mono ?_
  rintro e w' ⟨rfl,rfl⟩
  refine grown _ (grownCap_le_maxLen w _ _ _ (by simpa using zH)) (grownCap_ge w _ _ _) _ _ (heap_alloc_new w.drew _) ?_ (fun i hi=>?_) rfl rfl rfl (by simp) (fun j hj=>RowKit.Below.heap_alloc w.drew _ j hj)
  ·rw [Array.size_append,zc]
   have:=grownCap_ge w (zs.length + 1) cp (ρ.t 3)
   simp only [List.size_toArray,List.length_append,N0,List.length_cons,List.length_nil]
   omega
  ·rw [K3 (Nat.le_refl _)]
   have e:((cs++[Value.int .i64 u]).toArray++Builtin.zeroCells (Value.int .i64 0).cells (grownCap w (zs.length + 1) cp (ρ.t 3) - (zs.length + 1))).getD i undef=((cs++[Value.int .i64 u])[i]?).getD undef:=by
    have hs:i < (cs++[Value.int .i64 u]).length:=by simp only [List.length_append,N0,List.length_cons,List.length_nil];exact hi
    rw [Array.getD_eq_getD_getElem?,Array.getElem?_append_left (by simpa using hs)]
    simp
   rw [e]
   by_cases h:i < zs.length
   ·rw [if_pos h,List.getElem?_append_left (by omega),xp i h];rfl
   ·have:i=zs.length:=by omega
    rw [if_neg h,if_pos this,List.getElem?_append_right (by omega),N0,this,Nat.sub_self];rfl
 rcases e3 with ⟨hz,ta,HJ⟩|⟨b,us,g1,g2,g3,g4,g5,g6⟩
 ·subst hz
  have Ft:k=0:=by simpa using hk
  rw [ta,e2,HJ]
  exact FI none 0 (by simpa using Ft) (fun _=>rfl) (Nat.le_refl _) (by simp) (fun a ha=>by cases ha)
 ·rw [g1,e2]
  have JO:us.size=Q9.cap:=by simpa using g5
  have uget:∀ i,i < zs.length->us.getD i undef = .int .i64 (zs.getD i 0):=fun i hi=>by
   have:=g6 i 0 hi (by omega)
   rw [Nat.mul_one,Nat.add_zero] at this
   generalize us.getD i undef=x at this
   have e:(R6 (zs.getD i 0)).getD 0 .any = .int .i64 (zs.getD i 0):=rfl
   rw [e] at this
   cases this;rfl
  have oO:∀ j v,cs[j]? = some v->w.cell? ⟨b,0 + j,none⟩=some v:=fun j v hj=>by
   have fI:j < zs.length:=by
    rcases Nat.lt_or_ge j zs.length with h|h
    ·exact h
    ·rw [List.getElem?_eq_none (by omega)] at hj;cases hj
   rw [xp j fI] at hj
   cases hj
   rw [Nat.zero_add,A6 g2 (by omega),uget j fI]
  have Lj:bv≠b:=fun e=>by
   subst e
   have:=K8.inj 0 1 bv (by simp) (by simp) (o0 bv g1) o1
   cases this
  have fz:∀ o,w.frozen? ⟨b,o,none⟩=false:=fun o=>by simp [World.frozen?,g2]
  have JP:∀ o,w.frozen? ⟨bv,o,none⟩=false:=fun o=>by simp [World.frozen?,f3]
  have tx:∀ (w':World) (GI:Array Value),zs.length + 1<=Q9.cap->w'.heap[b]? = some (.cells GI (ρ.t 3) (0,0))->GI.size=Q9.cap->(∀ i,i < zs.length + 1->GI.getD i undef = .int .i64 ((zs.take k++u :: zs.drop k).getD i 0)) ->
    w'.os=w.os->w'.tape=w.tape->w'.output=w.output->w'.heap.size=w.heap.size->(∀ j,j≠b->w'.heap[j]? = w.heap[j]?)->_:=fun w' GI Ae hh FH Iw k1 k2 k3 k4 k5 =>
   rY K8 hF xn (hd:=⟨some b,zs.length + 1,Q9.cap,bd⟩) l5 (wf k1 k2 k3 (by omega) (fun j _ hj=>k5 j (hj b g1))) (fun β' dF=>pQ (F:=F) (β':=β') (by rw [te];exact dF) hh (by rw [te];exact Ae) g4 FH (fun i hi=>Iw i (by rw [te] at hi;exact hi))) (fun c hc=>by
    rw [F8,Option.some.injEq] at hc
    subst hc
    exact ⟨by rw [k4];exact K8.bB 0 b (o0 b g1),.inr ⟨0,o0 b g1⟩,K8.bF 0 b (by simp) (o0 b g1)⟩)
  by_cases P1:zs.length + 1<=Q9.cap
  ·by_cases FJ:k=zs.length
   ·subst FJ
    refine (Any2.slices_Insert_int_end_room L b 0 zs.length Q9.cap bv 0 1 1 [.int .i64 u] w (by omega) P1 (by simp only [maxLen] at g4;omega) rfl (fun j hj=>?_) (fun j hj=>fz _) tc GF).mono ?_
    ·have:j=0:=by omega
     subst this
     rw [Nat.zero_add,Nat.add_zero,A6 g2 (by omega)];rfl
    ·rintro e w' ⟨rfl,rfl⟩
     have dC:0 + zs.length + ([Value.int .i64 u]:List Value).length<=us.size:=by simp only [List.length_cons,List.length_nil];omega
     obtain ⟨k1,k2,k3,k4,k5,k6⟩:=D3 [.int .i64 u] (0 + zs.length) w us g2 dC
     refine tx _ _ P1 k1 (by rw [B2 dC];exact JO) (fun i hi=>?_) k4 k5 k6 k3 k2
     rw [A3 dC,K3 (Nat.le_refl _)]
     simp only [List.length_cons,List.length_nil,Nat.zero_add]
     by_cases h:i < zs.length
     ·rw [if_neg (by omega),if_pos h];exact uget i h
     ·have:i=zs.length:=by omega
      rw [if_pos (by omega),if_neg h,if_pos this,this,Nat.sub_self];rfl
   ·have u2:k < zs.length:=by omega
    refine (Any2.slices_Insert_int_shift L b 0 zs.length Q9.cap k bv 0 1 1 cs [.int .i64 u] w u2 (by omega) P1 (by simp only [maxLen] at g4;omega) Lj N0 rfl oO (fun j hj=>?_) (fun j hj=>fz _) tc GG GF tl (ρ.t 3) 1 us.size ?_ ?_ (by omega) (JP _) (JP _)).mono ?_
    ·rw [Nat.zero_add,A6 g2 (by omega)];rfl
    ·simp [World.shape?,f3,Lh]
    ·simp [World.shape?,g2]
    ·rintro e w' ⟨rfl,rfl⟩
     have dl:(cs.drop k).length=zs.length - k:=by rw [List.length_drop,N0]
     have jy:0 + (k + 1) + (cs.drop k).length<=us.size:=by omega
     obtain ⟨k1,k2,k3,k4,k5,k6⟩:=D3 (cs.drop k) (0 + (k + 1)) w.drew us g2 jy
     have wc:(v8 us (0 + (k + 1)) (cs.drop k)).size=us.size:=B2 jy
     have Z4:0 + k + ([Value.int .i64 u]:List Value).length<=(v8 us (0 + (k + 1)) (cs.drop k)).size:=by rw [wc];simp only [List.length_cons,List.length_nil];omega
     obtain ⟨m1,m2,m3,m4,m5,m6⟩:=D3 [.int .i64 u] (0 + k) (w.drew.setCells b (0 + (k + 1)) (cs.drop k)) _ k1 Z4
     refine tx _ _ P1 m1 (by rw [B2 Z4,wc];exact JO) (fun i hi=>?_) (m4.trans k4) (m5.trans k5) (m6.trans k6) (m3.trans k3) (fun j hj=>(m2 j hj).trans (k2 j hj))
     rw [A3 Z4,A3 jy,K3 hk]
     simp only [List.length_cons,List.length_nil,Nat.zero_add,dl]
     by_cases h:i < k
     ·rw [if_neg (by omega),if_neg (by omega),if_pos h];exact uget i (by omega)
     ·by_cases h2:i=k
      ·rw [if_pos (by omega),if_neg h,if_pos h2,h2,Nat.sub_self];rfl
      ·rw [if_neg (by omega),if_pos (by omega),if_neg h,if_neg h2]
       have:(cs.drop k).getD (i - (k + 1)) undef = .int .i64 (zs.getD (i - 1) 0):=by
        rw [List.getD,List.getElem?_drop,show k + (i - (k + 1))=i - 1 by omega,xp (i - 1) (by omega)];rfl
       exact this
  ·by_cases FJ:k=zs.length
   ·exact FI (some ⟨b,0,none⟩) Q9.cap FJ (fun h=>by cases h) g3 (by omega) (fun a ha j v hj=>by
     cases ha
     rw [G0]
     exact oO j v hj)
   ·have u2:k < zs.length:=by omega
    refine (Any2.slices_Insert_int_grow L b 0 zs.length Q9.cap k bv 0 1 1 cs [.int .i64 u] w u2 (by omega) g3 (by omega) (by omega) N0 rfl oO tc GG GF).mono ?_
    rintro e w' ⟨rfl,rfl⟩
    have dl:(cs.drop k).length=zs.length - k:=by rw [List.length_drop,N0]
    have Lk:(cs.take k).length=k:=by rw [List.length_take,N0];omega
    have gc:=grownCap_ge w (zs.length + 1) Q9.cap (ρ.t 3)
    generalize wG:grownCap w (zs.length + 1) Q9.cap (ρ.t 3)=cap at gc
    have gm:cap<=maxLen:=by rw [<- wG];exact grownCap_le_maxLen w _ _ _ zH
    let uV:Array Value:=(cs.take k).toArray++Builtin.zeroCells (Value.int .i64 0).cells (zs.length + 1 - k)++Builtin.zeroCells (Value.int .i64 0).cells (cap - (zs.length + 1))
    have s0:uV.size=cap:=by
     simp only [uV,Array.size_append,zc,List.size_toArray,Lk];omega
    have h0:(w.alloc (.cells uV (ρ.t 3))).drew.heap[w.heap.size]? = some (.cells uV (ρ.t 3) (0,0)):=heap_alloc_new w _
    have jy:k + ([Value.int .i64 u]:List Value).length<=uV.size:=by rw [s0];simp only [List.length_cons,List.length_nil];omega
    obtain ⟨k1,k2,k3,k4,k5,k6⟩:=D3 [.int .i64 u] k (w.alloc (.cells uV (ρ.t 3))).drew uV h0 jy
    have wc:(v8 uV k [.int .i64 u]).size=uV.size:=B2 jy
    have Z4:k + 1 + (cs.drop k).length<=(v8 uV k [.int .i64 u]).size:=by rw [wc,s0,dl];omega
    obtain ⟨m1,m2,m3,m4,m5,m6⟩:=D3 (cs.drop k) (k + 1) ((w.alloc (.cells uV (ρ.t 3))).drew.setCells w.heap.size k [.int .i64 u]).drew _ k1 Z4
    refine grown cap gm gc _ _ m1 (by rw [B2 Z4,wc];exact s0) (fun i hi=>?_) (m4.trans k4) (m5.trans k5) (m6.trans k6) (m3.trans (k3.trans (by simp))) (fun j hj=>(m2 j (by omega)).trans ((k2 j (by omega)).trans (RowKit.Below.heap_alloc w _ j hj)))
    rw [A3 Z4,A3 jy,K3 hk]
    simp only [List.length_cons,List.length_nil,Nat.zero_add,dl]
    by_cases h:i < k
    ·rw [if_neg (by omega),if_neg (by omega),if_pos h]
     have:uV.getD i undef=((cs.take k)[i]?).getD undef:=by
      have hs:i < (cs.take k).length:=by omega
      simp only [uV]
      rw [Array.getD_eq_getD_getElem?,Array.append_assoc,Array.getElem?_append_left (by simpa using hs)]
      simp
     rw [this,List.getElem?_take_of_lt h,xp i (by omega)];rfl
    ·by_cases h2:i=k
     ·rw [if_neg (by omega),if_pos (by omega),if_neg h,if_pos h2,h2,Nat.sub_self];rfl
     ·rw [if_pos (by omega),if_neg h,if_neg h2]
      have:(cs.drop k).getD (i - (k + 1)) undef = .int .i64 (zs.getD (i - 1) 0):=by
       rw [List.getD,List.getElem?_drop,show k + (i - (k + 1))=i - 1 by omega,xp (i - 1) (by omega)];rfl
      exact this
end

end Go.Ev
