/- slices.Insert at []int, as a call that takes over rows and hands back one. A helper text: it speaks of no program. -/
import Derived.Test.YtdpnpdjnaimgaaaGreatEvSeven
import Derived.Shelf.Spec.SlicesInsert
import Derived.Shelf.Spec.SlicesInsertGrow
import Derived.Conc.MuLone
set_option linter.unusedVariables false
set_option linter.unusedSimpArgs false
namespace Go.Ev
theorem wL{us:Array Value}{o:Nat}{v:Value}{vs:List Value}(h:o+(vs.length+1)<=us.size):z6 (us.setIfInBounds o v) (o+1) vs=z6 us o (v :: vs):=by
 apply Array.ext';have:=list_seg_step us.toList o v vs (by simp;omega);simp only[z6,Array.toList_setIfInBounds,zB2];simpa[Nat.add_assoc,Nat.add_comm,Nat.add_left_comm]using this
theorem E6{b:Nat}{ty:TypeId}:∀ (vs:List Value) (o:Nat) (w:World) (us:Array Value),w.heap[b]? = some (.cells us ty (0,0))->o+vs.length<=us.size ->
  (w.setCells b o vs).heap[b]? = some (.cells (z6 us o vs) ty (0,0))/\(∀ k,k≠b->(w.setCells b o vs).heap[k]? = w.heap[k]?)/\(w.setCells b o vs).heap.size=w.heap.size /\
   (w.setCells b o vs).os=w.os/\(w.setCells b o vs).tape=w.tape/\(w.setCells b o vs).output=w.output
 | [],o,w,us,h,hl=>by
  have:z6 us o []=us:=by apply Array.ext'; simp[z6]
  rw[this];exact⟨h,fun _ _=>rfl,rfl,rfl,rfl,rfl⟩
 | v :: vs,o,w,us,h,hl=>by
  simp only[zB2]at hl;have h1:(w.setCell ⟨b,o,none⟩ v).heap[b]? = some (.cells (us.setIfInBounds o v) ty (0,0)):=by
   simp[World.setCell,Array.getElem?_modify,h]
  have h2:∀ k,k≠b->(w.setCell ⟨b,o,none⟩ v).heap[k]? = w.heap[k]? := fun k hk=>by
   simp[World.setCell,Array.getElem?_modify,Ne.symm hk]
  obtain⟨g1,g2,g3,g4,g5,g6⟩:=E6 vs (o+1) (w.setCell ⟨b,o,none⟩ v) (us.setIfInBounds o v) h1 (by simp;omega);refine⟨?_,fun k hk=>(g2 k hk).trans (h2 k hk),g3.trans (by simp[World.setCell]),g4,g5,g6⟩;rw[<- wL va5];exact g1
section
variable {P:Program}{β:Nat->Option Hd}{F:Nat->Prop}{w w':World}
theorem wM{ins:List Row}(ho:yW β F w ins)(hF:∀ b,F b->b<w.heap.size){n:Nat}(hn:β n=none){hd:Hd}{r:Row}{n7:List Row}(tD:∀ k,n7.getD k .none=if k=n then r else .none)(U2:I3 (fun b=>w.heap.size<=b∨jM β b) w w')
  (hr:∀ β',β' n=some hd->A3 β' F w' n r) (hb:∀ c,ck (some hd) c->c<w'.heap.size/\(w.heap.size<=c∨jM β c)/\¬ F c) :
  ∃ v β' F',Ending.returned (.slice (hd.b.map fun b=>⟨b,0,none⟩) hd.len hd.cap) = .returned v/\I3 (fun b=>w.heap.size<=b∨jM β b) w w'/\(∀ k hd,β k=some hd->β' k=some hd)/\(∀ b,F b->F' b) /\
   (∀ b,F' b->b<w'.heap.size/\(F b∨w.heap.size<=b∨jM β b))/\B4 β' F' w' (.own n) v/\(∀ k,A3 β' F' w' k (n7.getD k .none)) /\
   (∀ i j b,n7.getD i .none ≠ .none->n7.getD j .none ≠ .none->y0 β' i b->y0 β' j b->i=j)/\(∀ i b,n7.getD i .none ≠ .none->y0 β' i b->¬ F' b) /\
   (∀ i b,y0 β' i b->b<w'.heap.size/\(w.heap.size<=b∨jM β b)):=by
 let β':Nat->Option Hd:=fun j=>if j=n then some hd else β j
 have h1:β' n=some hd:=by simp[β']
 have h2:∀ j,j≠n->β' j=β j:=fun j hj=>by simp[β',hj]
 have live:∀ i,n7.getD i .none ≠ .none->i=n:=fun i hi=>by
  rw[tD]at hi;by_cases e:i=n
  ·exact e
  ·rw[if_neg e]at hi;exact absurd rfl hi
 refine⟨_,β',F,rfl,U2,fun k qD hk=>(h2 k (fun e=>by subst e;rw[hn]at hk;cases hk)).trans hk,fun _ h=>h,fun b dA=>⟨zB5 (hF b dA) U2.size,.inl dA⟩,.own h1,fun k=>?_,fun i j b hi hj _ _=>(live i hi).trans (live j hj).symm,fun i b hi B9=>?_,fun i b B9=>?_⟩
 ·rw[tD];split
  ·rename_i e;subst e;exact hr β' h1
  ·trivial
 ·obtain rfl:=live i hi;rw[y0,h1]at B9;exact(hb b B9).2.2
 ·by_cases e:i=n
  ·subst e;rw[y0,h1]at B9;exact⟨(hb b B9).1,(hb b B9).2.1⟩
  ·rw[y0,h2 i e]at B9;exact⟨zB5 (ho.bB i b B9) U2.size,.inr ⟨i,B9⟩⟩
theorem zo{β':Nat->Option Hd}{n b cap:Nat}{ty:TypeId}{zs:List Int}{vs:Array Value}(hβ:β' n=some ⟨some b,zs.length,cap,iw⟩)(hh:w'.heap[b]? = some (.cells vs ty (0,0)))(hc:zs.length<=cap)(hm:cap<=maxLen)(hs:vs.size=cap)
  (hv:∀ i,i<zs.length->vs.getD i undef = .int .i64 (zs.getD i 0)):A3 β' F w' n (.vec ty 1 (0:Int) aR zs):=by
 refine⟨_,hβ,rfl,rfl,.inr ⟨b,vs,rfl,hh,hc,hm,by simpa using hs,fun i j hi hj=>?_⟩⟩;have e:j=0:=by omega
 subst e;rw[Nat.mul_one,Nat.add_zero,hv i hi];exact .int _ _
theorem R8{zs:List Int}{u:Int}{k:Nat}(hk:k<=zs.length)(i:Nat):(zs.take k++u :: zs.drop k).getD i 0=if i<k then zs.getD i 0 else if i=k then u else zs.getD (i-1) 0:=by
 have hl:(zs.take k).length=k:=by simp[hk]
 simp only[List.getD];by_cases h1:i<k
 ·rw[if_pos h1,List.getElem?_append_left va5,List.getElem?_take_of_lt h1]
 ·rw[if_neg h1,List.getElem?_append_right va5,hl];by_cases h2:i=k
  ·subst h2;simp
  ·rw[if_neg h2];have:i-k=(i-k-1)+1:=by omega
   rw[this,List.getElem?_cons_succ,List.getElem?_drop]
   congr 2;omega
open Go.Proofs Go.Shelf in
theorem Gq{ρ:Ren}(L:Lays2.n21 P ρ){fn:Func}{c:Code}(hf:P.funcs[ρ.f 21]? = some fn)(J8:(fn.name == "runtime.NumGoroutine")=false) (hb:fn.body=some c) (zs:List Int) (u:Int) (k:Nat) (hk:k≤zs.length) (hl:zs.length<1073741824) (tl:TypeId) :
  PW P (ρ.f 21) [.own 0,.int .i64 k,.own 1] [.vec (ρ.t 3) 1 (0:Int) aR zs,.lit tl 1 [[.int .i64 u]]] (.own 2) [.none,.none,.vec (ρ.t 3) 1 (0:Int) aR (zs.take k++u :: zs.drop k)]:=by
 intro F w vs β hF H5 L4 O0;have r0:=L4 0 va9;have r1:=L4 1 va9;have r2:=L4 2 va9;simp only[List.getD_cons_zero,List.getD_cons_succ]at r0 r1 r2;obtain⟨aC,b0,v0⟩:=r0.own_inv;have v1:=r1.int_inv;obtain⟨kC,b1,v2⟩:=r2.own_inv;have hv:vs=#[.slice (aC.b.map fun b=>⟨b,0,none⟩) aC.len aC.cap,.int .i64 k,.slice (kC.b.map fun b=>⟨b,0,none⟩) kC.len kC.cap]:=by
  have h3:vs.size=3:=by simpa using H5
  rw[<- v0,<- v1,<- v2];apply Array.ext
  ·simp[h3]
  ·intro i FZ IN;have:i<3:=by omega
   match i,this with
   | 0,_=>simp[Array.getD,FZ]
   | 1,_=>simp[Array.getD,FZ]
   | 2,_=>simp[Array.getD,FZ]
 subst hv;have q0:=O0.rows 0;have q1:=O0.rows 1;simp only[List.getD_cons_zero,List.getD_cons_succ]at q0 q1;obtain⟨Um,e1,em,e2,e3⟩:=q0;rw[b0]at e1;cases e1
 obtain⟨a0d,bv,vv,f1,fm,f2,f3,f4,f5,f6,_,f8⟩:=q1;rw[b1]at f1;cases f1
 have Jz:β 2=none:=O0.dead 2 rfl;have f4':kC.len=1:=by simpa using f4
 have f5':kC.cap=1:=by simpa using f5
 have f6':vv.size=1:=by simpa using f6
 have fu:=f8 0 0 va9 va5;simp only[List.getD_cons_zero,Nat.zero_mul,Nat.add_zero]at fu;have fu:=fu.int_inv;have o0:∀ b,aC.b=some b->y0 β 0 b:=fun b h=>by rw[y0,b0];exact D2 h
 have o1:y0 β 1 bv:=by rw[y0,b1];exact D2 f2
 refine⟨Go.MuLone.run_callFunc_enter hf J8 hb _ _,?_⟩;rw[f2,f4',f5'];have Ci:∀ j v,([Value.int .i64 u]:List Value)[j]? = some v->w.cell? ⟨bv,0+j,none⟩=some v:=fun j v hj=>by
  have:j=0:=by
   rcases Nat.eq_zero_or_pos j with h|h
   ·exact h
   ·rw[zA7 (by simp only[zB2,List.length_nil];omega)]at hj;cases hj
  subst this;simp only[List.getElem?_cons_zero,Option.some.injEq]at hj;rw[<- hj,<- fu,Nat.zero_add];exact G0 f3 va5
 have Vr:∀ v ∈ ([Value.int .i64 u]:List Value),v.oneCell'=true:=fun v hv=>by simp at hv;rw[hv];rfl
 have n7:∀ k',([.none,.none,.vec (ρ.t 3) 1 (0:Int) aR (zs.take k++u :: zs.drop k)]:List Row).getD k' .none=if k'=2 then .vec (ρ.t 3) 1 (0:Int) aR (zs.take k++u :: zs.drop k)else .none:=fun k'=>by
  match k' with
  | 0=>rfl
  | 1=>rfl
  | 2=>rfl
  | _+3=>simp
 have tB:(zs.take k++u :: zs.drop k).length=zs.length+1:=by simp;omega
 have wf:∀ {w':World},w'.os=w.os->w'.tape=w.tape->w'.output=w.output->w.heap.size<=w'.heap.size->(∀ k,k<w.heap.size->(∀ b,aC.b=some b->k≠b)->w'.heap[k]? = w.heap[k]?)->I3 (fun b=>w.heap.size<=b∨jM β b) w w':=fun h1 h2 h3 h4 h5 =>
  ⟨h1,h2,h3,h4,fun k hk=>h5 k (Nat.lt_of_not_le fun h=>hk (.inl h)) fun b hb e=>hk (.inr ⟨0,e ▸ o0 b hb⟩)⟩
 -- a new row
 have grown:∀ (cap:Nat),cap<=maxLen->zs.length+1<=cap->∀ (w':World) (us:Array Value),w'.heap[w.heap.size]? = some (.cells us (ρ.t 3) (0,0))->us.size=cap->(∀ i,i<zs.length+1->us.getD i undef = .int .i64 ((zs.take k++u :: zs.drop k).getD i 0)) ->
   w'.os=w.os->w'.tape=w.tape->w'.output=w.output->w'.heap.size=w.heap.size+1->(∀ j,j<w.heap.size->w'.heap[j]? = w.heap[j]?) ->
   ∃ v β' F',Ending.returned (.slice (some ⟨w.heap.size,0,none⟩) (zs.length+1) cap) = .returned v/\I3 (fun b=>w.heap.size<=b∨jM β b) w w'/\(∀ k hd,β k=some hd->β' k=some hd)/\(∀ b,F b->F' b) /\
    (∀ b,F' b->b<w'.heap.size/\(F b∨w.heap.size<=b∨jM β b))/\B4 β' F' w' (.own 2) v/\(∀ k',A3 β' F' w' k' (([.none,.none,.vec (ρ.t 3) 1 (0:Int) aR (zs.take k++u :: zs.drop k)]:List Row).getD k' .none)) /\
    (∀ i j b,([.none,.none,.vec (ρ.t 3) 1 (0:Int) aR (zs.take k++u :: zs.drop k)]:List Row).getD i .none ≠ .none->([.none,.none,.vec (ρ.t 3) 1 (0:Int) aR (zs.take k++u :: zs.drop k)]:List Row).getD j .none ≠ .none->y0 β' i b->y0 β' j b->i=j)/\(∀ i b,([.none,.none,.vec (ρ.t 3) 1 (0:Int) aR (zs.take k++u :: zs.drop k)]:List Row).getD i .none ≠ .none->y0 β' i b->¬ F' b) /\
    (∀ i b,y0 β' i b->b<w'.heap.size/\(w.heap.size<=b∨jM β b)):=by
  intro cap Mt Y7 w' us hh Xa Xb g1 g2 g3 g4 g5;refine wM O0 hF Jz (hd:=⟨some w.heap.size,zs.length+1,cap,iw⟩) n7 (wf g1 g2 g3 va5 (fun j hj _=>g5 j hj)) (fun β' nc=>zo (by rw[tB];exact nc) hh va5 Mt Xa (fun i hi=>?_)) (fun c hc=>?_)
  ·rw[tB]at hi;exact Xb i hi
  ·rw[P3,Option.some.injEq]at hc;subst hc;exact⟨va5,.inl (Nat.le_refl _),fun h=>by have:=hF _ h;omega⟩
 let cs:List Value:=zs.map fun z => .int .i64 z
 have Y7:cs.length=zs.length:=by simp[cs]
 have JA:∀ i,i<zs.length->cs[i]? = some (.int .i64 (zs.getD i 0)):=fun i hi=>by simp[cs,List.getD,hi]
 have SU:∀ v ∈ cs,v.oneCell'=true:=fun v hv=>by obtain⟨z,_,rfl⟩:=List.mem_map.1 hv;rfl
 have zc:∀ m,(Builtin.zeroCells (Value.int .i64 0).cells m).size=m:=fun m=>by rw[cA];simp[Value.cells]
 have Mr:zs.length+1<=maxLen:=by simp only[maxLen];omega
 have Un:∀ (base:Option Addr) (cp:Nat),k=zs.length->(base=none->zs.length=0)->zs.length<=cp->cp<zs.length+1->(∀ a,base=some a->∀ j v,cs[j]? = some v->w.cell? (a.add j)=some v) ->
   Calls P (ρ.f 21) #[.slice base zs.length cp,.int .i64 k,.slice (some ⟨bv,0,none⟩) 1 1] w fun e w'=>∃ v β' F',e = .returned v/\I3 (fun b=>w.heap.size<=b∨jM β b) w w'/\(∀ k hd,β k=some hd->β' k=some hd)/\(∀ b,F b->F' b) /\
    (∀ b,F' b->b<w'.heap.size/\(F b∨w.heap.size<=b∨jM β b))/\B4 β' F' w' (.own 2) v/\(∀ k',A3 β' F' w' k' (([.none,.none,.vec (ρ.t 3) 1 (0:Int) aR (zs.take k++u :: zs.drop k)]:List Row).getD k' .none)) /\
    (∀ i j b,([.none,.none,.vec (ρ.t 3) 1 (0:Int) aR (zs.take k++u :: zs.drop k)]:List Row).getD i .none ≠ .none->([.none,.none,.vec (ρ.t 3) 1 (0:Int) aR (zs.take k++u :: zs.drop k)]:List Row).getD j .none ≠ .none->y0 β' i b->y0 β' j b->i=j)/\(∀ i b,([.none,.none,.vec (ρ.t 3) 1 (0:Int) aR (zs.take k++u :: zs.drop k)]:List Row).getD i .none ≠ .none->y0 β' i b->¬ F' b) /\
    (∀ i b,y0 β' i b->b<w'.heap.size/\(w.heap.size<=b∨jM β b)):=by
  intro base cp Uo hbn Xc Xd hbc;subst Uo;refine(Any2.slices_Insert_int_end_grow L base zs.length cp bv 0 1 1 cs [.int .i64 u] w va5 Xc Xd va5 Y7 rfl hbn hbc Ci Vr).mono ?_;rintro e w' ⟨rfl,rfl⟩;refine grown _ (grownCap_le_maxLen w _ _ _ (by simpa using Mr)) (grownCap_ge w _ _ _) _ _ (heap_alloc_new w.drew _) ?_ (fun i hi=>?_) rfl rfl rfl va9 (fun j hj=>RowKit.Below.heap_alloc w.drew _ j hj)
  ·rw[Array.size_append,zc];have:=grownCap_ge w (zs.length+1) cp (ρ.t 3);simp only[List.size_toArray,List.length_append,Y7,zB2,List.length_nil];omega
  ·rw[R8 (Nat.le_refl _)];have e:((cs++[Value.int .i64 u]).toArray++Builtin.zeroCells (Value.int .i64 0).cells (grownCap w (zs.length+1) cp (ρ.t 3)-(zs.length+1))).getD i undef=((cs++[Value.int .i64 u])[i]?).getD undef:=by
    have hs:i<(cs++[Value.int .i64 u]).length:=by simp only[List.length_append,Y7,zB2,List.length_nil];exact hi
    rw[Array.getD_eq_getD_getElem?,Array.getElem?_append_left (by simpa using hs)];simp
   rw[e];by_cases h:i<zs.length
   ·rw[if_pos h,List.getElem?_append_left va5,JA i h];rfl
   ·have:i=zs.length:=by omega
    rw[if_neg h,if_pos this,List.getElem?_append_right va5,Y7,this,Nat.sub_self];rfl
 rcases e3 with ⟨hz,Ch,Wt⟩|⟨b,us,g1,g2,g3,g4,g5,g6⟩
 ·subst hz;have Uc:k=0:=by simpa using hk
  rw[Ch,e2,Wt];exact Un none 0 (by simpa using Uc) (fun _=>rfl) (Nat.le_refl _) va9 (fun a ha=>by cases ha)
 ·rw[g1,e2];have YB:us.size=aC.cap:=by simpa using g5
  have uget:∀ i,i<zs.length->us.getD i undef = .int .i64 (zs.getD i 0):=fun i hi=>by
   have:=g6 i 0 hi va5;rw[Nat.mul_one,Nat.add_zero]at this;generalize us.getD i undef=x at this;have e:(aR (zs.getD i 0)).getD 0 .any = .int .i64 (zs.getD i 0):=rfl;rw[e]at this;cases this;rfl
  have uq:∀ j v,cs[j]? = some v->w.cell? ⟨b,0+j,none⟩=some v:=fun j v hj=>by
   have lh:j<zs.length:=by
    rcases Nat.lt_or_ge j zs.length with h|h
    ·exact h
    ·rw[zA7 va5]at hj;cases hj
   rw[JA j lh]at hj;cases hj
   rw[Nat.zero_add,G0 g2 va5,uget j lh]
  have bvb:bv≠b:=fun e=>by
   subst e;have:=O0.inj 0 1 bv va9 va9 (o0 bv g1) o1;cases this
  have fz:∀ o,w.frozen? ⟨b,o,none⟩=false:=fun o=>by simp[World.frozen?,g2]
  have YC:∀ o,w.frozen? ⟨bv,o,none⟩=false:=fun o=>by simp[World.frozen?,f3]
  have Eu:∀ (w':World) (Vs:Array Value),zs.length+1<=aC.cap->w'.heap[b]? = some (.cells Vs (ρ.t 3) (0,0))->Vs.size=aC.cap->(∀ i,i<zs.length+1->Vs.getD i undef = .int .i64 ((zs.take k++u :: zs.drop k).getD i 0)) ->
    w'.os=w.os->w'.tape=w.tape->w'.output=w.output->w'.heap.size=w.heap.size->(∀ j,j≠b->w'.heap[j]? = w.heap[j]?)->_:=fun w' Vs MO hh Xa Xb k1 k2 k3 k4 k5 =>
   wM O0 hF Jz (hd:=⟨some b,zs.length+1,aC.cap,iw⟩) n7 (wf k1 k2 k3 va5 (fun j _ hj=>k5 j (hj b g1))) (fun β' nc=>zo (F:=F) (β':=β') (by rw[tB];exact nc) hh (by rw[tB];exact MO) g4 Xa (fun i hi=>Xb i (by rw[tB]at hi;exact hi))) (fun c hc=>by
    rw[P3,Option.some.injEq]at hc;subst hc
    exact⟨by rw[k4];exact O0.bB 0 b (o0 b g1),.inr ⟨0,o0 b g1⟩,O0.bF 0 b va9 (o0 b g1)⟩)
  by_cases bP:zs.length+1<=aC.cap
  ·by_cases Uo:k=zs.length
   ·subst Uo;refine(Any2.slices_Insert_int_end_room L b 0 zs.length aC.cap bv 0 1 1 [.int .i64 u] w va5 bP (by simp only[maxLen]at g4;omega) rfl (fun j hj=>?_) (fun j hj=>fz _) Ci Vr).mono ?_
    ·have:j=0:=by omega
     subst this;rw[Nat.zero_add,Nat.add_zero,G0 g2 va5];rfl
    ·rintro e w' ⟨rfl,rfl⟩;have ku:0+zs.length+([Value.int .i64 u]:List Value).length<=us.size:=by simp only[zB2,List.length_nil];omega
     obtain⟨k1,k2,k3,k4,k5,k6⟩:=E6 [.int .i64 u] (0+zs.length) w us g2 ku;refine Eu _ _ bP k1 (by rw[D4 ku];exact YB) (fun i hi=>?_) k4 k5 k6 k3 k2;rw[D3 ku,R8 (Nat.le_refl _)];simp only[zB2,List.length_nil,Nat.zero_add];by_cases h:i<zs.length
     ·rw[if_neg va5,if_pos h];exact uget i h
     ·have:i=zs.length:=by omega
      rw[if_pos va5,if_neg h,if_pos this,this,Nat.sub_self];rfl
   ·have A2:k<zs.length:=by omega
    refine(Any2.slices_Insert_int_shift L b 0 zs.length aC.cap k bv 0 1 1 cs [.int .i64 u] w A2 va5 bP (by simp only[maxLen]at g4;omega) bvb Y7 rfl uq (fun j hj=>?_) (fun j hj=>fz _) Ci SU Vr tl (ρ.t 3) 1 us.size ?_ ?_ va5 (YC _) (YC _)).mono ?_
    ·rw[Nat.zero_add,G0 g2 va5];rfl
    ·simp[World.shape?,f3,f6']
    ·simp[World.shape?,g2]
    ·rintro e w' ⟨rfl,rfl⟩;have dl:(cs.drop k).length=zs.length-k:=by rw[List.length_drop,Y7]
     have qY:0+(k+1)+(cs.drop k).length<=us.size:=by omega
     obtain⟨k1,k2,k3,k4,k5,k6⟩:=E6 (cs.drop k) (0+(k+1)) w.drew us g2 qY;have BU:(z6 us (0+(k+1)) (cs.drop k)).size=us.size:=D4 qY;have dP:0+k+([Value.int .i64 u]:List Value).length<=(z6 us (0+(k+1)) (cs.drop k)).size:=by rw[BU];simp only[zB2,List.length_nil];omega
     obtain⟨m1,m2,m3,m4,m5,m6⟩:=E6 [.int .i64 u] (0+k) (w.drew.setCells b (0+(k+1)) (cs.drop k)) _ k1 dP;refine Eu _ _ bP m1 (by rw[D4 dP,BU];exact YB) (fun i hi=>?_) (m4.trans k4) (m5.trans k5) (m6.trans k6) (m3.trans k3) (fun j hj=>(m2 j hj).trans (k2 j hj));rw[D3 dP,D3 qY,R8 hk];simp only[zB2,List.length_nil,Nat.zero_add,dl];by_cases h:i<k
     ·rw[if_neg va5,if_neg va5,if_pos h];exact uget i va5
     ·by_cases h2:i=k
      ·rw[if_pos va5,if_neg h,if_pos h2,h2,Nat.sub_self];rfl
      ·rw[if_neg va5,if_pos va5,if_neg h,if_neg h2];have:(cs.drop k).getD (i-(k+1)) undef = .int .i64 (zs.getD (i-1) 0):=by
        rw[List.getD,List.getElem?_drop,show k+(i-(k+1))=i-1 by omega,JA (i-1) va5];rfl
       exact this
  ·by_cases Uo:k=zs.length
   ·exact Un (some ⟨b,0,none⟩) aC.cap Uo (fun h=>by cases h) g3 va5 (fun a ha j v hj=>by
     cases ha
     rw[U8]
     exact uq j v hj)
   ·have A2:k<zs.length:=by omega
    refine(Any2.slices_Insert_int_grow L b 0 zs.length aC.cap k bv 0 1 1 cs [.int .i64 u] w A2 va5 g3 va5 va5 Y7 rfl uq Ci SU Vr).mono ?_;rintro e w' ⟨rfl,rfl⟩;have dl:(cs.drop k).length=zs.length-k:=by rw[List.length_drop,Y7]
    have tl':(cs.take k).length=k:=by rw[zB1,Y7];omega
    have gc:=grownCap_ge w (zs.length+1) aC.cap (ρ.t 3);generalize IP:grownCap w (zs.length+1) aC.cap (ρ.t 3)=cap at gc;have gm:cap<=maxLen:=by rw[<- IP];exact grownCap_le_maxLen w _ _ _ Mr
    let Gr:Array Value:=(cs.take k).toArray++Builtin.zeroCells (Value.int .i64 0).cells (zs.length+1-k)++Builtin.zeroCells (Value.int .i64 0).cells (cap-(zs.length+1))
    have s0:Gr.size=cap:=by
     simp only[Gr,Array.size_append,zc,List.size_toArray,tl'];omega
    have h0:(w.alloc (.cells Gr (ρ.t 3))).drew.heap[w.heap.size]? = some (.cells Gr (ρ.t 3) (0,0)):=heap_alloc_new w _;have qY:k+([Value.int .i64 u]:List Value).length<=Gr.size:=by rw[s0];simp only[zB2,List.length_nil];omega
    obtain⟨k1,k2,k3,k4,k5,k6⟩:=E6 [.int .i64 u] k (w.alloc (.cells Gr (ρ.t 3))).drew Gr h0 qY;have BU:(z6 Gr k [.int .i64 u]).size=Gr.size:=D4 qY;have dP:k+1+(cs.drop k).length<=(z6 Gr k [.int .i64 u]).size:=by rw[BU,s0,dl];omega
    obtain⟨m1,m2,m3,m4,m5,m6⟩:=E6 (cs.drop k) (k+1) ((w.alloc (.cells Gr (ρ.t 3))).drew.setCells w.heap.size k [.int .i64 u]).drew _ k1 dP;refine grown cap gm gc _ _ m1 (by rw[D4 dP,BU];exact s0) (fun i hi=>?_) (m4.trans k4) (m5.trans k5) (m6.trans k6) (m3.trans (k3.trans va9)) (fun j hj=>(m2 j va5).trans ((k2 j va5).trans (RowKit.Below.heap_alloc w _ j hj)));rw[D3 dP,D3 qY,R8 hk];simp only[zB2,List.length_nil,Nat.zero_add,dl];by_cases h:i<k
    ·rw[if_neg va5,if_neg va5,if_pos h];have:Gr.getD i undef=((cs.take k)[i]?).getD undef:=by
      have hs:i<(cs.take k).length:=by omega
      simp only[Gr];rw[Array.getD_eq_getD_getElem?,Array.append_assoc,Array.getElem?_append_left (by simpa using hs)];simp
     rw[this,List.getElem?_take_of_lt h,JA i va5];rfl
    ·by_cases h2:i=k
     ·rw[if_neg va5,if_pos va5,if_neg h,if_pos h2,h2,Nat.sub_self];rfl
     ·rw[if_pos va5,if_neg h,if_neg h2];have:(cs.drop k).getD (i-(k+1)) undef = .int .i64 (zs.getD (i-1) 0):=by
       rw[List.getD,List.getElem?_drop,show k+(i-(k+1))=i-1 by omega,JA (i-1) va5];rfl
      exact this
end

end Go.Ev
