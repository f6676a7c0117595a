/- slices.Insert at []int, as a call that takes over rows and hands back one. A helper text: it speaks of no program. -/
import Derived.Test.YtacahppoighegaaGreatEvSeven
import Derived.Shelf.Spec.SlicesInsert
import Derived.Shelf.Spec.SlicesInsertGrow
import Derived.Conc.MuLone
set_option linter.unusedVariables false
set_option linter.unusedSimpArgs false
namespace Go.Ev
theorem zo{us:Array Value}{o:Nat}{v:Value}{vs:List Value}(h:o+(vs.length+1)<=us.size):x8 (us.setIfInBounds o v) (o+1) vs=x8 us o (v :: vs):=by
 apply Array.ext';have:=list_seg_step us.toList o v vs (by simp;omega);simp only[x8,Array.toList_setIfInBounds,zB2];simpa[Nat.add_assoc,Nat.add_comm,Nat.add_left_comm]using this
theorem E0{b:Nat}{ty:TypeId}:∀ (vs:List Value) (o:Nat) (w:World) (us:Array Value),w.heap[b]? = some (.cells us ty (0,0))->o+vs.length<=us.size ->
  (w.setCells b o vs).heap[b]? = some (.cells (x8 us o vs) ty (0,0))/\(∀ k,k≠b->(w.setCells b o vs).heap[k]? = w.heap[k]?)/\(w.setCells b o vs).heap.size=w.heap.size /\
   (w.setCells b o vs).os=w.os/\(w.setCells b o vs).tape=w.tape/\(w.setCells b o vs).output=w.output
 | [],o,w,us,h,hl=>by
  have:x8 us o []=us:=by apply Array.ext'; simp[x8]
  rw[this];exact⟨h,fun _ _=>rfl,rfl,rfl,rfl,rfl⟩
 | v :: vs,o,w,us,h,hl=>by
  simp only[zB2]at hl;have h1:(w.setCell ⟨b,o,none⟩ v).heap[b]? = some (.cells (us.setIfInBounds o v) ty (0,0)):=by
   simp[World.setCell,Array.getElem?_modify,h]
  have h2:∀ k,k≠b->(w.setCell ⟨b,o,none⟩ v).heap[k]? = w.heap[k]? := fun k hk=>by
   simp[World.setCell,Array.getElem?_modify,Ne.symm hk]
  obtain⟨g1,g2,g3,g4,g5,g6⟩:=E0 vs (o+1) (w.setCell ⟨b,o,none⟩ v) (us.setIfInBounds o v) h1 (by simp;omega);refine⟨?_,fun k hk=>(g2 k hk).trans (h2 k hk),g3.trans (by simp[World.setCell]),g4,g5,g6⟩;rw[<- zo va5];exact g1
section
variable {P:Program}{β:Nat->Option Hd}{F:Nat->Prop}{w w':World}
theorem tn{ins:List Row}(ho:BG β F w ins)(hF:∀ b,F b->b<w.heap.size){n:Nat}(hn:β n=none){hd:Hd}{r:Row}{o9:List Row}(ju:∀ k,o9.getD k .none=if k=n then r else .none)(V9:H3 (fun b=>w.heap.size<=b∨jE β b) w w')
  (hr:∀ β',β' n=some hd->y8 β' F w' n r) (hb:∀ c,Z1 (some hd) c->c<w'.heap.size/\(w.heap.size<=c∨jE β c)/\¬ F c) :
  ∃ v β' F',Ending.returned (.slice (hd.b.map fun b=>⟨b,0,none⟩) hd.len hd.cap) = .returned v/\H3 (fun b=>w.heap.size<=b∨jE β b) w w'/\(∀ k hd,β k=some hd->β' k=some hd)/\(∀ b,F b->F' b) /\
   (∀ b,F' b->b<w'.heap.size/\(F b∨w.heap.size<=b∨jE β b))/\C4 β' F' w' (.own n) v/\(∀ k,y8 β' F' w' k (o9.getD k .none)) /\
   (∀ i j b,o9.getD i .none ≠ .none->o9.getD j .none ≠ .none->x7 β' i b->x7 β' j b->i=j)/\(∀ i b,o9.getD i .none ≠ .none->x7 β' i b->¬ F' b) /\
   (∀ i b,x7 β' i b->b<w'.heap.size/\(w.heap.size<=b∨jE β b)):=by
 let β':Nat->Option Hd:=fun j=>if j=n then some hd else β j
 have h1:β' n=some hd:=by simp[β']
 have h2:∀ j,j≠n->β' j=β j:=fun j hj=>by simp[β',hj]
 have live:∀ i,o9.getD i .none ≠ .none->i=n:=fun i hi=>by
  rw[ju]at hi;by_cases e:i=n
  ·exact e
  ·rw[if_neg e]at hi;exact absurd rfl hi
 refine⟨_,β',F,rfl,V9,fun k mU hk=>(h2 k (fun e=>by subst e;rw[hn]at hk;cases hk)).trans hk,fun _ h=>h,fun b cJ=>⟨zB5 (hF b cJ) V9.size,.inl cJ⟩,.own h1,fun k=>?_,fun i j b hi hj _ _=>(live i hi).trans (live j hj).symm,fun i b hi B3=>?_,fun i b B3=>?_⟩
 ·rw[ju];split
  ·rename_i e;subst e;exact hr β' h1
  ·trivial
 ·obtain rfl:=live i hi;rw[x7,h1]at B3;exact(hb b B3).2.2
 ·by_cases e:i=n
  ·subst e;rw[x7,h1]at B3;exact⟨(hb b B3).1,(hb b B3).2.1⟩
  ·rw[x7,h2 i e]at B3;exact⟨zB5 (ho.bB i b B3) V9.size,.inr ⟨i,B3⟩⟩
theorem BY{β':Nat->Option Hd}{n b cap:Nat}{ty:TypeId}{zs:List Int}{vs:Array Value}(hβ:β' n=some ⟨some b,zs.length,cap,jr⟩)(hh:w'.heap[b]? = some (.cells vs ty (0,0)))(hc:zs.length<=cap)(hm:cap<=maxLen)(hs:vs.size=cap)
  (hv:∀ i,i<zs.length->vs.getD i undef = .int .i64 (zs.getD i 0)):y8 β' F w' n (.vec ty 1 (0:Int) aR zs):=by
 refine⟨_,hβ,rfl,rfl,.inr ⟨b,vs,rfl,hh,hc,hm,by simpa using hs,fun i j hi hj=>?_⟩⟩;have e:j=0:=by omega
 subst e;rw[Nat.mul_one,Nat.add_zero,hv i hi];exact .int _ _
theorem T7{zs:List Int}{u:Int}{k:Nat}(hk:k<=zs.length)(i:Nat):(zs.take k++u :: zs.drop k).getD i 0=if i<k then zs.getD i 0 else if i=k then u else zs.getD (i-1) 0:=by
 have hl:(zs.take k).length=k:=by simp[hk]
 simp only[List.getD];by_cases h1:i<k
 ·rw[if_pos h1,List.getElem?_append_left va5,List.getElem?_take_of_lt h1]
 ·rw[if_neg h1,List.getElem?_append_right va5,hl];by_cases h2:i=k
  ·subst h2;simp
  ·rw[if_neg h2];have:i-k=(i-k-1)+1:=by omega
   rw[this,List.getElem?_cons_succ,List.getElem?_drop]
   congr 2;omega
open Go.Proofs Go.Shelf in
theorem II{ρ:Ren}(L:Lays2.n21 P ρ){fn:Func}{c:Code}(hf:P.funcs[ρ.f 21]? = some fn)(J7:(fn.name == "runtime.NumGoroutine")=false) (hb:fn.body=some c) (zs:List Int) (u:Int) (k:Nat) (hk:k≤zs.length) (hl:zs.length<1073741824) (tl:TypeId) :
  PW P (ρ.f 21) [.own 0,.int .i64 k,.own 1] [.vec (ρ.t 3) 1 (0:Int) aR zs,.lit tl 1 [[.int .i64 u]]] (.own 2) [.none,.none,.vec (ρ.t 3) 1 (0:Int) aR (zs.take k++u :: zs.drop k)]:=by
 intro F w vs β hF G0 I8 L6;have r0:=I8 0 va9;have r1:=I8 1 va9;have r2:=I8 2 va9;simp only[List.getD_cons_zero,List.getD_cons_succ]at r0 r1 r2;obtain⟨W0,b0,v0⟩:=r0.own_inv;have v1:=r1.int_inv;obtain⟨jv,b1,v2⟩:=r2.own_inv;have hv:vs=#[.slice (W0.b.map fun b=>⟨b,0,none⟩) W0.len W0.cap,.int .i64 k,.slice (jv.b.map fun b=>⟨b,0,none⟩) jv.len jv.cap]:=by
  have h3:vs.size=3:=by simpa using G0
  rw[<- v0,<- v1,<- v2];apply Array.ext
  ·simp[h3]
  ·intro i BB Lb;have:i<3:=by omega
   match i,this with
   | 0,_=>simp[Array.getD,BB]
   | 1,_=>simp[Array.getD,BB]
   | 2,_=>simp[Array.getD,BB]
 subst hv;have q0:=L6.rows 0;have q1:=L6.rows 1;simp only[List.getD_cons_zero,List.getD_cons_succ]at q0 q1;obtain⟨Ur,e1,em,e2,e3⟩:=q0;rw[b0]at e1;cases e1
 obtain⟨a3L,bv,vv,f1,fm,f2,f3,f4,f5,f6,_,f8⟩:=q1;rw[b1]at f1;cases f1
 have Ml:β 2=none:=L6.dead 2 rfl;have f4':jv.len=1:=by simpa using f4
 have f5':jv.cap=1:=by simpa using f5
 have f6':vv.size=1:=by simpa using f6
 have fu:=f8 0 0 va9 va5;simp only[List.getD_cons_zero,Nat.zero_mul,Nat.add_zero]at fu;have fu:=fu.int_inv;have o0:∀ b,W0.b=some b->x7 β 0 b:=fun b h=>by rw[x7,b0];exact A8 h
 have o1:x7 β 1 bv:=by rw[x7,b1];exact A8 f2
 refine⟨Go.MuLone.run_callFunc_enter hf J7 hb _ _,?_⟩;rw[f2,f4',f5'];have Eh:∀ j v,([Value.int .i64 u]:List Value)[j]? = some v->w.cell? ⟨bv,0+j,none⟩=some v:=fun j v hj=>by
  have:j=0:=by
   rcases Nat.eq_zero_or_pos j with h|h
   ·exact h
   ·rw[zA7 (by simp only[zB2,List.length_nil];omega)]at hj;cases hj
  subst this;simp only[List.getElem?_cons_zero,Option.some.injEq]at hj;rw[<- hj,<- fu,Nat.zero_add];exact G3 f3 va5
 have Zp:∀ v ∈ ([Value.int .i64 u]:List Value),v.oneCell'=true:=fun v hv=>by simp at hv;rw[hv];rfl
 have o9:∀ k',([.none,.none,.vec (ρ.t 3) 1 (0:Int) aR (zs.take k++u :: zs.drop k)]:List Row).getD k' .none=if k'=2 then .vec (ρ.t 3) 1 (0:Int) aR (zs.take k++u :: zs.drop k)else .none:=fun k'=>by
  match k' with
  | 0=>rfl
  | 1=>rfl
  | 2=>rfl
  | _+3=>simp
 have rQ:(zs.take k++u :: zs.drop k).length=zs.length+1:=by simp;omega
 have wf:∀ {w':World},w'.os=w.os->w'.tape=w.tape->w'.output=w.output->w.heap.size<=w'.heap.size->(∀ k,k<w.heap.size->(∀ b,W0.b=some b->k≠b)->w'.heap[k]? = w.heap[k]?)->H3 (fun b=>w.heap.size<=b∨jE β b) w w':=fun h1 h2 h3 h4 h5 =>
  ⟨h1,h2,h3,h4,fun k hk=>h5 k (Nat.lt_of_not_le fun h=>hk (.inl h)) fun b hb e=>hk (.inr ⟨0,e ▸ o0 b hb⟩)⟩
 -- a new row
 have grown:∀ (cap:Nat),cap<=maxLen->zs.length+1<=cap->∀ (w':World) (us:Array Value),w'.heap[w.heap.size]? = some (.cells us (ρ.t 3) (0,0))->us.size=cap->(∀ i,i<zs.length+1->us.getD i undef = .int .i64 ((zs.take k++u :: zs.drop k).getD i 0)) ->
   w'.os=w.os->w'.tape=w.tape->w'.output=w.output->w'.heap.size=w.heap.size+1->(∀ j,j<w.heap.size->w'.heap[j]? = w.heap[j]?) ->
   ∃ v β' F',Ending.returned (.slice (some ⟨w.heap.size,0,none⟩) (zs.length+1) cap) = .returned v/\H3 (fun b=>w.heap.size<=b∨jE β b) w w'/\(∀ k hd,β k=some hd->β' k=some hd)/\(∀ b,F b->F' b) /\
    (∀ b,F' b->b<w'.heap.size/\(F b∨w.heap.size<=b∨jE β b))/\C4 β' F' w' (.own 2) v/\(∀ k',y8 β' F' w' k' (([.none,.none,.vec (ρ.t 3) 1 (0:Int) aR (zs.take k++u :: zs.drop k)]:List Row).getD k' .none)) /\
    (∀ i j b,([.none,.none,.vec (ρ.t 3) 1 (0:Int) aR (zs.take k++u :: zs.drop k)]:List Row).getD i .none ≠ .none->([.none,.none,.vec (ρ.t 3) 1 (0:Int) aR (zs.take k++u :: zs.drop k)]:List Row).getD j .none ≠ .none->x7 β' i b->x7 β' j b->i=j)/\(∀ i b,([.none,.none,.vec (ρ.t 3) 1 (0:Int) aR (zs.take k++u :: zs.drop k)]:List Row).getD i .none ≠ .none->x7 β' i b->¬ F' b) /\
    (∀ i b,x7 β' i b->b<w'.heap.size/\(w.heap.size<=b∨jE β b)):=by
  intro cap Pv S9 w' us hh hus huv g1 g2 g3 g4 g5;refine tn L6 hF Ml (hd:=⟨some w.heap.size,zs.length+1,cap,jr⟩) o9 (wf g1 g2 g3 va5 (fun j hj _=>g5 j hj)) (fun β' mb=>BY (by rw[rQ];exact mb) hh va5 Pv hus (fun i hi=>?_)) (fun c hc=>?_)
  ·rw[rQ]at hi;exact huv i hi
  ·rw[P7,Option.some.injEq]at hc;subst hc;exact⟨va5,.inl (Nat.le_refl _),fun h=>by have:=hF _ h;omega⟩
 let cs:List Value:=zs.map fun z => .int .i64 z
 have S9:cs.length=zs.length:=by simp[cs]
 have Mm:∀ i,i<zs.length->cs[i]? = some (.int .i64 (zs.getD i 0)):=fun i hi=>by simp[cs,List.getD,hi]
 have Tm:∀ v ∈ cs,v.oneCell'=true:=fun v hv=>by obtain⟨z,_,rfl⟩:=List.mem_map.1 hv;rfl
 have zc:∀ m,(Builtin.zeroCells (Value.int .i64 0).cells m).size=m:=fun m=>by rw[di];simp[Value.cells]
 have Lu:zs.length+1<=maxLen:=by simp only[maxLen];omega
 have XO:∀ (base:Option Addr) (cp:Nat),k=zs.length->(base=none->zs.length=0)->zs.length<=cp->cp<zs.length+1->(∀ a,base=some a->∀ j v,cs[j]? = some v->w.cell? (a.add j)=some v) ->
   Calls P (ρ.f 21) #[.slice base zs.length cp,.int .i64 k,.slice (some ⟨bv,0,none⟩) 1 1] w fun e w'=>∃ v β' F',e = .returned v/\H3 (fun b=>w.heap.size<=b∨jE β b) w w'/\(∀ k hd,β k=some hd->β' k=some hd)/\(∀ b,F b->F' b) /\
    (∀ b,F' b->b<w'.heap.size/\(F b∨w.heap.size<=b∨jE β b))/\C4 β' F' w' (.own 2) v/\(∀ k',y8 β' F' w' k' (([.none,.none,.vec (ρ.t 3) 1 (0:Int) aR (zs.take k++u :: zs.drop k)]:List Row).getD k' .none)) /\
    (∀ i j b,([.none,.none,.vec (ρ.t 3) 1 (0:Int) aR (zs.take k++u :: zs.drop k)]:List Row).getD i .none ≠ .none->([.none,.none,.vec (ρ.t 3) 1 (0:Int) aR (zs.take k++u :: zs.drop k)]:List Row).getD j .none ≠ .none->x7 β' i b->x7 β' j b->i=j)/\(∀ i b,([.none,.none,.vec (ρ.t 3) 1 (0:Int) aR (zs.take k++u :: zs.drop k)]:List Row).getD i .none ≠ .none->x7 β' i b->¬ F' b) /\
    (∀ i b,x7 β' i b->b<w'.heap.size/\(w.heap.size<=b∨jE β b)):=by
  intro base cp XP hbn a0W a0X hbc;subst XP;refine(Any2.slices_Insert_int_end_grow L base zs.length cp bv 0 1 1 cs [.int .i64 u] w va5 a0W a0X va5 S9 rfl hbn hbc Eh Zp).mono ?_;rintro e w' ⟨rfl,rfl⟩;refine grown _ (grownCap_le_maxLen w _ _ _ (by simpa using Lu)) (grownCap_ge w _ _ _) _ _ (heap_alloc_new w.drew _) ?_ (fun i hi=>?_) rfl rfl rfl va9 (fun j hj=>RowKit.Below.heap_alloc w.drew _ j hj)
  ·rw[Array.size_append,zc];have:=grownCap_ge w (zs.length+1) cp (ρ.t 3);simp only[List.size_toArray,List.length_append,S9,zB2,List.length_nil];omega
  ·rw[T7 (Nat.le_refl _)];have e:((cs++[Value.int .i64 u]).toArray++Builtin.zeroCells (Value.int .i64 0).cells (grownCap w (zs.length+1) cp (ρ.t 3)-(zs.length+1))).getD i undef=((cs++[Value.int .i64 u])[i]?).getD undef:=by
    have hs:i<(cs++[Value.int .i64 u]).length:=by simp only[List.length_append,S9,zB2,List.length_nil];exact hi
    rw[Array.getD_eq_getD_getElem?,Array.getElem?_append_left (by simpa using hs)];simp
   rw[e];by_cases h:i<zs.length
   ·rw[if_pos h,List.getElem?_append_left va5,Mm i h];rfl
   ·have:i=zs.length:=by omega
    rw[if_neg h,if_pos this,List.getElem?_append_right va5,S9,this,Nat.sub_self];rfl
 rcases e3 with ⟨hz,DV,hc0⟩|⟨b,us,g1,g2,g3,g4,g5,g6⟩
 ·subst hz;have LW:k=0:=by simpa using hk
  rw[DV,e2,hc0];exact XO none 0 (by simpa using LW) (fun _=>rfl) (Nat.le_refl _) va9 (fun a ha=>by cases ha)
 ·rw[g1,e2];have g5':us.size=W0.cap:=by simpa using g5
  have uget:∀ i,i<zs.length->us.getD i undef = .int .i64 (zs.getD i 0):=fun i hi=>by
   have:=g6 i 0 hi va5;rw[Nat.mul_one,Nat.add_zero]at this;generalize us.getD i undef=x at this;have e:(aR (zs.getD i 0)).getD 0 .any = .int .i64 (zs.getD i 0):=rfl;rw[e]at this;cases this;rfl
  have rO:∀ j v,cs[j]? = some v->w.cell? ⟨b,0+j,none⟩=some v:=fun j v hj=>by
   have oW:j<zs.length:=by
    rcases Nat.lt_or_ge j zs.length with h|h
    ·exact h
    ·rw[zA7 va5]at hj;cases hj
   rw[Mm j oW]at hj;cases hj
   rw[Nat.zero_add,G3 g2 va5,uget j oW]
  have bvb:bv≠b:=fun e=>by
   subst e;have:=L6.inj 0 1 bv va9 va9 (o0 bv g1) o1;cases this
  have fz:∀ o,w.frozen? ⟨b,o,none⟩=false:=fun o=>by simp[World.frozen?,g2]
  have fzv:∀ o,w.frozen? ⟨bv,o,none⟩=false:=fun o=>by simp[World.frozen?,f3]
  have GM:∀ (w':World) (Zq:Array Value),zs.length+1<=W0.cap->w'.heap[b]? = some (.cells Zq (ρ.t 3) (0,0))->Zq.size=W0.cap->(∀ i,i<zs.length+1->Zq.getD i undef = .int .i64 ((zs.take k++u :: zs.drop k).getD i 0)) ->
    w'.os=w.os->w'.tape=w.tape->w'.output=w.output->w'.heap.size=w.heap.size->(∀ j,j≠b->w'.heap[j]? = w.heap[j]?)->_:=fun w' Zq PT hh hus huv k1 k2 k3 k4 k5 =>
   tn L6 hF Ml (hd:=⟨some b,zs.length+1,W0.cap,jr⟩) o9 (wf k1 k2 k3 va5 (fun j _ hj=>k5 j (hj b g1))) (fun β' mb=>BY (F:=F) (β':=β') (by rw[rQ];exact mb) hh (by rw[rQ];exact PT) g4 hus (fun i hi=>huv i (by rw[rQ]at hi;exact hi))) (fun c hc=>by
    rw[P7,Option.some.injEq]at hc;subst hc
    exact⟨by rw[k4];exact L6.bB 0 b (o0 b g1),.inr ⟨0,o0 b g1⟩,L6.bF 0 b va9 (o0 b g1)⟩)
  by_cases cK:zs.length+1<=W0.cap
  ·by_cases XP:k=zs.length
   ·subst XP;refine(Any2.slices_Insert_int_end_room L b 0 zs.length W0.cap bv 0 1 1 [.int .i64 u] w va5 cK (by simp only[maxLen]at g4;omega) rfl (fun j hj=>?_) (fun j hj=>fz _) Eh Zp).mono ?_
    ·have:j=0:=by omega
     subst this;rw[Nat.zero_add,Nat.add_zero,G3 g2 va5];rfl
    ·rintro e w' ⟨rfl,rfl⟩;have ma:0+zs.length+([Value.int .i64 u]:List Value).length<=us.size:=by simp only[zB2,List.length_nil];omega
     obtain⟨k1,k2,k3,k4,k5,k6⟩:=E0 [.int .i64 u] (0+zs.length) w us g2 ma;refine GM _ _ cK k1 (by rw[C0 ma];exact g5') (fun i hi=>?_) k4 k5 k6 k3 k2;rw[B9 ma,T7 (Nat.le_refl _)];simp only[zB2,List.length_nil,Nat.zero_add];by_cases h:i<zs.length
     ·rw[if_neg va5,if_pos h];exact uget i h
     ·have:i=zs.length:=by omega
      rw[if_pos va5,if_neg h,if_pos this,this,Nat.sub_self];rfl
   ·have z8:k<zs.length:=by omega
    refine(Any2.slices_Insert_int_shift L b 0 zs.length W0.cap k bv 0 1 1 cs [.int .i64 u] w z8 va5 cK (by simp only[maxLen]at g4;omega) bvb S9 rfl rO (fun j hj=>?_) (fun j hj=>fz _) Eh Tm Zp tl (ρ.t 3) 1 us.size ?_ ?_ va5 (fzv _) (fzv _)).mono ?_
    ·rw[Nat.zero_add,G3 g2 va5];rfl
    ·simp[World.shape?,f3,f6']
    ·simp[World.shape?,g2]
    ·rintro e w' ⟨rfl,rfl⟩;have dl:(cs.drop k).length=zs.length-k:=by rw[List.length_drop,S9]
     have tp:0+(k+1)+(cs.drop k).length<=us.size:=by omega
     obtain⟨k1,k2,k3,k4,k5,k6⟩:=E0 (cs.drop k) (0+(k+1)) w.drew us g2 tp;have Le:(x8 us (0+(k+1)) (cs.drop k)).size=us.size:=C0 tp;have bC:0+k+([Value.int .i64 u]:List Value).length<=(x8 us (0+(k+1)) (cs.drop k)).size:=by rw[Le];simp only[zB2,List.length_nil];omega
     obtain⟨m1,m2,m3,m4,m5,m6⟩:=E0 [.int .i64 u] (0+k) (w.drew.setCells b (0+(k+1)) (cs.drop k)) _ k1 bC;refine GM _ _ cK m1 (by rw[C0 bC,Le];exact g5') (fun i hi=>?_) (m4.trans k4) (m5.trans k5) (m6.trans k6) (m3.trans k3) (fun j hj=>(m2 j hj).trans (k2 j hj));rw[B9 bC,B9 tp,T7 hk];simp only[zB2,List.length_nil,Nat.zero_add,dl];by_cases h:i<k
     ·rw[if_neg va5,if_neg va5,if_pos h];exact uget i va5
     ·by_cases h2:i=k
      ·rw[if_pos va5,if_neg h,if_pos h2,h2,Nat.sub_self];rfl
      ·rw[if_neg va5,if_pos va5,if_neg h,if_neg h2];have:(cs.drop k).getD (i-(k+1)) undef = .int .i64 (zs.getD (i-1) 0):=by
        rw[List.getD,List.getElem?_drop,show k+(i-(k+1))=i-1 by omega,Mm (i-1) va5];rfl
       exact this
  ·by_cases XP:k=zs.length
   ·exact XO (some ⟨b,0,none⟩) W0.cap XP (fun h=>by cases h) g3 va5 (fun a ha j v hj=>by
     cases ha
     rw[U3]
     exact rO j v hj)
   ·have z8:k<zs.length:=by omega
    refine(Any2.slices_Insert_int_grow L b 0 zs.length W0.cap k bv 0 1 1 cs [.int .i64 u] w z8 va5 g3 va5 va5 S9 rfl rO Eh Tm Zp).mono ?_;rintro e w' ⟨rfl,rfl⟩;have dl:(cs.drop k).length=zs.length-k:=by rw[List.length_drop,S9]
    have tl':(cs.take k).length=k:=by rw[zB1,S9];omega
    have gc:=grownCap_ge w (zs.length+1) W0.cap (ρ.t 3);generalize Lv:grownCap w (zs.length+1) W0.cap (ρ.t 3)=cap at gc;have gm:cap<=maxLen:=by rw[<- Lv];exact grownCap_le_maxLen w _ _ _ Lu
    let IJ:Array Value:=(cs.take k).toArray++Builtin.zeroCells (Value.int .i64 0).cells (zs.length+1-k)++Builtin.zeroCells (Value.int .i64 0).cells (cap-(zs.length+1))
    have s0:IJ.size=cap:=by
     simp only[IJ,Array.size_append,zc,List.size_toArray,tl'];omega
    have h0:(w.alloc (.cells IJ (ρ.t 3))).drew.heap[w.heap.size]? = some (.cells IJ (ρ.t 3) (0,0)):=heap_alloc_new w _;have tp:k+([Value.int .i64 u]:List Value).length<=IJ.size:=by rw[s0];simp only[zB2,List.length_nil];omega
    obtain⟨k1,k2,k3,k4,k5,k6⟩:=E0 [.int .i64 u] k (w.alloc (.cells IJ (ρ.t 3))).drew IJ h0 tp;have Le:(x8 IJ k [.int .i64 u]).size=IJ.size:=C0 tp;have bC:k+1+(cs.drop k).length<=(x8 IJ k [.int .i64 u]).size:=by rw[Le,s0,dl];omega
    obtain⟨m1,m2,m3,m4,m5,m6⟩:=E0 (cs.drop k) (k+1) ((w.alloc (.cells IJ (ρ.t 3))).drew.setCells w.heap.size k [.int .i64 u]).drew _ k1 bC;refine grown cap gm gc _ _ m1 (by rw[C0 bC,Le];exact s0) (fun i hi=>?_) (m4.trans k4) (m5.trans k5) (m6.trans k6) (m3.trans (k3.trans va9)) (fun j hj=>(m2 j va5).trans ((k2 j va5).trans (RowKit.Below.heap_alloc w _ j hj)));rw[B9 bC,B9 tp,T7 hk];simp only[zB2,List.length_nil,Nat.zero_add,dl];by_cases h:i<k
    ·rw[if_neg va5,if_neg va5,if_pos h];have:IJ.getD i undef=((cs.take k)[i]?).getD undef:=by
      have hs:i<(cs.take k).length:=by omega
      simp only[IJ];rw[Array.getD_eq_getD_getElem?,Array.append_assoc,Array.getElem?_append_left (by simpa using hs)];simp
     rw[this,List.getElem?_take_of_lt h,Mm i va5];rfl
    ·by_cases h2:i=k
     ·rw[if_neg va5,if_pos va5,if_neg h,if_pos h2,h2,Nat.sub_self];rfl
     ·rw[if_pos va5,if_neg h,if_neg h2];have:(cs.drop k).getD (i-(k+1)) undef = .int .i64 (zs.getD (i-1) 0):=by
       rw[List.getD,List.getElem?_drop,show k+(i-(k+1))=i-1 by omega,Mm (i-1) va5];rfl
      exact this
end

end Go.Ev
