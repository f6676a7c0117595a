/- Helper lemmas. -/
import Derived.Shelf.SlLaysE0
import Derived.Shelf.SlicesE.Kit
import Derived.Shelf.RegionOpenPlain
import Derived.WalkKit
import Derived.Deep.RegionLaw
import Derived.Lib.Walk
import Derived.Sort.WalkB12
import Derived.Lib.SliceRun
import Derived.Lib.SlicesDelete
import Derived.Shelf.SlicesE.Delete
import Derived.Test.YtacahppoighegaaGreatEvZe
set_option linter.unusedVariables false
set_option linter.unusedSimpArgs false
/- slices.Delete of one element, as a call that takes over a row whose elements hold slices of their own, and hands back one. A helper text: it speaks of no program. -/
namespace Go.Ev
open Go Go.Proofs Go.Shelf Go.RowKit Go.Lib Go.Sort
variable {P:Program}{ρ:Ren}
theorem jo(w:World)(t e ty:TypeId)(z:Value)(ht:P.underlying t=some (.slice e))(hv:∀ w,(zeroValue e).run P w = .ok z w)(h1:∀ v ∈ z.cells.toList,v.oneCell'=true)(b o c:Nat)
  (hc:∀ j,j<z.cells.size->(w.cell? ⟨b,o+j,none⟩).isSome=true) (hf:∀ j,j<z.cells.size->w.frozen? ⟨b,o+j,none⟩=false) :
  (Builtin.clear_ #[t] ty #[.slice (some ⟨b,o,none⟩) 1 c]).run P w = .ok (.tuple #[]) (w.setCells b o z.cells.toList):=by
 have ZT:(Builtin.zeroCells z.cells 1).toList=z.cells.toList:=by
  apply List.ext_getElem
  ·simp[Builtin.zeroCells]
  ·intro k k1 k2;have k3:k<z.cells.size:=by simpa using k2
   simp[Builtin.zeroCells,Nat.mod_eq_of_lt k3,getElem!_pos,k3]
 have rP:=run_storeCells_cells (P:=P) b o z.cells.toList 0 w (by simpa using hc) (by simpa using hf) h1;simp only[Nat.add_zero]at rP;simp[Builtin.clear_,run_underlying ht,hv,ZT,rP]
set_option maxHeartbeats 4000000 in
set_option maxRecDepth 1000000 in
theorem tH(L:SlLaysE0.n45 P ρ)(z23:∀ w,(Go.sizeOf (ρ.t 23)).run P w = .ok 6 w)(i0:TypeInfo)(Ch:P.info? (ρ.t 23)=some i0)(Qw:i0.size=6)(z:Value)(v23:∀ w,(zeroValue (ρ.t 23)).run P w = .ok z w)
  (rq:z.cells.size=6) (hz:∀ v ∈ z.cells.toList,v.oneCell'=true) (fq n cap i j:Nat) (Bd:j=i+1) (hi:i<n) (hn:n<=cap) (hm:cap<=9223372036854775807) (vs:Array Value) (w:World)
  (ty:TypeId) (hh:w.heap[fq]? = some (.cells vs ty (0,0))) (h1:∀ k,k<n*6->(vs.getD k undef).oneCell'=true) (Eh:n*6<=vs.size) :
  Calls P (ρ.f 45) #[.slice (some ⟨fq,0,none⟩) n cap,.int .i64 i,.int .i64 j] w fun e w'=>e = .returned (.slice (some ⟨fq,0,none⟩) (n-1) cap) /\
   w'=(w.drew.setCells fq (i*6) ((vs.toList.drop (j*6)).take ((n-j)*6))).setCells fq ((n-1)*6) z.cells.toList:=by
 have mixed:=L.mixed;have t0:=L.t0;have a0:=L.a0;have z0:=L.z0;have v0:=L.v0;have t3:=L.t3;have a3:=L.a3;have z3:=L.z3;have v3:=L.v3;have t4:=L.t4;have a4:=L.a4;have z4:=L.z4;have v4:=L.v4;have t22:=L.t22;have a22:=L.a22;have z22:=L.z22;have v22:=L.v22;have hc:∀ k,k<n*6->w.cell? ⟨fq,k,none⟩=some (vs.getD k undef):=fun k hk=>G3 hh va5
 have WD:∀ k,k<n*6->w.frozen? ⟨fq,k,none⟩=false:=fun k hk=>by simp[World.frozen?,hh]
 obtain⟨news,R2⟩:∃ news,news=(vs.toList.drop (j*6)).take ((n-j)*6):=⟨_,rfl⟩
 have hlen:news.length=(n-j)*6:=by rw[R2];simp only[zB1,List.length_drop,Array.length_toList];omega
 have Y8:∀ t,t<(n-j)*6->news[t]? = some (vs.getD (j*6+t) undef):=by
  intro t ht;rw[R2,List.getElem?_take_of_lt ht,List.getElem?_drop,Array.getElem?_toList,Array.getElem?_eq_getElem va5,Array.getD_eq_getD_getElem?,Array.getElem?_eq_getElem va5];rfl
 obtain⟨A,hA,Bu⟩:∃ A:Addr,(if cap=j then some (⟨fq,0,none⟩:Addr)else some ⟨fq,j*6,none⟩)=some A/\Hid (∀ t u,news[t]? = some u->w.drew.cell? (A.add t)=some u):=by
  by_cases h:cap=j
  ·refine⟨⟨fq,0,none⟩,by simp[h],fun t u hu=>?_⟩;have h0:news.length=0:=by rw[hlen];omega
   rw[List.length_eq_zero_iff.1 h0]at hu;simp at hu
  ·refine⟨⟨fq,j*6,none⟩,by simp[h],fun t u hu=>?_⟩;have ht:t<(n-j)*6:=by
    have:=(List.getElem?_eq_some_iff.1 hu).1;rwa[hlen]at this
   rw[Y8 t ht]at hu;rw[Addr.add_lit];exact(hc (j*6+t) va5).trans hu
 have s1:Hid (news.length=(n-j)*6):=hlen;have s2:Hid (∀ u ∈ news,u.oneCell'=true):=by
  intro u hu;obtain⟨t,ht,e⟩:=List.getElem_of_mem hu;have:=Y8 t (by rwa[hlen]at ht);rw[zA6 ht,e]at this;rw[Option.some.inj this];exact h1 _ (by rw[hlen]at ht;omega)
 have s3:Hid (∀ t,t<news.length->(w.drew.cell? ⟨fq,0+i*6+t,none⟩).isSome=true/\w.drew.frozen? ⟨fq,0+i*6+t,none⟩=false):=by
  intro t ht;rw[hlen]at ht;rw[Nat.zero_add];exact⟨by show(w.cell? _).isSome=true;rw[hc (i*6+t) va5];rfl,WD (i*6+t) va5⟩
 obtain⟨W1,Ea⟩:∃ W1,W1=w.drew.setCells fq (0+i*6) news:=⟨_,rfl⟩
 have Qx:w.drew.heap[fq]? = some (.cells vs ty (0,0)):=hh;have ER:W1.heap[fq]? = some (.cells (x8 vs (0+i*6) news) ty (0,0)):=by
  rw[Ea];exact(E0 news (0+i*6) w.drew vs Qx (by rw[hlen];omega)).1
 have Qj:(x8 vs (0+i*6) news).size=vs.size:=C0 (by rw[hlen];omega);have S9:∀ ty,(Builtin.clear_ #[ρ.t 22] ty #[.slice (some ⟨fq,(i+(n-j))*6,none⟩) (n-(i+(n-j))) (cap-(i+(n-j)))]).run P W1 = .ok (.tuple #[]) (W1.setCells fq ((n-1)*6) z.cells.toList):=by
  intro ty;rw[show i+(n-j)=n-1 by omega,show n-(n-1)=1 by omega];exact jo W1 _ _ ty z t22 v23 hz fq _ _ (fun k hk=>by rw[G3 ER va5];rfl) (fun k hk=>by simp[World.frozen?,ER])
 have hW:Hid (W1=w.drew.setCells fq (0+i*6) news):=Ea;have hnw:Hid (w.drew.setCells fq (i*6) ((vs.toList.drop (j*6)).take ((n-j)*6))=W1):=by rw[Ea,R2,Nat.zero_add];rfl
 rw[hnw.out];obtain⟨zl,Tn⟩:∃ zl,zl=z.cells.toList:=⟨_,rfl⟩
 simp only[<- Tn]at S9 ⊢;clear Tn hz rq v23;have PO:i<=cap:=by omega
 have PN:j<=cap:=by omega
 clear Ea hc WD Y8 R2 hlen h1 hh Qx ER Qj;have a01:((i:Int) == (j:Int))=false:=by simp;omega
 have a02:i<=j:=by omega
 have a03:i<j:=by omega
 have hjn:j<=n:=by omega
 have UC:Hid (j=i+1):=Bd;clear Bd;obtain⟨_,_,FG⟩:=L.f45
 go_enter FG,SlBodyN.n45_ntmps ρ
 go_wp2_with fail
 go_region_law_o (refine step_append_room rfl (.tmp 22) (.tmp 25) (ρ.t 22) rfl (ρ.t 23) i0 6 t22 Ch Qw fq 0 i cap (by simp[Act.eval,Act.put]) A (n-j) (cap-j) news (by simp[Act.eval,Act.put]) s1.out Bu.out s2.out va5 s3.out ?_;rw[<- hW.out])
 go_wp2
 go_ret
 refine⟨by rw[show n-1=i+(n-j)by have:=UC.out;omega];rfl,?_⟩;rfl
def tI(i k:Nat):Nat:=if k<i then k else k+1
theorem nH{α:Type}{d:α}{l:List α}{i k:Nat}(hi:i<l.length)(hk:k<l.length-1):(l.take i++l.drop (i+1)).getD k d=l.getD (tI i k) d:=by
 have hl:(l.take i).length=i:=by rw[zB1];omega
 simp only[List.getD];unfold tI;by_cases h:k<i
 ·rw[if_pos h,List.getElem?_append_left va5,List.getElem?_take_of_lt h]
 ·rw[if_neg h,List.getElem?_append_right va5,hl,List.getElem?_drop]
  congr 2;omega
theorem IP{α:Type}(L:SlLaysE0.n45 P ρ){fn:Func}{c:Code}(hf:P.funcs[ρ.f 45]? = some fn)(J7:(fn.name == "runtime.NumGoroutine")=false) (hb:fn.body=some c)
  (z23:∀ w,(Go.sizeOf (ρ.t 23)).run P w = .ok 6 w) (i0:TypeInfo) (Ch:P.info? (ρ.t 23)=some i0) (Qw:i0.size=6) (z:Value) (v23:∀ w,(zeroValue (ρ.t 23)).run P w = .ok z w)
  (rq:z.cells.size=6) (hz:∀ v ∈ z.cells.toList,v.oneCell'=true) (ty G7:TypeId) (j0:Nat) (mZ:j0<6) (d:α) (enc:α->List AV) (ys:α->List Int) (Em:∀ y j,j<6->j≠j0->((enc y).getD j .any).one=true) (l:List α) (i:Nat) (hi:i<l.length) :
  PW P (ρ.f 45) [.own 0,.int .i64 i,.int .i64 ((i:Int)+1)] [.nest ty 6 j0 G7 d enc ys none l] (.own 1) [.none,.nest ty 6 j0 G7 d enc ys none (l.take i++l.drop (i+1))]:=by
 intro F w vs β hF G0 I8 L6;have r0:=I8 0 va9;have r1:=I8 1 va9;have r2:=I8 2 va9;simp only[List.getD_cons_zero,List.getD_cons_succ]at r0 r1 r2;obtain⟨W0,b0,v0⟩:=r0.own_inv;have v1:=r1.int_inv;have v2:=r2.int_inv;have hv:vs=#[.slice (W0.b.map fun b=>⟨b,0,none⟩) W0.len W0.cap,.int .i64 i,.int .i64 ((i+1:Nat):Int)]:=by
  have h3:vs.size=3:=by simpa using G0
  rw[<- v0,<- v1,show((i+1:Nat):Int)=(i:Int)+1 from by omega,<- v2];apply Array.ext
  ·simp[h3]
  ·intro i BB Lb;have:i<3:=by omega
   match i,this with
   | 0,_=>simp[Array.getD,BB]
   | 1,_=>simp[Array.getD,BB]
   | 2,_=>simp[Array.getD,BB]
 subst hv;have q0:=L6.rows 0;simp only[List.getD_cons_zero]at q0;obtain⟨Ur,e1,e2,e3⟩:=q0;rw[b0]at e1;cases e1
 have tJ:β 1=none:=L6.dead 1 rfl;rcases e3 with ⟨ao,_⟩|⟨b,us,g1,g2,g3,g4,g5,g6,g7,g8,g9⟩
 ·rw[ao]at hi;exact absurd hi (zB3 _)
 refine⟨Go.MuLone.run_callFunc_enter hf J7 hb _ _,?_⟩;have Es:∀ k,k<l.length->∃ x y q,us.getD (k*6+j0) undef = .slice x y q:=fun k hk=>by
  have h:=g7 k;rw[jh,if_pos ⟨hk,by simp⟩]at h;exact⟨_,_,_,h.1⟩
 have Tm:∀ k,k<l.length*6->(us.getD k undef).oneCell'=true:=fun k hk=>by
  have hq:k / 6<l.length:=by omega
  have hm:k % 6<6:=Nat.mod_lt _ va5;have e:k=k / 6*6+k % 6:=by omega
  by_cases hj:k % 6=j0
  ·obtain⟨x,y,q,h⟩:=Es (k / 6) hq;rw[e,hj,h];rfl
  ·rw[e];exact iD (g6 (k / 6) (k % 6) hq hm hj) (Em _ _ hm hj)
 rw[g1,e2];have DV:b<w.heap.size:=L6.bB 0 b (by rw[x7,b0];exact A8 g1);refine(tH L z23 i0 Ch Qw z v23 rq hz b l.length W0.cap i (i+1) rfl hi g3 (by simp only[maxLen]at g4;omega) us w ty g2 Tm va5).mono ?_;rintro e w' ⟨rfl,hw⟩;obtain⟨news,R2⟩:∃ news,news=(us.toList.drop ((i+1)*6)).take ((l.length-(i+1))*6):=⟨_,rfl⟩
 have hlen:news.length=(l.length-(i+1))*6:=by rw[R2];simp only[zB1,List.length_drop,Array.length_toList];omega
 have Y8:∀ t,t<(l.length-(i+1))*6->news.getD t undef=us.getD ((i+1)*6+t) undef:=by
  intro t ht;rw[R2,List.getD,List.getElem?_take_of_lt ht,List.getElem?_drop,Array.getElem?_toList,Array.getD_eq_getD_getElem?]
 rw[<- R2]at hw;have Tn:z.cells.toList.length=6:=by simpa using rq
 have tK:i*6+news.length<=us.size:=by omega
 have Gy:(x8 us (i*6) news).size=us.size:=C0 tK;have tL:(l.length-1)*6+z.cells.toList.length<=(x8 us (i*6) news).size:=by omega
 obtain⟨a1,a2,a3,a4,a5,a6⟩:=E0 (ty:=ty) news (i*6) w.drew us g2 tK;obtain⟨b1,b2,b3,b4,b5,b6⟩:=E0 (ty:=ty) z.cells.toList ((l.length-1)*6) (w.drew.setCells b (i*6) news) (x8 us (i*6) news) a1 tL;rw[<- hw]at b1 b2 b3 b4 b5 b6;obtain⟨V,hV⟩:∃ V,V=x8 (x8 us (i*6) news) ((l.length-1)*6) z.cells.toList:=⟨_,rfl⟩
 rw[<- hV]at b1;have XS:V.size=us.size:=by rw[hV,C0 tL,Gy]
 have WE:∀ k j,k<l.length-1->j<6->V.getD (k*6+j) undef=us.getD (tI i k*6+j) undef:=by
  intro k j hk hj;rw[hV,B9 tL,if_neg va5,B9 tK];unfold tI;by_cases h:k<i
  ·rw[if_pos h,if_neg va5]
  ·rw[if_neg h,if_pos va5,Y8 _ va5]
   congr 1;omega
 have hh:∀ k,k≠b->w'.heap[k]? = w.heap[k]? := fun k hk=>(b2 k hk).trans (a2 k hk)
 have GL:∀ k,k<l.length-1->tI i k<l.length:=fun k hk=>by unfold tI;split<;>omega
 have js:∀ k k',tI i k=tI i k'->k=k':=fun k k' h=>by unfold tI at h;split at h<;>split at h<;>omega
 let jv:Hd:=⟨some b,l.length-1,W0.cap,fun k=>W0.m (tI i k)⟩
 have sub:∀ c,Z1 (some jv) c->x7 β 0 c:=fun c hc=>by
  rw[x7,b0];rcases hc with hc|⟨k,hc⟩
  ·exact .inl (g1.trans hc)
  ·exact .inr ⟨_,hc⟩
 have rQ:(l.take i++l.drop (i+1)).length=l.length-1:=by simp;omega
 have o9:∀ k',([.none,.nest ty 6 j0 G7 d enc ys none (l.take i++l.drop (i+1))]:List Row).getD k' .none=if k'=1 then .nest ty 6 j0 G7 d enc ys none (l.take i++l.drop (i+1))else .none:=fun k'=>by
  match k' with
  | 0=>rfl
  | 1=>rfl
  | _+2=>simp
 have zF:H3 (fun b=>w.heap.size<=b∨jE β b) w w' :=
  ⟨by rw[b4,a4];rfl,by rw[b5,a5];rfl,by rw[b6,a6];rfl,by rw[b3,a3];exact Nat.le_refl _,fun k hk=>hh k fun e=>hk (.inr ⟨0,by rw[x7,b0,e];exact A8 g1⟩)⟩
 refine tn L6 hF tJ (hd:=jv) o9 zF (fun β' mb => ?_) (fun c hc=>⟨zB5 (L6.bB 0 c (sub c hc)) zF.size,.inr ⟨0,sub c hc⟩,L6.bF 0 c va9 (sub c hc)⟩);refine⟨jv,mb,by rw[rQ],.inr ⟨b,V,rfl,b1,by rw[rQ];show l.length-1<=W0.cap;omega,g4,by rw[XS];exact g5,fun k j hk hj V8=>?_,fun k=>?_,fun k k' c h1 h2=>js k k' (g8 _ _ c h1 h2),fun k c h=>g9 _ c h⟩⟩
 ·rw[rQ]at hk;rw[WE k j hk hj,nH hi hk];exact(g6 (tI i k) j (GL k hk) hj V8).mono (fun _ h=>h) (fun c o v hc hv=>by
   have:c≠b:=fun e=>L6.bF 0 c va9 (by rw[x7,b0,e];exact A8 g1) hc
   simp only[World.cell?]at hv ⊢
   rw[hh c this];exact hv)
 ·have h:=g7 (tI i k);by_cases hk:k<l.length-1
  ·rw[jh,if_pos ⟨by rw[rQ];exact hk,by simp⟩,WE k j0 hk mZ,nH hi hk];rw[jh,if_pos ⟨GL k hk,by simp⟩]at h;exact h.same fun c hc=>hh c (g9 _ c hc)
  ·rw[jh,if_neg (fun q=>hk (by rw[rQ]at q;exact q.1))];rw[jh,if_neg (fun q=>hk (by have:=q.1;unfold tI at this;split at this<;>omega))]at h;exact h
theorem ES{α:Type}(L:SlLaysE0.n45 P ρ){fn:Func}{c:Code}(hf:P.funcs[ρ.f 45]? = some fn)(J7:(fn.name == "runtime.NumGoroutine")=false) (hb:fn.body=some c)
  (z23:∀ w,(Go.sizeOf (ρ.t 23)).run P w = .ok 6 w) (i0:TypeInfo) (Ch:P.info? (ρ.t 23)=some i0) (Qw:i0.size=6) (z:Value) (v23:∀ w,(zeroValue (ρ.t 23)).run P w = .ok z w)
  (rq:z.cells.size=6) (hz:∀ v ∈ z.cells.toList,v.oneCell'=true) (ty:TypeId) (d:α) (enc:α->List AV) (Em:∀ y j,j<6->((enc y).getD j .any).one=true) (l:List α) (i:Nat) (hi:i<l.length) :
  PW P (ρ.f 45) [.own 0,.int .i64 i,.int .i64 ((i:Int)+1)] [.vec ty 6 d enc l] (.own 1) [.none,.vec ty 6 d enc (l.take i++l.drop (i+1))]:=by
 intro F w vs β hF G0 I8 L6;have r0:=I8 0 va9;have r1:=I8 1 va9;have r2:=I8 2 va9;simp only[List.getD_cons_zero,List.getD_cons_succ]at r0 r1 r2;obtain⟨W0,b0,v0⟩:=r0.own_inv;have v1:=r1.int_inv;have v2:=r2.int_inv;have hv:vs=#[.slice (W0.b.map fun b=>⟨b,0,none⟩) W0.len W0.cap,.int .i64 i,.int .i64 ((i+1:Nat):Int)]:=by
  have h3:vs.size=3:=by simpa using G0
  rw[<- v0,<- v1,show((i+1:Nat):Int)=(i:Int)+1 from by omega,<- v2];apply Array.ext
  ·simp[h3]
  ·intro i BB Lb;have:i<3:=by omega
   match i,this with
   | 0,_=>simp[Array.getD,BB]
   | 1,_=>simp[Array.getD,BB]
   | 2,_=>simp[Array.getD,BB]
 subst hv;have q0:=L6.rows 0;simp only[List.getD_cons_zero]at q0;obtain⟨Ur,e1,em,e2,e3⟩:=q0;rw[b0]at e1;cases e1
 have tJ:β 1=none:=L6.dead 1 rfl;rcases e3 with ⟨ao,_⟩|⟨b,us,g1,g2,g3,g4,g5,g6⟩
 ·rw[ao]at hi;exact absurd hi (zB3 _)
 refine⟨Go.MuLone.run_callFunc_enter hf J7 hb _ _,?_⟩;have Tm:∀ k,k<l.length*6->(us.getD k undef).oneCell'=true:=fun k hk=>by
  have hq:k / 6<l.length:=by omega
  have hm:k % 6<6:=Nat.mod_lt _ va5;have e:k=k / 6*6+k % 6:=by omega
  rw[e];exact iD (g6 (k / 6) (k % 6) hq hm) (Em _ _ hm)
 rw[g1,e2];have DV:b<w.heap.size:=L6.bB 0 b (by rw[x7,b0];exact A8 g1);refine(tH L z23 i0 Ch Qw z v23 rq hz b l.length W0.cap i (i+1) rfl hi g3 (by simp only[maxLen]at g4;omega) us w ty g2 Tm va5).mono ?_;rintro e w' ⟨rfl,hw⟩;obtain⟨news,R2⟩:∃ news,news=(us.toList.drop ((i+1)*6)).take ((l.length-(i+1))*6):=⟨_,rfl⟩
 have hlen:news.length=(l.length-(i+1))*6:=by rw[R2];simp only[zB1,List.length_drop,Array.length_toList];omega
 have Y8:∀ t,t<(l.length-(i+1))*6->news.getD t undef=us.getD ((i+1)*6+t) undef:=by
  intro t ht;rw[R2,List.getD,List.getElem?_take_of_lt ht,List.getElem?_drop,Array.getElem?_toList,Array.getD_eq_getD_getElem?]
 rw[<- R2]at hw;have Tn:z.cells.toList.length=6:=by simpa using rq
 have tK:i*6+news.length<=us.size:=by omega
 have Gy:(x8 us (i*6) news).size=us.size:=C0 tK;have tL:(l.length-1)*6+z.cells.toList.length<=(x8 us (i*6) news).size:=by omega
 obtain⟨a1,a2,a3,a4,a5,a6⟩:=E0 (ty:=ty) news (i*6) w.drew us g2 tK;obtain⟨b1,b2,b3,b4,b5,b6⟩:=E0 (ty:=ty) z.cells.toList ((l.length-1)*6) (w.drew.setCells b (i*6) news) (x8 us (i*6) news) a1 tL;rw[<- hw]at b1 b2 b3 b4 b5 b6;obtain⟨V,hV⟩:∃ V,V=x8 (x8 us (i*6) news) ((l.length-1)*6) z.cells.toList:=⟨_,rfl⟩
 rw[<- hV]at b1;have XS:V.size=us.size:=by rw[hV,C0 tL,Gy]
 have WE:∀ k j,k<l.length-1->j<6->V.getD (k*6+j) undef=us.getD (tI i k*6+j) undef:=by
  intro k j hk hj;rw[hV,B9 tL,if_neg va5,B9 tK];unfold tI;by_cases h:k<i
  ·rw[if_pos h,if_neg va5]
  ·rw[if_neg h,if_pos va5,Y8 _ va5]
   congr 1;omega
 have hh:∀ k,k≠b->w'.heap[k]? = w.heap[k]? := fun k hk=>(b2 k hk).trans (a2 k hk)
 have GL:∀ k,k<l.length-1->tI i k<l.length:=fun k hk=>by unfold tI;split<;>omega
 let jv:Hd:=⟨some b,l.length-1,W0.cap,jr⟩
 have sub:∀ c,Z1 (some jv) c->x7 β 0 c:=fun c hc=>by
  rw[x7,b0];rw[P7]at hc;exact .inl (g1.trans hc)
 have rQ:(l.take i++l.drop (i+1)).length=l.length-1:=by simp;omega
 have o9:∀ k',([.none,.vec ty 6 d enc (l.take i++l.drop (i+1))]:List Row).getD k' .none=if k'=1 then .vec ty 6 d enc (l.take i++l.drop (i+1))else .none:=fun k'=>by
  match k' with
  | 0=>rfl
  | 1=>rfl
  | _+2=>simp
 have zF:H3 (fun b=>w.heap.size<=b∨jE β b) w w' :=
  ⟨by rw[b4,a4];rfl,by rw[b5,a5];rfl,by rw[b6,a6];rfl,by rw[b3,a3];exact Nat.le_refl _,fun k hk=>hh k fun e=>hk (.inr ⟨0,by rw[x7,b0,e];exact A8 g1⟩)⟩
 refine tn L6 hF tJ (hd:=jv) o9 zF (fun β' mb => ?_) (fun c hc=>⟨zB5 (L6.bB 0 c (sub c hc)) zF.size,.inr ⟨0,sub c hc⟩,L6.bF 0 c va9 (sub c hc)⟩);refine⟨jv,mb,rfl,by rw[rQ],.inr ⟨b,V,rfl,b1,by rw[rQ];show l.length-1<=W0.cap;omega,g4,by rw[XS];exact g5,fun k j hk hj=>?_⟩⟩;rw[rQ]at hk;rw[WE k j hk hj,nH hi hk];exact(g6 (tI i k) j (GL k hk) hj).mono (fun _ h=>h) (fun c o v hc hv=>by
  have:c≠b:=fun e=>L6.bF 0 c va9 (by rw[x7,b0,e];exact A8 g1) hc
  simp only[World.cell?]at hv ⊢
  rw[hh c this];exact hv)
/- slices.Delete of one element of seven cells, on a plain row. A helper text: it speaks of no program. -/
variable {P:Program}{ρ:Ren}
set_option maxHeartbeats 4000000 in
set_option maxRecDepth 1000000 in
theorem Ci(L:SlLaysE0.n45 P ρ)(z23:∀ w,(Go.sizeOf (ρ.t 23)).run P w = .ok 7 w)(i0:TypeInfo)(Ch:P.info? (ρ.t 23)=some i0)(Qw:i0.size=7)(z:Value)(v23:∀ w,(zeroValue (ρ.t 23)).run P w = .ok z w)
  (rq:z.cells.size=7) (hz:∀ v ∈ z.cells.toList,v.oneCell'=true) (fq n cap i j:Nat) (Bd:j=i+1) (hi:i<n) (hn:n<=cap) (hm:cap<=9223372036854775807) (vs:Array Value) (w:World)
  (ty:TypeId) (hh:w.heap[fq]? = some (.cells vs ty (0,0))) (h1:∀ k,k<n*7->(vs.getD k undef).oneCell'=true) (Eh:n*7<=vs.size) :
  Calls P (ρ.f 45) #[.slice (some ⟨fq,0,none⟩) n cap,.int .i64 i,.int .i64 j] w fun e w'=>e = .returned (.slice (some ⟨fq,0,none⟩) (n-1) cap) /\
   w'=(w.drew.setCells fq (i*7) ((vs.toList.drop (j*7)).take ((n-j)*7))).setCells fq ((n-1)*7) z.cells.toList:=by
 have mixed:=L.mixed;have t0:=L.t0;have a0:=L.a0;have z0:=L.z0;have v0:=L.v0;have t3:=L.t3;have a3:=L.a3;have z3:=L.z3;have v3:=L.v3;have t4:=L.t4;have a4:=L.a4;have z4:=L.z4;have v4:=L.v4;have t22:=L.t22;have a22:=L.a22;have z22:=L.z22;have v22:=L.v22;have hc:∀ k,k<n*7->w.cell? ⟨fq,k,none⟩=some (vs.getD k undef):=fun k hk=>G3 hh va5
 have WD:∀ k,k<n*7->w.frozen? ⟨fq,k,none⟩=false:=fun k hk=>by simp[World.frozen?,hh]
 obtain⟨news,R2⟩:∃ news,news=(vs.toList.drop (j*7)).take ((n-j)*7):=⟨_,rfl⟩
 have hlen:news.length=(n-j)*7:=by rw[R2];simp only[zB1,List.length_drop,Array.length_toList];omega
 have Y8:∀ t,t<(n-j)*7->news[t]? = some (vs.getD (j*7+t) undef):=by
  intro t ht;rw[R2,List.getElem?_take_of_lt ht,List.getElem?_drop,Array.getElem?_toList,Array.getElem?_eq_getElem va5,Array.getD_eq_getD_getElem?,Array.getElem?_eq_getElem va5];rfl
 obtain⟨A,hA,Bu⟩:∃ A:Addr,(if cap=j then some (⟨fq,0,none⟩:Addr)else some ⟨fq,j*7,none⟩)=some A/\Hid (∀ t u,news[t]? = some u->w.drew.cell? (A.add t)=some u):=by
  by_cases h:cap=j
  ·refine⟨⟨fq,0,none⟩,by simp[h],fun t u hu=>?_⟩;have h0:news.length=0:=by rw[hlen];omega
   rw[List.length_eq_zero_iff.1 h0]at hu;simp at hu
  ·refine⟨⟨fq,j*7,none⟩,by simp[h],fun t u hu=>?_⟩;have ht:t<(n-j)*7:=by
    have:=(List.getElem?_eq_some_iff.1 hu).1;rwa[hlen]at this
   rw[Y8 t ht]at hu;rw[Addr.add_lit];exact(hc (j*7+t) va5).trans hu
 have s1:Hid (news.length=(n-j)*7):=hlen;have s2:Hid (∀ u ∈ news,u.oneCell'=true):=by
  intro u hu;obtain⟨t,ht,e⟩:=List.getElem_of_mem hu;have:=Y8 t (by rwa[hlen]at ht);rw[zA6 ht,e]at this;rw[Option.some.inj this];exact h1 _ (by rw[hlen]at ht;omega)
 have s3:Hid (∀ t,t<news.length->(w.drew.cell? ⟨fq,0+i*7+t,none⟩).isSome=true/\w.drew.frozen? ⟨fq,0+i*7+t,none⟩=false):=by
  intro t ht;rw[hlen]at ht;rw[Nat.zero_add];exact⟨by show(w.cell? _).isSome=true;rw[hc (i*7+t) va5];rfl,WD (i*7+t) va5⟩
 obtain⟨W1,Ea⟩:∃ W1,W1=w.drew.setCells fq (0+i*7) news:=⟨_,rfl⟩
 have Qx:w.drew.heap[fq]? = some (.cells vs ty (0,0)):=hh;have ER:W1.heap[fq]? = some (.cells (x8 vs (0+i*7) news) ty (0,0)):=by
  rw[Ea];exact(E0 news (0+i*7) w.drew vs Qx (by rw[hlen];omega)).1
 have Qj:(x8 vs (0+i*7) news).size=vs.size:=C0 (by rw[hlen];omega);have S9:∀ ty,(Builtin.clear_ #[ρ.t 22] ty #[.slice (some ⟨fq,(i+(n-j))*7,none⟩) (n-(i+(n-j))) (cap-(i+(n-j)))]).run P W1 = .ok (.tuple #[]) (W1.setCells fq ((n-1)*7) z.cells.toList):=by
  intro ty;rw[show i+(n-j)=n-1 by omega,show n-(n-1)=1 by omega];exact jo W1 _ _ ty z t22 v23 hz fq _ _ (fun k hk=>by rw[G3 ER va5];rfl) (fun k hk=>by simp[World.frozen?,ER])
 have hW:Hid (W1=w.drew.setCells fq (0+i*7) news):=Ea;have hnw:Hid (w.drew.setCells fq (i*7) ((vs.toList.drop (j*7)).take ((n-j)*7))=W1):=by rw[Ea,R2,Nat.zero_add];rfl
 rw[hnw.out];obtain⟨zl,Tn⟩:∃ zl,zl=z.cells.toList:=⟨_,rfl⟩
 simp only[<- Tn]at S9 ⊢;clear Tn hz rq v23;have PO:i<=cap:=by omega
 have PN:j<=cap:=by omega
 clear Ea hc WD Y8 R2 hlen h1 hh Qx ER Qj;have a01:((i:Int) == (j:Int))=false:=by simp;omega
 have a02:i<=j:=by omega
 have a03:i<j:=by omega
 have hjn:j<=n:=by omega
 have UC:Hid (j=i+1):=Bd;clear Bd;obtain⟨_,_,FG⟩:=L.f45
 go_enter FG,SlBodyN.n45_ntmps ρ
 go_wp2_with fail
 go_region_law_o (refine step_append_room rfl (.tmp 22) (.tmp 25) (ρ.t 22) rfl (ρ.t 23) i0 7 t22 Ch Qw fq 0 i cap (by simp[Act.eval,Act.put]) A (n-j) (cap-j) news (by simp[Act.eval,Act.put]) s1.out Bu.out s2.out va5 s3.out ?_;rw[<- hW.out])
 go_wp2
 go_ret
 refine⟨by rw[show n-1=i+(n-j)by have:=UC.out;omega];rfl,?_⟩;rfl
theorem ET{α:Type}(L:SlLaysE0.n45 P ρ){fn:Func}{c:Code}(hf:P.funcs[ρ.f 45]? = some fn)(J7:(fn.name == "runtime.NumGoroutine")=false) (hb:fn.body=some c)
  (z23:∀ w,(Go.sizeOf (ρ.t 23)).run P w = .ok 7 w) (i0:TypeInfo) (Ch:P.info? (ρ.t 23)=some i0) (Qw:i0.size=7) (z:Value) (v23:∀ w,(zeroValue (ρ.t 23)).run P w = .ok z w)
  (rq:z.cells.size=7) (hz:∀ v ∈ z.cells.toList,v.oneCell'=true) (ty:TypeId) (d:α) (enc:α->List AV) (Em:∀ y j,j<7->((enc y).getD j .any).one=true) (l:List α) (i:Nat) (hi:i<l.length) :
  PW P (ρ.f 45) [.own 0,.int .i64 i,.int .i64 ((i:Int)+1)] [.vec ty 7 d enc l] (.own 1) [.none,.vec ty 7 d enc (l.take i++l.drop (i+1))]:=by
 intro F w vs β hF G0 I8 L6;have r0:=I8 0 va9;have r1:=I8 1 va9;have r2:=I8 2 va9;simp only[List.getD_cons_zero,List.getD_cons_succ]at r0 r1 r2;obtain⟨W0,b0,v0⟩:=r0.own_inv;have v1:=r1.int_inv;have v2:=r2.int_inv;have hv:vs=#[.slice (W0.b.map fun b=>⟨b,0,none⟩) W0.len W0.cap,.int .i64 i,.int .i64 ((i+1:Nat):Int)]:=by
  have h3:vs.size=3:=by simpa using G0
  rw[<- v0,<- v1,show((i+1:Nat):Int)=(i:Int)+1 from by omega,<- v2];apply Array.ext
  ·simp[h3]
  ·intro i BB Lb;have:i<3:=by omega
   match i,this with
   | 0,_=>simp[Array.getD,BB]
   | 1,_=>simp[Array.getD,BB]
   | 2,_=>simp[Array.getD,BB]
 subst hv;have q0:=L6.rows 0;simp only[List.getD_cons_zero]at q0;obtain⟨Ur,e1,em,e2,e3⟩:=q0;rw[b0]at e1;cases e1
 have tJ:β 1=none:=L6.dead 1 rfl;rcases e3 with ⟨ao,_⟩|⟨b,us,g1,g2,g3,g4,g5,g6⟩
 ·rw[ao]at hi;exact absurd hi (zB3 _)
 refine⟨Go.MuLone.run_callFunc_enter hf J7 hb _ _,?_⟩;have Tm:∀ k,k<l.length*7->(us.getD k undef).oneCell'=true:=fun k hk=>by
  have hq:k / 7<l.length:=by omega
  have hm:k % 7<7:=Nat.mod_lt _ va5;have e:k=k / 7*7+k % 7:=by omega
  rw[e];exact iD (g6 (k / 7) (k % 7) hq hm) (Em _ _ hm)
 rw[g1,e2];have DV:b<w.heap.size:=L6.bB 0 b (by rw[x7,b0];exact A8 g1);refine(Ci L z23 i0 Ch Qw z v23 rq hz b l.length W0.cap i (i+1) rfl hi g3 (by simp only[maxLen]at g4;omega) us w ty g2 Tm va5).mono ?_;rintro e w' ⟨rfl,hw⟩;obtain⟨news,R2⟩:∃ news,news=(us.toList.drop ((i+1)*7)).take ((l.length-(i+1))*7):=⟨_,rfl⟩
 have hlen:news.length=(l.length-(i+1))*7:=by rw[R2];simp only[zB1,List.length_drop,Array.length_toList];omega
 have Y8:∀ t,t<(l.length-(i+1))*7->news.getD t undef=us.getD ((i+1)*7+t) undef:=by
  intro t ht;rw[R2,List.getD,List.getElem?_take_of_lt ht,List.getElem?_drop,Array.getElem?_toList,Array.getD_eq_getD_getElem?]
 rw[<- R2]at hw;have Tn:z.cells.toList.length=7:=by simpa using rq
 have tK:i*7+news.length<=us.size:=by omega
 have Gy:(x8 us (i*7) news).size=us.size:=C0 tK;have tL:(l.length-1)*7+z.cells.toList.length<=(x8 us (i*7) news).size:=by omega
 obtain⟨a1,a2,a3,a4,a5,a6⟩:=E0 (ty:=ty) news (i*7) w.drew us g2 tK;obtain⟨b1,b2,b3,b4,b5,b6⟩:=E0 (ty:=ty) z.cells.toList ((l.length-1)*7) (w.drew.setCells b (i*7) news) (x8 us (i*7) news) a1 tL;rw[<- hw]at b1 b2 b3 b4 b5 b6;obtain⟨V,hV⟩:∃ V,V=x8 (x8 us (i*7) news) ((l.length-1)*7) z.cells.toList:=⟨_,rfl⟩
 rw[<- hV]at b1;have XS:V.size=us.size:=by rw[hV,C0 tL,Gy]
 have WE:∀ k j,k<l.length-1->j<7->V.getD (k*7+j) undef=us.getD (tI i k*7+j) undef:=by
  intro k j hk hj;rw[hV,B9 tL,if_neg va5,B9 tK];unfold tI;by_cases h:k<i
  ·rw[if_pos h,if_neg va5]
  ·rw[if_neg h,if_pos va5,Y8 _ va5]
   congr 1;omega
 have hh:∀ k,k≠b->w'.heap[k]? = w.heap[k]? := fun k hk=>(b2 k hk).trans (a2 k hk)
 have GL:∀ k,k<l.length-1->tI i k<l.length:=fun k hk=>by unfold tI;split<;>omega
 let jv:Hd:=⟨some b,l.length-1,W0.cap,jr⟩
 have sub:∀ c,Z1 (some jv) c->x7 β 0 c:=fun c hc=>by
  rw[x7,b0];rw[P7]at hc;exact .inl (g1.trans hc)
 have rQ:(l.take i++l.drop (i+1)).length=l.length-1:=by simp;omega
 have o9:∀ k',([.none,.vec ty 7 d enc (l.take i++l.drop (i+1))]:List Row).getD k' .none=if k'=1 then .vec ty 7 d enc (l.take i++l.drop (i+1))else .none:=fun k'=>by
  match k' with
  | 0=>rfl
  | 1=>rfl
  | _+2=>simp
 have zF:H3 (fun b=>w.heap.size<=b∨jE β b) w w' :=
  ⟨by rw[b4,a4];rfl,by rw[b5,a5];rfl,by rw[b6,a6];rfl,by rw[b3,a3];exact Nat.le_refl _,fun k hk=>hh k fun e=>hk (.inr ⟨0,by rw[x7,b0,e];exact A8 g1⟩)⟩
 refine tn L6 hF tJ (hd:=jv) o9 zF (fun β' mb => ?_) (fun c hc=>⟨zB5 (L6.bB 0 c (sub c hc)) zF.size,.inr ⟨0,sub c hc⟩,L6.bF 0 c va9 (sub c hc)⟩);refine⟨jv,mb,rfl,by rw[rQ],.inr ⟨b,V,rfl,b1,by rw[rQ];show l.length-1<=W0.cap;omega,g4,by rw[XS];exact g5,fun k j hk hj=>?_⟩⟩;rw[rQ]at hk;rw[WE k j hk hj,nH hi hk];exact(g6 (tI i k) j (GL k hk) hj).mono (fun _ h=>h) (fun c o v hc hv=>by
  have:c≠b:=fun e=>L6.bF 0 c va9 (by rw[x7,b0,e];exact A8 g1) hc
  simp only[World.cell?]at hv ⊢
  rw[hh c this];exact hv)

end Go.Ev
