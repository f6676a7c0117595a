/- A helper text: contracts of functions of the program, and plain lemmas. -/
import Derived.Shelf.SlLaysE0
import Derived.Shelf.SlicesE.Kit
import Derived.Shelf.RegionOpenPlain
import Derived.WalkKit
import Derived.Deep.LoopGhost
import Derived.Deep.RegionLaw
import Derived.Lib.Walk
import Derived.Sort.WalkB12
import Derived.Lib.SliceRun
import Derived.Lib.SlicesDelete
import Derived.Shelf.SlicesE.Delete
import Derived.Test.YtdpnpdjnaimgaaaGreatEvZe
set_option linter.unusedVariables false
set_option linter.unusedSimpArgs false
/- slices.Delete of one element, as a call that takes over a row whose elements hold slices of their own, and hands back one. A helper text: it speaks of no program. -/
namespace Go.Ev
open Go Go.Proofs Go.Shelf Go.RowKit Go.Lib Go.Sort
variable {P:Program} {ρ:Ren}
theorem V5 (w:World) (t e ty:TypeId) (z:Value) (ht:P.underlying t=some (.slice e)) (hv:∀ w,(zeroValue e).run P w = .ok z w) (h1:∀ v ∈ z.cells.toList,v.oneCell'=true) (b o c:Nat)
  (hc:∀ j,j < z.cells.size->(w.cell? ⟨b,o + j,none⟩).isSome=true) (hf:∀ j,j < z.cells.size->w.frozen? ⟨b,o + j,none⟩=false) :
  (Builtin.clear_ #[t] ty #[.slice (some ⟨b,o,none⟩) 1 c]).run P w = .ok (.tuple #[]) (w.setCells b o z.cells.toList):=by
 have hzc:(Builtin.zeroCells z.cells 1).toList=z.cells.toList:=by
  apply List.ext_getElem
  ·simp [Builtin.zeroCells]
  ·intro k k1 k2
   have k3:k < z.cells.size:=by simpa using k2
   simp [Builtin.zeroCells,Nat.mod_eq_of_lt k3,getElem!_pos,k3]
 have hst:=run_storeCells_cells (P:=P) b o z.cells.toList 0 w (by simpa using hc) (by simpa using hf) h1
 simp only [Nat.add_zero] at hst
 simp [Builtin.clear_,run_underlying ht,hv,hzc,hst]
set_option maxHeartbeats 4000000 in
set_option maxRecDepth 1000000 in
theorem a8z (L:SlLaysE0.n45 P ρ) (z23:∀ w,(Go.sizeOf (ρ.t 23)).run P w = .ok 6 w) (i0:TypeInfo) (hi0:P.info? (ρ.t 23)=some i0) (hz1:i0.size=6) (z:Value) (v23:∀ w,(zeroValue (ρ.t 23)).run P w = .ok z w)
  (hzs:z.cells.size=6) (hz:∀ v ∈ z.cells.toList,v.oneCell'=true) (blk n cap i j:Nat) (hij:j=i + 1) (hi:i < n) (hn:n<=cap) (hm:cap<=9223372036854775807) (vs:Array Value) (w:World)
  (ty:TypeId) (hh:w.heap[blk]? = some (.cells vs ty (0,0))) (h1:∀ k,k < n * 6->(vs.getD k undef).oneCell'=true) (hvs:n * 6<=vs.size) :
  Calls P (ρ.f 45) #[.slice (some ⟨blk,0,none⟩) n cap,.int .i64 i,.int .i64 j] w fun e w'=>e = .returned (.slice (some ⟨blk,0,none⟩) (n - 1) cap) /\
   w'=(w.drew.setCells blk (i * 6) ((vs.toList.drop (j * 6)).take ((n - j) * 6))).setCells blk ((n - 1) * 6) z.cells.toList:=by
 have mixed:=L.mixed; have t0:=L.t0; have a0:=L.a0; have z0:=L.z0; have v0:=L.v0; have t3:=L.t3; have a3:=L.a3; have z3:=L.z3; have v3:=L.v3; have t4:=L.t4; have a4:=L.a4; have z4:=L.z4; have v4:=L.v4; have t22:=L.t22; have a22:=L.a22; have z22:=L.z22; have v22:=L.v22
 have hc:∀ k,k < n * 6->w.cell? ⟨blk,k,none⟩=some (vs.getD k undef):=fun k hk=>t7 hh (by omega)
 have hfz:∀ k,k < n * 6->w.frozen? ⟨blk,k,none⟩=false:=fun k hk=>by simp [World.frozen?,hh]
 obtain ⟨news,hnews⟩:∃ news,news=(vs.toList.drop (j * 6)).take ((n - j) * 6):=⟨_,rfl⟩
 have hlen:news.length=(n - j) * 6:=by rw [hnews]; simp only [List.length_take,List.length_drop,Array.length_toList]; omega
 have hget:∀ t,t < (n - j) * 6->news[t]? = some (vs.getD (j * 6 + t) undef):=by
  intro t ht
  rw [hnews,List.getElem?_take_of_lt ht,List.getElem?_drop,Array.getElem?_toList,Array.getElem?_eq_getElem (by omega),Array.getD_eq_getD_getElem?,Array.getElem?_eq_getElem (by omega)]
  rfl
 obtain ⟨A,hA,hsrc⟩:∃ A:Addr,(if cap=j then some (⟨blk,0,none⟩:Addr) else some ⟨blk,j * 6,none⟩)=some A/\Hid (∀ t u,news[t]? = some u->w.drew.cell? (A.add t)=some u):=by
  by_cases h:cap=j
  ·refine ⟨⟨blk,0,none⟩,by simp [h],fun t u hu => ?_⟩
   have h0:news.length=0:=by rw [hlen]; omega
   rw [List.length_eq_zero_iff.1 h0] at hu
   simp at hu
  ·refine ⟨⟨blk,j * 6,none⟩,by simp [h],fun t u hu => ?_⟩
   have ht:t < (n - j) * 6:=by
    have:=(List.getElem?_eq_some_iff.1 hu).1
    rwa [hlen] at this
   rw [hget t ht] at hu
   rw [Addr.add_lit]
   exact (hc (j * 6 + t) (by omega)).trans hu
 have s1:Hid (news.length=(n - j) * 6):=hlen
 have s2:Hid (∀ u ∈ news,u.oneCell'=true):=by
  intro u hu
  obtain ⟨t,ht,e⟩:=List.getElem_of_mem hu
  have:=hget t (by rwa [hlen] at ht)
  rw [List.getElem?_eq_getElem ht,e] at this
  rw [Option.some.inj this]
  exact h1 _ (by rw [hlen] at ht; omega)
 have s3:Hid (∀ t,t < news.length->(w.drew.cell? ⟨blk,0 + i * 6 + t,none⟩).isSome=true/\w.drew.frozen? ⟨blk,0 + i * 6 + t,none⟩=false):=by
  intro t ht
  rw [hlen] at ht
  rw [Nat.zero_add]
  exact ⟨by show (w.cell? _).isSome=true; rw [hc (i * 6 + t) (by omega)]; rfl,hfz (i * 6 + t) (by omega)⟩
 obtain ⟨W1,hW1⟩:∃ W1,W1=w.drew.setCells blk (0 + i * 6) news:=⟨_,rfl⟩
 have hdr:w.drew.heap[blk]? = some (.cells vs ty (0,0)):=hh
 have hW1h:W1.heap[blk]? = some (.cells (i9 vs (0 + i * 6) news) ty (0,0)):=by
  rw [hW1]
  exact (r6 news (0 + i * 6) w.drew vs hdr (by rw [hlen]; omega)).1
 have hsz1:(i9 vs (0 + i * 6) news).size=vs.size:=o6 (by rw [hlen]; omega)
 have hcl:∀ ty,(Builtin.clear_ #[ρ.t 22] ty #[.slice (some ⟨blk,(i + (n - j)) * 6,none⟩) (n - (i + (n - j))) (cap - (i + (n - j)))]).run P W1 = .ok (.tuple #[]) (W1.setCells blk ((n - 1) * 6) z.cells.toList):=by
  intro ty
  rw [show i + (n - j)=n - 1 by omega,show n - (n - 1)=1 by omega]
  exact V5 W1 _ _ ty z t22 v23 hz blk _ _ (fun k hk=>by rw [t7 hW1h (by omega)]; rfl) (fun k hk=>by simp [World.frozen?,hW1h])
 have hW:Hid (W1=w.drew.setCells blk (0 + i * 6) news):=hW1
 have hnw:Hid (w.drew.setCells blk (i * 6) ((vs.toList.drop (j * 6)).take ((n - j) * 6))=W1):=by rw [hW1,hnews,Nat.zero_add]; rfl
 rw [hnw.out]
 obtain ⟨zl,hzl⟩:∃ zl,zl=z.cells.toList:=⟨_,rfl⟩
 simp only [<- hzl] at hcl ⊢
 clear hzl hz hzs v23
 have hic:i<=cap:=by omega
 have hjc:j<=cap:=by omega
 clear hW1 hc hfz hget hnews hlen h1 hh hdr hW1h hsz1
 have hijb:((i:Int) == (j:Int))=false:=by simp; omega
 have hij1:i<=j:=by omega
 have hij2:i < j:=by omega
 have hjn:j<=n:=by omega
 have hijH:Hid (j=i + 1):=hij
 clear hij
 obtain ⟨_,_,FG⟩:=L.f45
 go_enter FG,SlBodyN.n45_ntmps ρ
 go_wp2_with fail
 go_region_law_o (refine step_append_room rfl (.tmp 22) (.tmp 25) (ρ.t 22) rfl (ρ.t 23) i0 6 t22 hi0 hz1 blk 0 i cap (by simp [Act.eval,Act.put]) A (n - j) (cap - j) news (by simp [Act.eval,Act.put]) s1.out hsrc.out s2.out (by omega) s3.out ?_; rw [<- hW.out])
 go_wp2
 go_ret
 refine ⟨by rw [show n - 1=i + (n - j) by have:=hijH.out; omega]; rfl,?_⟩
 rfl
def shf (i k:Nat):Nat:=if k < i then k else k + 1
theorem a6K {α:Type} {d:α} {l:List α} {i k:Nat} (hi:i < l.length) (hk:k < l.length - 1):(l.take i++l.drop (i + 1)).getD k d=l.getD (shf i k) d:=by
 have hl:(l.take i).length=i:=by rw [List.length_take]; omega
 simp only [List.getD]
 unfold shf
 by_cases h:k < i
 ·rw [if_pos h,List.getElem?_append_left (by omega),List.getElem?_take_of_lt h]
 ·rw [if_neg h,List.getElem?_append_right (by omega),hl,List.getElem?_drop]
  congr 2; omega
theorem a8A {α:Type} (L:SlLaysE0.n45 P ρ) {fn:Func} {c:Code} (hf:P.funcs[ρ.f 45]? = some fn) (hname:(fn.name == "runtime.NumGoroutine")=false) (hb:fn.body=some c)
  (z23:∀ w,(Go.sizeOf (ρ.t 23)).run P w = .ok 6 w) (i0:TypeInfo) (hi0:P.info? (ρ.t 23)=some i0) (hz1:i0.size=6) (z:Value) (v23:∀ w,(zeroValue (ρ.t 23)).run P w = .ok z w)
  (hzs:z.cells.size=6) (hz:∀ v ∈ z.cells.toList,v.oneCell'=true) (ty:TypeId) (d:α) (enc:α->List AV) (hone:∀ y j,j < 6->((enc y).getD j .any).one=true) (l:List α) (i:Nat) (hi:i < l.length) :
  PW P (ρ.f 45) [.own 0,.int .i64 i,.int .i64 ((i:Int) + 1)] [.vec ty 6 d enc l] (.own 1) [.none,.vec ty 6 d enc (l.take i++l.drop (i + 1))]:=by
 intro F w vs β hF hsz hrep hown
 have r0:=hrep 0 (by simp)
 have r1:=hrep 1 (by simp)
 have r2:=hrep 2 (by simp)
 simp only [List.getD_cons_zero,List.getD_cons_succ] at r0 r1 r2
 obtain ⟨hd0,b0,v0⟩:=r0.own_inv
 have v1:=r1.int_inv
 have v2:=r2.int_inv
 have hv:vs=#[.slice (hd0.b.map fun b=>⟨b,0,none⟩) hd0.len hd0.cap,.int .i64 i,.int .i64 ((i + 1:Nat):Int)]:=by
  have h3:vs.size=3:=by simpa using hsz
  rw [<- v0,<- v1,show ((i + 1:Nat):Int)=(i:Int) + 1 from by omega,<- v2]
  apply Array.ext
  ·simp [h3]
  ·intro i hi1 hi2
   have:i < 3:=by omega
   match i,this with
   | 0,_=>simp [Array.getD,hi1]
   | 1,_=>simp [Array.getD,hi1]
   | 2,_=>simp [Array.getD,hi1]
 subst hv
 have q0:=hown.rows 0
 simp only [List.getD_cons_zero] at q0
 obtain ⟨hd0',e1,em,e2,e3⟩:=q0
 rw [b0] at e1; cases e1
 have h1none:β 1=none:=hown.dead 1 rfl
 rcases e3 with ⟨hl0,_⟩ | ⟨b,us,g1,g2,g3,g4,g5,g6⟩
 ·rw [hl0] at hi; exact absurd hi (Nat.not_lt_zero _)
 refine ⟨Go.MuLone.run_callFunc_enter hf hname hb _ _,?_⟩
 have h1c:∀ k,k < l.length * 6->(us.getD k undef).oneCell'=true:=fun k hk=>by
  have hq:k / 6 < l.length:=by omega
  have hm:k % 6 < 6:=Nat.mod_lt _ (by omega)
  have e:k=k / 6 * 6 + k % 6:=by omega
  rw [e]
  exact a0t (g6 (k / 6) (k % 6) hq hm) (hone _ _ hm)
 rw [g1,e2]
 have hb0:b < w.heap.size:=hown.bB 0 b (by rw [occ,b0]; exact n9 g1)
 refine (a8z L z23 i0 hi0 hz1 z v23 hzs hz b l.length hd0.cap i (i + 1) rfl hi g3 (by simp only [maxLen] at g4; omega) us w ty g2 h1c (by omega)).mono ?_
 rintro e w' ⟨rfl,hw⟩
 obtain ⟨news,hnews⟩:∃ news,news=(us.toList.drop ((i + 1) * 6)).take ((l.length - (i + 1)) * 6):=⟨_,rfl⟩
 have hlen:news.length=(l.length - (i + 1)) * 6:=by rw [hnews]; simp only [List.length_take,List.length_drop,Array.length_toList]; omega
 have hget:∀ t,t < (l.length - (i + 1)) * 6->news.getD t undef=us.getD ((i + 1) * 6 + t) undef:=by
  intro t ht
  rw [hnews,List.getD,List.getElem?_take_of_lt ht,List.getElem?_drop,Array.getElem?_toList,Array.getD_eq_getD_getElem?]
 rw [<- hnews] at hw
 have hzl:z.cells.toList.length=6:=by simpa using hzs
 have fit1:i * 6 + news.length<=us.size:=by omega
 have sz1:(i9 us (i * 6) news).size=us.size:=o6 fit1
 have fit2:(l.length - 1) * 6 + z.cells.toList.length<=(i9 us (i * 6) news).size:=by omega
 obtain ⟨a1,a2,a3,a4,a5,a6⟩:=r6 (ty:=ty) news (i * 6) w.drew us g2 fit1
 obtain ⟨b1,b2,b3,b4,b5,b6⟩:=r6 (ty:=ty) z.cells.toList ((l.length - 1) * 6) (w.drew.setCells b (i * 6) news) (i9 us (i * 6) news) a1 fit2
 rw [<- hw] at b1 b2 b3 b4 b5 b6
 obtain ⟨V,hV⟩:∃ V,V=i9 (i9 us (i * 6) news) ((l.length - 1) * 6) z.cells.toList:=⟨_,rfl⟩
 rw [<- hV] at b1
 have hVs:V.size=us.size:=by rw [hV,o6 fit2,sz1]
 have hVg:∀ k j,k < l.length - 1->j < 6->V.getD (k * 6 + j) undef=us.getD (shf i k * 6 + j) undef:=by
  intro k j hk hj
  rw [hV,o5 fit2,if_neg (by omega),o5 fit1]
  unfold shf
  by_cases h:k < i
  ·rw [if_pos h,if_neg (by omega)]
  ·rw [if_neg h,if_pos (by omega),hget _ (by omega)]
   congr 1; omega
 have hh:∀ k,k≠b->w'.heap[k]? = w.heap[k]? := fun k hk=>(b2 k hk).trans (a2 k hk)
 have hsh:∀ k,k < l.length - 1->shf i k < l.length:=fun k hk=>by unfold shf; split<;>omega
 let hd1:Hd:=⟨some b,l.length - 1,hd0.cap,noM⟩
 have sub:∀ c,hasB (some hd1) c->occ β 0 c:=fun c hc=>by
  rw [occ,b0]
  rw [hasB_plain] at hc
  exact .inl (g1.trans hc)
 have hln:(l.take i++l.drop (i + 1)).length=l.length - 1:=by simp; omega
 have outs:∀ k',([.none,.vec ty 6 d enc (l.take i++l.drop (i + 1))]:List Row).getD k' .none=if k'=1 then .vec ty 6 d enc (l.take i++l.drop (i + 1)) else .none:=fun k'=>by
  match k' with
  | 0=>rfl
  | 1=>rfl
  | _ + 2=>simp
 have bel:BelowO (fun b=>w.heap.size<=b∨inB β b) w w' :=
  ⟨by rw [b4,a4]; rfl,by rw [b5,a5]; rfl,by rw [b6,a6]; rfl,by rw [b3,a3]; exact Nat.le_refl _,fun k hk=>hh k fun e=>hk (.inr ⟨0,by rw [occ,b0,e]; exact n9 g1⟩)⟩
 refine a5i hown hF h1none (hd:=hd1) outs bel (fun β' hβ' => ?_) (fun c hc=>⟨Nat.lt_of_lt_of_le (hown.bB 0 c (sub c hc)) bel.size,.inr ⟨0,sub c hc⟩,hown.bF 0 c (by simp) (sub c hc)⟩)
 refine ⟨hd1,hβ',rfl,by rw [hln],.inr ⟨b,V,rfl,b1,by rw [hln]; show l.length - 1<=hd0.cap; omega,g4,by rw [hVs]; exact g5,fun k j hk hj => ?_⟩⟩
 rw [hln] at hk
 rw [hVg k j hk hj,a6K hi hk]
 exact (g6 (shf i k) j (hsh k hk) hj).mono (fun _ h=>h) (fun c o v hc hv=>by
  have:c≠b:=fun e=>hown.bF 0 c (by simp) (by rw [occ,b0,e]; exact n9 g1) hc
  simp only [World.cell?] at hv ⊢
  rw [hh c this]; exact hv)
/- slices.Delete of one element of seven cells, on a plain row. A helper text: it speaks of no program. -/
variable {P:Program} {ρ:Ren}
set_option maxHeartbeats 4000000 in
set_option maxRecDepth 1000000 in
theorem a6L (L:SlLaysE0.n45 P ρ) (z23:∀ w,(Go.sizeOf (ρ.t 23)).run P w = .ok 7 w) (i0:TypeInfo) (hi0:P.info? (ρ.t 23)=some i0) (hz1:i0.size=7) (z:Value) (v23:∀ w,(zeroValue (ρ.t 23)).run P w = .ok z w)
  (hzs:z.cells.size=7) (hz:∀ v ∈ z.cells.toList,v.oneCell'=true) (blk n cap i j:Nat) (hij:j=i + 1) (hi:i < n) (hn:n<=cap) (hm:cap<=9223372036854775807) (vs:Array Value) (w:World)
  (ty:TypeId) (hh:w.heap[blk]? = some (.cells vs ty (0,0))) (h1:∀ k,k < n * 7->(vs.getD k undef).oneCell'=true) (hvs:n * 7<=vs.size) :
  Calls P (ρ.f 45) #[.slice (some ⟨blk,0,none⟩) n cap,.int .i64 i,.int .i64 j] w fun e w'=>e = .returned (.slice (some ⟨blk,0,none⟩) (n - 1) cap) /\
   w'=(w.drew.setCells blk (i * 7) ((vs.toList.drop (j * 7)).take ((n - j) * 7))).setCells blk ((n - 1) * 7) z.cells.toList:=by
 have mixed:=L.mixed; have t0:=L.t0; have a0:=L.a0; have z0:=L.z0; have v0:=L.v0; have t3:=L.t3; have a3:=L.a3; have z3:=L.z3; have v3:=L.v3; have t4:=L.t4; have a4:=L.a4; have z4:=L.z4; have v4:=L.v4; have t22:=L.t22; have a22:=L.a22; have z22:=L.z22; have v22:=L.v22
 have hc:∀ k,k < n * 7->w.cell? ⟨blk,k,none⟩=some (vs.getD k undef):=fun k hk=>t7 hh (by omega)
 have hfz:∀ k,k < n * 7->w.frozen? ⟨blk,k,none⟩=false:=fun k hk=>by simp [World.frozen?,hh]
 obtain ⟨news,hnews⟩:∃ news,news=(vs.toList.drop (j * 7)).take ((n - j) * 7):=⟨_,rfl⟩
 have hlen:news.length=(n - j) * 7:=by rw [hnews]; simp only [List.length_take,List.length_drop,Array.length_toList]; omega
 have hget:∀ t,t < (n - j) * 7->news[t]? = some (vs.getD (j * 7 + t) undef):=by
  intro t ht
  rw [hnews,List.getElem?_take_of_lt ht,List.getElem?_drop,Array.getElem?_toList,Array.getElem?_eq_getElem (by omega),Array.getD_eq_getD_getElem?,Array.getElem?_eq_getElem (by omega)]
  rfl
 obtain ⟨A,hA,hsrc⟩:∃ A:Addr,(if cap=j then some (⟨blk,0,none⟩:Addr) else some ⟨blk,j * 7,none⟩)=some A/\Hid (∀ t u,news[t]? = some u->w.drew.cell? (A.add t)=some u):=by
  by_cases h:cap=j
  ·refine ⟨⟨blk,0,none⟩,by simp [h],fun t u hu => ?_⟩
   have h0:news.length=0:=by rw [hlen]; omega
   rw [List.length_eq_zero_iff.1 h0] at hu
   simp at hu
  ·refine ⟨⟨blk,j * 7,none⟩,by simp [h],fun t u hu => ?_⟩
   have ht:t < (n - j) * 7:=by
    have:=(List.getElem?_eq_some_iff.1 hu).1
    rwa [hlen] at this
   rw [hget t ht] at hu
   rw [Addr.add_lit]
   exact (hc (j * 7 + t) (by omega)).trans hu
 have s1:Hid (news.length=(n - j) * 7):=hlen
 have s2:Hid (∀ u ∈ news,u.oneCell'=true):=by
  intro u hu
  obtain ⟨t,ht,e⟩:=List.getElem_of_mem hu
  have:=hget t (by rwa [hlen] at ht)
  rw [List.getElem?_eq_getElem ht,e] at this
  rw [Option.some.inj this]
  exact h1 _ (by rw [hlen] at ht; omega)
 have s3:Hid (∀ t,t < news.length->(w.drew.cell? ⟨blk,0 + i * 7 + t,none⟩).isSome=true/\w.drew.frozen? ⟨blk,0 + i * 7 + t,none⟩=false):=by
  intro t ht
  rw [hlen] at ht
  rw [Nat.zero_add]
  exact ⟨by show (w.cell? _).isSome=true; rw [hc (i * 7 + t) (by omega)]; rfl,hfz (i * 7 + t) (by omega)⟩
 obtain ⟨W1,hW1⟩:∃ W1,W1=w.drew.setCells blk (0 + i * 7) news:=⟨_,rfl⟩
 have hdr:w.drew.heap[blk]? = some (.cells vs ty (0,0)):=hh
 have hW1h:W1.heap[blk]? = some (.cells (i9 vs (0 + i * 7) news) ty (0,0)):=by
  rw [hW1]
  exact (r6 news (0 + i * 7) w.drew vs hdr (by rw [hlen]; omega)).1
 have hsz1:(i9 vs (0 + i * 7) news).size=vs.size:=o6 (by rw [hlen]; omega)
 have hcl:∀ ty,(Builtin.clear_ #[ρ.t 22] ty #[.slice (some ⟨blk,(i + (n - j)) * 7,none⟩) (n - (i + (n - j))) (cap - (i + (n - j)))]).run P W1 = .ok (.tuple #[]) (W1.setCells blk ((n - 1) * 7) z.cells.toList):=by
  intro ty
  rw [show i + (n - j)=n - 1 by omega,show n - (n - 1)=1 by omega]
  exact V5 W1 _ _ ty z t22 v23 hz blk _ _ (fun k hk=>by rw [t7 hW1h (by omega)]; rfl) (fun k hk=>by simp [World.frozen?,hW1h])
 have hW:Hid (W1=w.drew.setCells blk (0 + i * 7) news):=hW1
 have hnw:Hid (w.drew.setCells blk (i * 7) ((vs.toList.drop (j * 7)).take ((n - j) * 7))=W1):=by rw [hW1,hnews,Nat.zero_add]; rfl
 rw [hnw.out]
 obtain ⟨zl,hzl⟩:∃ zl,zl=z.cells.toList:=⟨_,rfl⟩
 simp only [<- hzl] at hcl ⊢
 clear hzl hz hzs v23
 have hic:i<=cap:=by omega
 have hjc:j<=cap:=by omega
 clear hW1 hc hfz hget hnews hlen h1 hh hdr hW1h hsz1
 have hijb:((i:Int) == (j:Int))=false:=by simp; omega
 have hij1:i<=j:=by omega
 have hij2:i < j:=by omega
 have hjn:j<=n:=by omega
 have hijH:Hid (j=i + 1):=hij
 clear hij
 obtain ⟨_,_,FG⟩:=L.f45
 go_enter FG,SlBodyN.n45_ntmps ρ
 go_wp2_with fail
 go_region_law_o (refine step_append_room rfl (.tmp 22) (.tmp 25) (ρ.t 22) rfl (ρ.t 23) i0 7 t22 hi0 hz1 blk 0 i cap (by simp [Act.eval,Act.put]) A (n - j) (cap - j) news (by simp [Act.eval,Act.put]) s1.out hsrc.out s2.out (by omega) s3.out ?_; rw [<- hW.out])
 go_wp2
 go_ret
 refine ⟨by rw [show n - 1=i + (n - j) by have:=hijH.out; omega]; rfl,?_⟩
 rfl
theorem a8B {α:Type} (L:SlLaysE0.n45 P ρ) {fn:Func} {c:Code} (hf:P.funcs[ρ.f 45]? = some fn) (hname:(fn.name == "runtime.NumGoroutine")=false) (hb:fn.body=some c)
  (z23:∀ w,(Go.sizeOf (ρ.t 23)).run P w = .ok 7 w) (i0:TypeInfo) (hi0:P.info? (ρ.t 23)=some i0) (hz1:i0.size=7) (z:Value) (v23:∀ w,(zeroValue (ρ.t 23)).run P w = .ok z w)
  (hzs:z.cells.size=7) (hz:∀ v ∈ z.cells.toList,v.oneCell'=true) (ty:TypeId) (d:α) (enc:α->List AV) (hone:∀ y j,j < 7->((enc y).getD j .any).one=true) (l:List α) (i:Nat) (hi:i < l.length) :
  PW P (ρ.f 45) [.own 0,.int .i64 i,.int .i64 ((i:Int) + 1)] [.vec ty 7 d enc l] (.own 1) [.none,.vec ty 7 d enc (l.take i++l.drop (i + 1))]:=by
 intro F w vs β hF hsz hrep hown
 have r0:=hrep 0 (by simp)
 have r1:=hrep 1 (by simp)
 have r2:=hrep 2 (by simp)
 simp only [List.getD_cons_zero,List.getD_cons_succ] at r0 r1 r2
 obtain ⟨hd0,b0,v0⟩:=r0.own_inv
 have v1:=r1.int_inv
 have v2:=r2.int_inv
 have hv:vs=#[.slice (hd0.b.map fun b=>⟨b,0,none⟩) hd0.len hd0.cap,.int .i64 i,.int .i64 ((i + 1:Nat):Int)]:=by
  have h3:vs.size=3:=by simpa using hsz
  rw [<- v0,<- v1,show ((i + 1:Nat):Int)=(i:Int) + 1 from by omega,<- v2]
  apply Array.ext
  ·simp [h3]
  ·intro i hi1 hi2
   have:i < 3:=by omega
   match i,this with
   | 0,_=>simp [Array.getD,hi1]
   | 1,_=>simp [Array.getD,hi1]
   | 2,_=>simp [Array.getD,hi1]
 subst hv
 have q0:=hown.rows 0
 simp only [List.getD_cons_zero] at q0
 obtain ⟨hd0',e1,em,e2,e3⟩:=q0
 rw [b0] at e1; cases e1
 have h1none:β 1=none:=hown.dead 1 rfl
 rcases e3 with ⟨hl0,_⟩ | ⟨b,us,g1,g2,g3,g4,g5,g6⟩
 ·rw [hl0] at hi; exact absurd hi (Nat.not_lt_zero _)
 refine ⟨Go.MuLone.run_callFunc_enter hf hname hb _ _,?_⟩
 have h1c:∀ k,k < l.length * 7->(us.getD k undef).oneCell'=true:=fun k hk=>by
  have hq:k / 7 < l.length:=by omega
  have hm:k % 7 < 7:=Nat.mod_lt _ (by omega)
  have e:k=k / 7 * 7 + k % 7:=by omega
  rw [e]
  exact a0t (g6 (k / 7) (k % 7) hq hm) (hone _ _ hm)
 rw [g1,e2]
 have hb0:b < w.heap.size:=hown.bB 0 b (by rw [occ,b0]; exact n9 g1)
 refine (a6L L z23 i0 hi0 hz1 z v23 hzs hz b l.length hd0.cap i (i + 1) rfl hi g3 (by simp only [maxLen] at g4; omega) us w ty g2 h1c (by omega)).mono ?_
 rintro e w' ⟨rfl,hw⟩
 obtain ⟨news,hnews⟩:∃ news,news=(us.toList.drop ((i + 1) * 7)).take ((l.length - (i + 1)) * 7):=⟨_,rfl⟩
 have hlen:news.length=(l.length - (i + 1)) * 7:=by rw [hnews]; simp only [List.length_take,List.length_drop,Array.length_toList]; omega
 have hget:∀ t,t < (l.length - (i + 1)) * 7->news.getD t undef=us.getD ((i + 1) * 7 + t) undef:=by
  intro t ht
  rw [hnews,List.getD,List.getElem?_take_of_lt ht,List.getElem?_drop,Array.getElem?_toList,Array.getD_eq_getD_getElem?]
 rw [<- hnews] at hw
 have hzl:z.cells.toList.length=7:=by simpa using hzs
 have fit1:i * 7 + news.length<=us.size:=by omega
 have sz1:(i9 us (i * 7) news).size=us.size:=o6 fit1
 have fit2:(l.length - 1) * 7 + z.cells.toList.length<=(i9 us (i * 7) news).size:=by omega
 obtain ⟨a1,a2,a3,a4,a5,a6⟩:=r6 (ty:=ty) news (i * 7) w.drew us g2 fit1
 obtain ⟨b1,b2,b3,b4,b5,b6⟩:=r6 (ty:=ty) z.cells.toList ((l.length - 1) * 7) (w.drew.setCells b (i * 7) news) (i9 us (i * 7) news) a1 fit2
 rw [<- hw] at b1 b2 b3 b4 b5 b6
 obtain ⟨V,hV⟩:∃ V,V=i9 (i9 us (i * 7) news) ((l.length - 1) * 7) z.cells.toList:=⟨_,rfl⟩
 rw [<- hV] at b1
 have hVs:V.size=us.size:=by rw [hV,o6 fit2,sz1]
 have hVg:∀ k j,k < l.length - 1->j < 7->V.getD (k * 7 + j) undef=us.getD (shf i k * 7 + j) undef:=by
  intro k j hk hj
  rw [hV,o5 fit2,if_neg (by omega),o5 fit1]
  unfold shf
  by_cases h:k < i
  ·rw [if_pos h,if_neg (by omega)]
  ·rw [if_neg h,if_pos (by omega),hget _ (by omega)]
   congr 1; omega
 have hh:∀ k,k≠b->w'.heap[k]? = w.heap[k]? := fun k hk=>(b2 k hk).trans (a2 k hk)
 have hsh:∀ k,k < l.length - 1->shf i k < l.length:=fun k hk=>by unfold shf; split<;>omega
 let hd1:Hd:=⟨some b,l.length - 1,hd0.cap,noM⟩
 have sub:∀ c,hasB (some hd1) c->occ β 0 c:=fun c hc=>by
  rw [occ,b0]
  rw [hasB_plain] at hc
  exact .inl (g1.trans hc)
 have hln:(l.take i++l.drop (i + 1)).length=l.length - 1:=by simp; omega
 have outs:∀ k',([.none,.vec ty 7 d enc (l.take i++l.drop (i + 1))]:List Row).getD k' .none=if k'=1 then .vec ty 7 d enc (l.take i++l.drop (i + 1)) else .none:=fun k'=>by
  match k' with
  | 0=>rfl
  | 1=>rfl
  | _ + 2=>simp
 have bel:BelowO (fun b=>w.heap.size<=b∨inB β b) w w' :=
  ⟨by rw [b4,a4]; rfl,by rw [b5,a5]; rfl,by rw [b6,a6]; rfl,by rw [b3,a3]; exact Nat.le_refl _,fun k hk=>hh k fun e=>hk (.inr ⟨0,by rw [occ,b0,e]; exact n9 g1⟩)⟩
 refine a5i hown hF h1none (hd:=hd1) outs bel (fun β' hβ' => ?_) (fun c hc=>⟨Nat.lt_of_lt_of_le (hown.bB 0 c (sub c hc)) bel.size,.inr ⟨0,sub c hc⟩,hown.bF 0 c (by simp) (sub c hc)⟩)
 refine ⟨hd1,hβ',rfl,by rw [hln],.inr ⟨b,V,rfl,b1,by rw [hln]; show l.length - 1<=hd0.cap; omega,g4,by rw [hVs]; exact g5,fun k j hk hj => ?_⟩⟩
 rw [hln] at hk
 rw [hVg k j hk hj,a6K hi hk]
 exact (g6 (shf i k) j (hsh k hk) hj).mono (fun _ h=>h) (fun c o v hc hv=>by
  have:c≠b:=fun e=>hown.bF 0 c (by simp) (by rw [occ,b0,e]; exact n9 g1) hc
  simp only [World.cell?] at hv ⊢
  rw [hh c this]; exact hv)

end Go.Ev
