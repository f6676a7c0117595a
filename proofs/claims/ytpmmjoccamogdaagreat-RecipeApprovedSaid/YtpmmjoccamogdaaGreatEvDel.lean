/- slices.Delete of one element, as a call that takes over a row whose elements hold slices of their own, and hands back one. A helper text: it speaks of no program. -/
import Derived.Shelf.SlLaysE0
import Derived.Shelf.SlicesE.Kit
import Derived.Shelf.RegionOpenPlain
import Derived.WalkKit
import Derived.Deep.RegionLaw
import Derived.Lib.Walk
import Derived.Sort.WalkB12
import Derived.Lib.SliceRun
import Derived.Lib.SlicesDelete
import Derived.Shelf.SlicesE.Delete
import Derived.Test.YtpmmjoccamogdaaGreatEvZe
set_option linter.unusedVariables false
set_option linter.unusedSimpArgs false
namespace Go.Ev
open Go Go.Proofs Go.Shelf Go.RowKit Go.Lib Go.Sort
variable {P:Program} {ρ:Ren}
theorem iF (w:World) (t e ty:TypeId) (z:Value) (ht:P.underlying t=some (.slice e)) (hv:∀ w,(zeroValue e).run P w = .ok z w) (h1:∀ v ∈ z.cells.toList,v.oneCell'=true) (b o c:Nat)
  (hc:∀ j,j < z.cells.size->(w.cell? ⟨b,o + j,none⟩).isSome=true) (hf:∀ j,j < z.cells.size->w.frozen? ⟨b,o + j,none⟩=false) :
  (Builtin.clear_ #[t] ty #[.slice (some ⟨b,o,none⟩) 1 c]).run P w = .ok (.tuple #[]) (w.setCells b o z.cells.toList):=by
 have Hh:(Builtin.zeroCells z.cells 1).toList=z.cells.toList:=by
  apply List.ext_getElem
  ·simp [Builtin.zeroCells]
  ·intro k k1 k2
   have k3:k < z.cells.size:=by simpa using k2
   simp [Builtin.zeroCells,Nat.mod_eq_of_lt k3,getElem!_pos,k3]
 have dY:=run_storeCells_cells (P:=P) b o z.cells.toList 0 w (by simpa using hc) (by simpa using hf) h1
 simp only [Nat.add_zero] at dY
 simp [Builtin.clear_,run_underlying ht,hv,Hh,dY]
set_option maxHeartbeats 4000000 in
set_option maxRecDepth 1000000 in
theorem sm (L:SlLaysE0.n45 P ρ) (z23:∀ w,(Go.sizeOf (ρ.t 23)).run P w = .ok 6 w) (i0:TypeInfo) (IB:P.info? (ρ.t 23)=some i0) (FM:i0.size=6) (z:Value) (v23:∀ w,(zeroValue (ρ.t 23)).run P w = .ok z w)
  (pc:z.cells.size=6) (hz:∀ v ∈ z.cells.toList,v.oneCell'=true) (kS n cap i j:Nat) (zM:j=i + 1) (hi:i < n) (hn:n<=cap) (hm:cap<=9223372036854775807) (vs:Array Value) (w:World)
  (ty:TypeId) (hh:w.heap[kS]? = some (.cells vs ty (0,0))) (h1:∀ k,k < n * 6->(vs.getD k undef).oneCell'=true) (tc:n * 6<=vs.size) :
  Calls P (ρ.f 45) #[.slice (some ⟨kS,0,none⟩) n cap,.int .i64 i,.int .i64 j] w fun e w'=>e = .returned (.slice (some ⟨kS,0,none⟩) (n - 1) cap) /\
   w'=(w.drew.setCells kS (i * 6) ((vs.toList.drop (j * 6)).take ((n - j) * 6))).setCells kS ((n - 1) * 6) z.cells.toList:=by
 have mixed:=L.mixed;have t0:=L.t0;have a0:=L.a0;have z0:=L.z0;have v0:=L.v0;have t3:=L.t3;have a3:=L.a3;have z3:=L.z3;have v3:=L.v3;have t4:=L.t4;have a4:=L.a4;have z4:=L.z4;have v4:=L.v4;have t22:=L.t22;have a22:=L.a22;have z22:=L.z22;have v22:=L.v22
 have hc:∀ k,k < n * 6->w.cell? ⟨kS,k,none⟩=some (vs.getD k undef):=fun k hk=>A6 hh (by omega)
 have IC:∀ k,k < n * 6->w.frozen? ⟨kS,k,none⟩=false:=fun k hk=>by simp [World.frozen?,hh]
 obtain ⟨news,S5⟩:∃ news,news=(vs.toList.drop (j * 6)).take ((n - j) * 6):=⟨_,rfl⟩
 have hlen:news.length=(n - j) * 6:=by rw [S5];simp only [List.length_take,List.length_drop,Array.length_toList];omega
 have ao:∀ t,t < (n - j) * 6->news[t]? = some (vs.getD (j * 6 + t) undef):=by
  intro t ht
  rw [S5,List.getElem?_take_of_lt ht,List.getElem?_drop,Array.getElem?_toList,Array.getElem?_eq_getElem (by omega),Array.getD_eq_getD_getElem?,Array.getElem?_eq_getElem (by omega)]
  rfl
 obtain ⟨A,hA,uB⟩:∃ A:Addr,(if cap=j then some (⟨kS,0,none⟩:Addr) else some ⟨kS,j * 6,none⟩)=some A/\Hid (∀ t u,news[t]? = some u->w.drew.cell? (A.add t)=some u):=by
  by_cases h:cap=j
  ·refine ⟨⟨kS,0,none⟩,by simp [h],fun t u hu=>?_⟩
   have h0:news.length=0:=by rw [hlen];omega
   rw [List.length_eq_zero_iff.1 h0] at hu
   simp at hu
  ·refine ⟨⟨kS,j * 6,none⟩,by simp [h],fun t u hu=>?_⟩
   have ht:t < (n - j) * 6:=by
    have:=(List.getElem?_eq_some_iff.1 hu).1
    rwa [hlen] at this
   rw [ao t ht] at hu
   rw [Addr.add_lit]
   exact (hc (j * 6 + t) (by omega)).trans hu
 have s1:Hid (news.length=(n - j) * 6):=hlen
 have s2:Hid (∀ u ∈ news,u.oneCell'=true):=by
  intro u hu
  obtain ⟨t,ht,e⟩:=List.getElem_of_mem hu
  have:=ao t (by rwa [hlen] at ht)
  rw [List.getElem?_eq_getElem ht,e] at this
  rw [Option.some.inj this]
  exact h1 _ (by rw [hlen] at ht;omega)
 have s3:Hid (∀ t,t < news.length->(w.drew.cell? ⟨kS,0 + i * 6 + t,none⟩).isSome=true/\w.drew.frozen? ⟨kS,0 + i * 6 + t,none⟩=false):=by
  intro t ht
  rw [hlen] at ht
  rw [Nat.zero_add]
  exact ⟨by show (w.cell? _).isSome=true;rw [hc (i * 6 + t) (by omega)];rfl,IC (i * 6 + t) (by omega)⟩
 obtain ⟨W1,xg⟩:∃ W1,W1=w.drew.setCells kS (0 + i * 6) news:=⟨_,rfl⟩
 have Ep:w.drew.heap[kS]? = some (.cells vs ty (0,0)):=hh
 have Dn:W1.heap[kS]? = some (.cells (v8 vs (0 + i * 6) news) ty (0,0)):=by
  rw [xg]
  exact (D3 news (0 + i * 6) w.drew vs Ep (by rw [hlen];omega)).1
 have Fy:(v8 vs (0 + i * 6) news).size=vs.size:=B2 (by rw [hlen];omega)
 have N0:∀ ty,(Builtin.clear_ #[ρ.t 22] ty #[.slice (some ⟨kS,(i + (n - j)) * 6,none⟩) (n - (i + (n - j))) (cap - (i + (n - j)))]).run P W1 = .ok (.tuple #[]) (W1.setCells kS ((n - 1) * 6) z.cells.toList):=by
  intro ty
  rw [show i + (n - j)=n - 1 by omega,show n - (n - 1)=1 by omega]
  exact iF W1 _ _ ty z t22 v23 hz kS _ _ (fun k hk=>by rw [A6 Dn (by omega)];rfl) (fun k hk=>by simp [World.frozen?,Dn])
 have hW:Hid (W1=w.drew.setCells kS (0 + i * 6) news):=xg
 have Lo:Hid (w.drew.setCells kS (i * 6) ((vs.toList.drop (j * 6)).take ((n - j) * 6))=W1):=by rw [xg,S5,Nat.zero_add];rfl
 rw [Lo.out]
 obtain ⟨zl,ID⟩:∃ zl,zl=z.cells.toList:=⟨_,rfl⟩
 simp only [<- ID] at N0 ⊢
 clear ID hz pc v23
 have wa:i<=cap:=by omega
 have Ab:j<=cap:=by omega
 clear xg hc IC ao S5 hlen h1 hh Ep Dn Fy
 have Lp:((i:Int) == (j:Int))=false:=by simp;omega
 have Lq:i<=j:=by omega
 have Lr:i < j:=by omega
 have Mp:j<=n:=by omega
 have IE:Hid (j=i + 1):=zM
 clear zM
 obtain ⟨_,_,FG⟩:=L.f45
 go_enter FG,SlBodyN.n45_ntmps ρ
 go_wp2_with fail
 go_region_law_o (refine step_append_room rfl (.tmp 22) (.tmp 25) (ρ.t 22) rfl (ρ.t 23) i0 6 t22 IB FM kS 0 i cap (by simp [Act.eval,Act.put]) A (n - j) (cap - j) news (by simp [Act.eval,Act.put]) s1.out uB.out s2.out (by omega) s3.out ?_;rw [<- hW.out])
 go_wp2
 go_ret
 refine ⟨by rw [show n - 1=i + (n - j) by have:=IE.out;omega];rfl,?_⟩
 rfl
def Dp (i k:Nat):Nat:=if k < i then k else k + 1
theorem xM {α:Type} {d:α} {l:List α} {i k:Nat} (hi:i < l.length) (hk:k < l.length - 1):(l.take i++l.drop (i + 1)).getD k d=l.getD (Dp i k) d:=by
 have hl:(l.take i).length=i:=by rw [List.length_take];omega
 simp only [List.getD]
 unfold Dp
 by_cases h:k < i
 ·rw [if_pos h,List.getElem?_append_left (by omega),List.getElem?_take_of_lt h]
 ·rw [if_neg h,List.getElem?_append_right (by omega),hl,List.getElem?_drop]
  congr 2;omega
theorem sn {α:Type} (L:SlLaysE0.n45 P ρ) {fn:Func} {c:Code} (hf:P.funcs[ρ.f 45]? = some fn) (I8:(fn.name == "runtime.NumGoroutine")=false) (hb:fn.body=some c)
  (z23:∀ w,(Go.sizeOf (ρ.t 23)).run P w = .ok 6 w) (i0:TypeInfo) (IB:P.info? (ρ.t 23)=some i0) (FM:i0.size=6) (z:Value) (v23:∀ w,(zeroValue (ρ.t 23)).run P w = .ok z w)
  (pc:z.cells.size=6) (hz:∀ v ∈ z.cells.toList,v.oneCell'=true) (ty:TypeId) (d:α) (enc:α->List AV) (CE:∀ y j,j < 6->((enc y).getD j .any).one=true) (l:List α) (i:Nat) (hi:i < l.length) :
  PW P (ρ.f 45) [.own 0,.int .i64 i,.int .i64 ((i:Int) + 1)] [.vec ty 6 d enc l] (.own 1) [.none,.vec ty 6 d enc (l.take i++l.drop (i + 1))]:=by
 intro F w vs β hF C1 G8 K8
 have r0:=G8 0 (by simp)
 have r1:=G8 1 (by simp)
 have r2:=G8 2 (by simp)
 simp only [List.getD_cons_zero,List.getD_cons_succ] at r0 r1 r2
 obtain ⟨Q9,b0,v0⟩:=r0.own_inv
 have v1:=r1.int_inv
 have v2:=r2.int_inv
 have hv:vs=#[.slice (Q9.b.map fun b=>⟨b,0,none⟩) Q9.len Q9.cap,.int .i64 i,.int .i64 ((i + 1:Nat):Int)]:=by
  have h3:vs.size=3:=by simpa using C1
  rw [<- v0,<- v1,show ((i + 1:Nat):Int)=(i:Int) + 1 from by omega,<- v2]
  apply Array.ext
  ·simp [h3]
  ·intro i Af uv
   have:i < 3:=by omega
   match i,this with
   | 0,_=>simp [Array.getD,Af]
   | 1,_=>simp [Array.getD,Af]
   | 2,_=>simp [Array.getD,Af]
 subst hv
 have q0:=K8.rows 0
 simp only [List.getD_cons_zero] at q0
 obtain ⟨Iu,e1,em,e2,e3⟩:=q0
 rw [b0] at e1;cases e1
 have Dq:β 1=none:=K8.dead 1 rfl
 rcases e3 with ⟨ak,_⟩|⟨b,us,g1,g2,g3,g4,g5,g6⟩
 ·rw [ak] at hi;exact absurd hi (Nat.not_lt_zero _)
 refine ⟨Go.MuLone.run_callFunc_enter hf I8 hb _ _,?_⟩
 have GG:∀ k,k < l.length * 6->(us.getD k undef).oneCell'=true:=fun k hk=>by
  have hq:k / 6 < l.length:=by omega
  have hm:k % 6 < 6:=Nat.mod_lt _ (by omega)
  have e:k=k / 6 * 6 + k % 6:=by omega
  rw [e]
  exact ja (g6 (k / 6) (k % 6) hq hm) (CE _ _ hm)
 rw [g1,e2]
 have ta:b < w.heap.size:=K8.bB 0 b (by rw [o7,b0];exact w8 g1)
 refine (sm L z23 i0 IB FM z v23 pc hz b l.length Q9.cap i (i + 1) rfl hi g3 (by simp only [maxLen] at g4;omega) us w ty g2 GG (by omega)).mono ?_
 rintro e w' ⟨rfl,hw⟩
 obtain ⟨news,S5⟩:∃ news,news=(us.toList.drop ((i + 1) * 6)).take ((l.length - (i + 1)) * 6):=⟨_,rfl⟩
 have hlen:news.length=(l.length - (i + 1)) * 6:=by rw [S5];simp only [List.length_take,List.length_drop,Array.length_toList];omega
 have ao:∀ t,t < (l.length - (i + 1)) * 6->news.getD t undef=us.getD ((i + 1) * 6 + t) undef:=by
  intro t ht
  rw [S5,List.getD,List.getElem?_take_of_lt ht,List.getElem?_drop,Array.getElem?_toList,Array.getD_eq_getD_getElem?]
 rw [<- S5] at hw
 have ID:z.cells.toList.length=6:=by simpa using pc
 have Dr:i * 6 + news.length<=us.size:=by omega
 have zK:(v8 us (i * 6) news).size=us.size:=B2 Dr
 have Dt:(l.length - 1) * 6 + z.cells.toList.length<=(v8 us (i * 6) news).size:=by omega
 obtain ⟨a1,a2,a3,a4,a5,a6⟩:=D3 (ty:=ty) news (i * 6) w.drew us g2 Dr
 obtain ⟨b1,b2,b3,b4,b5,b6⟩:=D3 (ty:=ty) z.cells.toList ((l.length - 1) * 6) (w.drew.setCells b (i * 6) news) (v8 us (i * 6) news) a1 Dt
 rw [<- hw] at b1 b2 b3 b4 b5 b6
 obtain ⟨V,hV⟩:∃ V,V=v8 (v8 us (i * 6) news) ((l.length - 1) * 6) z.cells.toList:=⟨_,rfl⟩
 rw [<- hV] at b1
 have Ls:V.size=us.size:=by rw [hV,B2 Dt,zK]
 have Lt:∀ k j,k < l.length - 1->j < 6->V.getD (k * 6 + j) undef=us.getD (Dp i k * 6 + j) undef:=by
  intro k j hk hj
  rw [hV,A3 Dt,if_neg (by omega),A3 Dr]
  unfold Dp
  by_cases h:k < i
  ·rw [if_pos h,if_neg (by omega)]
  ·rw [if_neg h,if_pos (by omega),ao _ (by omega)]
   congr 1;omega
 have hh:∀ k,k≠b->w'.heap[k]? = w.heap[k]? := fun k hk=>(b2 k hk).trans (a2 k hk)
 have Av:∀ k,k < l.length - 1->Dp i k < l.length:=fun k hk=>by unfold Dp;split<;>omega
 let dI:Hd:=⟨some b,l.length - 1,Q9.cap,bd⟩
 have sub:∀ c,N4 (some dI) c->o7 β 0 c:=fun c hc=>by
  rw [o7,b0]
  rw [F8] at hc
  exact .inl (g1.trans hc)
 have te:(l.take i++l.drop (i + 1)).length=l.length - 1:=by simp;omega
 have l5:∀ k',([.none,.vec ty 6 d enc (l.take i++l.drop (i + 1))]:List Row).getD k' .none=if k'=1 then .vec ty 6 d enc (l.take i++l.drop (i + 1)) else .none:=fun k'=>by
  match k' with
  | 0=>rfl
  | 1=>rfl
  | _ + 2=>simp
 have FN:D6 (fun b=>w.heap.size<=b∨cZ β b) w w' :=
  ⟨by rw [b4,a4];rfl,by rw [b5,a5];rfl,by rw [b6,a6];rfl,by rw [b3,a3];exact Nat.le_refl _,fun k hk=>hh k fun e=>hk (.inr ⟨0,by rw [o7,b0,e];exact w8 g1⟩)⟩
 refine rY K8 hF Dq (hd:=dI) l5 FN (fun β' dF => ?_) (fun c hc=>⟨Nat.lt_of_lt_of_le (K8.bB 0 c (sub c hc)) FN.size,.inr ⟨0,sub c hc⟩,K8.bF 0 c (by simp) (sub c hc)⟩)
 refine ⟨dI,dF,rfl,by rw [te],.inr ⟨b,V,rfl,b1,by rw [te];show l.length - 1<=Q9.cap;omega,g4,by rw [Ls];exact g5,fun k j hk hj=>?_⟩⟩
 rw [te] at hk
 rw [Lt k j hk hj,xM hi hk]
 exact (g6 (Dp i k) j (Av k hk) hj).mono (fun _ h=>h) (fun c o v hc hv=>by
  have:c≠b:=fun e=>K8.bF 0 c (by simp) (by rw [o7,b0,e];exact w8 g1) hc
  simp only [World.cell?] at hv ⊢
  rw [hh c this];exact hv)

end Go.Ev
