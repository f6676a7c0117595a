/- PlantNear of layer 11: what is seen differs from the true profile by at most the noises, and is a profile. -/
import Derived.Test.YtdpnpdjnaimgaaaGreatMzWzA
import Derived.Test.YtdpnpdjnaimgaaaGreatMzWdB
import Derived.Test.YtdpnpdjnaimgaaaGreatMzIniA
set_option linter.unusedVariables false
set_option linter.unusedSimpArgs false
set_option maxRecDepth 100000
set_option maxHeartbeats 0
namespace Go.Proofs.Tryz.My
open Go Go.Ev
theorem l0 (x:Int):0<=Ks x/\Ks x<=255:=by unfold Ks;split<;>split at * <;> omega
theorem l5 {p n:List Int} {i:Nat} (hi:i < p.length):(H4 p n).getD i 0=Ks (p.getD i 0 + n.getD i 0):=by
 simp only [H4,List.getD,List.getElem?_map]
 rw [List.getElem?_range hi];rfl
theorem u3 {p n:List Int} (h:L2 p=true):L2 (H4 p n)=true:=by
 have hl:=M0 h
 unfold L2 D1
 rw [aF]
 have e:(H4 p n).any Dd=false:=List.any_eq_false.2 fun x hx=>by
  obtain ⟨i,hi,e⟩:=List.getElem_of_mem hx
  rw [aF] at hi
  have:=l5 (n:=n) hi
  rw [x9 (by rw [aF];exact hi),e] at this
  have b:=l0 (p.getD i 0 + n.getD i 0)
  unfold Dd D1
  rw [this,decide_eq_true b.1,decide_eq_true b.2]
  decide
 rw [e,decide_eq_true (by omega),decide_eq_true (by omega)]
 rfl
theorem o5 (p n:List Int):PC Tryz.prog 7 [C8 p,C8 n] (.bool true):=by
 have al:=V6
 by_cases hl:(p.length:Int)<=100/\(n.length:Int)<=100
 ·by_cases ho:fJ p n
  ·have c1:=cf p n ho
   have hv:=zV ho.1
   have pB:=M0 ho.1
   have UF:=ho.2.1
   have sl:=aF p n
   have c2:PC Tryz.prog 46 [C8 (H4 p n)] (i64 0):=by have c:=cE (H4 p n) (by omega);rwa [if_pos (u3 ho.1)] at c
   have fact:∀ k,k < p.length->∃ x,(H4 p n).getD k 0=x/\(0<=p.getD k 0/\p.getD k 0<=255)/\(-64<=n.getD k 0/\n.getD k 0<=64)/\(0<=x/\x<=255)/\(x - p.getD k 0<=n.getD k 0∨x - p.getD k 0 <= -n.getD k 0)/\(-n.getD k 0<=x - p.getD k 0∨n.getD k 0<=x - p.getD k 0):=fun k hk=>by
    have a1:=rO hv k hk
    have a2:=AE ho.2.2 k (by omega)
    have b:=l0 (p.getD k 0 + n.getD k 0)
    refine ⟨_,l5 hk,a1,a2,b,?_⟩
    generalize p.getD k 0=x at *
    generalize n.getD k 0=y at *
    unfold Ks
    repeat' split
    all_goals omega
   generalize H4 p n=s at *
   refine pF Tryz.func7 ?_
   conv=>whnf
   (repeat' ((first|refine aU fun hh=>?_|refine aV fun hh=>?_|refine aS (fun hh=>?_) fun hh=>?_|refine kR ?_|((try refine Or.inl ?_;conv=>whnf);(try refine ⟨false,?_⟩;conv=>whnf);refine ⟨_,by first|exact al|exact c1|exact c2,?_⟩)|fail)<;>conv=>whnf))
   refine Or.inr ⟨Nat,[58],[],[],fun k=>[i64 k],fun _=>[],fun _=>[],fun k=>s.length - k,fun k=>k<=s.length,?_⟩
   conv=>whnf
   refine ⟨⟨0,?_⟩,?_⟩
   ·(conv=>whnf)
    exact kK ⟨Nat.zero_le _,rfl,rfl,rfl⟩
   intro k hk
   conv=>whnf
   refine ⟨fun q=>?_,fun q=>?_⟩
   ·have q:=of_decide_eq_true q
    have L7:k < p.length:=by omega
    obtain ⟨x,f1,f2,f3,f4,f5,f6⟩:=fact k L7
    have w1:IntKind.i64.wrap (s.getD k 0 - p.getD k 0)=s.getD k 0 - p.getD k 0:=C7 _ (by omega) (by omega)
    have w2:IntKind.i64.wrap (0 - n.getD k 0) = -n.getD k 0:=(C7 _ (by omega) (by omega)).trans (by omega)
    have fA:¬(if n.getD k 0 < IntKind.i64.wrap (0 - n.getD k 0) then IntKind.i64.wrap (0 - n.getD k 0) else n.getD k 0) < IntKind.i64.wrap (s.getD k 0 - p.getD k 0):=by
     rw [w1,w2]
     split<;>omega
    have fB:¬IntKind.i64.wrap (s.getD k 0 - p.getD k 0) < IntKind.i64.wrap (0 - (if n.getD k 0 < IntKind.i64.wrap (0 - n.getD k 0) then IntKind.i64.wrap (0 - n.getD k 0) else n.getD k 0)):=by
     rw [w1,w2]
     split
     ·rw [C7 _ (by omega) (by omega)];omega
     ·rw [C7 _ (by omega) (by omega)];omega
    conv=>whnf
    (repeat' ((first|refine aU fun hh=>?_|refine aV fun hh=>?_|refine aS (fun hh=>?_) fun hh=>?_|refine kT ?_|fail)<;>conv=>whnf))
    ·exact absurd (by assumption) fA
    ·exact absurd (by assumption) fB
    ·refine ⟨k + 1,?_⟩
     conv=>whnf
     refine kK ⟨⟨?_,?_⟩,?_,rfl,rfl⟩
     ·show s.length - (k + 1) < s.length - k;omega
     ·show k + 1<=s.length;omega
     ·rw [C7 _ (by omega) (by omega)];rfl
   ·(conv=>whnf)
    (repeat' ((first|refine aU fun hh=>?_|refine aV fun hh=>?_|refine aS (fun hh=>?_) fun hh=>?_|refine kR ?_|fail)<;>conv=>whnf))
    all_goals rfl
  ·have c1:=du p n (by omega) (by omega) ho
   have he:¬(if L2 p=true then (2:Int) else 50)=0:=by split<;>decide
   generalize (if L2 p=true then (2:Int) else 50)=e at c1 he
   refine pF Tryz.func7 ?_
   conv=>whnf
   (repeat' ((first|refine aU fun hh=>?_|refine aV fun hh=>?_|refine aS (fun hh=>?_) fun hh=>?_|refine kR ?_|((try refine Or.inl ?_;conv=>whnf);(try refine ⟨false,?_⟩;conv=>whnf);refine ⟨_,by first|exact al|exact c1,?_⟩)|fail)<;>conv=>whnf))
   all_goals rfl
 ·refine pF Tryz.func7 ?_
  conv=>whnf
  (repeat' ((first|refine aU fun hh=>?_|refine aV fun hh=>?_|refine aS (fun hh=>?_) fun hh=>?_|refine kR ?_|((try refine Or.inl ?_;conv=>whnf);(try refine ⟨false,?_⟩;conv=>whnf);refine ⟨_,by exact al,?_⟩)|fail)<;>conv=>whnf))
  all_goals rfl
end Go.Proofs.Tryz.My
namespace Go.Proofs.YtdpnpdjnaimgaaaGreat.PlantNearDone
open Go Go.Ev Go.Proofs.Tryz.My Go.Proofs.YtdpnpdjnaimgaaaGreat.BooksIn Go.Proofs.YtdpnpdjnaimgaaaGreat.PlantIn
open Go.ChangeShapes Go.WideShapes Go.ChangeAt Go.RowKit
theorem own:ownKnob Tryz.prog.godebug=none:=by kernel_rfl
theorem J7:laidOutB Tryz.prog=true:=by kernel_rfl
theorem kZ (w:World) (x0:List Int) (v0:Value) (h0:v7 (fun b=>b < w.heap.size) w (C8 x0) v0) (x1:List Int) (v1:Value) (h1:v7 (fun b=>b < w.heap.size) w (C8 x1) v1) :
  Calls Tryz.prog 7 #[v0,v1] w fun e w'=>e = .returned (.bool true)/\Below w.heap.size w w':=by
 refine PC.callsTrue (o5 x0 x1 ) Tryz.func7 (by kernel_rfl) rfl rfl fun i hi=>?_
 match i,hi with
 | 0,_=>exact h0
 | 1,_=>exact h1
theorem lifted (os:Os) (started:os.Started) (H:Type) (enc:TypeId×Value->H) :
  ReturnsInHanded {} Tryz.checked os 7 .any (Rows.plantNearSpec.pre6 enc Tryz.prog Tryz.f7 Rows.plantNearRow.domain false) (Rows.plantNearSpec.post enc Tryz.prog Tryz.f7 false true false false):=by
 refine returnsInHanded_of_change (C:=Tryz.checked) own started (by kernel_rfl) Tryz.func7
  (ChangeSpec.witness6 (enc:=enc) (C:=Tryz.checked) false ⟨#[],#[.slice none 0 0,.slice none 0 0],[]⟩ 8 (by kernel_rfl) (by kernel_rfl) (by kernel_rfl) (by kernel_rfl)) ?_
 intro W base args ds gs before V7 hW Ea _
 have aq:∀ (j:Nat) t v,Tryz.f7.params[j]? = some t->args[j]? = some v->Value.okWide Tryz.prog W .any base t v:=V7
 have Eb:=hW
 obtain ⟨p,q,tf,hV,rfl,Gw,dc⟩:=hW
 have hA:DataW.TrodAll enc Tryz.prog W 0 (fun _=>true) true Tryz.f7.params.toList args.toList ds p:=tf
 rw [Tryz.params7] at hA aq
 obtain ⟨v0,PE,d0,Tg,p0,q0,R0,rfl,rfl,h0,r0⟩:=trodAll_cons hA
 obtain ⟨v1,Th,d1,Ti,p1,q1,rfl,rfl,rfl,h1,r1⟩:=trodAll_cons r0
 obtain ⟨rfl,rfl,rfl⟩:=trodAll_nil r1
 obtain rfl:args=#[v0,v1]:=by cases args;simp_all
 obtain ⟨rfl,rfl⟩:=trodVars_none hV
 obtain ⟨a0,len0,cap0,rfl⟩:=okWide_slice Tryz.underlying60 (aq 0 60 v0 rfl rfl)
 have k0:=h0
 have Io:∀ x ∈ p0,x.block < W.heap.size:=by obtain ⟨m,hm⟩:=k0;exact DataW.trod_lt m _ _ _ hm
 obtain ⟨x0,i0,_,n0⟩:∃ l:List Int,v7 (fun b=>b < W.heap.size) W (C8 l) (.slice a0 len0 cap0)/\(∀ n ∈ l,G7 n)/\l.length<=maxLen:=by
  obtain ⟨fuel,hf⟩:=h0
  exact m0 Tryz.underlying60 Tryz.underlying3 (by kernel_rfl) (aq 0 60 _ rfl rfl) hf
 obtain ⟨a1,Mn,Mo,rfl⟩:=okWide_slice Tryz.underlying60 (aq 1 60 v1 rfl rfl)
 have k1:=h1
 have Cq:∀ x ∈ p1,x.block < W.heap.size:=by obtain ⟨m,hm⟩:=k1;exact DataW.trod_lt m _ _ _ hm
 obtain ⟨x1,i1,_,n1⟩:∃ l:List Int,v7 (fun b=>b < W.heap.size) W (C8 l) (.slice a1 Mn Mo)/\(∀ n ∈ l,G7 n)/\l.length<=maxLen:=by
  obtain ⟨fuel,hf⟩:=h1
  exact m0 Tryz.underlying60 Tryz.underlying3 (by kernel_rfl) (aq 1 60 _ rfl rfl) hf
 clear tf V7
 refine (kZ W x0 _ i0 x1 _ i1).mono fun e W' ⟨he,r6⟩=>?_
 subst he
 exact ⟨_,rfl,_,_,_,[],_,[],Eb,trodAll_mk1 (shut_bool Tryz.underlying4 _),(trodAll_cons_mk (Below.trod J7 (by kernel_rfl) (of_decide_eq_true (by kernel_rfl)) k0 r6 Io) (trodAll_cons_mk (Below.trod J7 (by kernel_rfl) (of_decide_eq_true (by kernel_rfl)) k1 r6 Cq) trodAll_mk0)),rfl,r6.frame _,fun h=>by cases h⟩
theorem closed:joinedFacts Tryz.pinned.checked.prog 7 Tryz.f7 Rows.plantNearSpec Rows.plantNearRow=true :=
 (iM Tryz.pinned.checked.prog 7 Tryz.f7 Rows.plantNearSpec Rows.plantNearRow dT R2 N0).2 (by kernel_rfl)
theorem over:Rows.plantNearRow.holds Tryz.pinned (OpenSpec.ofChange Rows.plantNearSpec) :=
 OpenClaim.holds_of_wide 7 Tryz.f7 rfl rfl rfl rfl rfl rfl rfl ⟨rfl,rfl,rfl,rfl,rfl⟩ rfl rfl rfl rfl rfl (by kernel_rfl) Tryz.func7 closed
  (of_decide_eq_true (by kernel_rfl)) (by unfold Func.isWrapper;first|(rw [if_pos (by decide +kernel)];kernel_rfl)|(rw [if_neg (by decide +kernel)];exact ⟨rfl,rfl⟩))
  (fun os started H enc _=>lifted os started H enc)
theorem proved:Rows.PlantNearSaid:=over
#print axioms proved

end Go.Proofs.YtdpnpdjnaimgaaaGreat.PlantNearDone
