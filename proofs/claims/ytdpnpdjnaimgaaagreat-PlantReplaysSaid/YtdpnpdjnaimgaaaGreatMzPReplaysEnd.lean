/- PlantReplays of layer 11: each entry of the log is a part's, with what was seen of it, and a replay gives its verdict. -/
import Derived.Test.YtdpnpdjnaimgaaaGreatMzWuB
import Derived.Test.YtdpnpdjnaimgaaaGreatMzWdB
import Derived.Test.YtdpnpdjnaimgaaaGreatMzIniA
set_option linter.unusedVariables false
set_option linter.unusedSimpArgs false
set_option maxRecDepth 100000
set_option maxHeartbeats 0
namespace Go.Proofs.Tryz.My
open Go Go.Ev
theorem SF {b:o7} (g:L5 b) {k:Nat} (h:k < b.log.length):KP b (b.log.getD k w9).seq=0/\KQ b (b.log.getD k w9).seq=(b.log.getD k w9).o6:=by
 have c:E1 b=true:=fI.2 g
 have a:b.log.any (R4 (b.log.getD k w9).seq)=true:=List.any_eq_true.2 ⟨b.log[k],List.getElem_mem h,by rw [x9 h];simp [R4]⟩
 unfold KP KQ
 rw [if_pos c,if_pos c,if_pos a,if_pos a]
 refine ⟨rfl,?_⟩
 have e:dG b (b.log.getD k w9).seq=k:=by
  unfold dG
  have hj:b.log.findIdx (R4 (b.log.getD k w9).seq) < b.log.length:=List.findIdx_lt_length_of_exists (List.any_eq_true.1 a)
  have p:(b.log[b.log.findIdx (R4 (b.log.getD k w9).seq)]'hj).seq=(b.log.getD k w9).seq:=of_decide_eq_true (List.findIdx_getElem (w:=hj))
  generalize b.log.findIdx (R4 (b.log.getD k w9).seq)=j at hj p ⊢
  rw [x9 h] at p
  have q:=List.pairwise_iff_getElem.1 g.sq
  rcases Nat.lt_trichotomy j k with x|x|x
  ·have:=q j k hj h x;omega
  ·exact x
  ·have:=q k j h hj x;omega
 rw [e]
theorem pT (l:A5) (os:List r8) (f0:BY l) (f1:SD os):PC Tryz.prog 11 [jP l,cG os] (.bool true):=by
 have al:=V6
 have cl:=jE os
 by_cases hg:O3 os=false/\os.length<=200
 ·obtain ⟨hL,h2⟩:=hg
  rw [hL] at cl
  have hk:=fU f1 hL h2
  by_cases hl:J3 l=0
  ·by_cases hv:os.all B2=true
   ·have ct:=mX l os hl (by omega) hk hv
    have t:=aK (os:=os) (dx hl) fun o ho=>List.all_eq_true.1 hv _ ho
    have bl:=(bK os (H9 l) (I8 l)).2
    have e2:(H9 l).pieces.length=0:=rfl
    rw [e2] at bl
    generalize N3 (I8 l) os=w at ct t
    generalize E3 (H9 l) (I8 l) os=b at ct t bl
    have le:=t.le
    refine pF Tryz.func11 ?_
    conv=>whnf
    (repeat' ((first|refine aU fun hh=>?_|refine aV fun hh=>?_|refine aS (fun hh=>?_) fun hh=>?_|refine kR ?_|((try refine Or.inl ?_;conv=>whnf);(try refine ⟨false,?_⟩;conv=>whnf);refine ⟨_,by first|exact al|exact cl,?_⟩)|fail)<;>conv=>whnf))
    (refine Or.inr ⟨[],[29,32,33,34],by kernel_rfl,?_⟩;(conv=>whnf);refine ⟨[],_,_,_,_,⟨ct,rfl,rfl,by kernel_rfl⟩,?_⟩)
    conv=>whnf
    (repeat' ((first|refine aU fun hh=>?_|refine aV fun hh=>?_|refine aS (fun hh=>?_) fun hh=>?_|refine kR ?_|fail)<;>conv=>whnf))
    refine Or.inr ⟨Nat,[53],[],[],fun k=>[i64 k],fun _=>[],fun _=>[],fun k=>w.l9.log.length - k,fun k=>k<=w.l9.log.length,?_⟩
    conv=>whnf
    refine ⟨⟨0,?_⟩,?_⟩
    ·(conv=>whnf)
     exact kK ⟨Nat.zero_le _,rfl,rfl,rfl⟩
    intro k wx
    conv=>whnf
    refine ⟨fun q=>?_,fun q=>?_⟩
    ·have q:=of_decide_eq_true q
     have L7:k < w.l9.log.length:=by omega
     have yu:Int.toNat (k:Int) < w.l9.log.length:=L7
     have rp:KP w.l9 (w.l9.log.getD (Int.toNat (k:Int)) w9).seq=0/\KQ w.l9 (w.l9.log.getD (Int.toNat (k:Int)) w9).seq=(w.l9.log.getD (Int.toNat (k:Int)) w9).o6:=SF t.gw.bk L7
     have me:w.l9.log.getD (Int.toNat (k:Int)) w9 ∈ w.l9.log:=by rw [x9 yu];exact List.getElem_mem _
     have lo:=t.lg _ me
     have nl:=t.gw.bk.nl
     have kp:=t.gw.bk.kp
     have eo:=t.gw.bk.lg _ me
     obtain ⟨_,eo,_⟩:=eo
     have cr:=Hg w.l9 (VB t.gw.bk) (w.l9.log.getD (Int.toNat (k:Int)) w9).seq
     rw [rp.1,rp.2] at cr
     generalize hS:w.l9.log.getD (Int.toNat (k:Int)) w9=s at *
     obtain ⟨l1,l2,l3,l4,l5⟩:=lo
     have pt:Int.toNat s.part < b.pieces.length:=by omega
     have pk:=t.pc _ pt
     have co:=cf (b.pieces.getD (Int.toNat s.part) A1).ord.tru (b.pieces.getD (Int.toNat s.part) A1).ord.a8 pk.ob
     rw [<- l3] at co
     have sl:s.o9.length < 2 ^ 40:=by
      rw [l3,aF]
      have:=M0 pk.ob.1
      omega
     have cs:=pd s.o9 s.o9 sl sl
     rw [decide_eq_true rfl] at cs
     subst hS
     conv=>whnf
     (repeat' ((first|refine aU fun hh=>?_|refine aV fun hh=>?_|refine aS (fun hh=>?_) fun hh=>?_|refine kT ?_|((try refine Or.inl ?_;conv=>whnf);(try refine ⟨false,?_⟩;conv=>whnf);refine ⟨_,by first|exact co|exact cr|exact cs,?_⟩)|fail)<;>conv=>whnf))
     all_goals (try (exfalso;rw [l4] at hh;simp at hh;done))
     all_goals (try refine ⟨k + 1,?_⟩)
     all_goals (conv=>whnf)
     all_goals (try refine ⟨⟨⟨?_,?_⟩,?_,rfl,rfl⟩,by kernel_rfl,by kernel_rfl⟩)
     all_goals (first|(show w.l9.log.length - (k + 1) < w.l9.log.length - k;omega)|(show k + 1<=w.l9.log.length;omega)|(rw [C7 _ (by omega) (by omega)];rfl))
    ·(conv=>whnf)
     (repeat' ((first|refine aU fun hh=>?_|refine aV fun hh=>?_|refine aS (fun hh=>?_) fun hh=>?_|refine kR ?_|fail)<;>conv=>whnf))
     all_goals rfl
   ·have ct:=Y4 l os hl (by omega) hk hv
    refine pF Tryz.func11 ?_
    conv=>whnf
    (repeat' ((first|refine aU fun hh=>?_|refine aV fun hh=>?_|refine aS (fun hh=>?_) fun hh=>?_|refine kR ?_|((try refine Or.inl ?_;conv=>whnf);(try refine ⟨false,?_⟩;conv=>whnf);refine ⟨_,by first|exact al|exact cl|exact ct,?_⟩)|fail)<;>conv=>whnf))
    all_goals rfl
  ·have ct:=aQ l os hl
   refine pF Tryz.func11 ?_
   conv=>whnf
   (repeat' ((first|refine aU fun hh=>?_|refine aV fun hh=>?_|refine aS (fun hh=>?_) fun hh=>?_|refine kR ?_|((try refine Or.inl ?_;conv=>whnf);(try refine ⟨false,?_⟩;conv=>whnf);refine ⟨_,by first|exact al|exact cl|exact ct,?_⟩)|fail)<;>conv=>whnf))
   all_goals rfl
 ·have wK:O3 os=true∨(O3 os=false/\¬os.length<=200):=by
   cases e:O3 os with
   | true=>exact .inl rfl
   | false=>exact .inr ⟨rfl,fun q=>hg ⟨e,q⟩⟩
  rcases wK with e|⟨e,e2⟩
  ·rw [e] at cl
   refine pF Tryz.func11 ?_
   conv=>whnf
   (repeat' ((first|refine aU fun hh=>?_|refine aV fun hh=>?_|refine aS (fun hh=>?_) fun hh=>?_|refine kR ?_|((try refine Or.inl ?_;conv=>whnf);(try refine ⟨false,?_⟩;conv=>whnf);refine ⟨_,by first|exact al|exact cl,?_⟩)|fail)<;>conv=>whnf))
   all_goals rfl
  ·rw [e] at cl
   refine pF Tryz.func11 ?_
   conv=>whnf
   (repeat' ((first|refine aU fun hh=>?_|refine aV fun hh=>?_|refine aS (fun hh=>?_) fun hh=>?_|refine kR ?_|((try refine Or.inl ?_;conv=>whnf);(try refine ⟨false,?_⟩;conv=>whnf);refine ⟨_,by first|exact al|exact cl,?_⟩)|fail)<;>conv=>whnf))
   all_goals rfl
end Go.Proofs.Tryz.My
namespace Go.Proofs.YtdpnpdjnaimgaaaGreat.PlantReplaysDone
open Go Go.Ev Go.Proofs.Tryz.My Go.Proofs.YtdpnpdjnaimgaaaGreat.BooksIn Go.Proofs.YtdpnpdjnaimgaaaGreat.PlantIn
open Go.ChangeShapes Go.WideShapes Go.ChangeAt Go.RowKit
theorem own:ownKnob Tryz.prog.godebug=none:=by kernel_rfl
theorem J7:laidOutB Tryz.prog=true:=by kernel_rfl
theorem kZ (w:World) (x0:A5) (f0:BY x0) (v0:Value) (h0:v7 (fun b=>b < w.heap.size) w (jP x0) v0) (x1:List r8) (f1:(fun l:List r8=>PlantIn.InOrds l/\l.length<=maxLen) x1) (v1:Value) (h1:v7 (fun b=>b < w.heap.size) w (cG x1) v1) :
  Calls Tryz.prog 11 #[v0,v1] w fun e w'=>e = .returned (.bool true)/\Below w.heap.size w w':=by
 refine PC.callsTrue (pT x0 x1 f0 f1) Tryz.func11 (by kernel_rfl) rfl rfl fun i hi=>?_
 match i,hi with
 | 0,_=>exact h0
 | 1,_=>exact h1
theorem lifted (os:Os) (started:os.Started) (H:Type) (enc:TypeId×Value->H) :
  ReturnsInHanded {} Tryz.checked os 11 .any (Rows.plantReplaysSpec.pre6 enc Tryz.prog Tryz.f11 Rows.plantReplaysRow.domain false) (Rows.plantReplaysSpec.post enc Tryz.prog Tryz.f11 false true false false):=by
 refine returnsInHanded_of_change (C:=Tryz.checked) own started (by kernel_rfl) Tryz.func11
  (ChangeSpec.witness6 (enc:=enc) (C:=Tryz.checked) false ⟨#[],#[.agg #[.int .i64 0,.int .i64 0,.int .i64 0,.int .i64 0,.int .i64 0,.int .i64 0,.int .i64 0,.int .i64 0,.int .i64 0,.int .i64 0],.slice none 0 0],[]⟩ 8 (by kernel_rfl) (by kernel_rfl) (by kernel_rfl) (by kernel_rfl)) ?_
 intro W base args ds gs before V7 hW Ea _
 have aq:∀ (j:Nat) t v,Tryz.f11.params[j]? = some t->args[j]? = some v->Value.okWide Tryz.prog W .any base t v:=V7
 have Eb:=hW
 obtain ⟨p,q,tf,hV,rfl,Gw,dc⟩:=hW
 have hA:DataW.TrodAll enc Tryz.prog W 0 (fun _=>true) true Tryz.f11.params.toList args.toList ds p:=tf
 rw [Tryz.params11] at hA aq
 obtain ⟨v0,PE,d0,Tg,p0,q0,R0,rfl,rfl,h0,r0⟩:=trodAll_cons hA
 obtain ⟨v1,Th,d1,Ti,p1,q1,rfl,rfl,rfl,h1,r1⟩:=trodAll_cons r0
 obtain ⟨rfl,rfl,rfl⟩:=trodAll_nil r1
 obtain rfl:args=#[v0,v1]:=by cases args;simp_all
 obtain ⟨rfl,rfl⟩:=trodVars_none hV
 have k0:=h0
 have Io:∀ x ∈ p0,x.block < W.heap.size:=by obtain ⟨m,hm⟩:=k0;exact DataW.trod_lt m _ _ _ hm
 obtain ⟨x0,f0,i0⟩:=M7 Tryz.underlying29 sZ (fun _=>by kernel_rfl) (aq 0 29 v0 rfl rfl) h0
 have k1:=h1
 have Cq:∀ x ∈ p1,x.block < W.heap.size:=by obtain ⟨m,hm⟩:=k1;exact DataW.trod_lt m _ _ _ hm
 obtain ⟨a1,Mn,Mo,rfl⟩:=okWide_slice Tryz.underlying87 (aq 1 87 v1 rfl rfl)
 obtain ⟨x1,f1,i1⟩:=ad (base:=base) jF h1
 clear tf V7
 refine (kZ W x0 f0 v0 i0 x1 f1 _ i1).mono fun e W' ⟨he,fA⟩=>?_
 subst he
 exact ⟨_,rfl,_,_,_,[],_,[],Eb,trodAll_mk1 (shut_bool Tryz.underlying4 _),(trodAll_cons_mk (Below.trod J7 (by kernel_rfl) (of_decide_eq_true (by kernel_rfl)) k0 fA Io) (trodAll_cons_mk (Below.trod J7 (by kernel_rfl) (of_decide_eq_true (by kernel_rfl)) k1 fA Cq) trodAll_mk0)),rfl,fA.frame _,fun h=>by cases h⟩
theorem closed:joinedFacts Tryz.pinned.checked.prog 11 Tryz.f11 Rows.plantReplaysSpec Rows.plantReplaysRow=true :=
 (iM Tryz.pinned.checked.prog 11 Tryz.f11 Rows.plantReplaysSpec Rows.plantReplaysRow dT R2 N0).2 (by kernel_rfl)
theorem over:Rows.plantReplaysRow.holds Tryz.pinned (OpenSpec.ofChange Rows.plantReplaysSpec) :=
 OpenClaim.holds_of_wide 11 Tryz.f11 rfl rfl rfl rfl rfl rfl rfl ⟨rfl,rfl,rfl,rfl,rfl⟩ rfl rfl rfl rfl rfl (by kernel_rfl) Tryz.func11 closed
  (of_decide_eq_true (by kernel_rfl)) (by unfold Func.isWrapper;first|(rw [if_pos (by decide +kernel)];kernel_rfl)|(rw [if_neg (by decide +kernel)];exact ⟨rfl,rfl⟩))
  (fun os started H enc _=>lifted os started H enc)
theorem proved:Rows.PlantReplaysSaid:=over
#print axioms proved

end Go.Proofs.YtdpnpdjnaimgaaaGreat.PlantReplaysDone
