/- PlantRejects of layer 11: a part that was not let through is thrown out, and what is thrown out was hit. -/
import Derived.Test.YtdpnpdjnaimgaaaGreatMzWuB
import Derived.Test.YtdpnpdjnaimgaaaGreatMzWdB
import Derived.Test.YtdpnpdjnaimgaaaGreatMzIniA
set_option linter.unusedVariables false
set_option linter.unusedSimpArgs false
set_option maxRecDepth 100000
set_option maxHeartbeats 0
namespace Go.Proofs.Tryz.My
open Go Go.Ev
theorem Ir (b:G3) (h:O2 b=true) (place:Int) (h1:1<=place) (h2:place<=1000000):PC Tryz.prog 50 [fA b,i64 place] (.tup [i64 (V4 b place),i64 (N7 b place),i64 0]):=by
 have c:=aI b
 rw [if_pos h] at c
 have c1:=jd b h
 have c2:=fO b h place h1 h2
 generalize V4 b place=x at *
 generalize N7 b place=y at *
 refine pF Tryz.func50 ?_
 conv=>whnf
 (repeat' ((first|refine aU fun hh=>?_|refine aV fun hh=>?_|refine aS (fun hh=>?_) fun hh=>?_|refine kR ?_|((try refine Or.inl ?_;conv=>whnf);(try refine ⟨false,?_⟩;conv=>whnf);refine ⟨_,by first|exact c|exact c1|exact c2,?_⟩)|fail)<;>conv=>whnf))
 all_goals rfl
theorem pS (l:A5) (os:List r8) (f0:BY l) (f1:SD os):PC Tryz.prog 10 [jP l,cG os] (.bool true):=by
 have al:=V6
 have cl:=jE os
 by_cases hg:O3 os=false/\os.length<=200
 ·obtain ⟨hL,h2⟩:=hg
  rw [hL] at cl
  have hk:=fU f1 hL h2
  by_cases hl:J3 l=0
  ·by_cases hv:os.all B2=true
   ·have ct:=mX l os hl (by omega) hk hv
    have t:=aK (os:=os) (dx hl) fun o ho=>List.all_eq_true.1 hv _ ho
    have bl:=(bK os (H9 l) (I8 l)).2
    have e2:(H9 l).pieces.length=0:=rfl
    rw [e2] at bl
    generalize N3 (I8 l) os=w at ct t
    generalize E3 (H9 l) (I8 l) os=b at ct t bl
    have le:=t.le
    obtain ⟨lb,lr⟩:=K3 hl
    have lg:=(G1.1 lb)
    have cw:=Ir l.n8 lb l.n8.y9 (by omega) (by omega)
    refine pF Tryz.func10 ?_
    conv=>whnf
    (repeat' ((first|refine aU fun hh=>?_|refine aV fun hh=>?_|refine aS (fun hh=>?_) fun hh=>?_|refine kR ?_|((try refine Or.inl ?_;conv=>whnf);(try refine ⟨false,?_⟩;conv=>whnf);refine ⟨_,by first|exact al|exact cl,?_⟩)|fail)<;>conv=>whnf))
    (refine Or.inr ⟨[],[27,30,31,32],by kernel_rfl,?_⟩;(conv=>whnf);refine ⟨[],_,_,_,_,⟨ct,rfl,rfl,by kernel_rfl⟩,?_⟩)
    conv=>whnf
    (repeat' ((first|refine aU fun hh=>?_|refine aV fun hh=>?_|refine aS (fun hh=>?_) fun hh=>?_|refine kR ?_|((try refine Or.inl ?_;conv=>whnf);(try refine ⟨false,?_⟩;conv=>whnf);refine ⟨_,by exact cw,?_⟩)|fail)<;>conv=>whnf))
    refine Or.inr ⟨Nat,[60],[],[],fun k=>[i64 k],fun _=>[],fun _=>[],fun k=>b.n7.length - k,fun k=>k<=b.n7.length,?_⟩
    conv=>whnf
    refine ⟨⟨0,?_⟩,?_⟩
    ·(conv=>whnf)
     exact kK ⟨Nat.zero_le _,rfl,rfl,rfl⟩
    intro k wx
    conv=>whnf
    refine ⟨fun q=>?_,fun q=>?_⟩
    ·have q:=of_decide_eq_true q
     have L7:k < b.n7.length:=by omega
     have Mv:k < b.pieces.length:=by omega
     have yu:Int.toNat (k:Int) < b.n7.length:=L7
     have hpi:Int.toNat (k:Int) < b.pieces.length:=Mv
     have o:fR l k (b.n7.getD (Int.toNat (k:Int)) K4) (b.pieces.getD (Int.toNat (k:Int)) A1):=t.oc k L7
     have i1:=o.id
     have v1:=o.vr
     have n1:=o.nt
     have h1:=o.oh
     clear o
     have vv:(b.n7.getD (Int.toNat (k:Int)) K4).o6=1∨¬(b.n7.getD (Int.toNat (k:Int)) K4).o6=1:=by omega
     have oo:(b.n7.getD (Int.toNat (k:Int)) K4).out=true/\(b.n7.getD (Int.toNat (k:Int)) K4).hit=true∨(b.n7.getD (Int.toNat (k:Int)) K4).out=false/\(b.n7.getD (Int.toNat (k:Int)) K4).o6=1:=by
      rcases vv with e|e
      ·cases e2:(b.n7.getD (Int.toNat (k:Int)) K4).out with
       | true=>exact .inl ⟨rfl,h1 e2⟩
       | false=>exact .inr ⟨rfl,e⟩
      ·exact .inl (n1 e)
     clear n1 h1 vv
     unfold ov at v1
     generalize V4 l.n8 l.n8.y9=wa at *
     rcases oo with ⟨p1,p2⟩|⟨p1,p2⟩<;>by_cases hw:wa<=l.lag
     all_goals (first|rw [if_pos hw] at v1|rw [if_neg hw] at v1)
     all_goals (conv=>whnf)
     all_goals (repeat' ((first|refine aU fun hh=>?_|refine aV fun hh=>?_|refine aS (fun hh=>?_) fun hh=>?_|refine kT ?_|fail)<;>conv=>whnf))
     all_goals (try (exact absurd ((show (b.n7.getD (Int.toNat (k:Int)) K4).out=false by assumption).symm.trans p1) (by decide)))
     all_goals (try (exact absurd ((show (b.n7.getD (Int.toNat (k:Int)) K4).hit=false by assumption).symm.trans p2) (by decide)))
     all_goals (try (exact absurd ((show (b.n7.getD (Int.toNat (k:Int)) K4).out=true by assumption).symm.trans p1) (by decide)))
     all_goals (try refine ⟨k + 1,?_⟩)
     all_goals (conv=>whnf)
     all_goals (try refine ⟨⟨⟨?_,?_⟩,?_,rfl,rfl⟩,by kernel_rfl,by kernel_rfl⟩)
     all_goals (first|(show b.n7.length - (k + 1) < b.n7.length - k;omega)|(show k + 1<=b.n7.length;omega)|(rw [C7 _ (by omega) (by omega)];rfl))
    ·(conv=>whnf)
     (repeat' ((first|refine aU fun hh=>?_|refine aV fun hh=>?_|refine aS (fun hh=>?_) fun hh=>?_|refine kR ?_|fail)<;>conv=>whnf))
     all_goals rfl
   ·have ct:=Y4 l os hl (by omega) hk hv
    refine pF Tryz.func10 ?_
    conv=>whnf
    (repeat' ((first|refine aU fun hh=>?_|refine aV fun hh=>?_|refine aS (fun hh=>?_) fun hh=>?_|refine kR ?_|((try refine Or.inl ?_;conv=>whnf);(try refine ⟨false,?_⟩;conv=>whnf);refine ⟨_,by first|exact al|exact cl|exact ct,?_⟩)|fail)<;>conv=>whnf))
    all_goals rfl
  ·have ct:=aQ l os hl
   refine pF Tryz.func10 ?_
   conv=>whnf
   (repeat' ((first|refine aU fun hh=>?_|refine aV fun hh=>?_|refine aS (fun hh=>?_) fun hh=>?_|refine kR ?_|((try refine Or.inl ?_;conv=>whnf);(try refine ⟨false,?_⟩;conv=>whnf);refine ⟨_,by first|exact al|exact cl|exact ct,?_⟩)|fail)<;>conv=>whnf))
   all_goals rfl
 ·have wK:O3 os=true∨(O3 os=false/\¬os.length<=200):=by
   cases e:O3 os with
   | true=>exact .inl rfl
   | false=>exact .inr ⟨rfl,fun q=>hg ⟨e,q⟩⟩
  rcases wK with e|⟨e,e2⟩
  ·rw [e] at cl
   refine pF Tryz.func10 ?_
   conv=>whnf
   (repeat' ((first|refine aU fun hh=>?_|refine aV fun hh=>?_|refine aS (fun hh=>?_) fun hh=>?_|refine kR ?_|((try refine Or.inl ?_;conv=>whnf);(try refine ⟨false,?_⟩;conv=>whnf);refine ⟨_,by first|exact al|exact cl,?_⟩)|fail)<;>conv=>whnf))
   all_goals rfl
  ·rw [e] at cl
   refine pF Tryz.func10 ?_
   conv=>whnf
   (repeat' ((first|refine aU fun hh=>?_|refine aV fun hh=>?_|refine aS (fun hh=>?_) fun hh=>?_|refine kR ?_|((try refine Or.inl ?_;conv=>whnf);(try refine ⟨false,?_⟩;conv=>whnf);refine ⟨_,by first|exact al|exact cl,?_⟩)|fail)<;>conv=>whnf))
   all_goals rfl
end Go.Proofs.Tryz.My
namespace Go.Proofs.YtdpnpdjnaimgaaaGreat.PlantRejectsDone
open Go Go.Ev Go.Proofs.Tryz.My Go.Proofs.YtdpnpdjnaimgaaaGreat.BooksIn Go.Proofs.YtdpnpdjnaimgaaaGreat.PlantIn
open Go.ChangeShapes Go.WideShapes Go.ChangeAt Go.RowKit
theorem own:ownKnob Tryz.prog.godebug=none:=by kernel_rfl
theorem J7:laidOutB Tryz.prog=true:=by kernel_rfl
theorem kZ (w:World) (x0:A5) (f0:BY x0) (v0:Value) (h0:v7 (fun b=>b < w.heap.size) w (jP x0) v0) (x1:List r8) (f1:(fun l:List r8=>PlantIn.InOrds l/\l.length<=maxLen) x1) (v1:Value) (h1:v7 (fun b=>b < w.heap.size) w (cG x1) v1) :
  Calls Tryz.prog 10 #[v0,v1] w fun e w'=>e = .returned (.bool true)/\Below w.heap.size w w':=by
 refine PC.callsTrue (pS x0 x1 f0 f1) Tryz.func10 (by kernel_rfl) rfl rfl fun i hi=>?_
 match i,hi with
 | 0,_=>exact h0
 | 1,_=>exact h1
theorem lifted (os:Os) (started:os.Started) (H:Type) (enc:TypeId×Value->H) :
  ReturnsInHanded {} Tryz.checked os 10 .any (Rows.plantRejectsSpec.pre6 enc Tryz.prog Tryz.f10 Rows.plantRejectsRow.domain false) (Rows.plantRejectsSpec.post enc Tryz.prog Tryz.f10 false true false false):=by
 refine returnsInHanded_of_change (C:=Tryz.checked) own started (by kernel_rfl) Tryz.func10
  (ChangeSpec.witness6 (enc:=enc) (C:=Tryz.checked) false ⟨#[],#[.agg #[.int .i64 0,.int .i64 0,.int .i64 0,.int .i64 0,.int .i64 0,.int .i64 0,.int .i64 0,.int .i64 0,.int .i64 0,.int .i64 0],.slice none 0 0],[]⟩ 8 (by kernel_rfl) (by kernel_rfl) (by kernel_rfl) (by kernel_rfl)) ?_
 intro W base args ds gs before V7 hW Ea _
 have aq:∀ (j:Nat) t v,Tryz.f10.params[j]? = some t->args[j]? = some v->Value.okWide Tryz.prog W .any base t v:=V7
 have Eb:=hW
 obtain ⟨p,q,tf,hV,rfl,Gw,dc⟩:=hW
 have hA:DataW.TrodAll enc Tryz.prog W 0 (fun _=>true) true Tryz.f10.params.toList args.toList ds p:=tf
 rw [Tryz.params10] at hA aq
 obtain ⟨v0,PE,d0,Tg,p0,q0,R0,rfl,rfl,h0,r0⟩:=trodAll_cons hA
 obtain ⟨v1,Th,d1,Ti,p1,q1,rfl,rfl,rfl,h1,r1⟩:=trodAll_cons r0
 obtain ⟨rfl,rfl,rfl⟩:=trodAll_nil r1
 obtain rfl:args=#[v0,v1]:=by cases args;simp_all
 obtain ⟨rfl,rfl⟩:=trodVars_none hV
 have k0:=h0
 have Io:∀ x ∈ p0,x.block < W.heap.size:=by obtain ⟨m,hm⟩:=k0;exact DataW.trod_lt m _ _ _ hm
 obtain ⟨x0,f0,i0⟩:=M7 Tryz.underlying29 sZ (fun _=>by kernel_rfl) (aq 0 29 v0 rfl rfl) h0
 have k1:=h1
 have Cq:∀ x ∈ p1,x.block < W.heap.size:=by obtain ⟨m,hm⟩:=k1;exact DataW.trod_lt m _ _ _ hm
 obtain ⟨a1,Mn,Mo,rfl⟩:=okWide_slice Tryz.underlying87 (aq 1 87 v1 rfl rfl)
 obtain ⟨x1,f1,i1⟩:=ad (base:=base) jF h1
 clear tf V7
 refine (kZ W x0 f0 v0 i0 x1 f1 _ i1).mono fun e W' ⟨he,fA⟩=>?_
 subst he
 exact ⟨_,rfl,_,_,_,[],_,[],Eb,trodAll_mk1 (shut_bool Tryz.underlying4 _),(trodAll_cons_mk (Below.trod J7 (by kernel_rfl) (of_decide_eq_true (by kernel_rfl)) k0 fA Io) (trodAll_cons_mk (Below.trod J7 (by kernel_rfl) (of_decide_eq_true (by kernel_rfl)) k1 fA Cq) trodAll_mk0)),rfl,fA.frame _,fun h=>by cases h⟩
theorem closed:joinedFacts Tryz.pinned.checked.prog 10 Tryz.f10 Rows.plantRejectsSpec Rows.plantRejectsRow=true :=
 (iM Tryz.pinned.checked.prog 10 Tryz.f10 Rows.plantRejectsSpec Rows.plantRejectsRow dT R2 N0).2 (by kernel_rfl)
theorem over:Rows.plantRejectsRow.holds Tryz.pinned (OpenSpec.ofChange Rows.plantRejectsSpec) :=
 OpenClaim.holds_of_wide 10 Tryz.f10 rfl rfl rfl rfl rfl rfl rfl ⟨rfl,rfl,rfl,rfl,rfl⟩ rfl rfl rfl rfl rfl (by kernel_rfl) Tryz.func10 closed
  (of_decide_eq_true (by kernel_rfl)) (by unfold Func.isWrapper;first|(rw [if_pos (by decide +kernel)];kernel_rfl)|(rw [if_neg (by decide +kernel)];exact ⟨rfl,rfl⟩))
  (fun os started H enc _=>lifted os started H enc)
theorem proved:Rows.PlantRejectsSaid:=over
#print axioms proved

end Go.Proofs.YtdpnpdjnaimgaaaGreat.PlantRejectsDone
