/- PlantCut of layer 11: a run is the same as its steps one after another, wherever it is cut. -/
import Derived.Test.YtdpnpdjnaimgaaaGreatMzWuB
import Derived.Test.YtdpnpdjnaimgaaaGreatMzWdB
import Derived.Test.YtdpnpdjnaimgaaaGreatMzIniA
set_option linter.unusedVariables false
set_option linter.unusedSimpArgs false
set_option maxRecDepth 100000
set_option maxHeartbeats 0
namespace Go.Proofs.Tryz.My
open Go Go.Ev
theorem vO:∀ (l:List r8) (w:n9) (k:Nat),k < l.length->(bY w l).getD k Y1=G9 (N3 w (l.take k)) (l.getD k B7)
 | [],_,k,h=>absurd h (Nat.not_lt_zero k)
 | o :: l,w,0,_=>rfl
 | o :: l,w,k + 1,h=>vO l (Q6 w o) k (by simpa using h)
theorem BN (a:bX):eX a a=true:=by
 unfold eX
 rw [Bool.and_eq_true,decide_eq_true_eq,List.all_eq_true]
 exact ⟨⟨rfl,rfl,rfl⟩,fun i _=>decide_eq_true ⟨rfl,rfl,rfl,rfl,rfl⟩⟩
theorem BO (l:A5) (os:List r8) (f0:BY l) (f1:SD os):PC Tryz.prog 14 [jP l,cG os] (.bool true):=by
 have al:=V6
 have cl:=jE os
 by_cases hg:O3 os=false/\os.length<=200
 ·obtain ⟨hL,h2⟩:=hg
  rw [hL] at cl
  have hk:=fU f1 hL h2
  by_cases hl:J3 l=0
  ·have cn:=mV l hl
   by_cases hv:os.all B2=true
   ·have cr:=DW l os hl (by omega) hk hv
    have g0:=vM hl
    have vo:∀ k,k < os.length->B2 (os.getD k B7)=true:=fun k hk=>by
     rw [x9 hk]
     exact List.all_eq_true.1 hv _ (List.getElem_mem hk)
    have la:=jh os (I8 l)
    have ga:=vO os (I8 l)
    generalize I8 l=w0 at *
    have gw:=mU os g0
    have cz:=mR (N3 w0 os) (N3 w0 os) (yh gw) (yh gw)
    rw [gN] at cz
    generalize bY w0 os=A at cr la ga
    refine pF Tryz.func14 ?_
    conv=>whnf
    (repeat' ((first|refine aU fun hh=>?_|refine aV fun hh=>?_|refine aS (fun hh=>?_) fun hh=>?_|refine kR ?_|((try refine Or.inl ?_;conv=>whnf);(try refine ⟨false,?_⟩;conv=>whnf);refine ⟨_,by first|exact al|exact cl|exact cr|exact cn,?_⟩)|fail)<;>conv=>whnf))
    refine Or.inr ⟨Nat,[60],[9],[],fun k=>[i64 k],fun k=>[.cells 42 (eW (N3 w0 (os.take k)))],fun _=>[],fun k=>os.length - k,fun k=>k<=os.length,?_⟩
    conv=>whnf
    refine ⟨⟨0,?_⟩,?_⟩
    ·(conv=>whnf)
     exact kK ⟨Nat.zero_le _,rfl,rfl,rfl⟩
    intro k Pl
    conv=>whnf
    refine ⟨fun q=>?_,fun q=>?_⟩
    ·have q:=of_decide_eq_true q
     have L7:k < os.length:=by omega
     have yu:Int.toNat (k:Int) < os.length:=L7
     have hka:Int.toNat (k:Int) < A.length:=by rw [la];exact L7
     have gu:=mU (os.take k) g0
     have sw:=fS (os.getD k B7) (os.take k) w0
     rw [<- bJ L7] at sw
     have e:=ga k L7
     have c2:=mT (N3 w0 (os.take k)) gu (os.getD k B7) (vo k L7) (hk k).t (hk k).n (hk k).r
     generalize N3 w0 (os.take k)=u at gu sw e c2
     have ol:=yj u (os.getD k B7)
     have c3:=uh (G9 u (os.getD k B7)) (A.getD (Int.toNat (k:Int)) Y1) (by omega) (by rw [show A.getD (Int.toNat (k:Int)) Y1=A.getD k Y1 from rfl,e];omega)
     have es:eX (G9 u (os.getD k B7)) (A.getD (Int.toNat (k:Int)) Y1)=true:=by
      rw [show A.getD (Int.toNat (k:Int)) Y1=A.getD k Y1 from rfl,e];exact BN _
     rw [es] at c3
     conv=>whnf
     (repeat' ((first|refine aU fun hh=>?_|refine aV fun hh=>?_|refine aS (fun hh=>?_) fun hh=>?_|refine kT ?_|((try refine Or.inl ?_;conv=>whnf);(try refine ⟨false,?_⟩;conv=>whnf);refine ⟨_,by first|exact c2|exact c3,?_⟩)|fail)<;>conv=>whnf))
     refine ⟨k + 1,?_⟩
     conv=>whnf
     refine kK ⟨⟨?_,?_⟩,?_,?_,rfl⟩
     ·show os.length - (k + 1) < os.length - k;omega
     ·show k + 1<=os.length;omega
     ·rw [C7 _ (by omega) (by omega)];rfl
     ·show _=[Row.cells 42 (eW (N3 w0 (os.take (k + 1))))]
      rw [sw]<;>rfl
    ·have q:=of_decide_eq_false q
     have ek:os.take k=os:=List.take_of_length_le (by omega)
     rw [ek]
     generalize N3 w0 os=u at cz cr
     conv=>whnf
     (repeat' ((first|refine aU fun hh=>?_|refine aV fun hh=>?_|refine aS (fun hh=>?_) fun hh=>?_|refine kR ?_|((try refine Or.inl ?_;conv=>whnf);(try refine ⟨false,?_⟩;conv=>whnf);refine ⟨_,by exact cz,?_⟩)|fail)<;>conv=>whnf))
     all_goals rfl
   ·have cr:=DV l os hl (by omega) hk hv
    refine pF Tryz.func14 ?_
    conv=>whnf
    (repeat' ((first|refine aU fun hh=>?_|refine aV fun hh=>?_|refine aS (fun hh=>?_) fun hh=>?_|refine kR ?_|((try refine Or.inl ?_;conv=>whnf);(try refine ⟨false,?_⟩;conv=>whnf);refine ⟨_,by first|exact al|exact cl|exact cr|exact cn,?_⟩)|fail)<;>conv=>whnf))
    all_goals rfl
  ·have cr:=BH l os (by omega) hl
   have cn:=je l hl
   generalize J3 l=e at *
   refine pF Tryz.func14 ?_
   conv=>whnf
   (repeat' ((first|refine aU fun hh=>?_|refine aV fun hh=>?_|refine aS (fun hh=>?_) fun hh=>?_|refine kR ?_|((try refine Or.inl ?_;conv=>whnf);(try refine ⟨false,?_⟩;conv=>whnf);refine ⟨_,by first|exact al|exact cl|exact cr|exact cn,?_⟩)|fail)<;>conv=>whnf))
   all_goals rfl
 ·have wK:O3 os=true∨(O3 os=false/\¬os.length<=200):=by
   cases e:O3 os with
   | true=>exact .inl rfl
   | false=>exact .inr ⟨rfl,fun q=>hg ⟨e,q⟩⟩
  rcases wK with e|⟨e,e2⟩
  ·rw [e] at cl
   refine pF Tryz.func14 ?_
   conv=>whnf
   (repeat' ((first|refine aU fun hh=>?_|refine aV fun hh=>?_|refine aS (fun hh=>?_) fun hh=>?_|refine kR ?_|((try refine Or.inl ?_;conv=>whnf);(try refine ⟨false,?_⟩;conv=>whnf);refine ⟨_,by first|exact al|exact cl,?_⟩)|fail)<;>conv=>whnf))
   all_goals rfl
  ·rw [e] at cl
   refine pF Tryz.func14 ?_
   conv=>whnf
   (repeat' ((first|refine aU fun hh=>?_|refine aV fun hh=>?_|refine aS (fun hh=>?_) fun hh=>?_|refine kR ?_|((try refine Or.inl ?_;conv=>whnf);(try refine ⟨false,?_⟩;conv=>whnf);refine ⟨_,by first|exact al|exact cl,?_⟩)|fail)<;>conv=>whnf))
   all_goals rfl
end Go.Proofs.Tryz.My
namespace Go.Proofs.YtdpnpdjnaimgaaaGreat.PlantCutDone
open Go Go.Ev Go.Proofs.Tryz.My Go.Proofs.YtdpnpdjnaimgaaaGreat.BooksIn Go.Proofs.YtdpnpdjnaimgaaaGreat.PlantIn
open Go.ChangeShapes Go.WideShapes Go.ChangeAt Go.RowKit
theorem own:ownKnob Tryz.prog.godebug=none:=by kernel_rfl
theorem J7:laidOutB Tryz.prog=true:=by kernel_rfl
theorem kZ (w:World) (x0:A5) (f0:BY x0) (v0:Value) (h0:v7 (fun b=>b < w.heap.size) w (jP x0) v0) (x1:List r8) (f1:(fun l:List r8=>PlantIn.InOrds l/\l.length<=maxLen) x1) (v1:Value) (h1:v7 (fun b=>b < w.heap.size) w (cG x1) v1) :
  Calls Tryz.prog 14 #[v0,v1] w fun e w'=>e = .returned (.bool true)/\Below w.heap.size w w':=by
 refine PC.callsTrue (BO x0 x1 f0 f1) Tryz.func14 (by kernel_rfl) rfl rfl fun i hi=>?_
 match i,hi with
 | 0,_=>exact h0
 | 1,_=>exact h1
theorem lifted (os:Os) (started:os.Started) (H:Type) (enc:TypeId×Value->H) :
  ReturnsInHanded {} Tryz.checked os 14 .any (Rows.plantCutSpec.pre6 enc Tryz.prog Tryz.f14 Rows.plantCutRow.domain false) (Rows.plantCutSpec.post enc Tryz.prog Tryz.f14 false true false false):=by
 refine returnsInHanded_of_change (C:=Tryz.checked) own started (by kernel_rfl) Tryz.func14
  (ChangeSpec.witness6 (enc:=enc) (C:=Tryz.checked) false ⟨#[],#[.agg #[.int .i64 0,.int .i64 0,.int .i64 0,.int .i64 0,.int .i64 0,.int .i64 0,.int .i64 0,.int .i64 0,.int .i64 0,.int .i64 0],.slice none 0 0],[]⟩ 8 (by kernel_rfl) (by kernel_rfl) (by kernel_rfl) (by kernel_rfl)) ?_
 intro W base args ds gs before V7 hW Ea _
 have aq:∀ (j:Nat) t v,Tryz.f14.params[j]? = some t->args[j]? = some v->Value.okWide Tryz.prog W .any base t v:=V7
 have Eb:=hW
 obtain ⟨p,q,tf,hV,rfl,Gw,dc⟩:=hW
 have hA:DataW.TrodAll enc Tryz.prog W 0 (fun _=>true) true Tryz.f14.params.toList args.toList ds p:=tf
 rw [Tryz.params14] at hA aq
 obtain ⟨v0,PE,d0,Tg,p0,q0,R0,rfl,rfl,h0,r0⟩:=trodAll_cons hA
 obtain ⟨v1,Th,d1,Ti,p1,q1,rfl,rfl,rfl,h1,r1⟩:=trodAll_cons r0
 obtain ⟨rfl,rfl,rfl⟩:=trodAll_nil r1
 obtain rfl:args=#[v0,v1]:=by cases args;simp_all
 obtain ⟨rfl,rfl⟩:=trodVars_none hV
 have k0:=h0
 have Io:∀ x ∈ p0,x.block < W.heap.size:=by obtain ⟨m,hm⟩:=k0;exact DataW.trod_lt m _ _ _ hm
 obtain ⟨x0,f0,i0⟩:=M7 Tryz.underlying29 sZ (fun _=>by kernel_rfl) (aq 0 29 v0 rfl rfl) h0
 have k1:=h1
 have Cq:∀ x ∈ p1,x.block < W.heap.size:=by obtain ⟨m,hm⟩:=k1;exact DataW.trod_lt m _ _ _ hm
 obtain ⟨a1,Mn,Mo,rfl⟩:=okWide_slice Tryz.underlying87 (aq 1 87 v1 rfl rfl)
 obtain ⟨x1,f1,i1⟩:=ad (base:=base) jF h1
 clear tf V7
 refine (kZ W x0 f0 v0 i0 x1 f1 _ i1).mono fun e W' ⟨he,fA⟩=>?_
 subst he
 exact ⟨_,rfl,_,_,_,[],_,[],Eb,trodAll_mk1 (shut_bool Tryz.underlying4 _),(trodAll_cons_mk (Below.trod J7 (by kernel_rfl) (of_decide_eq_true (by kernel_rfl)) k0 fA Io) (trodAll_cons_mk (Below.trod J7 (by kernel_rfl) (of_decide_eq_true (by kernel_rfl)) k1 fA Cq) trodAll_mk0)),rfl,fA.frame _,fun h=>by cases h⟩
theorem closed:joinedFacts Tryz.pinned.checked.prog 14 Tryz.f14 Rows.plantCutSpec Rows.plantCutRow=true :=
 (iM Tryz.pinned.checked.prog 14 Tryz.f14 Rows.plantCutSpec Rows.plantCutRow dT R2 N0).2 (by kernel_rfl)
theorem over:Rows.plantCutRow.holds Tryz.pinned (OpenSpec.ofChange Rows.plantCutSpec) :=
 OpenClaim.holds_of_wide 14 Tryz.f14 rfl rfl rfl rfl rfl rfl rfl ⟨rfl,rfl,rfl,rfl,rfl⟩ rfl rfl rfl rfl rfl (by kernel_rfl) Tryz.func14 closed
  (of_decide_eq_true (by kernel_rfl)) (by unfold Func.isWrapper;first|(rw [if_pos (by decide +kernel)];kernel_rfl)|(rw [if_neg (by decide +kernel)];exact ⟨rfl,rfl⟩))
  (fun os started H enc _=>lifted os started H enc)
theorem proved:Rows.PlantCutSaid:=over
#print axioms proved

end Go.Proofs.YtdpnpdjnaimgaaaGreat.PlantCutDone
