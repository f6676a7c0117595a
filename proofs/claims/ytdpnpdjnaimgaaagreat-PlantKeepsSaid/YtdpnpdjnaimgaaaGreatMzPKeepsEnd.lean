/- PlantKeeps of layer 11: worlds stay valid, an error leaves the world, and each order changes only its own part of it. -/
import Derived.Test.YtdpnpdjnaimgaaaGreatMzWzA
import Derived.Test.YtdpnpdjnaimgaaaGreatMzWxS
import Derived.Test.YtdpnpdjnaimgaaaGreatMzWdB
import Derived.Test.YtdpnpdjnaimgaaaGreatMzIniA
set_option linter.unusedVariables false
set_option linter.unusedSimpArgs false
set_option maxRecDepth 100000
set_option maxHeartbeats 0
namespace Go.Proofs.Tryz.My
open Go Go.Ev
theorem Mh {b:o7} (h:eK b=true):G8 b:=by
 obtain ⟨h1,h2,h3,h4,h5⟩:=ph h
 exact ⟨by omega,by omega,by omega,fun i=>by have:=h4 i;omega,fun i=>by have:=h5 i;omega⟩
def vN (w:n9):Bool:=eK w.l9 && (decide (w.o8.k9.length<=50) && decide (w.n6.length<=50))
theorem Il (w:n9):PC Tryz.prog 15 [eR w] (.bool (!vN w)):=by
 have c:=KF w.l9
 unfold vN
 cases h:eK w.l9
 ·rw [h] at c
  refine pF Tryz.func15 ?_
  conv=>whnf
  (repeat' ((first|refine aU fun hh=>?_|refine aV fun hh=>?_|refine aS (fun hh=>?_) fun hh=>?_|refine kR ?_|((try refine Or.inl ?_;conv=>whnf);(try refine ⟨false,?_⟩;conv=>whnf);refine ⟨_,by exact c,?_⟩)|fail)<;>conv=>whnf))
  all_goals rfl
 ·rw [h] at c
  refine pF Tryz.func15 ?_
  conv=>whnf
  (repeat' ((first|refine aU fun hh=>?_|refine aV fun hh=>?_|refine aS (fun hh=>?_) fun hh=>?_|refine kR ?_|((try refine Or.inl ?_;conv=>whnf);(try refine ⟨false,?_⟩;conv=>whnf);refine ⟨_,by exact c,?_⟩)|fail)<;>conv=>whnf))
  all_goals first
   | (refine congrArg AV.bool (Bool.eq_iff_iff.2 ?_);simp only [Bool.true_and,Bool.not_eq_true',Bool.and_eq_false_iff,decide_eq_true_eq,decide_eq_false_iff_not,iff_true,true_iff];omega)
  
theorem Im {w:n9} (h:vN w=true):px w:=by
 unfold vN at h
 simp only [Bool.and_eq_true,decide_eq_true_eq] at h
 exact ⟨Mh h.1,by omega,by omega⟩
theorem tc (l:A5):px (I8 l):=by
 have z:0 < 2 ^ 20:=by decide
 exact ⟨⟨z,z,z,fun i=>z,fun i=>z⟩,z,z⟩
theorem DZ:PC Tryz.prog 23 [Te,Te] (.bool true):=by
 have c:=mR (I8 sT) (I8 sT) (tc sT) (tc sT)
 rw [gN] at c
 refine c.sub rfl (fun i hi=>?_) (.refl _)
 match i with
 | 0=>exact ta sT
 | 1=>exact ta sT
 | (n + 2)=>exact .refl _
theorem Po {w:n9} (g:I6 w) (n:Int):(X4 w n).n6.length + (aH w n).length=w.n6.length/\(aH w n).length<=1:=by
 obtain ⟨_,k1,k2,k3,k4,k5⟩:=ak g
 have lt:=g.lt
 have ml:=W6 w n
 unfold X4 aH
 by_cases hg:N2 (v8 w)=true
 ·have h0:=(of_decide_eq_true hg).1
  rw [if_pos hg,if_pos hg]
  show ((moved w n).drop 1).length + 1=_/\1<=1
  rw [List.length_drop]
  omega
 ·rw [if_neg hg,if_neg hg]
  show (moved w n).length + 0=_/\0<=1
  omega
theorem Pp (w:n9) (o:r8):∃ t b d h,jc w o=⟨w.line,t,b,d,h⟩/\h.length=w.n6.length + 1:=by
 unfold jc
 by_cases hr:sR w o
 ·rw [if_pos hr]
  exact ⟨_,_,_,_,rfl,by simp⟩
 ·rw [if_neg hr]
  exact ⟨_,_,_,_,rfl,by simp⟩
theorem um (w:n9) (o:r8) (f0:(∀ i,IG (w.l9.b8.getD i r9).b9)/\BY w.line/\G7 w.o8.n8.step) (f1:IG o.b9/\0<=o.kind/\(0<=o.j9/\o.j9<=255)):PC Tryz.prog 13 [eR w,ord o] (.bool true):=by
 have al:=V6
 have g1:=Il w
 have cg:=oB o
 by_cases hs:vN w=true/\Z6 o=false
 ·obtain ⟨s1,s2⟩:=hs
  rw [s1] at g1
  rw [s2] at cg
  have k:=Im s1
  have YH:o.tru.length<=100/\o.a8.length<=100:=by
   unfold Z6 at s2
   have:=of_decide_eq_false s2
   omega
  have c0:=DZ
  by_cases hw:pO w=0
  ·have g:=mP.1 hw
   by_cases ho:B2 o=true
   ·have cs:=mT w g o ho (by omega) (by omega) f1.2.2
    have gu:=AO g o
    have cc:=jD (Q6 w o) (yh gu)
    rw [mP.2 gu] at cc
    have cz:=mR w w k k
    rw [gN] at cz
    have cb:=Ad w.l9 w.l9 k.b k.b
    rw [sc] at cb
    have lt:=g.lt
    have ln:=g.tk.ln
    by_cases he:K0 w o=0
    ·obtain ⟨e1,e2⟩:=aO he
     rw [e1,e2] at cs
     rw [e2] at cc
     clear e1 e2 gu he
     by_cases k1:o.kind=1
     ·have e3:od w o=X4 w o.n:=by unfold od;rw [if_pos k1]
      have e4:mO w o=aH w o.n:=by unfold mO;rw [if_pos k1]
      obtain ⟨hl,IF⟩:=Po g o.n
      obtain ⟨t,h,eu⟩:∃ t h,X4 w o.n=⟨w.line,t,w.l9,w.drift,h⟩:=⟨_,_,rfl⟩
      rw [e3,eu] at cs cc
      rw [e4] at cs
      rw [eu] at hl
      have hl:h.length + (aH w o.n).length=w.n6.length:=hl
      clear e3 e4 eu
      generalize aH w o.n=O at *
      generalize AI w o=N at *
      have ws:IntKind.i64.wrap ((h.length:Int) + (O.length:Int))=w.n6.length:=by rw [C7 _ (by omega) (by omega)];omega
      refine pF Tryz.func13 ?_
      conv=>whnf
      (repeat' ((first|refine aU fun hh=>?_|refine aV fun hh=>?_|refine aS (fun hh=>?_) fun hh=>?_|refine kR ?_|((try refine Or.inl ?_;conv=>whnf);(try refine ⟨false,?_⟩;conv=>whnf);refine ⟨_,by first|exact al|exact g1|exact cg|exact cs|exact cc|exact cz|exact cb|exact c0,?_⟩)|fail)<;>conv=>whnf))
      all_goals (first|rfl|exact congrArg AV.bool (decide_eq_true ws))
     by_cases k2:o.kind=2
     ·have e3:od w o=jc w o:=by unfold od;rw [if_neg k1,if_pos k2]
      have e4:mO w o=[]:=by unfold mO;rw [if_neg k1]
      have e5:AI w o=w.o8.next:=by unfold AI;rw [if_neg k1,if_pos k2]
      obtain ⟨t,b,d,h,eu,hl⟩:=Pp w o
      rw [e3,eu] at cs cc
      rw [e4,e5] at cs
      clear e3 e4 e5 eu
      have ws:IntKind.i64.wrap ((w.n6.length:Int) + 1)=h.length:=by rw [C7 _ (by omega) (by omega)];omega
      refine pF Tryz.func13 ?_
      conv=>whnf
      (repeat' ((first|refine aU fun hh=>?_|refine aV fun hh=>?_|refine aS (fun hh=>?_) fun hh=>?_|refine kR ?_|((try refine Or.inl ?_;conv=>whnf);(try refine ⟨false,?_⟩;conv=>whnf);refine ⟨_,by first|exact al|exact g1|exact cg|exact cs|exact cc|exact cz|exact cb|exact c0,?_⟩)|fail)<;>conv=>whnf))
      all_goals (first|rfl|exact congrArg AV.bool (decide_eq_true rfl))
     have e4:mO w o=[]:=by unfold mO;rw [if_neg k1]
     rw [e4] at cs
     generalize AI w o=N at *
     by_cases k3:o.kind=10
     ·have e3:od w o=Dz w:=by unfold od;rw [if_neg k1,if_neg k2,if_pos k3]
      have eu:Dz w=⟨w.line,w.o8,w.l9,X3,w.n6⟩:=rfl
      rw [e3,eu] at cs cc
      clear e3 e4 eu
      refine pF Tryz.func13 ?_
      conv=>whnf
      (repeat' ((first|refine aU fun hh=>?_|refine aV fun hh=>?_|refine aS (fun hh=>?_) fun hh=>?_|refine kR ?_|((try refine Or.inl ?_;conv=>whnf);(try refine ⟨false,?_⟩;conv=>whnf);refine ⟨_,by first|exact al|exact g1|exact cg|exact cs|exact cc|exact cz|exact cb|exact c0,?_⟩)|fail)<;>conv=>whnf))
      all_goals rfl
     ·have e3:od w o=dv w (lq w.l9 (bG o)):=by unfold od;rw [if_neg k1,if_neg k2,if_neg k3]
      have eu:dv w (lq w.l9 (bG o))=⟨w.line,w.o8,lq w.l9 (bG o),w.drift,w.n6⟩:=rfl
      rw [e3,eu] at cs cc
      clear e3 e4 eu
      generalize lq w.l9 (bG o)=b at *
      refine pF Tryz.func13 ?_
      conv=>whnf
      (repeat' ((first|refine aU fun hh=>?_|refine aV fun hh=>?_|refine aS (fun hh=>?_) fun hh=>?_|refine kR ?_|((try refine Or.inl ?_;conv=>whnf);(try refine ⟨false,?_⟩;conv=>whnf);refine ⟨_,by first|exact al|exact g1|exact cg|exact cs|exact cc|exact cz|exact cb|exact c0,?_⟩)|fail)<;>conv=>whnf))
      all_goals rfl
    ·obtain ⟨e1,e2⟩:=W8 he
     rw [e1,e2] at cs
     rw [e2] at cc
     clear e1 e2 gu
     generalize K0 w o=e at *
     have ws:IntKind.i64.wrap ((w.n6.length:Int) + (([]:List V5).length:Nat))=w.n6.length:=by
      show IntKind.i64.wrap ((w.n6.length:Int) + 0)=_
      rw [C7 _ (by omega) (by omega)];omega
     refine pF Tryz.func13 ?_
     conv=>whnf
     (repeat' ((first|refine aU fun hh=>?_|refine aV fun hh=>?_|refine aS (fun hh=>?_) fun hh=>?_|refine kR ?_|((try refine Or.inl ?_;conv=>whnf);(try refine ⟨false,?_⟩;conv=>whnf);refine ⟨_,by first|exact al|exact g1|exact cg|exact cs|exact cc|exact cz|exact cb|exact c0,?_⟩)|fail)<;>conv=>whnf))
     all_goals (first|rfl|exact congrArg AV.bool (decide_eq_true ws))
   ·have cs:=eY w g o ho (by omega) (by omega) f1.2.2
    refine pF Tryz.func13 ?_
    conv=>whnf
    (repeat' ((first|refine aU fun hh=>?_|refine aV fun hh=>?_|refine aS (fun hh=>?_) fun hh=>?_|refine kR ?_|((try refine Or.inl ?_;conv=>whnf);(try refine ⟨false,?_⟩;conv=>whnf);refine ⟨_,by first|exact al|exact g1|exact cg|exact cs|exact c0,?_⟩)|fail)<;>conv=>whnf))
    all_goals rfl
  ·have cs:=BF w k hw o
   generalize pO w=e at *
   refine pF Tryz.func13 ?_
   conv=>whnf
   (repeat' ((first|refine aU fun hh=>?_|refine aV fun hh=>?_|refine aS (fun hh=>?_) fun hh=>?_|refine kR ?_|((try refine Or.inl ?_;conv=>whnf);(try refine ⟨false,?_⟩;conv=>whnf);refine ⟨_,by first|exact al|exact g1|exact cg|exact cs|exact c0,?_⟩)|fail)<;>conv=>whnf))
   all_goals rfl
 ·cases s1:vN w with
  | false =>
   rw [s1] at g1
   refine pF Tryz.func13 ?_
   conv=>whnf
   (repeat' ((first|refine aU fun hh=>?_|refine aV fun hh=>?_|refine aS (fun hh=>?_) fun hh=>?_|refine kR ?_|((try refine Or.inl ?_;conv=>whnf);(try refine ⟨false,?_⟩;conv=>whnf);refine ⟨_,by first|exact al|exact g1|exact cg,?_⟩)|fail)<;>conv=>whnf))
   all_goals rfl
  | true =>
   have s2:Z6 o=true:=by
    cases e:Z6 o with
    | true=>rfl
    | false=>exact absurd ⟨s1,e⟩ hs
   rw [s1] at g1
   rw [s2] at cg
   refine pF Tryz.func13 ?_
   conv=>whnf
   (repeat' ((first|refine aU fun hh=>?_|refine aV fun hh=>?_|refine aS (fun hh=>?_) fun hh=>?_|refine kR ?_|((try refine Or.inl ?_;conv=>whnf);(try refine ⟨false,?_⟩;conv=>whnf);refine ⟨_,by first|exact al|exact g1|exact cg,?_⟩)|fail)<;>conv=>whnf))
   all_goals rfl
end Go.Proofs.Tryz.My
namespace Go.Proofs.YtdpnpdjnaimgaaaGreat.PlantKeepsDone
open Go Go.Ev Go.Proofs.Tryz.My Go.Proofs.YtdpnpdjnaimgaaaGreat.BooksIn Go.Proofs.YtdpnpdjnaimgaaaGreat.PlantIn
open Go.ChangeShapes Go.WideShapes Go.ChangeAt Go.RowKit
theorem own:ownKnob Tryz.prog.godebug=none:=by kernel_rfl
theorem J7:laidOutB Tryz.prog=true:=by kernel_rfl
theorem kZ (w:World) (x0:n9) (f0:PlantIn.IW x0) (v0:Value) (h0:v7 (fun b=>b < w.heap.size) w (eR x0) v0) (x1:r8) (f1:PlantIn.InOrd x1) (v1:Value) (h1:v7 (fun b=>b < w.heap.size) w (ord x1) v1) :
  Calls Tryz.prog 13 #[v0,v1] w fun e w'=>e = .returned (.bool true)/\Below w.heap.size w w':=by
 refine PC.callsTrue (um x0 x1 f0 f1) Tryz.func13 (by kernel_rfl) rfl rfl fun i hi=>?_
 match i,hi with
 | 0,_=>exact h0
 | 1,_=>exact h1
theorem lifted (os:Os) (started:os.Started) (H:Type) (enc:TypeId×Value->H) :
  ReturnsInHanded {} Tryz.checked os 13 .any (Rows.plantKeepsSpec.pre6 enc Tryz.prog Tryz.f13 Rows.plantKeepsRow.domain false) (Rows.plantKeepsSpec.post enc Tryz.prog Tryz.f13 false true false false):=by
 refine returnsInHanded_of_change (C:=Tryz.checked) own started (by kernel_rfl) Tryz.func13
  (ChangeSpec.witness6 (enc:=enc) (C:=Tryz.checked) false ⟨#[],#[.agg #[.int .i64 0,.int .i64 0,.int .i64 0,.int .i64 0,.int .i64 0,.int .i64 0,.int .i64 0,.int .i64 0,.int .i64 0,.int .i64 0,.int .i64 0,.int .i64 0,.int .i64 0,.int .i64 0,.int .i64 0,.int .i64 0,.slice none 0 0,.int .i64 0,.slice none 0 0,.slice none 0 0,.int .i64 0,.slice none 0 0,.int .i64 0,.int .i64 0,.bool false,.slice none 0 0],.agg #[.int .u8 0,.int .i64 0,.int .i64 0,.int .i64 0,.int .u8 0,.int .i64 0,.int .i64 0,.int .i64 0,.int .i64 0,.int .i64 0,.int .i64 0,.int .i64 0,.int .i64 0,.int .i64 0,.int .i64 0,.slice none 0 0,.slice none 0 0]],[]⟩ 8 (by kernel_rfl) (by kernel_rfl) (by kernel_rfl) (by kernel_rfl)) ?_
 intro W base args ds gs before V7 hW Ea _
 have aq:∀ (j:Nat) t v,Tryz.f13.params[j]? = some t->args[j]? = some v->Value.okWide Tryz.prog W .any base t v:=V7
 have Eb:=hW
 obtain ⟨p,q,tf,hV,rfl,Gw,dc⟩:=hW
 have hA:DataW.TrodAll enc Tryz.prog W 0 (fun _=>true) true Tryz.f13.params.toList args.toList ds p:=tf
 rw [Tryz.params13] at hA aq
 obtain ⟨v0,PE,d0,Tg,p0,q0,R0,rfl,rfl,h0,r0⟩:=trodAll_cons hA
 obtain ⟨v1,Th,d1,Ti,p1,q1,rfl,rfl,rfl,h1,r1⟩:=trodAll_cons r0
 obtain ⟨rfl,rfl,rfl⟩:=trodAll_nil r1
 obtain rfl:args=#[v0,v1]:=by cases args;simp_all
 obtain ⟨rfl,rfl⟩:=trodVars_none hV
 have k0:=h0
 have Io:∀ x ∈ p0,x.block < W.heap.size:=by obtain ⟨m,hm⟩:=k0;exact DataW.trod_lt m _ _ _ hm
 obtain ⟨x0,f0,i0⟩:=M7 Tryz.underlying42 Sz (fun _=>by kernel_rfl) (aq 0 42 v0 rfl rfl) h0
 have k1:=h1
 have Cq:∀ x ∈ p1,x.block < W.heap.size:=by obtain ⟨m,hm⟩:=k1;exact DataW.trod_lt m _ _ _ hm
 obtain ⟨x1,f1,i1⟩:=M7 Tryz.underlying62 DR (fun _=>by kernel_rfl) (aq 1 62 v1 rfl rfl) h1
 clear tf V7
 refine (kZ W x0 f0 v0 i0 x1 f1 v1 i1).mono fun e W' ⟨he,fA⟩=>?_
 subst he
 exact ⟨_,rfl,_,_,_,[],_,[],Eb,trodAll_mk1 (shut_bool Tryz.underlying4 _),(trodAll_cons_mk (Below.trod J7 (by kernel_rfl) (of_decide_eq_true (by kernel_rfl)) k0 fA Io) (trodAll_cons_mk (Below.trod J7 (by kernel_rfl) (of_decide_eq_true (by kernel_rfl)) k1 fA Cq) trodAll_mk0)),rfl,fA.frame _,fun h=>by cases h⟩
theorem closed:joinedFacts Tryz.pinned.checked.prog 13 Tryz.f13 Rows.plantKeepsSpec Rows.plantKeepsRow=true :=
 (iM Tryz.pinned.checked.prog 13 Tryz.f13 Rows.plantKeepsSpec Rows.plantKeepsRow dT R2 N0).2 (by kernel_rfl)
theorem over:Rows.plantKeepsRow.holds Tryz.pinned (OpenSpec.ofChange Rows.plantKeepsSpec) :=
 OpenClaim.holds_of_wide 13 Tryz.f13 rfl rfl rfl rfl rfl rfl rfl ⟨rfl,rfl,rfl,rfl,rfl⟩ rfl rfl rfl rfl rfl (by kernel_rfl) Tryz.func13 closed
  (of_decide_eq_true (by kernel_rfl)) (by unfold Func.isWrapper;first|(rw [if_pos (by decide +kernel)];kernel_rfl)|(rw [if_neg (by decide +kernel)];exact ⟨rfl,rfl⟩))
  (fun os started H enc _=>lifted os started H enc)
theorem proved:Rows.PlantKeepsSaid:=over
#print axioms proved

end Go.Proofs.YtdpnpdjnaimgaaaGreat.PlantKeepsDone
