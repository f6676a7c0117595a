/- PlantStops of layer 11: the drift test's state is that of the verdicts, and with its alarm no part passes. -/
import Derived.Test.YtdpnpdjnaimgaaaGreatMzWuB
import Derived.Test.YtdpnpdjnaimgaaaGreatMzWdB
import Derived.Test.YtdpnpdjnaimgaaaGreatMzIniA
set_option linter.unusedVariables false
set_option linter.unusedSimpArgs false
set_option maxRecDepth 100000
set_option maxHeartbeats 0
namespace Go.Proofs.Tryz.My
open Go Go.Ev
theorem uo (l:A5) (os:List r8) (nx:r8) (f0:BY l) (f1:SD os) (f2:IG nx.b9/\0<=nx.kind/\(0<=nx.j9/\nx.j9<=255)):PC Tryz.prog 12 [jP l,cG os,ord nx] (.bool true):=by
 have al:=V6
 have cl:=jE os
 have cg:=oB nx
 by_cases hg:O3 os=false/\os.length<=200
 ·obtain ⟨hL,h2⟩:=hg
  rw [hL] at cl
  have hk:=fU f1 hL h2
  cases hG:Z6 nx with
  | true =>
   rw [hG] at cg
   refine pF Tryz.func12 ?_
   conv=>whnf
   (repeat' ((first|refine aU fun hh=>?_|refine aV fun hh=>?_|refine aS (fun hh=>?_) fun hh=>?_|refine kR ?_|((try refine Or.inl ?_;conv=>whnf);(try refine ⟨false,?_⟩;conv=>whnf);refine ⟨_,by first|exact al|exact cl|exact cg,?_⟩)|fail)<;>conv=>whnf))
   all_goals rfl
  | false =>
   rw [hG] at cg
   have YH:nx.tru.length<=100/\nx.a8.length<=100:=by
    unfold Z6 at hG
    have:=of_decide_eq_false hG
    omega
   by_cases hl:J3 l=0
   ·by_cases hv:os.all B2=true
    ·have ct:=mX l os hl (by omega) hk hv
     have t:=aK (os:=os) (dx hl) fun o ho=>List.all_eq_true.1 hv _ ho
     have df:=t.df
     have gw:=t.gw
     clear t
     generalize N3 (I8 l) os=w at ct df gw
     generalize E3 (H9 l) (I8 l) os=b at ct df
     obtain ⟨bl,bg,ba,bp,bd,bo,bw⟩:=b
     have df:bd=w.drift:=df
     subst df
     by_cases hn:B2 nx=true
     ·have cs:=mT w gw nx hn (by omega) (by omega) f2.2.2
      by_cases hp:w.drift.alarm=true/\nx.kind=2
      ·obtain ⟨ha,FV⟩:=hp
       have he:K0 w nx=2∨K0 w nx=101:=by
        unfold K0
        rw [if_neg (by omega),if_pos FV]
        unfold jR
        split
        ·exact .inl rfl
        ·first|exact .inr rfl|(rw [if_pos ha];exact .inr rfl)
       obtain ⟨e1,e2⟩:=W8 (w:=w) (o:=nx) (by omega)
       rw [e1,e2] at cs
       have cz:=mR w w (yh gw) (yh gw)
       rw [gN] at cz
       generalize K0 w nx=e at cs he
       rcases he with rfl|rfl
       ·refine pF Tryz.func12 ?_
        conv=>whnf
        (repeat' ((first|refine aU fun hh=>?_|refine aV fun hh=>?_|refine aS (fun hh=>?_) fun hh=>?_|refine kR ?_|((try refine Or.inl ?_;conv=>whnf);(try refine ⟨false,?_⟩;conv=>whnf);refine ⟨_,by first|exact al|exact cl|exact cg,?_⟩)|fail)<;>conv=>whnf))
        (refine Or.inr ⟨[],[31,34,35,36],by kernel_rfl,?_⟩;(conv=>whnf);refine ⟨[],_,_,_,_,⟨ct,rfl,rfl,by kernel_rfl⟩,?_⟩)
        conv=>whnf
        (repeat' ((first|refine aU fun hh=>?_|refine aV fun hh=>?_|refine aS (fun hh=>?_) fun hh=>?_|refine kR ?_|((try refine Or.inl ?_;conv=>whnf);(try refine ⟨false,?_⟩;conv=>whnf);refine ⟨_,by first|exact cs|exact cz,?_⟩)|fail)<;>conv=>whnf))
        all_goals rfl
       ·refine pF Tryz.func12 ?_
        conv=>whnf
        (repeat' ((first|refine aU fun hh=>?_|refine aV fun hh=>?_|refine aS (fun hh=>?_) fun hh=>?_|refine kR ?_|((try refine Or.inl ?_;conv=>whnf);(try refine ⟨false,?_⟩;conv=>whnf);refine ⟨_,by first|exact al|exact cl|exact cg,?_⟩)|fail)<;>conv=>whnf))
        (refine Or.inr ⟨[],[31,34,35,36],by kernel_rfl,?_⟩;(conv=>whnf);refine ⟨[],_,_,_,_,⟨ct,rfl,rfl,by kernel_rfl⟩,?_⟩)
        conv=>whnf
        (repeat' ((first|refine aU fun hh=>?_|refine aV fun hh=>?_|refine aS (fun hh=>?_) fun hh=>?_|refine kR ?_|((try refine Or.inl ?_;conv=>whnf);(try refine ⟨false,?_⟩;conv=>whnf);refine ⟨_,by first|exact cs|exact cz,?_⟩)|fail)<;>conv=>whnf))
        all_goals rfl
      ·generalize Q6 w nx=u at cs
       generalize G9 w nx=a at cs
       refine pF Tryz.func12 ?_
       conv=>whnf
       (repeat' ((first|refine aU fun hh=>?_|refine aV fun hh=>?_|refine aS (fun hh=>?_) fun hh=>?_|refine kR ?_|((try refine Or.inl ?_;conv=>whnf);(try refine ⟨false,?_⟩;conv=>whnf);refine ⟨_,by first|exact al|exact cl|exact cg,?_⟩)|fail)<;>conv=>whnf))
       (refine Or.inr ⟨[],[31,34,35,36],by kernel_rfl,?_⟩;(conv=>whnf);refine ⟨[],_,_,_,_,⟨ct,rfl,rfl,by kernel_rfl⟩,?_⟩)
       conv=>whnf
       (repeat' ((first|refine aU fun hh=>?_|refine aV fun hh=>?_|refine aS (fun hh=>?_) fun hh=>?_|refine kR ?_|((try refine Or.inl ?_;conv=>whnf);(try refine ⟨false,?_⟩;conv=>whnf);refine ⟨_,by exact cs,?_⟩)|fail)<;>conv=>whnf))
       all_goals (first|rfl|(exfalso;exact hp ⟨by assumption,by omega⟩))
     ·have cs:=eY w gw nx hn (by omega) (by omega) f2.2.2
      refine pF Tryz.func12 ?_
      conv=>whnf
      (repeat' ((first|refine aU fun hh=>?_|refine aV fun hh=>?_|refine aS (fun hh=>?_) fun hh=>?_|refine kR ?_|((try refine Or.inl ?_;conv=>whnf);(try refine ⟨false,?_⟩;conv=>whnf);refine ⟨_,by first|exact al|exact cl|exact cg,?_⟩)|fail)<;>conv=>whnf))
      (refine Or.inr ⟨[],[31,34,35,36],by kernel_rfl,?_⟩;(conv=>whnf);refine ⟨[],_,_,_,_,⟨ct,rfl,rfl,by kernel_rfl⟩,?_⟩)
      conv=>whnf
      (repeat' ((first|refine aU fun hh=>?_|refine aV fun hh=>?_|refine aS (fun hh=>?_) fun hh=>?_|refine kR ?_|((try refine Or.inl ?_;conv=>whnf);(try refine ⟨false,?_⟩;conv=>whnf);refine ⟨_,by exact cs,?_⟩)|fail)<;>conv=>whnf))
      all_goals (first|rfl|(refine congrArg AV.bool ?_;simp;done))
    ·have ct:=Y4 l os hl (by omega) hk hv
     refine pF Tryz.func12 ?_
     conv=>whnf
     (repeat' ((first|refine aU fun hh=>?_|refine aV fun hh=>?_|refine aS (fun hh=>?_) fun hh=>?_|refine kR ?_|((try refine Or.inl ?_;conv=>whnf);(try refine ⟨false,?_⟩;conv=>whnf);refine ⟨_,by first|exact al|exact cl|exact cg|exact ct,?_⟩)|fail)<;>conv=>whnf))
     all_goals rfl
   ·have ct:=aQ l os hl
    refine pF Tryz.func12 ?_
    conv=>whnf
    (repeat' ((first|refine aU fun hh=>?_|refine aV fun hh=>?_|refine aS (fun hh=>?_) fun hh=>?_|refine kR ?_|((try refine Or.inl ?_;conv=>whnf);(try refine ⟨false,?_⟩;conv=>whnf);refine ⟨_,by first|exact al|exact cl|exact cg|exact ct,?_⟩)|fail)<;>conv=>whnf))
    all_goals rfl
 ·have wK:O3 os=true∨(O3 os=false/\¬os.length<=200):=by
   cases e:O3 os with
   | true=>exact .inl rfl
   | false=>exact .inr ⟨rfl,fun q=>hg ⟨e,q⟩⟩
  rcases wK with e|⟨e,e2⟩
  ·rw [e] at cl
   refine pF Tryz.func12 ?_
   conv=>whnf
   (repeat' ((first|refine aU fun hh=>?_|refine aV fun hh=>?_|refine aS (fun hh=>?_) fun hh=>?_|refine kR ?_|((try refine Or.inl ?_;conv=>whnf);(try refine ⟨false,?_⟩;conv=>whnf);refine ⟨_,by first|exact al|exact cl|exact cg,?_⟩)|fail)<;>conv=>whnf))
   all_goals rfl
  ·rw [e] at cl
   refine pF Tryz.func12 ?_
   conv=>whnf
   (repeat' ((first|refine aU fun hh=>?_|refine aV fun hh=>?_|refine aS (fun hh=>?_) fun hh=>?_|refine kR ?_|((try refine Or.inl ?_;conv=>whnf);(try refine ⟨false,?_⟩;conv=>whnf);refine ⟨_,by first|exact al|exact cl|exact cg,?_⟩)|fail)<;>conv=>whnf))
   all_goals rfl
end Go.Proofs.Tryz.My
namespace Go.Proofs.YtdpnpdjnaimgaaaGreat.PlantStopsDone
open Go Go.Ev Go.Proofs.Tryz.My Go.Proofs.YtdpnpdjnaimgaaaGreat.BooksIn Go.Proofs.YtdpnpdjnaimgaaaGreat.PlantIn
open Go.ChangeShapes Go.WideShapes Go.ChangeAt Go.RowKit
theorem own:ownKnob Tryz.prog.godebug=none:=by kernel_rfl
theorem J7:laidOutB Tryz.prog=true:=by kernel_rfl
theorem kZ (w:World) (x0:A5) (f0:BY x0) (v0:Value) (h0:v7 (fun b=>b < w.heap.size) w (jP x0) v0) (x1:List r8) (f1:(fun l:List r8=>PlantIn.InOrds l/\l.length<=maxLen) x1) (v1:Value) (h1:v7 (fun b=>b < w.heap.size) w (cG x1) v1) (x2:r8) (f2:PlantIn.InOrd x2) (v2:Value) (h2:v7 (fun b=>b < w.heap.size) w (ord x2) v2) :
  Calls Tryz.prog 12 #[v0,v1,v2] w fun e w'=>e = .returned (.bool true)/\Below w.heap.size w w':=by
 refine PC.callsTrue (uo x0 x1 x2 f0 f1 f2) Tryz.func12 (by kernel_rfl) rfl rfl fun i hi=>?_
 match i,hi with
 | 0,_=>exact h0
 | 1,_=>exact h1
 | 2,_=>exact h2
theorem lifted (os:Os) (started:os.Started) (H:Type) (enc:TypeId×Value->H) :
  ReturnsInHanded {} Tryz.checked os 12 .any (Rows.plantStopsSpec.pre6 enc Tryz.prog Tryz.f12 Rows.plantStopsRow.domain false) (Rows.plantStopsSpec.post enc Tryz.prog Tryz.f12 false true false false):=by
 refine returnsInHanded_of_change (C:=Tryz.checked) own started (by kernel_rfl) Tryz.func12
  (ChangeSpec.witness6 (enc:=enc) (C:=Tryz.checked) false ⟨#[],#[.agg #[.int .i64 0,.int .i64 0,.int .i64 0,.int .i64 0,.int .i64 0,.int .i64 0,.int .i64 0,.int .i64 0,.int .i64 0,.int .i64 0],.slice none 0 0,.agg #[.int .u8 0,.int .i64 0,.int .i64 0,.int .i64 0,.int .u8 0,.int .i64 0,.int .i64 0,.int .i64 0,.int .i64 0,.int .i64 0,.int .i64 0,.int .i64 0,.int .i64 0,.int .i64 0,.int .i64 0,.slice none 0 0,.slice none 0 0]],[]⟩ 8 (by kernel_rfl) (by kernel_rfl) (by kernel_rfl) (by kernel_rfl)) ?_
 intro W base args ds gs before V7 hW Ea _
 have aq:∀ (j:Nat) t v,Tryz.f12.params[j]? = some t->args[j]? = some v->Value.okWide Tryz.prog W .any base t v:=V7
 have Eb:=hW
 obtain ⟨p,q,tf,hV,rfl,Gw,dc⟩:=hW
 have hA:DataW.TrodAll enc Tryz.prog W 0 (fun _=>true) true Tryz.f12.params.toList args.toList ds p:=tf
 rw [Tryz.params12] at hA aq
 obtain ⟨v0,PE,d0,Tg,p0,q0,R0,rfl,rfl,h0,r0⟩:=trodAll_cons hA
 obtain ⟨v1,Th,d1,Ti,p1,q1,rfl,rfl,rfl,h1,r1⟩:=trodAll_cons r0
 obtain ⟨v2,vs2,d2,ds2,p2,q2,rfl,rfl,rfl,h2,r2⟩:=trodAll_cons r1
 obtain ⟨rfl,rfl,rfl⟩:=trodAll_nil r2
 obtain rfl:args=#[v0,v1,v2]:=by cases args;simp_all
 obtain ⟨rfl,rfl⟩:=trodVars_none hV
 have k0:=h0
 have Io:∀ x ∈ p0,x.block < W.heap.size:=by obtain ⟨m,hm⟩:=k0;exact DataW.trod_lt m _ _ _ hm
 obtain ⟨x0,f0,i0⟩:=M7 Tryz.underlying29 sZ (fun _=>by kernel_rfl) (aq 0 29 v0 rfl rfl) h0
 have k1:=h1
 have Cq:∀ x ∈ p1,x.block < W.heap.size:=by obtain ⟨m,hm⟩:=k1;exact DataW.trod_lt m _ _ _ hm
 obtain ⟨a1,Mn,Mo,rfl⟩:=okWide_slice Tryz.underlying87 (aq 1 87 v1 rfl rfl)
 obtain ⟨x1,f1,i1⟩:=ad (base:=base) jF h1
 have k2:=h2
 have lt2:∀ x ∈ p2,x.block < W.heap.size:=by obtain ⟨m,hm⟩:=k2;exact DataW.trod_lt m _ _ _ hm
 obtain ⟨x2,f2,i2⟩:=M7 Tryz.underlying62 DR (fun _=>by kernel_rfl) (aq 2 62 v2 rfl rfl) h2
 clear tf V7
 refine (kZ W x0 f0 v0 i0 x1 f1 _ i1 x2 f2 v2 i2).mono fun e W' ⟨he,fA⟩=>?_
 subst he
 exact ⟨_,rfl,_,_,_,[],_,[],Eb,trodAll_mk1 (shut_bool Tryz.underlying4 _),(trodAll_cons_mk (Below.trod J7 (by kernel_rfl) (of_decide_eq_true (by kernel_rfl)) k0 fA Io) (trodAll_cons_mk (Below.trod J7 (by kernel_rfl) (of_decide_eq_true (by kernel_rfl)) k1 fA Cq) (trodAll_cons_mk (Below.trod J7 (by kernel_rfl) (of_decide_eq_true (by kernel_rfl)) k2 fA lt2) trodAll_mk0))),rfl,fA.frame _,fun h=>by cases h⟩
theorem closed:joinedFacts Tryz.pinned.checked.prog 12 Tryz.f12 Rows.plantStopsSpec Rows.plantStopsRow=true :=
 (iM Tryz.pinned.checked.prog 12 Tryz.f12 Rows.plantStopsSpec Rows.plantStopsRow dT R2 N0).2 (by kernel_rfl)
theorem over:Rows.plantStopsRow.holds Tryz.pinned (OpenSpec.ofChange Rows.plantStopsSpec) :=
 OpenClaim.holds_of_wide 12 Tryz.f12 rfl rfl rfl rfl rfl rfl rfl ⟨rfl,rfl,rfl,rfl,rfl⟩ rfl rfl rfl rfl rfl (by kernel_rfl) Tryz.func12 closed
  (of_decide_eq_true (by kernel_rfl)) (by unfold Func.isWrapper;first|(rw [if_pos (by decide +kernel)];kernel_rfl)|(rw [if_neg (by decide +kernel)];exact ⟨rfl,rfl⟩))
  (fun os started H enc _=>lifted os started H enc)
theorem proved:Rows.PlantStopsSaid:=over
#print axioms proved

end Go.Proofs.YtdpnpdjnaimgaaaGreat.PlantStopsDone
