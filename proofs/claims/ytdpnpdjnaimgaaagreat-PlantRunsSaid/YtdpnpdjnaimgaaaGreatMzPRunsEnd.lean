/- PlantRuns of layer 11: the world after some orders, and the answers, or the error, are as the document says. -/
import Derived.Test.YtdpnpdjnaimgaaaGreatMzWxG
import Derived.Test.YtdpnpdjnaimgaaaGreatMzWxS
import Derived.Test.YtdpnpdjnaimgaaaGreatMzWdB
import Derived.Test.YtdpnpdjnaimgaaaGreatMzEaX
set_option linter.unusedVariables false
set_option linter.unusedSimpArgs false
set_option maxRecDepth 100000
set_option maxHeartbeats 0
namespace Go.Proofs.Tryz.My
open Go Go.Ev
theorem a2A(l:A5):pV (Fp l) (eR (I8 l)):=by
 refine(Y0 (xs:=[i64 l.n8.step,i64 l.n8.A0,i64 l.n8.y9,i64 l.n8.len,i64 l.lag,i64 l.keep,i64 l.p,i64 l.q,i64 l.al.1,i64 l.al.2,i64 l.n8.step,i64 l.n8.A0,i64 l.n8.y9,i64 l.n8.len,i64 0,i64 0,.nils,i64 l.keep,.nils,.nils,i64 0,.nils,i64 0,i64 0,.ff,.nils]) (ys:=eW (I8 l)) rfl fun i hi=>?_).1
 match i with
 | 0|1|2|3|4|5|6|7|8|9|10|11|12|13|14|15=>exact .refl _
 | 16=>exact .nils _ _ _
 | 17=>exact .refl _
 | 18=>exact .nils _ _ _
 | 19=>exact .nils _ _ _
 | 20=>exact .refl _
 | 21=>exact .nils _ _ _
 | 22|23=>exact .refl _
 | 24=>exact Dp
 | 25=>exact .nils _ _ _
 | (n+26)=>exact .refl _
theorem a1Z(l:A5):px (I8 l):=by
 have z:0<2^20:=by decide
 exact⟨⟨z,z,z,fun i=>z,fun i=>z⟩,z,z⟩
theorem a0w(l:A5):va6 20 [Fp l,Fp l] (.bool true):=by
 have c:=a1U (I8 l) (I8 l) (a1Z l) (a1Z l);rw[gN]at c;refine c.sub rfl (fun i hi=>?_) (.refl _)
 match i with
 | 0=>exact a2A l
 | 1=>exact a2A l
 | (n+2)=>exact .refl _
theorem a05(l:List bX):a0f l l=true:=by
 unfold a0f;rw[zA4 rfl,Bool.true_and,List.all_eq_true];intro i _;unfold eX;rw[zA2,zA3,List.all_eq_true];exact⟨⟨rfl,rfl,rfl⟩,fun i _=>zA4 ⟨rfl,rfl,rfl,rfl,rfl⟩⟩
theorem a2g:va6 45 [.nils,.nils] (.bool true):=by
 have c:=a0k [] [] va8 va8 (fun i=>by show 0<_;decide) (fun i=>by show 0<_;decide);rw[a05]at c;refine c.sub rfl (fun i hi=>?_) (.refl _)
 match i with
 | 0=>exact .nils _ _ _
 | 1=>exact .nils _ _ _
 | (n+2)=>exact .refl _
theorem a39(w:n9)(o:r8):(G9 w o).n7.length<=1:=by
 unfold G9;split
 ·show(mO w o).length<=1
  unfold mO;split
  ·unfold aH;split
   ·exact Nat.le_refl _
   ·exact zB4 _
  ·exact zB4 _
 ·exact zB4 _
theorem a10(os:List r8):∀ (w:n9) (i:Nat),((bY w os).getD i Y1).n7.length<2^20:=by
 induction os with
 | nil=>intro w i;show 0<_;decide
 | cons o os ih =>
  intro w i;cases i with
  | zero=>have:=a39 w o;show(G9 w o).n7.length<_;omega
  | succ i=>exact ih (Q6 w o) i
def a4D(os:List r8):Prop:=(∀ o,o ∈ os->IG o.gauge/\0<=o.kind/\(0<=o.j9/\o.j9<=255))/\os.length<=maxLen
theorem a3y{os:List r8}(hI:a4D os)(hL:O3 os=false)(i:Nat):OkayO (os.getD i B7)/\IG (os.getD i B7).gauge:=by
 unfold O3 at hL;rw[Bool.or_eq_false_iff]at hL;have hl:=zA0 hL.2;by_cases hi:i<os.length
 ·have hg:Z6 (os.getD i B7)=false:=by
   have:=List.any_eq_false.1 hL.1 (os.getD i B7) (by rw[List.take_of_length_le va5,x9 hi];exact List.getElem_mem hi);simpa using this
  have hr:=hI.1 (os.getD i B7) (by rw[x9 hi];exact List.getElem_mem hi);unfold Z6 at hg;have hg:=zA0 hg;exact⟨⟨va5,va5,hr.2.2⟩,hr.1⟩
 ·have e:os.getD i B7=B7:=by simp[List.getD,zA7 (Nat.le_of_not_lt hi)]
  rw[e];refine⟨⟨va8,va8,va8⟩,?_⟩;show IG ao
  have z:G7 0:=⟨va8,va8⟩
  exact⟨z,z,⟨z,z,z,z⟩,⟨z,z,z,z⟩⟩
theorem a2h(l:A5)(os:List r8)(f0:BY l)(f1:a4D os):va6 6 [jP l,cG os] (.bool true):=by
 have cl:=jE os;cases hL:O3 os with
 | true =>
  rw[hL]at cl;refine pF Tryz.func6 ?_;conv=>whnf
  try exact va1
  all_goals rfl
 | false =>
  rw[hL]at cl;have hk:=a3y f1 hL;have hlen:os.length<=200∨(500<os.length/\os.length<=600):=by
   unfold O3 at hL;rw[Bool.or_eq_false_iff]at hL;have:=zA0 hL.2;omega
  have ca:=a2g;by_cases hl:J3 l=0
  ·rcases hlen with h2|h2
   ·by_cases hv:os.all B2=true
    ·have c1:=DW l os hl va5 (fun i=>(hk i).1) hv;have c2:=a38 l os f0 hl va5 (fun i=>(hk i).1) (fun i=>(hk i).2) hv;have gw:=mU os (vM hl);have c3:=a1U (N3 (I8 l) os) (N3 (I8 l) os) (yh gw) (yh gw);rw[gN]at c3;have la:=jh os (I8 l);have c4:=a0k (bY (I8 l) os) (bY (I8 l) os) va5 va5 (a10 os _) (a10 os _);rw[a05]at c4;generalize bY (I8 l) os=A at *
     generalize N3 (I8 l) os=W at *
     refine pF Tryz.func6 ?_;conv=>whnf
     try exact va1
    ·have c1:=DV l os hl va5 (fun i=>(hk i).1) hv;have c2:=a2f l os f0 hl va5 (fun i=>(hk i).1) hv;have c3:=a0w sT;refine pF Tryz.func6 ?_;conv=>whnf
     try exact va1
   ·have c1:=a2v l os va5 hl h2.1;have c2:=a1J l os f0 hl h2.1;have c3:=a0w sT;refine pF Tryz.func6 ?_;conv=>whnf
    try exact va1
  ·have c1:=BH l os va5 hl;have c2:=a1I l os f0 hl;have c3:=a0w sT;generalize J3 l=e at *
   refine pF Tryz.func6 ?_;conv=>whnf
   refine vb7 ?_;(repeat intro hh);all_goals (first|rfl|exact congrArg AV.bool (zA4 rfl))
end Go.Proofs.Tryz.My
namespace Go.Proofs.YtdpnpdjnaimgaaaGreat.PlantRunsDone
open Go Go.Ev Go.Proofs.Tryz.My Go.Proofs.YtdpnpdjnaimgaaaGreat.BooksIn Go.Proofs.YtdpnpdjnaimgaaaGreat.PlantIn
open Go.ChangeShapes Go.WideShapes Go.ChangeAt Go.RowKit
theorem own:ownKnob Tryz.prog.godebug=none:=by kernel_rfl
theorem J7:laidOutB Tryz.prog=true:=by kernel_rfl
theorem kZ(w:World)(x0:A5)(f0:BY x0)(v0:Value)(h0:v7 (fun b=>b<w.heap.size) w (jP x0) v0)(x1:List r8)(f1:(fun l:List r8=>PlantIn.InOrds l/\l.length<=maxLen) x1)(v1:Value)(h1:v7 (fun b=>b<w.heap.size) w (cG x1) v1) :
  Calls Tryz.prog 6 #[v0,v1] w fun e w'=>e = .returned (.bool true)/\Below w.heap.size w w':=by
 refine PC.callsTrue (a2h x0 x1 f0 f1) Tryz.func6 va4 rfl rfl fun i hi=>?_
 match i,hi with
 | 0,_=>exact h0
 | 1,_=>exact h1
theorem lifted(os:Os)(started:os.Started)(H:Type)(enc:TypeId×Value->H) :
  ReturnsInHanded {} Tryz.checked os 6 .any (Rows.plantRunsSpec.pre6 enc Tryz.prog Tryz.f6 Rows.plantRunsRow.domain false) (Rows.plantRunsSpec.post enc Tryz.prog Tryz.f6 false true false false):=by
 refine returnsInHanded_of_change (C:=Tryz.checked) own started va4 Tryz.func6
  (ChangeSpec.witness6 (enc:=enc) (C:=Tryz.checked) false ⟨#[],#[.agg #[.int .i64 0,.int .i64 0,.int .i64 0,.int .i64 0,.int .i64 0,.int .i64 0,.int .i64 0,.int .i64 0,.int .i64 0,.int .i64 0],.slice none 0 0],[]⟩ 8 va4 va4 va4 va4) ?_
 intro W base args ds gs before V7 hW Ea _;have aq:∀ (j:Nat) t v,Tryz.f6.params[j]? = some t->args[j]? = some v->Value.okWide Tryz.prog W .any base t v:=V7;have Eb:=hW;obtain⟨p,q,tf,hV,rfl,Gw,dc⟩:=hW;have hA:DataW.TrodAll enc Tryz.prog W 0 (fun _=>true) true Tryz.f6.params.toList args.toList ds p:=tf;rw[Tryz.params6]at hA aq;obtain⟨v0,PE,d0,Tg,p0,q0,R0,rfl,rfl,h0,r0⟩:=trodAll_cons hA;obtain⟨v1,Th,d1,Ti,p1,q1,rfl,rfl,rfl,h1,r1⟩:=trodAll_cons r0;obtain⟨rfl,rfl,rfl⟩:=trodAll_nil r1;obtain rfl:args=#[v0,v1]:=by cases args;simp_all
 obtain⟨rfl,rfl⟩:=trodVars_none hV;have k0:=h0;have Io:∀ x ∈ p0,x.block<W.heap.size:=by obtain⟨m,hm⟩:=k0;exact DataW.trod_lt m _ _ _ hm
 obtain⟨x0,f0,i0⟩:=M7 Tryz.underlying29 sZ (fun _=>by kernel_rfl) (aq 0 29 v0 rfl rfl) h0;have k1:=h1;have Cq:∀ x ∈ p1,x.block<W.heap.size:=by obtain⟨m,hm⟩:=k1;exact DataW.trod_lt m _ _ _ hm
 obtain⟨a1,Mn,Mo,rfl⟩:=okWide_slice Tryz.underlying87 (aq 1 87 v1 rfl rfl);obtain⟨x1,f1,i1⟩:=ad (base:=base) jF h1;clear tf V7;refine(kZ W x0 f0 v0 i0 x1 f1 _ i1).mono fun e W' ⟨he,fA⟩=>?_
 subst he;exact⟨_,rfl,_,_,_,[],_,[],Eb,trodAll_mk1 (shut_bool Tryz.underlying4 _),(trodAll_cons_mk (Below.trod J7 va4 (zA1 va4) k0 fA Io) (trodAll_cons_mk (Below.trod J7 va4 (zA1 va4) k1 fA Cq) trodAll_mk0)),rfl,fA.frame _,fun h=>by cases h⟩
theorem closed:joinedFacts Tryz.pinned.checked.prog 6 Tryz.f6 Rows.plantRunsSpec Rows.plantRunsRow=true :=
 (iM Tryz.pinned.checked.prog 6 Tryz.f6 Rows.plantRunsSpec Rows.plantRunsRow dT R2 N0).2 va4
theorem over:Rows.plantRunsRow.holds Tryz.pinned (OpenSpec.ofChange Rows.plantRunsSpec) :=
 OpenClaim.holds_of_wide 6 Tryz.f6 rfl rfl rfl rfl rfl rfl rfl ⟨rfl,rfl,rfl,rfl,rfl⟩ rfl rfl rfl rfl rfl va4 Tryz.func6 closed
  (zA1 va4) (by unfold Func.isWrapper;first|(rw[if_pos (by decide +kernel)];kernel_rfl)|(rw[if_neg (by decide +kernel)];exact⟨rfl,rfl⟩))
  (fun os started H enc _=>lifted os started H enc)
theorem proved:Rows.PlantRunsSaid:=over
#print axioms proved

end Go.Proofs.YtdpnpdjnaimgaaaGreat.PlantRunsDone
