/- PlantNear of layer 11: what is seen differs from the true profile by at most the noises, and is a profile. -/
import Derived.Test.YtdpnpdjnaimgaaaGreatEvSix
import Derived.Test.YtdpnpdjnaimgaaaGreatMzWzA
import Derived.Test.YtdpnpdjnaimgaaaGreatMzBkA
import Derived.Test.YtdpnpdjnaimgaaaGreatMzGdD
import Derived.Test.YtdpnpdjnaimgaaaGreatEvTen
import Derived.Test.YtdpnpdjnaimgaaaGreatRows
import Derived.WalkKit
import Derived.ProofKit
import Derived.OpenShut
import Derived.ChangeOld
import Derived.Below
import Derived.Test.YtdpnpdjnaimgaaaGreatMzWbX
import Derived.Test.YtdpnpdjnaimgaaaGreatMzWaA
import Derived.Test.YtdpnpdjnaimgaaaGreatMzIniA
set_option maxRecDepth 100000
set_option maxHeartbeats 0
set_option linter.unusedVariables false
set_option linter.unusedSimpArgs false
namespace Go.Proofs.Tryz.My
open Go Go.Ev
theorem a16 (x:Int):0<=clip x/\clip x<=255:=by unfold clip; split<;>split at * <;> omega
theorem a3A {p n:List Int} {i:Nat} (hi:i < p.length):(A0 p n).getD i 0=clip (p.getD i 0 + n.getD i 0):=by
 simp only [A0,List.getD,List.getElem?_map]
 rw [List.getElem?_range hi]; rfl
theorem b1e {p n:List Int} (h:y8 p=true):y8 (A0 p n)=true:=by
 have hl:=E6 h
 unfold y8 n8
 rw [H7]
 have e:(A0 p n).any badV=false:=List.any_eq_false.2 fun x hx=>by
  obtain ⟨i,hi,e⟩:=List.getElem_of_mem hx
  rw [H7] at hi
  have:=a3A (n:=n) hi
  rw [l0 (by rw [H7]; exact hi),e] at this
  have b:=a16 (p.getD i 0 + n.getD i 0)
  unfold badV n8
  rw [this,decide_eq_true b.1,decide_eq_true b.2]
  decide
 rw [e,decide_eq_true (by omega),decide_eq_true (by omega)]
 rfl
theorem a6f (p n:List Int):PC Tryz.prog 7 [ints p,ints n] (.bool true):=by
 have al:=a9e
 by_cases hl:(p.length:Int)<=100/\(n.length:Int)<=100
 ·by_cases ho:V9 p n
  ·have c1:=Y7 p n ho
   have hv:=a26 ho.1
   have hpl:=E6 ho.1
   have hpn:=ho.2.1
   have sl:=H7 p n
   have c2:PC Tryz.prog 46 [ints (A0 p n)] (i64 0):=by have c:=F2 (A0 p n) (by omega); rwa [if_pos (b1e ho.1)] at c
   have fact:∀ k,k < p.length->∃ x,(A0 p n).getD k 0=x/\(0<=p.getD k 0/\p.getD k 0<=255)/\(-64<=n.getD k 0/\n.getD k 0<=64)/\(0<=x/\x<=255)/\(x - p.getD k 0<=n.getD k 0∨x - p.getD k 0 <= -n.getD k 0)/\(-n.getD k 0<=x - p.getD k 0∨n.getD k 0<=x - p.getD k 0):=fun k hk=>by
    have a1:=a0E hv k hk
    have a2:=a13 ho.2.2 k (by omega)
    have b:=a16 (p.getD k 0 + n.getD k 0)
    refine ⟨_,a3A hk,a1,a2,b,?_⟩
    generalize p.getD k 0=x at *
    generalize n.getD k 0=y at *
    unfold clip
    repeat' split
    all_goals omega
   generalize A0 p n=s at *
   refine a7 hm Tryz.func7 (by kernel_rfl) ?_
   conv=>whnf
   (repeat' first|(refine ansS (fun hh=>?_) (fun hh=>?_)<;>(try simp only [ansX] at hh)<;>first|(exfalso;first|omega|(simp [*] at hh;done)|(revert hh;decide))|exact absurd (by assumption) hh|conv=>whnf)|((first|refine kR ?_|refine aM ?_|refine aL ?_|refine aN ?_|((try (refine Or.inl ?_;conv=>whnf));(try (refine ⟨false,?_⟩;conv=>whnf));refine ⟨_,by first | exact al | exact c1 | exact c2,?_⟩)|fail);conv=>whnf))
   refine Or.inr ⟨Nat,[58],[],[],fun k=>[i64 k],fun _=>[],fun _=>[],fun k=>s.length - k,fun k=>k<=s.length,?_⟩
   conv=>whnf
   refine ⟨⟨0,?_⟩,?_⟩
   ·(conv=>whnf)
    exact ⟨⟨Nat.zero_le _,rfl,rfl,rfl⟩,by kernel_rfl,by kernel_rfl⟩
   intro k hk
   conv=>whnf
   refine ⟨fun q => ?_,fun q => ?_⟩
   ·have q:=of_decide_eq_true q
    have hkk:k < p.length:=by omega
    obtain ⟨x,f1,f2,f3,f4,f5,f6⟩:=fact k hkk
    have w1:IntKind.i64.wrap (s.getD k 0 - p.getD k 0)=s.getD k 0 - p.getD k 0:=w64 _ (by omega) (by omega)
    have w2:IntKind.i64.wrap (0 - n.getD k 0) = -n.getD k 0:=(w64 _ (by omega) (by omega)).trans (by omega)
    have fA:¬(if n.getD k 0 < IntKind.i64.wrap (0 - n.getD k 0) then IntKind.i64.wrap (0 - n.getD k 0) else n.getD k 0) < IntKind.i64.wrap (s.getD k 0 - p.getD k 0):=by
     rw [w1,w2]
     split<;>omega
    have fB:¬IntKind.i64.wrap (s.getD k 0 - p.getD k 0) < IntKind.i64.wrap (0 - (if n.getD k 0 < IntKind.i64.wrap (0 - n.getD k 0) then IntKind.i64.wrap (0 - n.getD k 0) else n.getD k 0)):=by
     rw [w1,w2]
     split
     ·rw [w64 _ (by omega) (by omega)]; omega
     ·rw [w64 _ (by omega) (by omega)]; omega
    conv=>whnf
    (repeat' first|(refine ansS (fun hh=>?_) (fun hh=>?_)<;>(try simp only [ansX] at hh)<;>first|(exfalso;first|omega|(simp [*] at hh;done)|(revert hh;decide))|exact absurd (by assumption) hh|conv=>whnf)|((first|refine kR ?_|refine aM ?_|refine aL ?_|refine aN ?_|refine aT ?_|fail);conv=>whnf))
    ·exact absurd (by assumption) fA
    ·exact absurd (by assumption) fB
    ·refine ⟨k + 1,?_⟩
     conv=>whnf
     refine ⟨⟨⟨?_,?_⟩,?_,rfl,rfl⟩,by kernel_rfl,by kernel_rfl⟩
     ·show s.length - (k + 1) < s.length - k; omega
     ·show k + 1<=s.length; omega
     ·rw [w64 _ (by omega) (by omega)]; rfl
   ·(conv=>whnf)
    (repeat' first|(refine ansS (fun hh=>?_) (fun hh=>?_)<;>(try simp only [ansX] at hh)<;>first|(exfalso;first|omega|(simp [*] at hh;done)|(revert hh;decide))|exact absurd (by assumption) hh|conv=>whnf)|((first|refine kR ?_|refine aM ?_|refine aL ?_|refine aN ?_|fail);conv=>whnf))
    all_goals rfl
  ·have c1:=Y3 p n (by omega) (by omega) ho
   have he:¬(if y8 p=true then (2:Int) else 50)=0:=by split<;>decide
   generalize (if y8 p=true then (2:Int) else 50)=e at c1 he
   refine a7 hm Tryz.func7 (by kernel_rfl) ?_
   conv=>whnf
   (repeat' first|(refine ansS (fun hh=>?_) (fun hh=>?_)<;>(try simp only [ansX] at hh)<;>first|(exfalso;first|omega|(simp [*] at hh;done)|(revert hh;decide))|exact absurd (by assumption) hh|conv=>whnf)|((first|refine kR ?_|refine aM ?_|refine aL ?_|refine aN ?_|((try (refine Or.inl ?_;conv=>whnf));(try (refine ⟨false,?_⟩;conv=>whnf));refine ⟨_,by first | exact al | exact c1,?_⟩)|fail);conv=>whnf))
   all_goals rfl
 ·refine a7 hm Tryz.func7 (by kernel_rfl) ?_
  conv=>whnf
  (repeat' first|(refine ansS (fun hh=>?_) (fun hh=>?_)<;>(try simp only [ansX] at hh)<;>first|(exfalso;first|omega|(simp [*] at hh;done)|(revert hh;decide))|exact absurd (by assumption) hh|conv=>whnf)|((first|refine kR ?_|refine aM ?_|refine aL ?_|refine aN ?_|((try (refine Or.inl ?_;conv=>whnf));(try (refine ⟨false,?_⟩;conv=>whnf));refine ⟨_,by exact al,?_⟩)|fail);conv=>whnf))
  all_goals rfl
end Go.Proofs.Tryz.My
namespace Go.Proofs.YtdpnpdjnaimgaaaGreat.BooksIn
open Go Go.Ev Go.Proofs.Tryz.My
open Go.ChangeShapes Go.WideShapes Go.ChangeAt Go.RowKit
def IB (b:BooksT):Prop:=∀ i,IG (b.recipes.getD i rec0).gauge
end Go.Proofs.YtdpnpdjnaimgaaaGreat.BooksIn
namespace Go.Proofs.YtdpnpdjnaimgaaaGreat.PlantIn
open Go Go.Ev Go.Proofs.Tryz.My Go.Proofs.YtdpnpdjnaimgaaaGreat.BooksIn
open Go.ChangeShapes Go.WideShapes Go.ChangeAt Go.RowKit
def IW (w:WorldT):Prop:=BooksIn.IB w.books/\IL4 w.line/\I64 w.track.belt.step
def IO (o:OrderT):Prop:=IG o.gauge/\0<=o.kind/\(0<=o.role/\o.role<=255)
def IOs (l:List OrderT):Prop:=∀ o,o ∈ l->IO o
end Go.Proofs.YtdpnpdjnaimgaaaGreat.PlantIn
namespace Go.Proofs.YtdpnpdjnaimgaaaGreat.PlantNearDone
open Go Go.Ev Go.Proofs.Tryz.My Go.Proofs.YtdpnpdjnaimgaaaGreat.BooksIn Go.Proofs.YtdpnpdjnaimgaaaGreat.PlantIn
open Go.ChangeShapes Go.WideShapes Go.ChangeAt Go.RowKit
theorem own:ownKnob Tryz.prog.godebug=none:=by kernel_rfl
theorem a90:laidOutB Tryz.prog=true:=by kernel_rfl
theorem walk (w:World) (x0:List Int) (v0:Value) (h0:RepI (fun b=>b < w.heap.size) w (ints x0) v0) (x1:List Int) (v1:Value) (h1:RepI (fun b=>b < w.heap.size) w (ints x1) v1) :
  Calls Tryz.prog 7 #[v0,v1] w fun e w'=>e = .returned (.bool true)/\Below w.heap.size w w':=by
 refine PC.callsTrue (a6f x0 x1 ) Tryz.func7 (by kernel_rfl) rfl rfl fun i hi => ?_
 match i,hi with
 | 0,_=>exact h0
 | 1,_=>exact h1
theorem lifted (os:Os) (started:os.Started) (H:Type) (enc:TypeId×Value->H) :
  ReturnsInHanded {} Tryz.checked os 7 .any (Rows.plantNearSpec.pre6 enc Tryz.prog Tryz.f7 Rows.plantNearRow.domain false) (Rows.plantNearSpec.post enc Tryz.prog Tryz.f7 false true false false):=by
 refine returnsInHanded_of_change (C:=Tryz.checked) own started (by kernel_rfl) Tryz.func7
  (ChangeSpec.witness6 (enc:=enc) (C:=Tryz.checked) false ⟨#[],#[.slice none 0 0,.slice none 0 0],[]⟩ 8 (by kernel_rfl) (by kernel_rfl) (by kernel_rfl) (by kernel_rfl)) ?_
 intro W base args ds gs before hval0 hW hcnd _
 have hval:∀ (j:Nat) t v,Tryz.f7.params[j]? = some t->args[j]? = some v->Value.okWide Tryz.prog W .any base t v:=hval0
 have hW':=hW
 obtain ⟨p,q,hA0,hV,rfl,hfz,hnd⟩:=hW
 have hA:DataW.TrodAll enc Tryz.prog W 0 (fun _=>true) true Tryz.f7.params.toList args.toList ds p:=hA0
 rw [Tryz.params7] at hA hval
 obtain ⟨v0,vs0,d0,ds0,p0,q0,hargs,rfl,rfl,h0,r0⟩:=trodAll_cons hA
 obtain ⟨v1,vs1,d1,ds1,p1,q1,rfl,rfl,rfl,h1,r1⟩:=trodAll_cons r0
 obtain ⟨rfl,rfl,rfl⟩:=trodAll_nil r1
 obtain rfl:args=#[v0,v1]:=by cases args; simp_all
 obtain ⟨rfl,rfl⟩:=trodVars_none hV
 obtain ⟨a0,len0,cap0,rfl⟩:=okWide_slice Tryz.underlying60 (hval 0 60 v0 rfl rfl)
 have k0:=h0
 have lt0:∀ x ∈ p0,x.block < W.heap.size:=by obtain ⟨m,hm⟩:=k0; exact DataW.trod_lt m _ _ _ hm
 obtain ⟨x0,i0,_,n0⟩:∃ l:List Int,RepI (fun b=>b < W.heap.size) W (ints l) (.slice a0 len0 cap0)/\(∀ n ∈ l,I64 n)/\l.length<=maxLen:=by
  obtain ⟨fuel,hf⟩:=h0
  exact a4f Tryz.underlying60 Tryz.underlying3 (by kernel_rfl) (hval 0 60 _ rfl rfl) hf
 obtain ⟨a1,len1,cap1,rfl⟩:=okWide_slice Tryz.underlying60 (hval 1 60 v1 rfl rfl)
 have k1:=h1
 have lt1:∀ x ∈ p1,x.block < W.heap.size:=by obtain ⟨m,hm⟩:=k1; exact DataW.trod_lt m _ _ _ hm
 obtain ⟨x1,i1,_,n1⟩:∃ l:List Int,RepI (fun b=>b < W.heap.size) W (ints l) (.slice a1 len1 cap1)/\(∀ n ∈ l,I64 n)/\l.length<=maxLen:=by
  obtain ⟨fuel,hf⟩:=h1
  exact a4f Tryz.underlying60 Tryz.underlying3 (by kernel_rfl) (hval 1 60 _ rfl rfl) hf
 clear hA0 hval0
 refine (walk W x0 _ i0 x1 _ i1).mono fun e W' ⟨he,bel⟩ => ?_
 subst he
 exact ⟨_,rfl,_,_,_,[],_,[],hW',trodAll_mk1 (shut_bool Tryz.underlying4 _),(trodAll_cons_mk (Below.trod a90 (by kernel_rfl) (of_decide_eq_true (by kernel_rfl)) k0 bel lt0) (trodAll_cons_mk (Below.trod a90 (by kernel_rfl) (of_decide_eq_true (by kernel_rfl)) k1 bel lt1) trodAll_mk0)),rfl,bel.frame _,fun h=>by cases h⟩
theorem closed:joinedFacts Tryz.pinned.checked.prog 7 Tryz.f7 Rows.plantNearSpec Rows.plantNearRow=true :=
 (b4G Tryz.pinned.checked.prog 7 Tryz.f7 Rows.plantNearSpec Rows.plantNearRow b3t a6U a3L).2 (by kernel_rfl)
theorem over:Rows.plantNearRow.holds Tryz.pinned (OpenSpec.ofChange Rows.plantNearSpec) :=
 OpenClaim.holds_of_wide 7 Tryz.f7 rfl rfl rfl rfl rfl rfl rfl ⟨rfl,rfl,rfl,rfl,rfl⟩ rfl rfl rfl rfl rfl (by kernel_rfl) Tryz.func7 closed
  (of_decide_eq_true (by kernel_rfl)) (by unfold Func.isWrapper; first | (rw [if_pos (by decide +kernel)]; kernel_rfl) | (rw [if_neg (by decide +kernel)]; exact ⟨rfl,rfl⟩))
  (fun os started H enc _=>lifted os started H enc)
theorem proved:Rows.PlantNearSaid:=over
#print axioms proved

end Go.Proofs.YtdpnpdjnaimgaaaGreat.PlantNearDone
