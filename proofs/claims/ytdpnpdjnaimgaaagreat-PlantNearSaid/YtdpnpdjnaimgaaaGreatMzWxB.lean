/- A helper text: contracts of functions of the program, and plain lemmas. -/
import Derived.Test.YtdpnpdjnaimgaaaGreatEvSix
import Derived.Test.YtdpnpdjnaimgaaaGreatMzWbX
import Derived.Test.YtdpnpdjnaimgaaaGreatMzWaA
import Derived.Test.YtdpnpdjnaimgaaaGreatMzWtB
import Derived.Test.YtdpnpdjnaimgaaaGreatMzBpA
import Derived.Test.YtdpnpdjnaimgaaaGreatEvNine
import Derived.Test.YtdpnpdjnaimgaaaGreatMzBoC
set_option maxRecDepth 100000
set_option maxHeartbeats 0
set_option linter.unusedVariables false
set_option linter.unusedSimpArgs false
namespace Go.Proofs.Tryz.My
open Go Go.Ev
theorem aM {p q K:Prop} (k:K) (h:p:=by first | omega | decide) (g:q:=by first | omega | decide):(p ∧ q) ∧ K:=⟨⟨h,g⟩,k⟩
abbrev noTk:AV := .agg [i64 0,i64 0,i64 0,i64 0,i64 0,i64 0,.nils]
theorem P2 {t:TrackT} (h:trkE t=0):(0<=t.count/\t.count<=1099511627776)/\(0<=t.next/\t.next<=1099511627776)/\t.parts.length<=32:=by
 have b:=(a4C.1 h).2
 unfold trkB at b
 rw [Bool.and_eq_true] at b
 exact a1b.1 b.1
theorem a9Q {α:Type} (l:List α) (d:α) (h:0 < l.length) (h2:l.length < 2 ^ 40):(0<=IntKind.i64.wrap ((l.length:Int) - 1)/\IntKind.i64.wrap ((l.length:Int) - 1) < l.length)/\l.getD (IntKind.i64.wrap ((l.length:Int) - 1)).toNat d=l.getD (l.length - 1) d:=by
 rw [w64 _ (by omega) (by omega)]
 exact ⟨⟨by omega,by omega⟩,by congr 1; omega⟩
theorem b2S (t:TrackT) (hv:trkE t=0) (hs:senE t=0):PC Tryz.prog 224 [trk t] (.tup [trk (senT t),i64 t.next,i64 0]):=by
 have sz:=P2 hv
 have c:=y9 t (by omega)
 rw [hv] at c
 unfold senE at hs
 split at hs
 ·cases hs
 split at hs
 ·cases hs
 rename_i h1 h2
 have w1:IntKind.i64.wrap (t.next + 1)=t.next + 1:=w64 _ (by omega) (by omega)
 have z0:=a9Q t.parts a8
 unfold senT
 rw [<- w1]
 refine a7 hm Tryz.func224 (by kernel_rfl) ?_
 conv=>whnf
 (repeat' first|(refine ansS (fun hh=>?_) (fun hh=>?_)<;>(try simp only [ansX] at hh)<;>first|(exfalso;first|omega|(simp [*] at hh;done)|(revert hh;decide))|exact absurd (by assumption) hh|conv=>whnf)|((first|refine kR ?_|refine aM ?_|refine aL ?_|refine aN ?_|((try (refine Or.inl ?_;conv=>whnf));(try (refine ⟨false,?_⟩;conv=>whnf));refine ⟨_,by exact c,?_⟩)|fail);conv=>whnf))
 ·(exfalso; have e:=(z0 (by omega) (by omega)).2; clear z0; simp only [e] at *; omega)
 ·refine ⟨⟨SeenT,4,a8,u9,t.parts⟩,[⟨t.next,t.count,0,false⟩],rfl,congrArg (SlD.mk SeenT 4 a8 u9) (List.take_of_length_le (by simp)),⟨rfl,rfl⟩,?_,?_,fun y _=>⟨rfl,rfl,rfl⟩,?_⟩
  ·show (t.parts.length + 1) * 24<=_; omega
  ·show t.parts.length + 1<=_; omega
  (repeat' first|(refine ansS (fun hh=>?_) (fun hh=>?_)<;>(try simp only [ansX] at hh)<;>first|(exfalso;first|omega|(simp [*] at hh;done)|(revert hh;decide))|exact absurd (by assumption) hh|conv=>whnf)|((first|refine kR ?_|refine aM ?_|refine aL ?_|refine aN ?_|fail);conv=>whnf))
  try rfl
 ·refine ⟨⟨SeenT,4,a8,u9,t.parts⟩,[⟨t.next,t.count,0,false⟩],rfl,congrArg (SlD.mk SeenT 4 a8 u9) (List.take_of_length_le (by simp)),⟨rfl,rfl⟩,?_,?_,fun y _=>⟨rfl,rfl,rfl⟩,?_⟩
  ·show (t.parts.length + 1) * 24<=_; omega
  ·show t.parts.length + 1<=_; omega
  (repeat' first|(refine ansS (fun hh=>?_) (fun hh=>?_)<;>(try simp only [ansX] at hh)<;>first|(exfalso;first|omega|(simp [*] at hh;done)|(revert hh;decide))|exact absurd (by assumption) hh|conv=>whnf)|((first|refine kR ?_|refine aM ?_|refine aL ?_|refine aN ?_|fail);conv=>whnf))
  try rfl
theorem a6d (t:TrackT) (hv:trkE t=0) (hs:¬senE t=0):PC Tryz.prog 224 [trk t] (.tup [noTk,i64 0,i64 (senE t)]):=by
 have sz:=P2 hv
 have c:=y9 t (by omega)
 rw [hv] at c
 have z0:=a9Q t.parts a8
 unfold senE at hs ⊢
 by_cases h0:0 < t.parts.length
 ·by_cases h1:(t.parts.getD (t.parts.length - 1) a8).cnt=t.count
  ·rw [if_pos ⟨h0,h1⟩]
   refine a7 hm Tryz.func224 (by kernel_rfl) ?_
   conv=>whnf
   (repeat' first|(refine ansS (fun hh=>?_) (fun hh=>?_)<;>(try simp only [ansX] at hh)<;>first|(exfalso;first|omega|(simp [*] at hh;done)|(revert hh;decide))|exact absurd (by assumption) hh|conv=>whnf)|((first|refine kR ?_|refine aM ?_|refine aL ?_|refine aN ?_|((try (refine Or.inl ?_;conv=>whnf));(try (refine ⟨false,?_⟩;conv=>whnf));refine ⟨_,by exact c,?_⟩)|fail);conv=>whnf))
   all_goals (first | rfl | (exfalso; have e:=(z0 (by omega) (by omega)).2; clear z0; simp only [e] at *; omega))
  ·rw [if_neg (fun h=>h1 h.2)] at hs ⊢
   split at hs
   ·rename_i h2
    rw [if_pos h2]
    refine a7 hm Tryz.func224 (by kernel_rfl) ?_
    conv=>whnf
    (repeat' first|(refine ansS (fun hh=>?_) (fun hh=>?_)<;>(try simp only [ansX] at hh)<;>first|(exfalso;first|omega|(simp [*] at hh;done)|(revert hh;decide))|exact absurd (by assumption) hh|conv=>whnf)|((first|refine kR ?_|refine aM ?_|refine aL ?_|refine aN ?_|((try (refine Or.inl ?_;conv=>whnf));(try (refine ⟨false,?_⟩;conv=>whnf));refine ⟨_,by exact c,?_⟩)|fail);conv=>whnf))
    all_goals (first | rfl | (exfalso; have e:=(z0 (by omega) (by omega)).2; clear z0; simp only [e] at *; omega))
   ·exact absurd rfl hs
 ·rw [if_neg (fun h=>h0 h.1)] at hs ⊢
  split at hs
  ·rename_i h2
   rw [if_pos h2]
   refine a7 hm Tryz.func224 (by kernel_rfl) ?_
   conv=>whnf
   (repeat' first|(refine ansS (fun hh=>?_) (fun hh=>?_)<;>(try simp only [ansX] at hh)<;>first|(exfalso;first|omega|(simp [*] at hh;done)|(revert hh;decide))|exact absurd (by assumption) hh|conv=>whnf)|((first|refine kR ?_|refine aM ?_|refine aL ?_|refine aN ?_|((try (refine Or.inl ?_;conv=>whnf));(try (refine ⟨false,?_⟩;conv=>whnf));refine ⟨_,by exact c,?_⟩)|fail);conv=>whnf))
   all_goals rfl
  ·exact absurd rfl hs
abbrev ownT (t:TrackT):AV := .agg [i64 t.belt.step,i64 t.belt.slip,i64 t.belt.gate,i64 t.belt.len,i64 t.count,i64 t.next,.own 0]
theorem a4N (l:List SeenT) (hl:l.length < 2 ^ 20):PW Tryz.prog 124 [I0 l] [] (.own 0) [.vec 78 4 a8 u9 l]:=by
 refine j9 hm Tryz.func124 (by kernel_rfl) ⟨by kernel_rfl,?_⟩
 conv=>whnf
 refine Or.inl ?_
 conv=>whnf
 intro b hb
 conv=>whnf
 refine ⟨fun h => ?_,fun h => ?_⟩
 ·(conv=>whnf)
  refine Or.inr ⟨by kernel_rfl,.vec 78 4 a8 u9 [],rfl,?_⟩
  conv=>whnf
  refine ⟨[2],by kernel_rfl,?_⟩
  conv=>whnf
  rw [hb h]
  exact ⟨rfl,rfl⟩
 conv=>whnf
 refine ⟨⟨SeenT,4,a8,u9,[]⟩,l,rfl,⟨rfl,rfl⟩,rfl,?_,?_,fun y _=>⟨rfl,rfl,rfl⟩,?_⟩
 ·show (0 + l.length) * 24<=_; omega
 ·show 0 + l.length<=_; omega
 conv=>whnf
 refine ⟨[7],by kernel_rfl,?_⟩
 conv=>whnf
 exact ⟨rfl,rfl⟩
def posS (l:List SeenT) (q:Int):Nat:=l.findIdx fun x=>decide (q<=x.id)
theorem a9R {l:List SeenT} {q:Int} {i:Nat} (hi:i<=l.length) (h1:∀ m,m < i->(l.getD m a8).id < q) (h2:i < l.length->q<=(l.getD i a8).id):posS l q=i:=by
 unfold posS
 rcases Nat.lt_trichotomy (l.findIdx fun x=>decide (q<=x.id)) i with h | h | h
 ·have hl:(l.findIdx fun x=>decide (q<=x.id)) < l.length:=by omega
  have a:=List.findIdx_getElem (p:=fun x:SeenT=>decide (q<=x.id)) (xs:=l) (w:=hl)
  have b:=h1 _ h
  rw [l0 hl] at b
  have a:=of_decide_eq_true a
  omega
 ·exact h
 ·have hl:i < l.length:=Nat.lt_of_lt_of_le h List.findIdx_le_length
  have a:=List.not_of_lt_findIdx h
  have b:=h2 hl
  rw [l0 hl] at b
  simp [b] at a
theorem b2T {l:List SeenT} (h:List.Pairwise a3r l) {q:Int} {i:Nat} (hi:i<=l.length) (h1:∀ m,m < i->(l.getD m a8).id < q) (h2:∀ m,i<=m->m < l.length->q<=(l.getD m a8).id):l.any (isId q)=(decide (i < l.length) && decide ((l.getD i a8).id=q)):=by
 rw [Bool.eq_iff_iff,List.any_eq_true,Bool.and_eq_true,decide_eq_true_eq,decide_eq_true_eq]
 constructor
 ·rintro ⟨x,hm,e⟩
  obtain ⟨m,hm,e2⟩:=List.getElem_of_mem hm
  have e:=of_decide_eq_true e
  have e3:(l.getD m a8).id=q:=by rw [l0 hm,e2]; exact e
  rcases Nat.lt_trichotomy m i with z | z | z
  ·have:=h1 m z; omega
  ·subst z; exact ⟨hm,e3⟩
  ·have a:(l.getD i a8).id < (l.getD m a8).id:=(M1 (d:=a8) h z hm).1
   have b:=h2 i (Nat.le_refl i) (by omega)
   omega
 ·rintro ⟨a,b⟩
  exact ⟨l.getD i a8,C0 a,decide_eq_true b⟩
theorem a4O {l:List SeenT} (h:List.Pairwise a3r l) {q:Int} (ha:l.any (isId q)=true):posS l q=l.findIdx (isId q):=by
 have hf:=a0a ha
 have e:(l.getD (l.findIdx (isId q)) a8).id=q:=by
  have a:=List.findIdx_getElem (p:=isId q) (xs:=l) (w:=hf)
  rw [l0 hf]
  exact of_decide_eq_true a
 refine a9R (by omega) (fun m hm => ?_) (fun _=>by omega)
 have a:(l.getD m a8).id < (l.getD (l.findIdx (isId q)) a8).id:=(M1 (d:=a8) h hm hf).1
 omega
def cmpS (x:SeenT) (q:Int):Int:=if x.id < q then -1 else if q < x.id then 1 else 0
theorem a7N (x:SeenT) (q:Int):PC Tryz.prog 304 [.agg (u9 x),i64 q] (i64 (cmpS x q)):=by
 unfold cmpS
 refine a7 hm Tryz.func304 (by kernel_rfl) ?_
 conv=>whnf
 (repeat' first|(refine ansS (fun hh=>?_) (fun hh=>?_)<;>(try simp only [ansX] at hh)<;>first|(exfalso;first|omega|(simp [*] at hh;done)|(revert hh;decide))|exact absurd (by assumption) hh|conv=>whnf)|((first|refine kR ?_|refine aM ?_|refine aL ?_|refine aN ?_|fail);conv=>whnf))
 all_goals (first | (rw [if_pos (by omega)]; done) | (rw [if_neg (by omega),if_pos (by omega)]; done) | (rw [if_neg (by omega),if_neg (by omega)]; done))
theorem a9S (l:List SeenT) (hs:List.Pairwise a3r l) (hl:l.length < 2 ^ 39) (q:Int):PC Tryz.prog 303 [I0 l,i64 q,.fn (.func 304) [] []] (.tup [i64 (posS l q),.bool (l.any (isId q))]):=by
 refine a7 hm Tryz.func303 (by kernel_rfl) ?_
 conv=>whnf
 refine Or.inr ⟨Nat×Nat,[9,10],[],[],fun i=>[i64 i.1,i64 i.2],fun _=>[],fun _=>[],fun i=>i.2 - i.1,fun i=>i.1<=i.2/\i.2<=l.length/\(∀ m,m < i.1->(l.getD m a8).id < q)/\∀ m,i.2<=m->m < l.length->q<=(l.getD m a8).id,?_⟩
 conv=>whnf
 refine ⟨⟨(0,l.length),?_⟩,?_⟩
 ·(conv=>whnf)
  exact ⟨⟨⟨Nat.zero_le _,Nat.le_refl _,fun m hm=>absurd hm (Nat.not_lt_zero m),fun m h1 h2=>absurd h2 (Nat.not_lt.2 h1)⟩,rfl,rfl,rfl⟩,by kernel_rfl,by kernel_rfl⟩
 ·rintro ⟨i,j⟩ ⟨g1,g2,g3,g4⟩
  simp only [] at g1 g2 g3 g4
  conv=>whnf
  refine ⟨fun h => ?_,fun h => ?_⟩
  ·have h:=of_decide_eq_true h
   simp only [] at h
   conv=>whnf
   rw [b4x i j (by omega) (by omega)]
   have e1:i<=(i + j) / 2:=by omega
   have e2:(i + j) / 2 < j:=by omega
   generalize (i + j) / 2=m at *
   have z:l.getD (Int.toNat (m:Int)) a8=l.getD m a8:=rfl
   have cx:=a7N (l.getD m a8) q
   by_cases hc:(l.getD m a8).id < q
   ·rw [show cmpS (l.getD m a8) q = -1 by unfold cmpS; rw [if_pos hc]] at cx
    (repeat' first|(refine ansS (fun hh=>?_) (fun hh=>?_)<;>(try simp only [ansX] at hh)<;>first|(exfalso;first|omega|(simp [*] at hh;done)|(revert hh;decide))|exact absurd (by assumption) hh|conv=>whnf)|((first|refine kR ?_|refine aM ?_|refine aL ?_|refine aN ?_|((try (refine Or.inl ?_;conv=>whnf));(try (refine ⟨false,?_⟩;conv=>whnf));refine ⟨_,by exact cx,?_⟩)|fail);conv=>whnf))
    refine ⟨(m + 1,j),?_⟩
    conv=>whnf
    refine ⟨⟨⟨?_,by show m + 1<=j; omega,g2,?_,g4⟩,?_,rfl,rfl⟩,by kernel_rfl,by kernel_rfl⟩
    ·show j - (m + 1) < j - i; omega
    ·intro p hp
     have hp:p < m + 1:=hp
     by_cases e:p=m
     ·subst e; assumption
     ·have:(l.getD p a8).id < (l.getD m a8).id:=(M1 (d:=a8) hs (show p < m by omega) (by omega)).1
      omega
    ·rw [w64 _ (by omega) (by omega)]; rfl
   ·have cp:0<=cmpS (l.getD m a8) q:=by unfold cmpS; rw [if_neg hc]; split<;>omega
    generalize cmpS (l.getD m a8) q=cq at cx cp
    (repeat' first|(refine ansS (fun hh=>?_) (fun hh=>?_)<;>(try simp only [ansX] at hh)<;>first|(exfalso;first|omega|(simp [*] at hh;done)|(revert hh;decide))|exact absurd (by assumption) hh|conv=>whnf)|((first|refine kR ?_|refine aM ?_|refine aL ?_|refine aN ?_|((try (refine Or.inl ?_;conv=>whnf));(try (refine ⟨false,?_⟩;conv=>whnf));refine ⟨_,by exact cx,?_⟩)|fail);conv=>whnf))
    refine ⟨(i,m),?_⟩
    conv=>whnf
    refine ⟨⟨⟨?_,e1,by show m<=l.length; omega,g3,?_⟩,rfl,rfl,rfl⟩,by kernel_rfl,by kernel_rfl⟩
    ·show m - i < j - i; omega
    ·intro p h1 h2
     have h1:m<=p:=h1
     by_cases e:p=m
     ·subst e; omega
     ·have:(l.getD m a8).id < (l.getD p a8).id:=(M1 (d:=a8) hs (show m < p by omega) h2).1
      omega
  ·have h:=of_decide_eq_false h
   simp only [] at h
   have e:i=j:=by omega
   subst e
   rw [b2T hs g2 g3 g4,a9R g2 g3 (fun q=>g4 i (Nat.le_refl i) q)]
   have cx:=a7N (l.getD i a8) q
   have z:l.getD (Int.toNat (i:Int)) a8=l.getD i a8:=rfl
   have ci:cmpS (l.getD i a8) q=0↔(l.getD i a8).id=q:=by
    unfold cmpS
    split
    ·exact ⟨fun h=>absurd h (by decide),fun h=>by omega⟩
    ·split
     ·exact ⟨fun h=>absurd h (by decide),fun h=>by omega⟩
     ·exact ⟨fun _=>by omega,fun _=>rfl⟩
   generalize cmpS (l.getD i a8) q=cq at cx ci
   (repeat' first|(refine ansS (fun hh=>?_) (fun hh=>?_)<;>(try simp only [ansX] at hh)<;>first|(exfalso;first|omega|(simp [*] at hh;done)|(revert hh;decide))|exact absurd (by assumption) hh|conv=>whnf)|((first|refine kR ?_|refine aM ?_|refine aL ?_|refine aN ?_|((try (refine Or.inl ?_;conv=>whnf));(try (refine ⟨false,?_⟩;conv=>whnf));refine ⟨_,by exact cx,?_⟩)|fail);conv=>whnf))
   all_goals (refine congrArg (fun z=>AV.tup [i64 i,AV.bool z]) ?_)
   ·rw [decide_eq_true (show i < l.length by omega),Bool.true_and]; exact decide_eq_decide.2 ci
   ·rw [decide_eq_false (show ¬i < l.length by omega)]; rfl
theorem b35 (t:TrackT) (hv:trkE t=0) (q v:Int) (h:telE t q v=0):PC Tryz.prog 265 [trk t,i64 q,u8 v] (.tup [trk (telT t q v),i64 0]):=by
 have g:=A9.1 hv
 obtain ⟨e1,e2,e3,e4⟩:=a4E h
 have sz:=P2 hv
 have c:=y9 t (by omega)
 rw [hv] at c
 have cb:=a9S t.parts g.up (by omega) q
 rw [e2,a4O g.up e2] at cb
 have hb:=g.bl
 have bl:=z7.1 hb
 have c2:=a1d t.belt hb
 have c3:=a0b t.belt hb t.belt.gate bl.2.2.1.1 bl.2.2.1.2
 have wr:=I8 hb bl.2.2.1.1 bl.2.2.1.2
 have hf:=a0a e2
 have cnt0:=g.sn _ (C0 (d:=a8) hf)
 unfold telT
 generalize t.parts.findIdx (isId q)=k at *
 have z:t.parts.getD (Int.toNat (k:Int)) a8=t.parts.getD k a8:=rfl
 have w1:IntKind.i64.wrap ((t.parts.getD (Int.toNat (k:Int)) a8).cnt + winA t.belt t.belt.gate)=(t.parts.getD k a8).cnt + winA t.belt t.belt.gate:=by
  rw [z,w64 _ (by have:=cnt0.2; omega) (by have:=cnt0.2; omega)]
 refine a7 hm Tryz.func265 (by kernel_rfl) ?_
 conv=>whnf
 (repeat' first|(refine ansS (fun hh=>?_) (fun hh=>?_)<;>(try simp only [ansX] at hh)<;>first|(exfalso;first|omega|(simp [*] at hh;done)|(revert hh;decide))|exact absurd (by assumption) hh|conv=>whnf)|((first|refine kR ?_|refine aM ?_|refine aL ?_|refine aN ?_|((try (refine Or.inl ?_;conv=>whnf));(try (refine ⟨false,?_⟩;conv=>whnf));refine ⟨_,by first | exact c | exact cb | exact c2 | exact c3,?_⟩)|fail);conv=>whnf))
 (refine Or.inr ⟨[ ],[ 69 ],by kernel_rfl,?_⟩; (conv=>whnf); refine ⟨[ ],_,_,_,_,⟨ a4N t.parts (by omega),rfl,rfl,by kernel_rfl⟩,?_⟩)
 conv=>whnf
 (repeat' first|(refine ansS (fun hh=>?_) (fun hh=>?_)<;>(try simp only [ansX] at hh)<;>first|(exfalso;first|omega|(simp [*] at hh;done)|(revert hh;decide))|exact absurd (by assumption) hh|conv=>whnf)|((first|refine kR ?_|refine aM ?_|refine aL ?_|refine aN ?_|fail);conv=>whnf))
 refine ⟨verS (t.parts.getD k a8) v,rfl,hf,?_⟩
 (repeat' first|(refine ansS (fun hh=>?_) (fun hh=>?_)<;>(try simp only [ansX] at hh)<;>first|(exfalso;first|omega|(simp [*] at hh;done)|(revert hh;decide))|exact absurd (by assumption) hh|conv=>whnf)|((first|refine kR ?_|refine aM ?_|refine aL ?_|refine aN ?_|fail);conv=>whnf))
 try rfl
theorem a7O (t:TrackT) (hv:trkE t=0) (q v:Int) (h:¬telE t q v=0):PC Tryz.prog 265 [trk t,i64 q,u8 v] (.tup [noTk,i64 (telE t q v)]):=by
 have g:=A9.1 hv
 have sz:=P2 hv
 have c:=y9 t (by omega)
 rw [hv] at c
 have cb:=a9S t.parts g.up (by omega) q
 have hb:=g.bl
 have bl:=z7.1 hb
 have c2:=a1d t.belt hb
 have c3:=a0b t.belt hb t.belt.gate bl.2.2.1.1 bl.2.2.1.2
 have wr:=I8 hb bl.2.2.1.1 bl.2.2.1.2
 unfold telE at h ⊢
 by_cases h1:v < 1∨3 < v
 ·rw [if_pos h1]
  refine a7 hm Tryz.func265 (by kernel_rfl) ?_
  conv=>whnf
  (repeat' first|(refine ansS (fun hh=>?_) (fun hh=>?_)<;>(try simp only [ansX] at hh)<;>first|(exfalso;first|omega|(simp [*] at hh;done)|(revert hh;decide))|exact absurd (by assumption) hh|conv=>whnf)|((first|refine kR ?_|refine aM ?_|refine aL ?_|refine aN ?_|((try (refine Or.inl ?_;conv=>whnf));(try (refine ⟨false,?_⟩;conv=>whnf));refine ⟨_,by first | exact c | exact cb | exact c2 | exact c3,?_⟩)|fail);conv=>whnf))
  all_goals rfl
 rw [if_neg h1] at h ⊢
 by_cases e2:t.parts.any (isId q)=true
 ·rw [if_neg (fun f=>f e2)] at h ⊢
  rw [e2,a4O g.up e2] at cb
  have hf:=a0a e2
  have cnt0:=g.sn _ (C0 (d:=a8) hf)
  generalize t.parts.findIdx (isId q)=k at *
  have z:t.parts.getD (Int.toNat (k:Int)) a8=t.parts.getD k a8:=rfl
  have w1:IntKind.i64.wrap ((t.parts.getD (Int.toNat (k:Int)) a8).cnt + winA t.belt t.belt.gate)=(t.parts.getD k a8).cnt + winA t.belt t.belt.gate:=by
   rw [z,w64 _ (by have:=cnt0.2; omega) (by have:=cnt0.2; omega)]
  split at h
  ·rename_i h3
   rw [if_pos h3]
   refine a7 hm Tryz.func265 (by kernel_rfl) ?_
   conv=>whnf
   (repeat' first|(refine ansS (fun hh=>?_) (fun hh=>?_)<;>(try simp only [ansX] at hh)<;>first|(exfalso;first|omega|(simp [*] at hh;done)|(revert hh;decide))|exact absurd (by assumption) hh|conv=>whnf)|((first|refine kR ?_|refine aM ?_|refine aL ?_|refine aN ?_|((try (refine Or.inl ?_;conv=>whnf));(try (refine ⟨false,?_⟩;conv=>whnf));refine ⟨_,by first | exact c | exact cb | exact c2 | exact c3,?_⟩)|fail);conv=>whnf))
   all_goals (first | rfl | (exfalso; rw [z] at *; omega))
  ·exact absurd rfl h
 ·rw [if_pos e2] at h ⊢
  have e2:t.parts.any (isId q)=false:=by simpa using e2
  rw [e2] at cb
  refine a7 hm Tryz.func265 (by kernel_rfl) ?_
  conv=>whnf
  (repeat' first|(refine ansS (fun hh=>?_) (fun hh=>?_)<;>(try simp only [ansX] at hh)<;>first|(exfalso;first|omega|(simp [*] at hh;done)|(revert hh;decide))|exact absurd (by assumption) hh|conv=>whnf)|((first|refine kR ?_|refine aM ?_|refine aL ?_|refine aN ?_|((try (refine Or.inl ?_;conv=>whnf));(try (refine ⟨false,?_⟩;conv=>whnf));refine ⟨_,by first | exact c | exact cb | exact c2 | exact c3,?_⟩)|fail);conv=>whnf))
  all_goals rfl
theorem b2U {b:BeltT} (hb:D2 b=true) {x:SeenT} (hx:0<=x.cnt/\x.cnt<=1099511627776):IntKind.i64.wrap (x.cnt + winA b b.gate)=x.cnt + winA b b.gate/\IntKind.i64.wrap (x.cnt + winB b b.gate)=x.cnt + winB b b.gate:=by
 have bl:=z7.1 hb
 have wr:=I8 hb bl.2.2.1.1 bl.2.2.1.2
 exact ⟨w64 _ (by omega) (by omega),w64 _ (by omega) (by omega)⟩
theorem b2V {l:List SeenT} {p:SeenT->Bool} (h:∀ j,j < l.length->p (l.getD j a8)=false):l.any p=false:=by
 rw [<- Bool.not_eq_true,List.any_eq_true]
 rintro ⟨x,hx,e⟩
 obtain ⟨m,hm,e2⟩:=List.getElem_of_mem hx
 have:=h m hm
 rw [l0 hm,e2,e] at this
 cases this
def b4A (t:TrackT) (x:SeenT):Bool:=decide (x.cnt + winB t.belt t.belt.gate=t.count + 1)
def fatK (t:TrackT) (k:Nat):List FateT:=(((hits t).take k).filter (b4A t)).map Y4
def lefK (t:TrackT) (k:Nat):List SeenT:=((hits t).take k).filter (fun x => !b4A t x)
def a9T (b:BeltT) (n x:Int) (p:AV):List AV:=[i64 b.step,i64 b.slip,i64 b.gate,i64 b.len,i64 n,i64 x,p,i64 (winA b b.gate),i64 (winB b b.gate)]
abbrev gat (b:BeltT) (c x:Int) (p:AV):AV := .pt (a9T b c x p) 0
theorem a6e (b:BeltT) (hb:D2 b=true) (c x:Int) (l:List SeenT) (s:SeenT) (hs:0<=s.cnt/\s.cnt<=1099511627776) (n:Int):PC Tryz.prog 268 [gat b c x (I0 l),.agg (u9 s),i64 n] (.bool (K8 b s n)):=by
 have w:=b2U hb hs
 have e:K8 b s n=(decide (IntKind.i64.wrap (s.cnt + winA b b.gate)<=n) && decide (n<=IntKind.i64.wrap (s.cnt + winB b b.gate))):=by rw [w.1,w.2]; rfl
 rw [e]
 refine a7 hm Tryz.func268 (by kernel_rfl) ?_
 conv=>whnf
 (repeat' first|(refine ansS (fun hh=>?_) (fun hh=>?_)<;>(try simp only [ansX] at hh)<;>first|(exfalso;first|omega|(simp [*] at hh;done)|(revert hh;decide))|exact absurd (by assumption) hh|conv=>whnf)|((first|refine kR ?_|refine aM ?_|refine aL ?_|refine aN ?_|fail);conv=>whnf))
 all_goals (first | (refine congrArg AV.bool (Bool.eq_iff_iff.2 ?_); simp only [Bool.and_eq_true,Bool.or_eq_true,Bool.not_eq_true',decide_eq_true_eq,decide_eq_false_iff_not,Bool.false_eq_true,iff_false,iff_true,true_iff,false_iff,reduceCtorEq,not_true_eq_false,not_false_eq_true]; omega))
theorem b07 (b:BeltT) (hb:D2 b=true) (c x:Int) (l:List SeenT) (s:SeenT) (hs:0<=s.cnt/\s.cnt<=1099511627776) (n:Int):PC Tryz.prog 306 [.agg (u9 s),.pt [gat b c x (I0 l)] 0,.pt [i64 n] 0] (.bool (!decide (s.verdict=1) && K8 b s n)):=by
 have ch:=a6e b hb c x l s hs n
 refine a7 hm Tryz.func306 (by kernel_rfl) ?_
 conv=>whnf
 by_cases h:s.verdict=1
 ·rw [decide_eq_true h]
  (repeat' first|(refine ansS (fun hh=>?_) (fun hh=>?_)<;>(try simp only [ansX] at hh)<;>first|(exfalso;first|omega|(simp [*] at hh;done)|(revert hh;decide))|exact absurd (by assumption) hh|conv=>whnf)|((first|refine kR ?_|refine aM ?_|refine aL ?_|refine aN ?_|((try (refine Or.inl ?_;conv=>whnf));(try (refine ⟨false,?_⟩;conv=>whnf));refine ⟨_,by exact ch,?_⟩)|fail);conv=>whnf))
  all_goals rfl
 ·rw [decide_eq_false h]
  (repeat' first|(refine ansS (fun hh=>?_) (fun hh=>?_)<;>(try simp only [ansX] at hh)<;>first|(exfalso;first|omega|(simp [*] at hh;done)|(revert hh;decide))|exact absurd (by assumption) hh|conv=>whnf)|((first|refine kR ?_|refine aM ?_|refine aL ?_|refine aN ?_|((try (refine Or.inl ?_;conv=>whnf));(try (refine ⟨false,?_⟩;conv=>whnf));refine ⟨_,by exact ch,?_⟩)|fail);conv=>whnf))
  all_goals rfl
def ixS (p:SeenT->Bool) (l:List SeenT):Int:=if l.any p=true then (l.findIdx p:Nat) else -1
theorem a87 (b:BeltT) (c x n:Int) (q:List SeenT) (p:SeenT->Bool) (l:List SeenT) (hp:∀ s,s ∈ l->PC Tryz.prog 306 (.agg (u9 s) :: [.pt [gat b c x (I0 q)] 0,.pt [i64 n] 0]) (.bool (p s))) (hl:l.length < 2 ^ 20):PC Tryz.prog 323 [I0 l,.fn (.func 306) [] [.pt [gat b c x (I0 q)] 0,.pt [i64 n] 0]] (i64 (ixS p l)):=by
 refine a7 hm Tryz.func323 (by kernel_rfl) ?_
 conv=>whnf
 refine Or.inr ⟨Nat,[8],[],[],fun k=>[i64 k],fun _=>[],fun _=>[],fun k=>l.length - k,fun k=>k<=l.length/\∀ m,m < k->p (l.getD m a8)=false,?_⟩
 conv=>whnf
 refine ⟨⟨0,?_⟩,?_⟩
 ·(conv=>whnf)
  exact ⟨⟨⟨Nat.zero_le _,fun i hi=>absurd hi (Nat.not_lt_zero i)⟩,rfl,rfl,rfl⟩,by kernel_rfl,by kernel_rfl⟩
 rintro k ⟨hk,hn⟩
 conv=>whnf
 refine ⟨fun h => ?_,fun h => ?_⟩
 ·have h:=of_decide_eq_true h
  have hkk:k < l.length:=by omega
  have c1:=hp _ (C0 (d:=a8) hkk)
  conv=>whnf
  refine ⟨⟨by omega,by omega⟩,?_⟩
  conv=>whnf
  rw [show Int.toNat (k:Int)=k from rfl]
  (repeat' (first|(refine ⟨_,by first | exact c1,?_⟩; (conv=>whnf)) | (refine Or.inl ?_; (conv=>whnf); refine ⟨_,by first | exact c1,?_⟩; (conv=>whnf)) | (refine Or.inl ?_; (conv=>whnf); refine ⟨false,?_⟩; (conv=>whnf); refine ⟨_,by first | exact c1,?_⟩; (conv=>whnf)) | (refine ⟨by kernel_rfl,?_⟩; (conv=>whnf)) | fail))
  refine ⟨fun q1 => ?_,fun q1 => ?_⟩
  ·(conv=>whnf)
   refine congrArg i64 ?_
   have ha:l.any p=true:=List.any_eq_true.2 ⟨_,C0 hkk,q1⟩
   unfold ixS
   rw [if_pos ha]
   have e:l.findIdx p=k:=by
    rcases Nat.lt_trichotomy (l.findIdx p) k with z | z | z
    ·have a:=List.findIdx_getElem (p:=p) (xs:=l) (w:=by omega)
     rw [<- l0 (d:=a8),hn _ z] at a
     cases a
    ·exact z
    ·have b:=List.not_of_lt_findIdx z
     rw [<- l0 (d:=a8),q1] at b
     simp at b
   rw [e]
  ·refine ⟨k + 1,?_⟩
   conv=>whnf
   refine ⟨⟨⟨?_,?_,fun j hj => ?_⟩,?_,rfl,rfl⟩,by kernel_rfl,by kernel_rfl⟩
   ·show l.length - (k + 1) < l.length - k; omega
   ·show k + 1<=l.length; omega
   ·by_cases z:j=k
    ·subst z; exact q1
    ·exact hn j (by have hj:j < k + 1:=hj; omega)
   ·rw [w64 _ (by omega) (by omega)]; rfl
 ·have h:=of_decide_eq_false h
  have ek:k=l.length:=by omega
  rw [ek] at hn
  conv=>whnf
  unfold ixS
  rw [if_neg (by rw [b2V hn]; decide)]
theorem b36 (p:SeenT->Bool) (l:List SeenT):decide (0<=ixS p l)=l.any p:=by
 unfold ixS
 cases h:l.any p
 ·rfl
 ·rw [if_pos rfl]; exact decide_eq_true (by omega)
theorem b5m (b:BeltT) (c x n:Int) (q:List SeenT) (p:SeenT->Bool) (l:List SeenT) (hp:∀ s,s ∈ l->PC Tryz.prog 306 (.agg (u9 s) :: [.pt [gat b c x (I0 q)] 0,.pt [i64 n] 0]) (.bool (p s))) (hl:l.length < 2 ^ 20):PC Tryz.prog 305 [I0 l,.fn (.func 306) [] [.pt [gat b c x (I0 q)] 0,.pt [i64 n] 0]] (.bool (l.any p)):=by
 refine a7 hm Tryz.func305 (by kernel_rfl) ?_
 conv=>whnf
 (repeat' (first|(refine ⟨_,by first | exact a87 b c x n q p l hp hl,?_⟩; (conv=>whnf)) | (refine Or.inl ?_; (conv=>whnf); refine ⟨_,by first | exact a87 b c x n q p l hp hl,?_⟩; (conv=>whnf)) | (refine Or.inl ?_; (conv=>whnf); refine ⟨false,?_⟩; (conv=>whnf); refine ⟨_,by first | exact a87 b c x n q p l hp hl,?_⟩; (conv=>whnf)) | (refine ⟨by kernel_rfl,?_⟩; (conv=>whnf)) | fail))
 show AV.bool (decide (0<=ixS p l))=_
 rw [b36]
theorem a7P (t:TrackT) (hb:D2 t.belt=true) (hl:t.parts.length < 2 ^ 20) (hp:∀ x,x ∈ t.parts->0<=x.cnt/\x.cnt<=1099511627776) (c x n:Int):PC Tryz.prog 267 [gat t.belt c x (I0 t.parts),i64 n] (.bool (opnB t n)):=by
 have c1:=b5m t.belt c x n t.parts (fun x => !decide (x.verdict=1) && K8 t.belt x n) t.parts (fun s hs=>b07 t.belt hb c x t.parts s (hp s hs) n) hl
 refine a7 hm Tryz.func267 (by kernel_rfl) ?_
 conv=>whnf
 (repeat' first|(refine ansS (fun hh=>?_) (fun hh=>?_)<;>(try simp only [ansX] at hh)<;>first|(exfalso;first|omega|(simp [*] at hh;done)|(revert hh;decide))|exact absurd (by assumption) hh|conv=>whnf)|((first|refine kR ?_|refine aM ?_|refine aL ?_|refine aN ?_|((try (refine Or.inl ?_;conv=>whnf));(try (refine ⟨false,?_⟩;conv=>whnf));refine ⟨_,by exact c1,?_⟩)|fail);conv=>whnf))
 all_goals rfl
theorem a4P (t:TrackT) (hb:D2 t.belt=true) (hl:t.parts.length < 2 ^ 20):PW Tryz.prog 266 [trk t] [] (.ptr 0 0 0 0) [.cells 334 (a9T t.belt t.count t.next (.own 1)),.vec 78 4 a8 u9 t.parts]:=by
 have bl:=z7.1 hb
 have c2:=a1d t.belt hb
 have c3:=a0b t.belt hb t.belt.gate bl.2.2.1.1 bl.2.2.1.2
 refine a9 hm Tryz.func266 (by kernel_rfl) ⟨by kernel_rfl,?_⟩
 conv=>whnf
 (refine Or.inr ⟨[ ],[ 7 ],by kernel_rfl,?_⟩; (conv=>whnf); refine ⟨[ ],_,_,_,_,⟨ a4N t.parts (by omega),rfl,rfl,by kernel_rfl⟩,?_⟩)
 conv=>whnf
 (repeat' first|(refine ansS (fun hh=>?_) (fun hh=>?_)<;>(try simp only [ansX] at hh)<;>first|(exfalso;first|omega|(simp [*] at hh;done)|(revert hh;decide))|exact absurd (by assumption) hh|conv=>whnf)|((first|refine kR ?_|refine aM ?_|refine aL ?_|refine aN ?_|((try (refine Or.inl ?_;conv=>whnf));(try (refine ⟨false,?_⟩;conv=>whnf));refine ⟨_,by first | exact c2 | exact c3,?_⟩)|fail);conv=>whnf))
 refine ⟨[23,7],by kernel_rfl,?_⟩
 conv=>whnf
 exact ⟨rfl,rfl⟩
theorem b5G (t:TrackT) (hb:D2 t.belt=true) (hl:t.parts.length < 2 ^ 20):PC Tryz.prog 266 [trk t] (gat t.belt t.count t.next (I0 t.parts)):=(a4P t hb hl).toPC 6 (by kernel_rfl)
theorem a9U (t:TrackT) (hv:trkE t=0):PC Tryz.prog 217 [trk t] (.tup [.bool (opnB t (t.count + 1)),i64 0]):=by
 have g:=A9.1 hv
 have sz:=P2 hv
 have c:=y9 t (by omega)
 rw [hv] at c
 have w1:IntKind.i64.wrap (t.count + 1)=t.count + 1:=w64 _ (by omega) (by omega)
 have c2:=a7P t g.bl (by omega) (fun x hx=>by have:=(g.sn x hx).2; omega) t.count t.next (IntKind.i64.wrap (t.count + 1))
 refine a7 hm Tryz.func217 (by kernel_rfl) ?_
 conv=>whnf
 (repeat' first|(refine ansS (fun hh=>?_) (fun hh=>?_)<;>(try simp only [ansX] at hh)<;>first|(exfalso;first|omega|(simp [*] at hh;done)|(revert hh;decide))|exact absurd (by assumption) hh|conv=>whnf)|((first|refine kR ?_|refine aM ?_|refine aL ?_|refine aN ?_|((try (refine Or.inl ?_;conv=>whnf));(try (refine ⟨false,?_⟩;conv=>whnf));refine ⟨_,by first | exact c | exact b5G t g.bl (by omega) | exact c2,?_⟩)|fail);conv=>whnf))
 all_goals (first | (rw [w1]; done))
theorem b37 (b:BeltT) (hb:D2 b=true) (c x:Int) (l:List SeenT) (s:SeenT) (hs:0<=s.cnt/\s.cnt<=1099511627776):PC Tryz.prog 270 [.agg (u9 s),.pt [gat b c x (I0 l)] 0] (.bool (decide (s.cnt + winB b b.gate=c))):=by
 have w:=b2U hb hs
 rw [<- w.2]
 refine a7 hm Tryz.func270 (by kernel_rfl) ?_
 conv=>whnf
 (repeat' first|(refine ansS (fun hh=>?_) (fun hh=>?_)<;>(try simp only [ansX] at hh)<;>first|(exfalso;first|omega|(simp [*] at hh;done)|(revert hh;decide))|exact absurd (by assumption) hh|conv=>whnf)|((first|refine kR ?_|refine aM ?_|refine aL ?_|refine aN ?_|fail);conv=>whnf))
 all_goals rfl
theorem a4Q {l:List SeenT} {k:Nat} (hk:k < l.length):l.take (k + 1)=l.take k++[l.getD k a8]:=by
 rw [List.take_add_one,List.getElem?_eq_getElem hk,l0 hk]
 rfl
theorem a3w (p:SeenT->Bool) (l:List SeenT) (k:Nat):((l.take k).filter p).length<=k:=Nat.le_trans (List.length_filter_le _ _) (by rw [List.length_take]; omega)
theorem a88 {p:SeenT->Bool} {l:List SeenT} {k:Nat} (hk:k < l.length) (h:p (l.getD k a8)=true):(l.take (k + 1)).filter p=(l.take k).filter p++[l.getD k a8]/\(l.take (k + 1)).filter (fun x => !p x)=(l.take k).filter (fun x => !p x):=by
 rw [a4Q hk,List.filter_append,List.filter_append]
 simp only [List.filter_cons,List.filter_nil,h,if_true,Bool.not_true,Bool.false_eq_true,if_false,List.append_nil,and_self]
theorem b08 {p:SeenT->Bool} {l:List SeenT} {k:Nat} (hk:k < l.length) (h:p (l.getD k a8)=false):(l.take (k + 1)).filter (fun x => !p x)=(l.take k).filter (fun x => !p x)++[l.getD k a8]/\(l.take (k + 1)).filter p=(l.take k).filter p:=by
 rw [a4Q hk,List.filter_append,List.filter_append]
 simp only [List.filter_cons,List.filter_nil,h,if_true,Bool.not_false,Bool.false_eq_true,if_false,List.append_nil,and_self]
def gatR (b:BeltT) (c x:Int) (l:List SeenT):List Row:=[.cells 334 (a9T b c x (.own 1)),.vec 78 4 a8 u9 l]
def a7Q (b:BeltT) (c x:Int) (l:List SeenT):List Row:=[.cells 331 [.ptr 1 0 0 0],.cells 334 (a9T b c x (.own 2)),.vec 78 4 a8 u9 l]
theorem a7R (t:TrackT) (hb:D2 t.belt=true) (hl:t.parts.length < 2 ^ 20) (hp:∀ x,x ∈ t.parts->0<=x.cnt/\x.cnt<=1099511627776) (c x n:Int):PW Tryz.prog 267 [.ptr 0 0 0 0,i64 n] (gatR t.belt c x t.parts) (.bool (opnB t n)) (gatR t.belt c x t.parts) :=
 (a7P t hb hl hp c x n).toPWk Tryz.func267 (by kernel_rfl) rfl (by kernel_rfl) (a2T _) rfl
theorem b38 (b:BeltT) (hb:D2 b=true) (c x:Int) (l:List SeenT) (s:SeenT) (hs:0<=s.cnt/\s.cnt<=1099511627776):PW Tryz.prog 270 [.agg (u9 s),.ptr 0 0 0 0] (a7Q b c x l) (.bool (decide (s.cnt + winB b b.gate=c))) (a7Q b c x l) :=
 (b37 b hb c x l s hs).toPWk Tryz.func270 (by kernel_rfl) rfl (by kernel_rfl) (a2T _) rfl
theorem a7S (b:BeltT) (hb:D2 b=true) (c x:Int) (l:List SeenT) (hp:∀ s,s ∈ l->0<=s.cnt/\s.cnt<=1099511627776) (hl:l.length < 2 ^ 20) (p:SeenT->Bool) (hpp:p=fun s=>decide (s.cnt + winB b b.gate=c)):PW Tryz.prog 269 [.own 2,.fn (.func 270) [] [.ptr 0 0 0 0]] (a7Q b c x l) (.tup [.own 3,.own 4]) (a7Q b c x l++[.vec 78 4 a8 u9 (l.filter p),.vec 78 4 a8 u9 (l.filter fun x => !p x)]):=by
 unfold a7Q
 refine a9 hm Tryz.func269 (by kernel_rfl) ⟨by kernel_rfl,?_⟩
 conv=>whnf
 refine Or.inr ⟨Nat,[10],[],[(4,⟨SeenT,78,4,a8,u9⟩),(5,⟨SeenT,78,4,a8,u9⟩)],fun k=>[i64 k],fun _=>[],fun k=>[.vec 78 4 a8 u9 ((l.take k).filter p),.vec 78 4 a8 u9 ((l.take k).filter fun x => !p x)],fun k=>l.length - k,fun k=>k<=l.length,?_⟩
 conv=>whnf
 refine ⟨⟨0,?_⟩,?_⟩
 ·(conv=>whnf)
  exact ⟨⟨Nat.zero_le _,rfl,rfl,rfl⟩,by kernel_rfl,by kernel_rfl⟩
 intro k hk
 conv=>whnf
 refine ⟨fun h => ?_,fun h => ?_⟩
 ·have h:=of_decide_eq_true h
  have hkk:k < l.length:=by omega
  have c1:=b38 b hb c x l (l.getD k a8) (hp _ (C0 (d:=a8) hkk))
  have l1:=a3w p l k
  have l2:=a3w (fun x => !p x) l k
  have hpx:decide ((l.getD k a8).cnt + winB b b.gate=c)=p (l.getD k a8):=by rw [hpp]
  rw [hpx] at c1
  cases hpk:p (l.getD k a8)
  ·have sg:=b08 hkk hpk
   rw [hpk] at c1
   conv=>whnf
   (repeat' first|(refine ansS (fun hh=>?_) (fun hh=>?_)<;>(try simp only [ansX] at hh)<;>first|(exfalso;first|omega|(simp [*] at hh;done)|(revert hh;decide))|exact absurd (by assumption) hh|conv=>whnf)|((first|refine kR ?_|refine aM ?_|refine aL ?_|refine aN ?_|refine aT ?_|fail);conv=>whnf))
   (refine Or.inr ⟨[ ],[ ],by kernel_rfl,?_⟩; (conv=>whnf); refine ⟨[ 28,29,30 ],_,_,_,_,⟨ c1,rfl,rfl,by kernel_rfl⟩,?_⟩)
   conv=>whnf
   (repeat' first|(refine ansS (fun hh=>?_) (fun hh=>?_)<;>(try simp only [ansX] at hh)<;>first|(exfalso;first|omega|(simp [*] at hh;done)|(revert hh;decide))|exact absurd (by assumption) hh|conv=>whnf)|((first|refine kR ?_|refine aM ?_|refine aL ?_|refine aN ?_|refine aT ?_|fail);conv=>whnf))
   refine ⟨⟨SeenT,4,a8,u9,(l.take k).filter fun x => !p x⟩,[l.getD k a8],rfl,rfl,⟨rfl,rfl⟩,?_,?_,fun y _=>⟨rfl,rfl,rfl⟩,?_⟩
   ·show (((l.take k).filter fun x => !p x).length + 1) * 24<=_; omega
   ·show ((l.take k).filter fun x => !p x).length + 1<=_; omega
   (repeat' first|(refine ansS (fun hh=>?_) (fun hh=>?_)<;>(try simp only [ansX] at hh)<;>first|(exfalso;first|omega|(simp [*] at hh;done)|(revert hh;decide))|exact absurd (by assumption) hh|conv=>whnf)|((first|refine kR ?_|refine aM ?_|refine aL ?_|refine aN ?_|refine aT ?_|fail);conv=>whnf))
   refine ⟨k + 1,?_⟩
   conv=>whnf
   refine ⟨⟨⟨?_,?_⟩,?_,rfl,?_⟩,by kernel_rfl,by kernel_rfl⟩
   ·show l.length - (k + 1) < l.length - k; omega
   ·show k + 1<=l.length; omega
   ·rw [w64 _ (by omega) (by omega)]; rfl
   ·show _=[Row.vec 78 4 a8 u9 ((l.take (k + 1)).filter p),Row.vec 78 4 a8 u9 ((l.take (k + 1)).filter fun x => !p x)]
    rw [sg.1,sg.2]<;>rfl
  ·have sg:=a88 hkk hpk
   rw [hpk] at c1
   conv=>whnf
   (repeat' first|(refine ansS (fun hh=>?_) (fun hh=>?_)<;>(try simp only [ansX] at hh)<;>first|(exfalso;first|omega|(simp [*] at hh;done)|(revert hh;decide))|exact absurd (by assumption) hh|conv=>whnf)|((first|refine kR ?_|refine aM ?_|refine aL ?_|refine aN ?_|refine aT ?_|fail);conv=>whnf))
   (refine Or.inr ⟨[ ],[ ],by kernel_rfl,?_⟩; (conv=>whnf); refine ⟨[ 28,29,30 ],_,_,_,_,⟨ c1,rfl,rfl,by kernel_rfl⟩,?_⟩)
   conv=>whnf
   (repeat' first|(refine ansS (fun hh=>?_) (fun hh=>?_)<;>(try simp only [ansX] at hh)<;>first|(exfalso;first|omega|(simp [*] at hh;done)|(revert hh;decide))|exact absurd (by assumption) hh|conv=>whnf)|((first|refine kR ?_|refine aM ?_|refine aL ?_|refine aN ?_|refine aT ?_|fail);conv=>whnf))
   refine ⟨⟨SeenT,4,a8,u9,(l.take k).filter p⟩,[l.getD k a8],rfl,rfl,⟨rfl,rfl⟩,?_,?_,fun y _=>⟨rfl,rfl,rfl⟩,?_⟩
   ·show (((l.take k).filter p).length + 1) * 24<=_; omega
   ·show ((l.take k).filter p).length + 1<=_; omega
   (repeat' first|(refine ansS (fun hh=>?_) (fun hh=>?_)<;>(try simp only [ansX] at hh)<;>first|(exfalso;first|omega|(simp [*] at hh;done)|(revert hh;decide))|exact absurd (by assumption) hh|conv=>whnf)|((first|refine kR ?_|refine aM ?_|refine aL ?_|refine aN ?_|refine aT ?_|fail);conv=>whnf))
   refine ⟨k + 1,?_⟩
   conv=>whnf
   refine ⟨⟨⟨?_,?_⟩,?_,rfl,?_⟩,by kernel_rfl,by kernel_rfl⟩
   ·show l.length - (k + 1) < l.length - k; omega
   ·show k + 1<=l.length; omega
   ·rw [w64 _ (by omega) (by omega)]; rfl
   ·show _=[Row.vec 78 4 a8 u9 ((l.take (k + 1)).filter p),Row.vec 78 4 a8 u9 ((l.take (k + 1)).filter fun x => !p x)]
    rw [sg.1,sg.2]<;>rfl
 ·have h:=of_decide_eq_false h
  have ek:l.take k=l:=List.take_of_length_le (by omega)
  rw [ek]
  conv=>whnf
  (repeat' first|(refine ansS (fun hh=>?_) (fun hh=>?_)<;>(try simp only [ansX] at hh)<;>first|(exfalso;first|omega|(simp [*] at hh;done)|(revert hh;decide))|exact absurd (by assumption) hh|conv=>whnf)|((first|refine kR ?_|refine aM ?_|refine aL ?_|refine aN ?_|refine aT ?_|fail);conv=>whnf))
  refine ⟨[4,5],by kernel_rfl,?_⟩
  conv=>whnf
  exact ⟨rfl,rfl⟩
theorem a4R {α:Type} (f:α->α) (d:α) (l:List α):∀ k i,i < k->i < l.length->(upK f d l k).getD i d=f (l.getD i d)
 | 0,_,h,_=>absurd h (Nat.not_lt_zero _)
 | k + 1,i,h,hl=>by
  show ((upK f d l k).set k _).getD i d=_
  by_cases e:i=k
  ·subst e
   rw [P1 (by rw [U6]; exact hl),a5M f d l i i (Nat.le_refl i)]
  ·rw [List.getD,List.getElem?_set_ne (by omega)]
   exact a4R f d l k i (by omega) hl
theorem a9V {α:Type} (f:α->α) (d:α) (l:List α):upK f d l l.length=l.map f:=by
 apply List.ext_getElem?
 intro i
 by_cases h:i < l.length
 ·have e:=a4R f d l l.length i h h
  rw [List.getElem?_map,List.getElem?_eq_getElem h,List.getElem?_eq_getElem (by rw [U6]; exact h)]
  rw [List.getD,List.getD,List.getElem?_eq_getElem h,List.getElem?_eq_getElem (by rw [U6]; exact h)] at e
  simp only [Option.getD_some] at e
  rw [e]; rfl
 ·rw [List.getElem?_eq_none (by rw [U6]; omega),List.getElem?_eq_none (by rw [List.length_map]; omega)]
theorem a7T (b:BeltT) (n:Int) (l:List SeenT):l.map (hitS b false n)=l:=by
 have e:∀ x:SeenT,hitS b false n x=x:=fun x=>by unfold hitS; simp
 rw [show hitS b false n=id from funext e,List.map_id]
theorem a9W (b:BeltT) (n x:Int):advT ⟨b,n,x,[]⟩=⟨b,n + 1,x,[]⟩/\advF ⟨b,n,x,[]⟩=[]:=by
 have e:B9 ⟨b,n,x,[]⟩=false:=decide_eq_false fun h=>absurd h.1 (Nat.lt_irrefl 0)
 unfold advT advF
 rw [e]
 exact ⟨rfl,rfl⟩
theorem a7U (b:BeltT) (n x:Int) (hv:trkE ⟨b,n,x,[]⟩=0) (hc:n < 1099511627776):PC Tryz.prog 218 [trk ⟨b,n,x,[]⟩,i64 1] (.tup [trk (advT ⟨b,n,x,[]⟩),a7D (advF ⟨b,n,x,[]⟩),i64 0]):=by
 have g:=A9.1 hv
 have sz:=P2 hv
 have c:=y9 ⟨b,n,x,[]⟩ (show 0 < 2 ^ 40 by decide)
 rw [hv] at c
 have sz:=sz.1
 simp only at sz
 have w1:IntKind.i64.wrap (n + 1)=n + 1:=w64 _ (by omega) (by omega)
 have w0:IntKind.i64.wrap (1099511627776 - 1)=1099511627775:=by decide
 rw [(a9W b n x).1,(a9W b n x).2,<- w1]
 refine PC.sub (res := .tup [trk ⟨b,IntKind.i64.wrap (n + 1),x,[]⟩,.nils,i64 0]) ?_ rfl (fun i hi => .refl _) ?_
 ·refine a7 hm Tryz.func218 (by kernel_rfl) ?_
  conv=>whnf
  (repeat' first|(refine ansS (fun hh=>?_) (fun hh=>?_)<;>(try simp only [ansX] at hh)<;>first|(exfalso;first|omega|(simp [*] at hh;done)|(revert hh;decide))|exact absurd (by assumption) hh|conv=>whnf)|((first|refine kR ?_|refine aM ?_|refine aL ?_|refine aN ?_|((try (refine Or.inl ?_;conv=>whnf));(try (refine ⟨false,?_⟩;conv=>whnf));refine ⟨_,by exact c,?_⟩)|fail);conv=>whnf))
  (refine Or.inr ⟨[ ],[ 37,1 ],by kernel_rfl,?_⟩; (conv=>whnf); refine ⟨[ ],_,_,_,_,⟨ a4P _ g.bl (show 0 < 2 ^ 20 by decide),rfl,rfl,by kernel_rfl⟩,?_⟩)
  conv=>whnf
  refine Or.inl ⟨2,?_⟩
  conv=>whnf
  (repeat' first|(refine ansS (fun hh=>?_) (fun hh=>?_)<;>(try simp only [ansX] at hh)<;>first|(exfalso;first|omega|(simp [*] at hh;done)|(revert hh;decide))|exact absurd (by assumption) hh|conv=>whnf)|((first|refine kR ?_|refine aM ?_|refine aL ?_|refine aN ?_|fail);conv=>whnf))
  all_goals rfl
 ·refine (H6 (xs:=[trk ⟨b,IntKind.i64.wrap (n + 1),x,[]⟩,.nils,i64 0]) (ys:=[trk ⟨b,IntKind.i64.wrap (n + 1),x,[]⟩,a7D [],i64 0]) rfl fun i hi => ?_).2
  match i with
  | 0=>exact .refl _
  | 1=>exact Sub.nils _ _ _
  | 2=>exact .refl _
  | (n + 3)=>exact .refl _
theorem a7V (t:TrackT) (hv:trkE t=0) (hc:t.count < 1099511627776) (hl0:¬t.parts.length=0) (hg:B9 t=true):PC Tryz.prog 218 [trk t,i64 1] (.tup [trk (advT t),a7D (advF t),i64 0]):=by
 have g:=A9.1 hv
 have sz:=P2 hv
 have c:=y9 t (by omega)
 rw [hv] at c
 have w1:IntKind.i64.wrap (t.count + 1)=t.count + 1:=w64 _ (by omega) (by omega)
 have w0:IntKind.i64.wrap (1099511627776 - 1)=1099511627775:=by decide
 have hcn:∀ x,x ∈ t.parts->0<=x.cnt/\x.cnt<=1099511627776:=fun x hx=>by have:=(g.sn x hx).2; omega
 have hf:=J8 g
 have hll:=S7 t
 have hch:∀ s,s ∈ hits t->0<=s.cnt/\s.cnt<=1099511627776:=fun s hs=>by
  obtain ⟨m,hm,e2⟩:=List.getElem_of_mem hs
  have e3:s=hitS t.belt (opnB t (t.count + 1)) (t.count + 1) (t.parts.getD m a8):=by rw [<- S8 t m (by omega),l0 hm,e2]
  rw [e3]
  exact hcn (t.parts.getD m a8) (C0 (by omega))
 have cgo:=a7R t g.bl (by omega) hcn (IntKind.i64.wrap (t.count + 1)) t.next (IntKind.i64.wrap (t.count + 1))
 have eo:opnB t (IntKind.i64.wrap (t.count + 1))=opnB t (t.count + 1):=by rw [w1]
 rw [eo] at cgo
 have csp:=a7S t.belt g.bl (IntKind.i64.wrap (t.count + 1)) t.next (hits t) hch (by omega) (fun s=>decide (s.cnt + winB t.belt t.belt.gate=t.count + 1)) (by rw [w1])
 rw [hf.1,hf.2] at csp
 rw [if_pos hg] at csp
 have af:advF t=[Y4 ((hits t).getD 0 a8)]:=by unfold advF; rw [if_pos hg]
 cases hop:opnB t (t.count + 1)
 ·rw [hop] at cgo
  have eh:hits t=t.parts:=by unfold hits; rw [hop,a7T]
  rw [eh] at csp
  rw [eh] at af
  refine L2 hm Tryz.func218 (by kernel_rfl) ?_
  conv=>whnf
  refine Or.inl ?_
  conv=>whnf
  (repeat' first|(refine ansS (fun hh=>?_) (fun hh=>?_)<;>(try simp only [ansX] at hh)<;>first|(exfalso;first|omega|(simp [*] at hh;done)|(revert hh;decide))|exact absurd (by assumption) hh|conv=>whnf)|((first|refine kR ?_|refine aM ?_|refine aL ?_|refine aN ?_|((try (refine Or.inl ?_;conv=>whnf));(try (refine ⟨false,?_⟩;conv=>whnf));refine ⟨_,by exact c,?_⟩)|fail);conv=>whnf))
  (refine Or.inr ⟨[ ],[ 37,1 ],by kernel_rfl,?_⟩; (conv=>whnf); refine ⟨[ ],_,_,_,_,⟨ a4P t g.bl (by omega),rfl,rfl,by kernel_rfl⟩,?_⟩)
  conv=>whnf
  refine Or.inl ?_
  conv=>whnf
  refine Or.inl ⟨2,?_⟩
  conv=>whnf
  (repeat' first|(refine ansS (fun hh=>?_) (fun hh=>?_)<;>(try simp only [ansX] at hh)<;>first|(exfalso;first|omega|(simp [*] at hh;done)|(revert hh;decide))|exact absurd (by assumption) hh|conv=>whnf)|((first|refine kR ?_|refine aM ?_|refine aL ?_|refine aN ?_|fail);conv=>whnf))
  refine Or.inr ⟨false,[37,1],_,_,_,_,⟨cgo,rfl,rfl,by kernel_rfl⟩,?_⟩
  conv=>whnf
  (repeat' first|(refine ansS (fun hh=>?_) (fun hh=>?_)<;>(try simp only [ansX] at hh)<;>first|(exfalso;first|omega|(simp [*] at hh;done)|(revert hh;decide))|exact absurd (by assumption) hh|conv=>whnf)|((first|refine kR ?_|refine aM ?_|refine aL ?_|refine aN ?_|fail);conv=>whnf))
  (refine Or.inr ⟨[ ],[ 117,118 ],by kernel_rfl,?_⟩; (conv=>whnf); refine ⟨[ 8,37,1 ],_,_,_,_,⟨ csp,rfl,rfl,by kernel_rfl⟩,?_⟩)
  conv=>whnf
  (repeat' first|(refine ansS (fun hh=>?_) (fun hh=>?_)<;>(try simp only [ansX] at hh)<;>first|(exfalso;first|omega|(simp [*] at hh;done)|(revert hh;decide))|exact absurd (by assumption) hh|conv=>whnf)|((first|refine kR ?_|refine aM ?_|refine aL ?_|refine aN ?_|fail);conv=>whnf))
  refine Or.inl ⟨2,?_⟩
  conv=>whnf
  (repeat' (first|((first|refine ansT ?_|refine ansF ?_|refine ansD (by first | decide | (simp only [List.length_cons,List.length_nil]; decide)) ?_ | refine ansN (by first | decide | (simp only [List.length_cons,List.length_nil]; decide)) ?_ | refine ansB (by first | decide | (simp only [List.length_cons,List.length_nil]; decide)) (by first | decide | (simp only [List.length_cons,List.length_nil]; decide)) ?_|fail);conv=>whnf) | (refine ansS (fun hh=>?_) (fun hh=>?_)<;>(try simp only [ansX] at hh)<;>first|(exfalso;first|omega|(simp [*] at hh;done)|(revert hh;decide))|exact absurd (by assumption) hh|conv=>whnf) | ((first|refine ⟨by kernel_rfl,?_⟩|refine ansB (by omega) (by omega) ?_|refine ansB (by decide) (by decide) ?_|refine aL (by omega) ?_|refine aN (by omega) ?_|fail);conv=>whnf)))
  refine ⟨Nat.zero_lt_one,?_⟩
  conv=>whnf
  (repeat' first|(refine ansS (fun hh=>?_) (fun hh=>?_)<;>(try simp only [ansX] at hh)<;>first|(exfalso;first|omega|(simp [*] at hh;done)|(revert hh;decide))|exact absurd (by assumption) hh|conv=>whnf)|((first|refine kR ?_|refine aM ?_|refine aL ?_|refine aN ?_|refine aT ?_|fail);conv=>whnf))
  refine ⟨⟨FateT,3,b2A,a7C,[]⟩,[Y4 (t.parts.getD 0 a8)],rfl,rfl,⟨rfl,rfl⟩,?_,?_,fun y _=>⟨rfl,rfl,rfl⟩,?_⟩
  ·show (0 + 1) * 16<=1099511627776; decide
  ·show 0 + 1<=1099511627776; decide
  conv=>whnf
  (repeat' (first|((first|refine ansT ?_|refine ansF ?_|refine ansD (by first | decide | (simp only [List.length_cons,List.length_nil]; decide)) ?_ | refine ansN (by first | decide | (simp only [List.length_cons,List.length_nil]; decide)) ?_ | refine ansB (by first | decide | (simp only [List.length_cons,List.length_nil]; decide)) (by first | decide | (simp only [List.length_cons,List.length_nil]; decide)) ?_|fail);conv=>whnf) | (refine ansS (fun hh=>?_) (fun hh=>?_)<;>(try simp only [ansX] at hh)<;>first|(exfalso;first|omega|(simp [*] at hh;done)|(revert hh;decide))|exact absurd (by assumption) hh|conv=>whnf) | ((first|refine ⟨by kernel_rfl,?_⟩|refine ansB (by omega) (by omega) ?_|refine ansB (by decide) (by decide) ?_|refine aL (by omega) ?_|refine aN (by omega) ?_|fail);conv=>whnf)))
  (repeat' first|(refine ansS (fun hh=>?_) (fun hh=>?_)<;>(try simp only [ansX] at hh)<;>first|(exfalso;first|omega|(simp [*] at hh;done)|(revert hh;decide))|exact absurd (by assumption) hh|conv=>whnf)|((first|refine kR ?_|refine aM ?_|refine aL ?_|refine aN ?_|refine aT ?_|fail);conv=>whnf))
  rw [w1,af]
  rfl
 ·rw [hop] at cgo
  have eh:upK (hitS t.belt true (t.count + 1)) a8 t.parts t.parts.length=hits t:=by unfold hits; rw [hop,a9V]
  refine L2 hm Tryz.func218 (by kernel_rfl) ?_
  conv=>whnf
  refine Or.inl ?_
  conv=>whnf
  (repeat' first|(refine ansS (fun hh=>?_) (fun hh=>?_)<;>(try simp only [ansX] at hh)<;>first|(exfalso;first|omega|(simp [*] at hh;done)|(revert hh;decide))|exact absurd (by assumption) hh|conv=>whnf)|((first|refine kR ?_|refine aM ?_|refine aL ?_|refine aN ?_|((try (refine Or.inl ?_;conv=>whnf));(try (refine ⟨false,?_⟩;conv=>whnf));refine ⟨_,by exact c,?_⟩)|fail);conv=>whnf))
  (refine Or.inr ⟨[ ],[ 37,1 ],by kernel_rfl,?_⟩; (conv=>whnf); refine ⟨[ ],_,_,_,_,⟨ a4P t g.bl (by omega),rfl,rfl,by kernel_rfl⟩,?_⟩)
  conv=>whnf
  refine Or.inl ?_
  conv=>whnf
  refine Or.inl ⟨2,?_⟩
  conv=>whnf
  (repeat' first|(refine ansS (fun hh=>?_) (fun hh=>?_)<;>(try simp only [ansX] at hh)<;>first|(exfalso;first|omega|(simp [*] at hh;done)|(revert hh;decide))|exact absurd (by assumption) hh|conv=>whnf)|((first|refine kR ?_|refine aM ?_|refine aL ?_|refine aN ?_|fail);conv=>whnf))
  refine Or.inr ⟨false,[37,1],_,_,_,_,⟨cgo,rfl,rfl,by kernel_rfl⟩,?_⟩
  conv=>whnf
  (repeat' first|(refine ansS (fun hh=>?_) (fun hh=>?_)<;>(try simp only [ansX] at hh)<;>first|(exfalso;first|omega|(simp [*] at hh;done)|(revert hh;decide))|exact absurd (by assumption) hh|conv=>whnf)|((first|refine kR ?_|refine aM ?_|refine aL ?_|refine aN ?_|fail);conv=>whnf))
  refine Or.inr ⟨Nat,[83],[1],[],fun k=>[i64 k],fun k=>[.vec 78 4 a8 u9 (upK (hitS t.belt true (t.count + 1)) a8 t.parts k)],fun _=>[],fun k=>t.parts.length - k,fun k=>k<=t.parts.length,?_⟩
  conv=>whnf
  refine ⟨⟨0,?_⟩,?_⟩
  ·(conv=>whnf)
   exact ⟨⟨Nat.zero_le _,rfl,rfl,rfl⟩,by kernel_rfl,by kernel_rfl⟩
  intro k hk
  have hul:=U6 (hitS t.belt true (t.count + 1)) a8 t.parts k
  conv=>whnf
  refine ⟨fun h => ?_,fun h => ?_⟩
  ·have h:=of_decide_eq_true h
   have hkk:k < t.parts.length:=by omega
   have hua:=a5M (hitS t.belt true (t.count + 1)) a8 t.parts k k (Nat.le_refl k)
   have hnx:upK (hitS t.belt true (t.count + 1)) a8 t.parts (k + 1)=(upK (hitS t.belt true (t.count + 1)) a8 t.parts k).set k (hitS t.belt true (t.count + 1) ((upK (hitS t.belt true (t.count + 1)) a8 t.parts k).getD k a8)):=rfl
   generalize upK (hitS t.belt true (t.count + 1)) a8 t.parts k=u at hul hua hnx
   have ch:=a6e t.belt g.bl (IntKind.i64.wrap (t.count + 1)) t.next u (u.getD k a8) (by rw [hua]; exact hcn _ (C0 hkk)) (IntKind.i64.wrap (t.count + 1))
   have hw:K8 t.belt (u.getD k a8) (IntKind.i64.wrap (t.count + 1))=K8 t.belt (u.getD k a8) (t.count + 1):=by rw [w1]
   rw [hw] at ch
   conv=>whnf
   (repeat' first|(refine ansS (fun hh=>?_) (fun hh=>?_)<;>(try simp only [ansX] at hh)<;>first|(exfalso;first|omega|(simp [*] at hh;done)|(revert hh;decide))|exact absurd (by assumption) hh|conv=>whnf)|((first|refine kR ?_|refine aM ?_|refine aL ?_|refine aN ?_|refine aT ?_|((try (refine Or.inl ?_;conv=>whnf));(try (refine ⟨false,?_⟩;conv=>whnf));refine ⟨_,by exact ch,?_⟩)|fail);conv=>whnf))
   ·have hh2:(u.getD k a8).hit=true:=hh
    refine ⟨⟨(u.getD k a8).id,(u.getD k a8).cnt,(u.getD k a8).verdict,true⟩,rfl,by omega,?_⟩
    (repeat' first|(refine ansS (fun hh=>?_) (fun hh=>?_)<;>(try simp only [ansX] at hh)<;>first|(exfalso;first|omega|(simp [*] at hh;done)|(revert hh;decide))|exact absurd (by assumption) hh|conv=>whnf)|((first|refine kR ?_|refine aM ?_|refine aL ?_|refine aN ?_|refine aT ?_|fail);conv=>whnf))
    have ey:(⟨(u.getD k a8).id,(u.getD k a8).cnt,(u.getD k a8).verdict,true⟩:SeenT)=hitS t.belt true (t.count + 1) (u.getD k a8):=by
     unfold hitS; rw [hh2]; rfl
    refine ⟨k + 1,?_⟩
    conv=>whnf
    refine ⟨⟨⟨?_,?_⟩,?_,?_,rfl⟩,by kernel_rfl,by kernel_rfl⟩
    ·show t.parts.length - (k + 1) < t.parts.length - k; omega
    ·show k + 1<=t.parts.length; omega
    ·rw [w64 _ (by omega) (by omega)]; rfl
    ·show _=[Row.vec 78 4 a8 u9 (upK (hitS t.belt true (t.count + 1)) a8 t.parts (k + 1))]
     rw [hnx,<- ey]<;>rfl
   ·have hh2:(u.getD k a8).hit=false:=hh
    refine ⟨⟨(u.getD k a8).id,(u.getD k a8).cnt,(u.getD k a8).verdict,K8 t.belt (u.getD k a8) (t.count + 1)⟩,rfl,by omega,?_⟩
    (repeat' first|(refine ansS (fun hh=>?_) (fun hh=>?_)<;>(try simp only [ansX] at hh)<;>first|(exfalso;first|omega|(simp [*] at hh;done)|(revert hh;decide))|exact absurd (by assumption) hh|conv=>whnf)|((first|refine kR ?_|refine aM ?_|refine aL ?_|refine aN ?_|refine aT ?_|fail);conv=>whnf))
    have ey:(⟨(u.getD k a8).id,(u.getD k a8).cnt,(u.getD k a8).verdict,K8 t.belt (u.getD k a8) (t.count + 1)⟩:SeenT)=hitS t.belt true (t.count + 1) (u.getD k a8):=by
     unfold hitS; rw [hh2]; rfl
    refine ⟨k + 1,?_⟩
    conv=>whnf
    refine ⟨⟨⟨?_,?_⟩,?_,?_,rfl⟩,by kernel_rfl,by kernel_rfl⟩
    ·show t.parts.length - (k + 1) < t.parts.length - k; omega
    ·show k + 1<=t.parts.length; omega
    ·rw [w64 _ (by omega) (by omega)]; rfl
    ·show _=[Row.vec 78 4 a8 u9 (upK (hitS t.belt true (t.count + 1)) a8 t.parts (k + 1))]
     rw [hnx,<- ey]<;>rfl
  ·have h:=of_decide_eq_false h
   have ek:k=t.parts.length:=by omega
   subst ek
   rw [eh]
   conv=>whnf
   (repeat' first|(refine ansS (fun hh=>?_) (fun hh=>?_)<;>(try simp only [ansX] at hh)<;>first|(exfalso;first|omega|(simp [*] at hh;done)|(revert hh;decide))|exact absurd (by assumption) hh|conv=>whnf)|((first|refine kR ?_|refine aM ?_|refine aL ?_|refine aN ?_|fail);conv=>whnf))
   (refine Or.inr ⟨[ ],[ 117,118 ],by kernel_rfl,?_⟩; (conv=>whnf); refine ⟨[ 8,37,1 ],_,_,_,_,⟨ csp,rfl,rfl,by kernel_rfl⟩,?_⟩)
   conv=>whnf
   (repeat' first|(refine ansS (fun hh=>?_) (fun hh=>?_)<;>(try simp only [ansX] at hh)<;>first|(exfalso;first|omega|(simp [*] at hh;done)|(revert hh;decide))|exact absurd (by assumption) hh|conv=>whnf)|((first|refine kR ?_|refine aM ?_|refine aL ?_|refine aN ?_|fail);conv=>whnf))
   refine Or.inl ⟨2,?_⟩
   conv=>whnf
   (repeat' (first|((first|refine ansT ?_|refine ansF ?_|refine ansD (by first | decide | (simp only [List.length_cons,List.length_nil]; decide)) ?_ | refine ansN (by first | decide | (simp only [List.length_cons,List.length_nil]; decide)) ?_ | refine ansB (by first | decide | (simp only [List.length_cons,List.length_nil]; decide)) (by first | decide | (simp only [List.length_cons,List.length_nil]; decide)) ?_|fail);conv=>whnf) | (refine ansS (fun hh=>?_) (fun hh=>?_)<;>(try simp only [ansX] at hh)<;>first|(exfalso;first|omega|(simp [*] at hh;done)|(revert hh;decide))|exact absurd (by assumption) hh|conv=>whnf) | ((first|refine ⟨by kernel_rfl,?_⟩|refine ansB (by omega) (by omega) ?_|refine ansB (by decide) (by decide) ?_|refine aL (by omega) ?_|refine aN (by omega) ?_|fail);conv=>whnf)))
   refine ⟨Nat.zero_lt_one,?_⟩
   conv=>whnf
   (repeat' first|(refine ansS (fun hh=>?_) (fun hh=>?_)<;>(try simp only [ansX] at hh)<;>first|(exfalso;first|omega|(simp [*] at hh;done)|(revert hh;decide))|exact absurd (by assumption) hh|conv=>whnf)|((first|refine kR ?_|refine aM ?_|refine aL ?_|refine aN ?_|refine aT ?_|fail);conv=>whnf))
   refine ⟨⟨FateT,3,b2A,a7C,[]⟩,[Y4 ((hits t).getD 0 a8)],rfl,rfl,⟨rfl,rfl⟩,?_,?_,fun y _=>⟨rfl,rfl,rfl⟩,?_⟩
   ·show (0 + 1) * 16<=1099511627776; decide
   ·show 0 + 1<=1099511627776; decide
   conv=>whnf
   (repeat' (first|((first|refine ansT ?_|refine ansF ?_|refine ansD (by first | decide | (simp only [List.length_cons,List.length_nil]; decide)) ?_ | refine ansN (by first | decide | (simp only [List.length_cons,List.length_nil]; decide)) ?_ | refine ansB (by first | decide | (simp only [List.length_cons,List.length_nil]; decide)) (by first | decide | (simp only [List.length_cons,List.length_nil]; decide)) ?_|fail);conv=>whnf) | (refine ansS (fun hh=>?_) (fun hh=>?_)<;>(try simp only [ansX] at hh)<;>first|(exfalso;first|omega|(simp [*] at hh;done)|(revert hh;decide))|exact absurd (by assumption) hh|conv=>whnf) | ((first|refine ⟨by kernel_rfl,?_⟩|refine ansB (by omega) (by omega) ?_|refine ansB (by decide) (by decide) ?_|refine aL (by omega) ?_|refine aN (by omega) ?_|fail);conv=>whnf)))
   (repeat' first|(refine ansS (fun hh=>?_) (fun hh=>?_)<;>(try simp only [ansX] at hh)<;>first|(exfalso;first|omega|(simp [*] at hh;done)|(revert hh;decide))|exact absurd (by assumption) hh|conv=>whnf)|((first|refine kR ?_|refine aM ?_|refine aL ?_|refine aN ?_|refine aT ?_|fail);conv=>whnf))
   rw [w1,af]
   rfl
theorem a7W (t:TrackT) (hv:trkE t=0) (hc:t.count < 1099511627776) (hl0:¬t.parts.length=0) (hg:¬B9 t=true):PC Tryz.prog 218 [trk t,i64 1] (.tup [trk (advT t),.nils,i64 0]):=by
 have g:=A9.1 hv
 have sz:=P2 hv
 have c:=y9 t (by omega)
 rw [hv] at c
 have w1:IntKind.i64.wrap (t.count + 1)=t.count + 1:=w64 _ (by omega) (by omega)
 have w0:IntKind.i64.wrap (1099511627776 - 1)=1099511627775:=by decide
 have hcn:∀ x,x ∈ t.parts->0<=x.cnt/\x.cnt<=1099511627776:=fun x hx=>by have:=(g.sn x hx).2; omega
 have hf:=J8 g
 have hll:=S7 t
 have hch:∀ s,s ∈ hits t->0<=s.cnt/\s.cnt<=1099511627776:=fun s hs=>by
  obtain ⟨m,hm,e2⟩:=List.getElem_of_mem hs
  have e3:s=hitS t.belt (opnB t (t.count + 1)) (t.count + 1) (t.parts.getD m a8):=by rw [<- S8 t m (by omega),l0 hm,e2]
  rw [e3]
  exact hcn (t.parts.getD m a8) (C0 (by omega))
 have cgo:=a7R t g.bl (by omega) hcn (IntKind.i64.wrap (t.count + 1)) t.next (IntKind.i64.wrap (t.count + 1))
 have eo:opnB t (IntKind.i64.wrap (t.count + 1))=opnB t (t.count + 1):=by rw [w1]
 rw [eo] at cgo
 have csp:=a7S t.belt g.bl (IntKind.i64.wrap (t.count + 1)) t.next (hits t) hch (by omega) (fun s=>decide (s.cnt + winB t.belt t.belt.gate=t.count + 1)) (by rw [w1])
 rw [hf.1,hf.2] at csp
 rw [if_neg hg] at csp
 cases hop:opnB t (t.count + 1)
 ·rw [hop] at cgo
  have eh:hits t=t.parts:=by unfold hits; rw [hop,a7T]
  rw [eh] at csp
  refine L2 hm Tryz.func218 (by kernel_rfl) ?_
  conv=>whnf
  refine Or.inl ?_
  conv=>whnf
  (repeat' first|(refine ansS (fun hh=>?_) (fun hh=>?_)<;>(try simp only [ansX] at hh)<;>first|(exfalso;first|omega|(simp [*] at hh;done)|(revert hh;decide))|exact absurd (by assumption) hh|conv=>whnf)|((first|refine kR ?_|refine aM ?_|refine aL ?_|refine aN ?_|((try (refine Or.inl ?_;conv=>whnf));(try (refine ⟨false,?_⟩;conv=>whnf));refine ⟨_,by exact c,?_⟩)|fail);conv=>whnf))
  (refine Or.inr ⟨[ ],[ 37,1 ],by kernel_rfl,?_⟩; (conv=>whnf); refine ⟨[ ],_,_,_,_,⟨ a4P t g.bl (by omega),rfl,rfl,by kernel_rfl⟩,?_⟩)
  conv=>whnf
  refine Or.inl ?_
  conv=>whnf
  refine Or.inl ⟨2,?_⟩
  conv=>whnf
  (repeat' first|(refine ansS (fun hh=>?_) (fun hh=>?_)<;>(try simp only [ansX] at hh)<;>first|(exfalso;first|omega|(simp [*] at hh;done)|(revert hh;decide))|exact absurd (by assumption) hh|conv=>whnf)|((first|refine kR ?_|refine aM ?_|refine aL ?_|refine aN ?_|fail);conv=>whnf))
  refine Or.inr ⟨false,[37,1],_,_,_,_,⟨cgo,rfl,rfl,by kernel_rfl⟩,?_⟩
  conv=>whnf
  (repeat' first|(refine ansS (fun hh=>?_) (fun hh=>?_)<;>(try simp only [ansX] at hh)<;>first|(exfalso;first|omega|(simp [*] at hh;done)|(revert hh;decide))|exact absurd (by assumption) hh|conv=>whnf)|((first|refine kR ?_|refine aM ?_|refine aL ?_|refine aN ?_|fail);conv=>whnf))
  (refine Or.inr ⟨[ ],[ 117,118 ],by kernel_rfl,?_⟩; (conv=>whnf); refine ⟨[ 8,37,1 ],_,_,_,_,⟨ csp,rfl,rfl,by kernel_rfl⟩,?_⟩)
  conv=>whnf
  (repeat' first|(refine ansS (fun hh=>?_) (fun hh=>?_)<;>(try simp only [ansX] at hh)<;>first|(exfalso;first|omega|(simp [*] at hh;done)|(revert hh;decide))|exact absurd (by assumption) hh|conv=>whnf)|((first|refine kR ?_|refine aM ?_|refine aL ?_|refine aN ?_|fail);conv=>whnf))
  refine Or.inl ⟨1,?_⟩
  conv=>whnf
  (repeat' (first|((first|refine ansT ?_|refine ansF ?_|refine ansD (by first | decide | (simp only [List.length_cons,List.length_nil]; decide)) ?_ | refine ansN (by first | decide | (simp only [List.length_cons,List.length_nil]; decide)) ?_ | refine ansB (by first | decide | (simp only [List.length_cons,List.length_nil]; decide)) (by first | decide | (simp only [List.length_cons,List.length_nil]; decide)) ?_|fail);conv=>whnf) | (refine ansS (fun hh=>?_) (fun hh=>?_)<;>(try simp only [ansX] at hh)<;>first|(exfalso;first|omega|(simp [*] at hh;done)|(revert hh;decide))|exact absurd (by assumption) hh|conv=>whnf) | ((first|refine ⟨by kernel_rfl,?_⟩|refine ansB (by omega) (by omega) ?_|refine ansB (by decide) (by decide) ?_|refine aL (by omega) ?_|refine aN (by omega) ?_|fail);conv=>whnf)))
  (repeat' first|(refine ansS (fun hh=>?_) (fun hh=>?_)<;>(try simp only [ansX] at hh)<;>first|(exfalso;first|omega|(simp [*] at hh;done)|(revert hh;decide))|exact absurd (by assumption) hh|conv=>whnf)|((first|refine kR ?_|refine aM ?_|refine aL ?_|refine aN ?_|refine aT ?_|fail);conv=>whnf))
  repeat (refine Or.inl ?_; (conv=>whnf); (repeat' first|(refine ansS (fun hh=>?_) (fun hh=>?_)<;>(try simp only [ansX] at hh)<;>first|(exfalso;first|omega|(simp [*] at hh;done)|(revert hh;decide))|exact absurd (by assumption) hh|conv=>whnf)|((first|refine kR ?_|refine aM ?_|refine aL ?_|refine aN ?_|refine aT ?_|fail);conv=>whnf)))
  rw [w1]
  rfl
 ·rw [hop] at cgo
  have eh:upK (hitS t.belt true (t.count + 1)) a8 t.parts t.parts.length=hits t:=by unfold hits; rw [hop,a9V]
  refine L2 hm Tryz.func218 (by kernel_rfl) ?_
  conv=>whnf
  refine Or.inl ?_
  conv=>whnf
  (repeat' first|(refine ansS (fun hh=>?_) (fun hh=>?_)<;>(try simp only [ansX] at hh)<;>first|(exfalso;first|omega|(simp [*] at hh;done)|(revert hh;decide))|exact absurd (by assumption) hh|conv=>whnf)|((first|refine kR ?_|refine aM ?_|refine aL ?_|refine aN ?_|((try (refine Or.inl ?_;conv=>whnf));(try (refine ⟨false,?_⟩;conv=>whnf));refine ⟨_,by exact c,?_⟩)|fail);conv=>whnf))
  (refine Or.inr ⟨[ ],[ 37,1 ],by kernel_rfl,?_⟩; (conv=>whnf); refine ⟨[ ],_,_,_,_,⟨ a4P t g.bl (by omega),rfl,rfl,by kernel_rfl⟩,?_⟩)
  conv=>whnf
  refine Or.inl ?_
  conv=>whnf
  refine Or.inl ⟨2,?_⟩
  conv=>whnf
  (repeat' first|(refine ansS (fun hh=>?_) (fun hh=>?_)<;>(try simp only [ansX] at hh)<;>first|(exfalso;first|omega|(simp [*] at hh;done)|(revert hh;decide))|exact absurd (by assumption) hh|conv=>whnf)|((first|refine kR ?_|refine aM ?_|refine aL ?_|refine aN ?_|fail);conv=>whnf))
  refine Or.inr ⟨false,[37,1],_,_,_,_,⟨cgo,rfl,rfl,by kernel_rfl⟩,?_⟩
  conv=>whnf
  (repeat' first|(refine ansS (fun hh=>?_) (fun hh=>?_)<;>(try simp only [ansX] at hh)<;>first|(exfalso;first|omega|(simp [*] at hh;done)|(revert hh;decide))|exact absurd (by assumption) hh|conv=>whnf)|((first|refine kR ?_|refine aM ?_|refine aL ?_|refine aN ?_|fail);conv=>whnf))
  refine Or.inr ⟨Nat,[83],[1],[],fun k=>[i64 k],fun k=>[.vec 78 4 a8 u9 (upK (hitS t.belt true (t.count + 1)) a8 t.parts k)],fun _=>[],fun k=>t.parts.length - k,fun k=>k<=t.parts.length,?_⟩
  conv=>whnf
  refine ⟨⟨0,?_⟩,?_⟩
  ·(conv=>whnf)
   exact ⟨⟨Nat.zero_le _,rfl,rfl,rfl⟩,by kernel_rfl,by kernel_rfl⟩
  intro k hk
  have hul:=U6 (hitS t.belt true (t.count + 1)) a8 t.parts k
  conv=>whnf
  refine ⟨fun h => ?_,fun h => ?_⟩
  ·have h:=of_decide_eq_true h
   have hkk:k < t.parts.length:=by omega
   have hua:=a5M (hitS t.belt true (t.count + 1)) a8 t.parts k k (Nat.le_refl k)
   have hnx:upK (hitS t.belt true (t.count + 1)) a8 t.parts (k + 1)=(upK (hitS t.belt true (t.count + 1)) a8 t.parts k).set k (hitS t.belt true (t.count + 1) ((upK (hitS t.belt true (t.count + 1)) a8 t.parts k).getD k a8)):=rfl
   generalize upK (hitS t.belt true (t.count + 1)) a8 t.parts k=u at hul hua hnx
   have ch:=a6e t.belt g.bl (IntKind.i64.wrap (t.count + 1)) t.next u (u.getD k a8) (by rw [hua]; exact hcn _ (C0 hkk)) (IntKind.i64.wrap (t.count + 1))
   have hw:K8 t.belt (u.getD k a8) (IntKind.i64.wrap (t.count + 1))=K8 t.belt (u.getD k a8) (t.count + 1):=by rw [w1]
   rw [hw] at ch
   conv=>whnf
   (repeat' first|(refine ansS (fun hh=>?_) (fun hh=>?_)<;>(try simp only [ansX] at hh)<;>first|(exfalso;first|omega|(simp [*] at hh;done)|(revert hh;decide))|exact absurd (by assumption) hh|conv=>whnf)|((first|refine kR ?_|refine aM ?_|refine aL ?_|refine aN ?_|refine aT ?_|((try (refine Or.inl ?_;conv=>whnf));(try (refine ⟨false,?_⟩;conv=>whnf));refine ⟨_,by exact ch,?_⟩)|fail);conv=>whnf))
   ·have hh2:(u.getD k a8).hit=true:=hh
    refine ⟨⟨(u.getD k a8).id,(u.getD k a8).cnt,(u.getD k a8).verdict,true⟩,rfl,by omega,?_⟩
    (repeat' first|(refine ansS (fun hh=>?_) (fun hh=>?_)<;>(try simp only [ansX] at hh)<;>first|(exfalso;first|omega|(simp [*] at hh;done)|(revert hh;decide))|exact absurd (by assumption) hh|conv=>whnf)|((first|refine kR ?_|refine aM ?_|refine aL ?_|refine aN ?_|refine aT ?_|fail);conv=>whnf))
    have ey:(⟨(u.getD k a8).id,(u.getD k a8).cnt,(u.getD k a8).verdict,true⟩:SeenT)=hitS t.belt true (t.count + 1) (u.getD k a8):=by
     unfold hitS; rw [hh2]; rfl
    refine ⟨k + 1,?_⟩
    conv=>whnf
    refine ⟨⟨⟨?_,?_⟩,?_,?_,rfl⟩,by kernel_rfl,by kernel_rfl⟩
    ·show t.parts.length - (k + 1) < t.parts.length - k; omega
    ·show k + 1<=t.parts.length; omega
    ·rw [w64 _ (by omega) (by omega)]; rfl
    ·show _=[Row.vec 78 4 a8 u9 (upK (hitS t.belt true (t.count + 1)) a8 t.parts (k + 1))]
     rw [hnx,<- ey]<;>rfl
   ·have hh2:(u.getD k a8).hit=false:=hh
    refine ⟨⟨(u.getD k a8).id,(u.getD k a8).cnt,(u.getD k a8).verdict,K8 t.belt (u.getD k a8) (t.count + 1)⟩,rfl,by omega,?_⟩
    (repeat' first|(refine ansS (fun hh=>?_) (fun hh=>?_)<;>(try simp only [ansX] at hh)<;>first|(exfalso;first|omega|(simp [*] at hh;done)|(revert hh;decide))|exact absurd (by assumption) hh|conv=>whnf)|((first|refine kR ?_|refine aM ?_|refine aL ?_|refine aN ?_|refine aT ?_|fail);conv=>whnf))
    have ey:(⟨(u.getD k a8).id,(u.getD k a8).cnt,(u.getD k a8).verdict,K8 t.belt (u.getD k a8) (t.count + 1)⟩:SeenT)=hitS t.belt true (t.count + 1) (u.getD k a8):=by
     unfold hitS; rw [hh2]; rfl
    refine ⟨k + 1,?_⟩
    conv=>whnf
    refine ⟨⟨⟨?_,?_⟩,?_,?_,rfl⟩,by kernel_rfl,by kernel_rfl⟩
    ·show t.parts.length - (k + 1) < t.parts.length - k; omega
    ·show k + 1<=t.parts.length; omega
    ·rw [w64 _ (by omega) (by omega)]; rfl
    ·show _=[Row.vec 78 4 a8 u9 (upK (hitS t.belt true (t.count + 1)) a8 t.parts (k + 1))]
     rw [hnx,<- ey]<;>rfl
  ·have h:=of_decide_eq_false h
   have ek:k=t.parts.length:=by omega
   subst ek
   rw [eh]
   conv=>whnf
   (repeat' first|(refine ansS (fun hh=>?_) (fun hh=>?_)<;>(try simp only [ansX] at hh)<;>first|(exfalso;first|omega|(simp [*] at hh;done)|(revert hh;decide))|exact absurd (by assumption) hh|conv=>whnf)|((first|refine kR ?_|refine aM ?_|refine aL ?_|refine aN ?_|fail);conv=>whnf))
   (refine Or.inr ⟨[ ],[ 117,118 ],by kernel_rfl,?_⟩; (conv=>whnf); refine ⟨[ 8,37,1 ],_,_,_,_,⟨ csp,rfl,rfl,by kernel_rfl⟩,?_⟩)
   conv=>whnf
   (repeat' first|(refine ansS (fun hh=>?_) (fun hh=>?_)<;>(try simp only [ansX] at hh)<;>first|(exfalso;first|omega|(simp [*] at hh;done)|(revert hh;decide))|exact absurd (by assumption) hh|conv=>whnf)|((first|refine kR ?_|refine aM ?_|refine aL ?_|refine aN ?_|fail);conv=>whnf))
   refine Or.inl ⟨1,?_⟩
   conv=>whnf
   (repeat' (first|((first|refine ansT ?_|refine ansF ?_|refine ansD (by first | decide | (simp only [List.length_cons,List.length_nil]; decide)) ?_ | refine ansN (by first | decide | (simp only [List.length_cons,List.length_nil]; decide)) ?_ | refine ansB (by first | decide | (simp only [List.length_cons,List.length_nil]; decide)) (by first | decide | (simp only [List.length_cons,List.length_nil]; decide)) ?_|fail);conv=>whnf) | (refine ansS (fun hh=>?_) (fun hh=>?_)<;>(try simp only [ansX] at hh)<;>first|(exfalso;first|omega|(simp [*] at hh;done)|(revert hh;decide))|exact absurd (by assumption) hh|conv=>whnf) | ((first|refine ⟨by kernel_rfl,?_⟩|refine ansB (by omega) (by omega) ?_|refine ansB (by decide) (by decide) ?_|refine aL (by omega) ?_|refine aN (by omega) ?_|fail);conv=>whnf)))
   (repeat' first|(refine ansS (fun hh=>?_) (fun hh=>?_)<;>(try simp only [ansX] at hh)<;>first|(exfalso;first|omega|(simp [*] at hh;done)|(revert hh;decide))|exact absurd (by assumption) hh|conv=>whnf)|((first|refine kR ?_|refine aM ?_|refine aL ?_|refine aN ?_|refine aT ?_|fail);conv=>whnf))
   repeat (refine Or.inl ?_; (conv=>whnf); (repeat' first|(refine ansS (fun hh=>?_) (fun hh=>?_)<;>(try simp only [ansX] at hh)<;>first|(exfalso;first|omega|(simp [*] at hh;done)|(revert hh;decide))|exact absurd (by assumption) hh|conv=>whnf)|((first|refine kR ?_|refine aM ?_|refine aL ?_|refine aN ?_|refine aT ?_|fail);conv=>whnf)))
   rw [w1]
   rfl
theorem a3x (t:TrackT) (hv:trkE t=0) (hc:t.count < 1099511627776):PC Tryz.prog 218 [trk t,i64 1] (.tup [trk (advT t),a7D (advF t),i64 0]):=by
 by_cases hl0:t.parts.length=0
 ·obtain ⟨b,n,x,l⟩:=t
  have e0:l=[]:=List.eq_nil_of_length_eq_zero hl0
  subst e0
  exact a7U b n x hv hc
 ·by_cases hg:B9 t=true
  ·exact a7V t hv hc hl0 hg
  ·refine PC.sub (a7W t hv hc hl0 hg) rfl (fun i hi => .refl _) ?_
   have e:advF t=[]:=by unfold advF; rw [if_neg hg]
   rw [e]
   refine (H6 (xs:=[trk (advT t),.nils,i64 0]) (ys:=[trk (advT t),a7D [],i64 0]) rfl fun i hi => ?_).2
   match i with
   | 0=>exact .refl _
   | 1=>exact Sub.nils _ _ _
   | 2=>exact .refl _
   | (n + 3)=>exact .refl _

end Go.Proofs.Tryz.My
