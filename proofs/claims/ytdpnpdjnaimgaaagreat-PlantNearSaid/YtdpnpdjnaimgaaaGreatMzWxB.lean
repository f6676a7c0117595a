/- Helper lemmas. -/
import Derived.Test.YtdpnpdjnaimgaaaGreatMzWbX
import Derived.Test.YtdpnpdjnaimgaaaGreatMzWtB
import Derived.Test.YtdpnpdjnaimgaaaGreatEvNine
set_option linter.unusedVariables false
set_option linter.unusedSimpArgs false
set_option maxRecDepth 100000
set_option maxHeartbeats 0
namespace Go.Proofs.Tryz.My
open Go Go.Ev
abbrev UL:AV := .agg [i64 0,i64 0,i64 0,i64 0,i64 0,i64 0,.nils]
theorem dX {t:w8} (h:eT t=0):(0<=t.count/\t.count<=1099511627776)/\(0<=t.next/\t.next<=1099511627776)/\t.k9.length<=32:=by
 have b:=(cU.1 h).2
 unfold mK at b
 rw [Bool.and_eq_true] at b
 exact mJ.1 b.1
theorem Ft {α:Type} (l:List α) (d:α) (h:0 < l.length) (h2:l.length < 2 ^ 40):(0<=IntKind.i64.wrap ((l.length:Int) - 1)/\IntKind.i64.wrap ((l.length:Int) - 1) < l.length)/\l.getD (IntKind.i64.wrap ((l.length:Int) - 1)).toNat d=l.getD (l.length - 1) d:=by
 rw [C7 _ (by omega) (by omega)]
 exact ⟨⟨by omega,by omega⟩,by congr 1;omega⟩
theorem LD (t:w8) (hv:eT t=0) (hs:nY t=0):PC Tryz.prog 224 [sL t] (.tup [sL (ue t),i64 t.next,i64 0]):=by
 have sz:=dX hv
 have c:=K9 t (by omega)
 rw [hv] at c
 unfold nY at hs
 split at hs
 ·cases hs
 split at hs
 ·cases hs
 rename_i h1 h2
 have w1:IntKind.i64.wrap (t.next + 1)=t.next + 1:=C7 _ (by omega) (by omega)
 have z0:=Ft t.k9 n4
 unfold ue
 rw [<- w1]
 refine pF Tryz.func224 ?_
 conv=>whnf
 (repeat' ((first|refine aU fun hh=>?_|refine aV fun hh=>?_|refine aS (fun hh=>?_) fun hh=>?_|refine kR ?_|((try refine Or.inl ?_;conv=>whnf);(try refine ⟨false,?_⟩;conv=>whnf);refine ⟨_,by exact c,?_⟩)|fail)<;>conv=>whnf))
 ·(exfalso;have e:=(z0 (by omega) (by omega)).2;clear z0;simp only [e] at *; omega)
 ·refine ⟨⟨x7,4,n4,I1,t.k9⟩,[⟨t.next,t.count,0,false⟩],rfl,congrArg (MF.mk x7 4 n4 I1) (List.take_of_length_le (by simp)),⟨rfl,rfl⟩,?_,?_,fun y _=>⟨rfl,rfl,rfl⟩,?_⟩
  ·show (t.k9.length + 1) * 24<=_;omega
  ·show t.k9.length + 1<=_;omega
  (repeat' ((first|refine aU fun hh=>?_|refine aV fun hh=>?_|refine aS (fun hh=>?_) fun hh=>?_|refine kR ?_|fail)<;>conv=>whnf))
  try rfl
 ·refine ⟨⟨x7,4,n4,I1,t.k9⟩,[⟨t.next,t.count,0,false⟩],rfl,congrArg (MF.mk x7 4 n4 I1) (List.take_of_length_le (by simp)),⟨rfl,rfl⟩,?_,?_,fun y _=>⟨rfl,rfl,rfl⟩,?_⟩
  ·show (t.k9.length + 1) * 24<=_;omega
  ·show t.k9.length + 1<=_;omega
  (repeat' ((first|refine aU fun hh=>?_|refine aV fun hh=>?_|refine aS (fun hh=>?_) fun hh=>?_|refine kR ?_|fail)<;>conv=>whnf))
  try rfl
theorem ye (t:w8) (hv:eT t=0) (hs:¬nY t=0):PC Tryz.prog 224 [sL t] (.tup [UL,i64 0,i64 (nY t)]):=by
 have sz:=dX hv
 have c:=K9 t (by omega)
 rw [hv] at c
 have z0:=Ft t.k9 n4
 unfold nY at hs ⊢
 by_cases h0:0 < t.k9.length
 ·by_cases h1:(t.k9.getD (t.k9.length - 1) n4).cnt=t.count
  ·rw [if_pos ⟨h0,h1⟩]
   refine pF Tryz.func224 ?_
   conv=>whnf
   (repeat' ((first|refine aU fun hh=>?_|refine aV fun hh=>?_|refine aS (fun hh=>?_) fun hh=>?_|refine kR ?_|((try refine Or.inl ?_;conv=>whnf);(try refine ⟨false,?_⟩;conv=>whnf);refine ⟨_,by exact c,?_⟩)|fail)<;>conv=>whnf))
   all_goals (first|rfl|(exfalso;have e:=(z0 (by omega) (by omega)).2;clear z0;simp only [e] at *; omega))
  ·rw [if_neg (fun h=>h1 h.2)] at hs ⊢
   split at hs
   ·rename_i h2
    rw [if_pos h2]
    refine pF Tryz.func224 ?_
    conv=>whnf
    (repeat' ((first|refine aU fun hh=>?_|refine aV fun hh=>?_|refine aS (fun hh=>?_) fun hh=>?_|refine kR ?_|((try refine Or.inl ?_;conv=>whnf);(try refine ⟨false,?_⟩;conv=>whnf);refine ⟨_,by exact c,?_⟩)|fail)<;>conv=>whnf))
    all_goals (first|rfl|(exfalso;have e:=(z0 (by omega) (by omega)).2;clear z0;simp only [e] at *; omega))
   ·exact absurd rfl hs
 ·rw [if_neg (fun h=>h0 h.1)] at hs ⊢
  split at hs
  ·rename_i h2
   rw [if_pos h2]
   refine pF Tryz.func224 ?_
   conv=>whnf
   (repeat' ((first|refine aU fun hh=>?_|refine aV fun hh=>?_|refine aS (fun hh=>?_) fun hh=>?_|refine kR ?_|((try refine Or.inl ?_;conv=>whnf);(try refine ⟨false,?_⟩;conv=>whnf);refine ⟨_,by exact c,?_⟩)|fail)<;>conv=>whnf))
   all_goals rfl
  ·exact absurd rfl hs
theorem vF (l:List x7) (hl:l.length < 2 ^ 20):PW Tryz.prog 124 [U1 l] [] (.own 0) [.vec 78 4 n4 I1 l]:=by
 refine A7 hm Tryz.func124 (by kernel_rfl) ⟨by kernel_rfl,?_⟩
 conv=>whnf
 refine Or.inl ?_
 conv=>whnf
 intro b hb
 conv=>whnf
 refine ⟨fun h=>?_,fun h=>?_⟩
 ·(conv=>whnf)
  refine Or.inr ⟨by kernel_rfl,.vec 78 4 n4 I1 [],rfl,?_⟩
  conv=>whnf
  refine ⟨[2],by kernel_rfl,?_⟩
  conv=>whnf
  rw [hb h]
  exact ⟨rfl,rfl⟩
 conv=>whnf
 refine ⟨⟨x7,4,n4,I1,[]⟩,l,rfl,⟨rfl,rfl⟩,rfl,?_,?_,fun y _=>⟨rfl,rfl,rfl⟩,?_⟩
 ·show (0 + l.length) * 24<=_;omega
 ·show 0 + l.length<=_;omega
 conv=>whnf
 refine ⟨[7],by kernel_rfl,?_⟩
 conv=>whnf
 exact ⟨rfl,rfl⟩
def OG (l:List x7) (q:Int):Nat:=l.findIdx fun x=>decide (q<=x.id)
theorem Fu {l:List x7} {q:Int} {i:Nat} (hi:i<=l.length) (h1:∀ m,m < i->(l.getD m n4).id < q) (h2:i < l.length->q<=(l.getD i n4).id):OG l q=i:=by
 unfold OG
 rcases Nat.lt_trichotomy (l.findIdx fun x=>decide (q<=x.id)) i with h|h|h
 ·have hl:(l.findIdx fun x=>decide (q<=x.id)) < l.length:=by omega
  have a:=List.findIdx_getElem (p:=fun x:x7=>decide (q<=x.id)) (xs:=l) (w:=hl)
  have b:=h1 _ h
  rw [x9 hl] at b
  have a:=of_decide_eq_true a
  omega
 ·exact h
 ·have hl:i < l.length:=Nat.lt_of_lt_of_le h List.findIdx_le_length
  have a:=List.not_of_lt_findIdx h
  have b:=h2 hl
  rw [x9 hl] at b
  simp [b] at a
theorem LF {l:List x7} (h:List.Pairwise oe l) {q:Int} {i:Nat} (hi:i<=l.length) (h1:∀ m,m < i->(l.getD m n4).id < q) (h2:∀ m,i<=m->m < l.length->q<=(l.getD m n4).id):l.any (W5 q)=(decide (i < l.length) && decide ((l.getD i n4).id=q)):=by
 rw [Bool.eq_iff_iff,List.any_eq_true,Bool.and_eq_true,decide_eq_true_eq,decide_eq_true_eq]
 constructor
 ·rintro ⟨x,hm,e⟩
  obtain ⟨m,hm,e2⟩:=List.getElem_of_mem hm
  have e:=of_decide_eq_true e
  have e3:(l.getD m n4).id=q:=by rw [x9 hm,e2];exact e
  rcases Nat.lt_trichotomy m i with z|z|z
  ·have:=h1 m z;omega
  ·subst z;exact ⟨hm,e3⟩
  ·have a:(l.getD i n4).id < (l.getD m n4).id:=(aj (d:=n4) h z hm).1
   have b:=h2 i (Nat.le_refl i) (by omega)
   omega
 ·rintro ⟨a,b⟩
  exact ⟨l.getD i n4,I2 a,decide_eq_true b⟩
theorem vG {l:List x7} (h:List.Pairwise oe l) {q:Int} (ha:l.any (W5 q)=true):OG l q=l.findIdx (W5 q):=by
 have hf:=fK ha
 have e:(l.getD (l.findIdx (W5 q)) n4).id=q:=by
  have a:=List.findIdx_getElem (p:=W5 q) (xs:=l) (w:=hf)
  rw [x9 hf]
  exact of_decide_eq_true a
 refine Fu (by omega) (fun m hm=>?_) (fun _=>by omega)
 have a:(l.getD m n4).id < (l.getD (l.findIdx (W5 q)) n4).id:=(aj (d:=n4) h hm hf).1
 omega
def uj (x:x7) (q:Int):Int:=if x.id < q then -1 else if q < x.id then 1 else 0
theorem Bf (x:x7) (q:Int):PC Tryz.prog 304 [.agg (I1 x),i64 q] (i64 (uj x q)):=by
 unfold uj
 refine pF Tryz.func304 ?_
 conv=>whnf
 (repeat' ((first|refine aU fun hh=>?_|refine aV fun hh=>?_|refine aS (fun hh=>?_) fun hh=>?_|refine kR ?_|fail)<;>conv=>whnf))
 all_goals (first|(rw [if_pos (by omega)];done)|(rw [if_neg (by omega),if_pos (by omega)];done)|(rw [if_neg (by omega),if_neg (by omega)];done))
theorem Fv (l:List x7) (hs:List.Pairwise oe l) (hl:l.length < 2 ^ 39) (q:Int):PC Tryz.prog 303 [U1 l,i64 q,.fn (.func 304) [] []] (.tup [i64 (OG l q),.bool (l.any (W5 q))]):=by
 refine pF Tryz.func303 ?_
 conv=>whnf
 refine Or.inr ⟨Nat×Nat,[9,10],[],[],fun i=>[i64 i.1,i64 i.2],fun _=>[],fun _=>[],fun i=>i.2 - i.1,fun i=>i.1<=i.2/\i.2<=l.length/\(∀ m,m < i.1->(l.getD m n4).id < q)/\∀ m,i.2<=m->m < l.length->q<=(l.getD m n4).id,?_⟩
 conv=>whnf
 refine ⟨⟨(0,l.length),?_⟩,?_⟩
 ·(conv=>whnf)
  exact kK ⟨⟨Nat.zero_le _,Nat.le_refl _,fun m hm=>absurd hm (Nat.not_lt_zero m),fun m h1 h2=>absurd h2 (Nat.not_lt.2 h1)⟩,rfl,rfl,rfl⟩
 ·rintro ⟨i,j⟩ ⟨g1,g2,g3,g4⟩
  simp only [] at g1 g2 g3 g4
  conv=>whnf
  refine ⟨fun h=>?_,fun h=>?_⟩
  ·have h:=of_decide_eq_true h
   simp only [] at h
   conv=>whnf
   rw [PK i j (by omega) (by omega)]
   have e1:i<=(i + j) / 2:=by omega
   have e2:(i + j) / 2 < j:=by omega
   generalize (i + j) / 2=m at *
   have z:l.getD (Int.toNat (m:Int)) n4=l.getD m n4:=rfl
   have cx:=Bf (l.getD m n4) q
   by_cases hc:(l.getD m n4).id < q
   ·rw [show uj (l.getD m n4) q = -1 by unfold uj;rw [if_pos hc]] at cx
    (repeat' ((first|refine aU fun hh=>?_|refine aV fun hh=>?_|refine aS (fun hh=>?_) fun hh=>?_|refine kR ?_|((try refine Or.inl ?_;conv=>whnf);(try refine ⟨false,?_⟩;conv=>whnf);refine ⟨_,by exact cx,?_⟩)|fail)<;>conv=>whnf))
    refine ⟨(m + 1,j),?_⟩
    conv=>whnf
    refine kK ⟨⟨?_,by show m + 1<=j;omega,g2,?_,g4⟩,?_,rfl,rfl⟩
    ·show j - (m + 1) < j - i;omega
    ·intro p hp
     have hp:p < m + 1:=hp
     by_cases e:p=m
     ·subst e;assumption
     ·have:(l.getD p n4).id < (l.getD m n4).id:=(aj (d:=n4) hs (show p < m by omega) (by omega)).1
      omega
    ·rw [C7 _ (by omega) (by omega)];rfl
   ·have cp:0<=uj (l.getD m n4) q:=by unfold uj;rw [if_neg hc];split<;>omega
    generalize uj (l.getD m n4) q=cq at cx cp
    (repeat' ((first|refine aU fun hh=>?_|refine aV fun hh=>?_|refine aS (fun hh=>?_) fun hh=>?_|refine kR ?_|((try refine Or.inl ?_;conv=>whnf);(try refine ⟨false,?_⟩;conv=>whnf);refine ⟨_,by exact cx,?_⟩)|fail)<;>conv=>whnf))
    refine ⟨(i,m),?_⟩
    conv=>whnf
    refine kK ⟨⟨?_,e1,by show m<=l.length;omega,g3,?_⟩,rfl,rfl,rfl⟩
    ·show m - i < j - i;omega
    ·intro p h1 h2
     have h1:m<=p:=h1
     by_cases e:p=m
     ·subst e;omega
     ·have:(l.getD m n4).id < (l.getD p n4).id:=(aj (d:=n4) hs (show m < p by omega) h2).1
      omega
  ·have h:=of_decide_eq_false h
   simp only [] at h
   have e:i=j:=by omega
   subst e
   rw [LF hs g2 g3 g4,Fu g2 g3 (fun q=>g4 i (Nat.le_refl i) q)]
   have cx:=Bf (l.getD i n4) q
   have z:l.getD (Int.toNat (i:Int)) n4=l.getD i n4:=rfl
   have ci:uj (l.getD i n4) q=0↔(l.getD i n4).id=q:=by
    unfold uj
    split
    ·exact ⟨fun h=>absurd h (by decide),fun h=>by omega⟩
    ·split
     ·exact ⟨fun h=>absurd h (by decide),fun h=>by omega⟩
     ·exact ⟨fun _=>by omega,fun _=>rfl⟩
   generalize uj (l.getD i n4) q=cq at cx ci
   (repeat' ((first|refine aU fun hh=>?_|refine aV fun hh=>?_|refine aS (fun hh=>?_) fun hh=>?_|refine kR ?_|((try refine Or.inl ?_;conv=>whnf);(try refine ⟨false,?_⟩;conv=>whnf);refine ⟨_,by exact cx,?_⟩)|fail)<;>conv=>whnf))
   all_goals (refine congrArg (fun z=>AV.tup [i64 i,AV.bool z]) ?_)
   ·rw [decide_eq_true (show i < l.length by omega),Bool.true_and];exact decide_eq_decide.2 ci
   ·rw [decide_eq_false (show ¬i < l.length by omega)];rfl
theorem OH (t:w8) (hv:eT t=0) (q v:Int) (h:mN t q v=0):PC Tryz.prog 265 [sL t,i64 q,u8 v] (.tup [sL (xY t q v),i64 0]):=by
 have g:=L3.1 hv
 obtain ⟨e1,e2,e3,e4⟩:=og h
 have sz:=dX hv
 have c:=K9 t (by omega)
 rw [hv] at c
 have cb:=Fv t.k9 g.up (by omega) q
 rw [e2,vG g.up e2] at cb
 have hb:=g.bl
 have bl:=G1.1 hb
 have c2:=jd t.n8 hb
 have c3:=fO t.n8 hb t.n8.y9 bl.2.2.1.1 bl.2.2.1.2
 have wr:=bC hb bl.2.2.1.1 bl.2.2.1.2
 have hf:=fK e2
 have LG:=g.sn _ (I2 (d:=n4) hf)
 unfold xY
 generalize t.k9.findIdx (W5 q)=k at *
 have z:t.k9.getD (Int.toNat (k:Int)) n4=t.k9.getD k n4:=rfl
 have w1:IntKind.i64.wrap ((t.k9.getD (Int.toNat (k:Int)) n4).cnt + V4 t.n8 t.n8.y9)=(t.k9.getD k n4).cnt + V4 t.n8 t.n8.y9:=by
  rw [z,C7 _ (by have:=LG.2;omega) (by have:=LG.2;omega)]
 refine pF Tryz.func265 ?_
 conv=>whnf
 (repeat' ((first|refine aU fun hh=>?_|refine aV fun hh=>?_|refine aS (fun hh=>?_) fun hh=>?_|refine kR ?_|((try refine Or.inl ?_;conv=>whnf);(try refine ⟨false,?_⟩;conv=>whnf);refine ⟨_,by first|exact c|exact cb|exact c2|exact c3,?_⟩)|fail)<;>conv=>whnf))
 (refine Or.inr ⟨[],[69],by kernel_rfl,?_⟩;(conv=>whnf);refine ⟨[],_,_,_,_,⟨vF t.k9 (by omega),rfl,rfl,by kernel_rfl⟩,?_⟩)
 conv=>whnf
 (repeat' ((first|refine aU fun hh=>?_|refine aV fun hh=>?_|refine aS (fun hh=>?_) fun hh=>?_|refine kR ?_|fail)<;>conv=>whnf))
 refine ⟨Ru (t.k9.getD k n4) v,rfl,hf,?_⟩
 (repeat' ((first|refine aU fun hh=>?_|refine aV fun hh=>?_|refine aS (fun hh=>?_) fun hh=>?_|refine kR ?_|fail)<;>conv=>whnf))
 try rfl
theorem Bg (t:w8) (hv:eT t=0) (q v:Int) (h:¬mN t q v=0):PC Tryz.prog 265 [sL t,i64 q,u8 v] (.tup [UL,i64 (mN t q v)]):=by
 have g:=L3.1 hv
 have sz:=dX hv
 have c:=K9 t (by omega)
 rw [hv] at c
 have cb:=Fv t.k9 g.up (by omega) q
 have hb:=g.bl
 have bl:=G1.1 hb
 have c2:=jd t.n8 hb
 have c3:=fO t.n8 hb t.n8.y9 bl.2.2.1.1 bl.2.2.1.2
 have wr:=bC hb bl.2.2.1.1 bl.2.2.1.2
 unfold mN at h ⊢
 by_cases h1:v < 1∨3 < v
 ·rw [if_pos h1]
  refine pF Tryz.func265 ?_
  conv=>whnf
  (repeat' ((first|refine aU fun hh=>?_|refine aV fun hh=>?_|refine aS (fun hh=>?_) fun hh=>?_|refine kR ?_|((try refine Or.inl ?_;conv=>whnf);(try refine ⟨false,?_⟩;conv=>whnf);refine ⟨_,by first|exact c|exact cb|exact c2|exact c3,?_⟩)|fail)<;>conv=>whnf))
  all_goals rfl
 rw [if_neg h1] at h ⊢
 by_cases e2:t.k9.any (W5 q)=true
 ·rw [if_neg (fun f=>f e2)] at h ⊢
  rw [e2,vG g.up e2] at cb
  have hf:=fK e2
  have LG:=g.sn _ (I2 (d:=n4) hf)
  generalize t.k9.findIdx (W5 q)=k at *
  have z:t.k9.getD (Int.toNat (k:Int)) n4=t.k9.getD k n4:=rfl
  have w1:IntKind.i64.wrap ((t.k9.getD (Int.toNat (k:Int)) n4).cnt + V4 t.n8 t.n8.y9)=(t.k9.getD k n4).cnt + V4 t.n8 t.n8.y9:=by
   rw [z,C7 _ (by have:=LG.2;omega) (by have:=LG.2;omega)]
  split at h
  ·rename_i h3
   rw [if_pos h3]
   refine pF Tryz.func265 ?_
   conv=>whnf
   (repeat' ((first|refine aU fun hh=>?_|refine aV fun hh=>?_|refine aS (fun hh=>?_) fun hh=>?_|refine kR ?_|((try refine Or.inl ?_;conv=>whnf);(try refine ⟨false,?_⟩;conv=>whnf);refine ⟨_,by first|exact c|exact cb|exact c2|exact c3,?_⟩)|fail)<;>conv=>whnf))
   all_goals (first|rfl|(exfalso;rw [z] at *; omega))
  ·exact absurd rfl h
 ·rw [if_pos e2] at h ⊢
  have e2:t.k9.any (W5 q)=false:=by simpa using e2
  rw [e2] at cb
  refine pF Tryz.func265 ?_
  conv=>whnf
  (repeat' ((first|refine aU fun hh=>?_|refine aV fun hh=>?_|refine aS (fun hh=>?_) fun hh=>?_|refine kR ?_|((try refine Or.inl ?_;conv=>whnf);(try refine ⟨false,?_⟩;conv=>whnf);refine ⟨_,by first|exact c|exact cb|exact c2|exact c3,?_⟩)|fail)<;>conv=>whnf))
  all_goals rfl
theorem LH {b:G3} (hb:O2 b=true) {x:x7} (hx:0<=x.cnt/\x.cnt<=1099511627776):IntKind.i64.wrap (x.cnt + V4 b b.y9)=x.cnt + V4 b b.y9/\IntKind.i64.wrap (x.cnt + N7 b b.y9)=x.cnt + N7 b b.y9:=by
 have bl:=G1.1 hb
 have wr:=bC hb bl.2.2.1.1 bl.2.2.1.2
 exact ⟨C7 _ (by omega) (by omega),C7 _ (by omega) (by omega)⟩
theorem LI {l:List x7} {p:x7->Bool} (h:∀ j,j < l.length->p (l.getD j n4)=false):l.any p=false:=by
 rw [<- Bool.not_eq_true,List.any_eq_true]
 rintro ⟨x,hx,e⟩
 obtain ⟨m,hm,e2⟩:=List.getElem_of_mem hx
 have:=h m hm
 rw [x9 hm,e2,e] at this
 cases this
def Fw (b:G3) (n x:Int) (p:AV):List AV:=[i64 b.step,i64 b.A0,i64 b.y9,i64 b.len,i64 n,i64 x,p,i64 (V4 b b.y9),i64 (N7 b b.y9)]
abbrev OI (b:G3) (c x:Int) (p:AV):AV := .pt (Fw b c x p) 0
theorem yf (b:G3) (hb:O2 b=true) (c x:Int) (l:List x7) (s:x7) (hs:0<=s.cnt/\s.cnt<=1099511627776) (n:Int):PC Tryz.prog 268 [OI b c x (U1 l),.agg (I1 s),i64 n] (.bool (aG b s n)):=by
 have w:=LH hb hs
 have e:aG b s n=(decide (IntKind.i64.wrap (s.cnt + V4 b b.y9)<=n) && decide (n<=IntKind.i64.wrap (s.cnt + N7 b b.y9))):=by rw [w.1,w.2];rfl
 rw [e]
 refine pF Tryz.func268 ?_
 conv=>whnf
 (repeat' ((first|refine aU fun hh=>?_|refine aV fun hh=>?_|refine aS (fun hh=>?_) fun hh=>?_|refine kR ?_|fail)<;>conv=>whnf))
 all_goals (first|(refine congrArg AV.bool (Bool.eq_iff_iff.2 ?_);simp only [Bool.and_eq_true,Bool.or_eq_true,Bool.not_eq_true',decide_eq_true_eq,decide_eq_false_iff_not,Bool.false_eq_true,iff_false,iff_true,true_iff,false_iff,reduceCtorEq,not_true_eq_false,not_false_eq_true];omega))
theorem HZ (b:G3) (hb:O2 b=true) (c x:Int) (l:List x7) (s:x7) (hs:0<=s.cnt/\s.cnt<=1099511627776) (n:Int):PC Tryz.prog 306 [.agg (I1 s),.pt [OI b c x (U1 l)] 0,.pt [i64 n] 0] (.bool (!decide (s.o6=1) && aG b s n)):=by
 have ch:=yf b hb c x l s hs n
 refine pF Tryz.func306 ?_
 conv=>whnf
 by_cases h:s.o6=1
 ·rw [decide_eq_true h]
  (repeat' ((first|refine aU fun hh=>?_|refine aV fun hh=>?_|refine aS (fun hh=>?_) fun hh=>?_|refine kR ?_|((try refine Or.inl ?_;conv=>whnf);(try refine ⟨false,?_⟩;conv=>whnf);refine ⟨_,by exact ch,?_⟩)|fail)<;>conv=>whnf))
  all_goals rfl
 ·rw [decide_eq_false h]
  (repeat' ((first|refine aU fun hh=>?_|refine aV fun hh=>?_|refine aS (fun hh=>?_) fun hh=>?_|refine kR ?_|((try refine Or.inl ?_;conv=>whnf);(try refine ⟨false,?_⟩;conv=>whnf);refine ⟨_,by exact ch,?_⟩)|fail)<;>conv=>whnf))
  all_goals rfl
def Tf (p:x7->Bool) (l:List x7):Int:=if l.any p=true then (l.findIdx p:Nat) else -1
theorem DP (b:G3) (c x n:Int) (q:List x7) (p:x7->Bool) (l:List x7) (hp:∀ s,s ∈ l->PC Tryz.prog 306 (.agg (I1 s) :: [.pt [OI b c x (U1 q)] 0,.pt [i64 n] 0]) (.bool (p s))) (hl:l.length < 2 ^ 20):PC Tryz.prog 323 [U1 l,.fn (.func 306) [] [.pt [OI b c x (U1 q)] 0,.pt [i64 n] 0]] (i64 (Tf p l)):=by
 refine pF Tryz.func323 ?_
 conv=>whnf
 refine Or.inr ⟨Nat,[8],[],[],fun k=>[i64 k],fun _=>[],fun _=>[],fun k=>l.length - k,fun k=>k<=l.length/\∀ m,m < k->p (l.getD m n4)=false,?_⟩
 conv=>whnf
 refine ⟨⟨0,?_⟩,?_⟩
 ·(conv=>whnf)
  exact kK ⟨⟨Nat.zero_le _,fun i hi=>absurd hi (Nat.not_lt_zero i)⟩,rfl,rfl,rfl⟩
 rintro k ⟨hk,hn⟩
 conv=>whnf
 refine ⟨fun h=>?_,fun h=>?_⟩
 ·have h:=of_decide_eq_true h
  have L7:k < l.length:=by omega
  have c1:=hp _ (I2 (d:=n4) L7)
  conv=>whnf
  refine ⟨⟨by omega,by omega⟩,?_⟩
  conv=>whnf
  rw [show Int.toNat (k:Int)=k from rfl]
  (repeat' (first|(refine ⟨_,by exact c1,?_⟩;(conv=>whnf))|(refine Or.inl ?_;(conv=>whnf);refine ⟨_,by exact c1,?_⟩;(conv=>whnf))|(refine Or.inl ?_;(conv=>whnf);refine ⟨false,?_⟩;(conv=>whnf);refine ⟨_,by exact c1,?_⟩;(conv=>whnf))|(refine ⟨by kernel_rfl,?_⟩;(conv=>whnf))|fail))
  refine ⟨fun q1=>?_,fun q1=>?_⟩
  ·(conv=>whnf)
   refine congrArg i64 ?_
   have ha:l.any p=true:=List.any_eq_true.2 ⟨_,I2 L7,q1⟩
   unfold Tf
   rw [if_pos ha]
   have e:l.findIdx p=k:=by
    rcases Nat.lt_trichotomy (l.findIdx p) k with z|z|z
    ·have a:=List.findIdx_getElem (p:=p) (xs:=l) (w:=by omega)
     rw [<- x9 (d:=n4),hn _ z] at a
     cases a
    ·exact z
    ·have b:=List.not_of_lt_findIdx z
     rw [<- x9 (d:=n4),q1] at b
     simp at b
   rw [e]
  ·refine ⟨k + 1,?_⟩
   conv=>whnf
   refine kK ⟨⟨?_,?_,fun j hj=>?_⟩,?_,rfl,rfl⟩
   ·show l.length - (k + 1) < l.length - k;omega
   ·show k + 1<=l.length;omega
   ·by_cases z:j=k
    ·subst z;exact q1
    ·exact hn j (by have hj:j < k + 1:=hj;omega)
   ·rw [C7 _ (by omega) (by omega)];rfl
 ·have h:=of_decide_eq_false h
  have ek:k=l.length:=by omega
  rw [ek] at hn
  conv=>whnf
  unfold Tf
  rw [if_neg (by rw [LI hn];decide)]
theorem OJ (p:x7->Bool) (l:List x7):decide (0<=Tf p l)=l.any p:=by
 unfold Tf
 cases h:l.any p
 ·rfl
 ·rw [if_pos rfl];exact decide_eq_true (by omega)
theorem Sj (b:G3) (c x n:Int) (q:List x7) (p:x7->Bool) (l:List x7) (hp:∀ s,s ∈ l->PC Tryz.prog 306 (.agg (I1 s) :: [.pt [OI b c x (U1 q)] 0,.pt [i64 n] 0]) (.bool (p s))) (hl:l.length < 2 ^ 20):PC Tryz.prog 305 [U1 l,.fn (.func 306) [] [.pt [OI b c x (U1 q)] 0,.pt [i64 n] 0]] (.bool (l.any p)):=by
 refine pF Tryz.func305 ?_
 conv=>whnf
 (repeat' (first|(refine ⟨_,by exact DP b c x n q p l hp hl,?_⟩;(conv=>whnf))|(refine Or.inl ?_;(conv=>whnf);refine ⟨_,by exact DP b c x n q p l hp hl,?_⟩;(conv=>whnf))|(refine Or.inl ?_;(conv=>whnf);refine ⟨false,?_⟩;(conv=>whnf);refine ⟨_,by exact DP b c x n q p l hp hl,?_⟩;(conv=>whnf))|(refine ⟨by kernel_rfl,?_⟩;(conv=>whnf))|fail))
 show AV.bool (decide (0<=Tf p l))=_
 rw [OJ]
theorem Bh (t:w8) (hb:O2 t.n8=true) (hl:t.k9.length < 2 ^ 20) (hp:∀ x,x ∈ t.k9->0<=x.cnt/\x.cnt<=1099511627776) (c x n:Int):PC Tryz.prog 267 [OI t.n8 c x (U1 t.k9),i64 n] (.bool (cH t n)):=by
 have c1:=Sj t.n8 c x n t.k9 (fun x => !decide (x.o6=1) && aG t.n8 x n) t.k9 (fun s hs=>HZ t.n8 hb c x t.k9 s (hp s hs) n) hl
 refine pF Tryz.func267 ?_
 conv=>whnf
 (repeat' ((first|refine aU fun hh=>?_|refine aV fun hh=>?_|refine aS (fun hh=>?_) fun hh=>?_|refine kR ?_|((try refine Or.inl ?_;conv=>whnf);(try refine ⟨false,?_⟩;conv=>whnf);refine ⟨_,by exact c1,?_⟩)|fail)<;>conv=>whnf))
 all_goals rfl
theorem vH (t:w8) (hb:O2 t.n8=true) (hl:t.k9.length < 2 ^ 20):PW Tryz.prog 266 [sL t] [] (.ptr 0 0 0 0) [.cells 334 (Fw t.n8 t.count t.next (.own 1)),.vec 78 4 n4 I1 t.k9]:=by
 have bl:=G1.1 hb
 have c2:=jd t.n8 hb
 have c3:=fO t.n8 hb t.n8.y9 bl.2.2.1.1 bl.2.2.1.2
 refine pW Tryz.func266 ⟨by kernel_rfl,?_⟩
 conv=>whnf
 (refine Or.inr ⟨[],[7],by kernel_rfl,?_⟩;(conv=>whnf);refine ⟨[],_,_,_,_,⟨vF t.k9 (by omega),rfl,rfl,by kernel_rfl⟩,?_⟩)
 conv=>whnf
 (repeat' ((first|refine aU fun hh=>?_|refine aV fun hh=>?_|refine aS (fun hh=>?_) fun hh=>?_|refine kR ?_|((try refine Or.inl ?_;conv=>whnf);(try refine ⟨false,?_⟩;conv=>whnf);refine ⟨_,by first|exact c2|exact c3,?_⟩)|fail)<;>conv=>whnf))
 refine ⟨[23,7],by kernel_rfl,?_⟩
 conv=>whnf
 exact ⟨rfl,rfl⟩
theorem UM (t:w8) (hb:O2 t.n8=true) (hl:t.k9.length < 2 ^ 20):PC Tryz.prog 266 [sL t] (OI t.n8 t.count t.next (U1 t.k9)):=(vH t hb hl).toPC 6 (by kernel_rfl)
theorem Fx (t:w8) (hv:eT t=0):PC Tryz.prog 217 [sL t] (.tup [.bool (cH t (t.count + 1)),i64 0]):=by
 have g:=L3.1 hv
 have sz:=dX hv
 have c:=K9 t (by omega)
 rw [hv] at c
 have w1:IntKind.i64.wrap (t.count + 1)=t.count + 1:=C7 _ (by omega) (by omega)
 have c2:=Bh t g.bl (by omega) (fun x hx=>by have:=(g.sn x hx).2;omega) t.count t.next (IntKind.i64.wrap (t.count + 1))
 refine pF Tryz.func217 ?_
 conv=>whnf
 (repeat' ((first|refine aU fun hh=>?_|refine aV fun hh=>?_|refine aS (fun hh=>?_) fun hh=>?_|refine kR ?_|((try refine Or.inl ?_;conv=>whnf);(try refine ⟨false,?_⟩;conv=>whnf);refine ⟨_,by first|exact c|exact UM t g.bl (by omega)|exact c2,?_⟩)|fail)<;>conv=>whnf))
 all_goals (first|(rw [w1];done))
theorem OK (b:G3) (hb:O2 b=true) (c x:Int) (l:List x7) (s:x7) (hs:0<=s.cnt/\s.cnt<=1099511627776):PC Tryz.prog 270 [.agg (I1 s),.pt [OI b c x (U1 l)] 0] (.bool (decide (s.cnt + N7 b b.y9=c))):=by
 have w:=LH hb hs
 rw [<- w.2]
 refine pF Tryz.func270 ?_
 conv=>whnf
 (repeat' ((first|refine aU fun hh=>?_|refine aV fun hh=>?_|refine aS (fun hh=>?_) fun hh=>?_|refine kR ?_|fail)<;>conv=>whnf))
 all_goals rfl
theorem vI {l:List x7} {k:Nat} (hk:k < l.length):l.take (k + 1)=l.take k++[l.getD k n4]:=by
 rw [List.take_add_one,List.getElem?_eq_getElem hk,x9 hk]
 rfl
theorem sX (p:x7->Bool) (l:List x7) (k:Nat):((l.take k).filter p).length<=k:=Nat.le_trans (List.length_filter_le _ _) (by rw [List.length_take];omega)
theorem DQ {p:x7->Bool} {l:List x7} {k:Nat} (hk:k < l.length) (h:p (l.getD k n4)=true):(l.take (k + 1)).filter p=(l.take k).filter p++[l.getD k n4]/\(l.take (k + 1)).filter (fun x => !p x)=(l.take k).filter (fun x => !p x):=by
 rw [vI hk,List.filter_append,List.filter_append]
 simp only [List.filter_cons,List.filter_nil,h,if_true,Bool.not_true,Bool.false_eq_true,if_false,List.append_nil,and_self]
theorem Ia {p:x7->Bool} {l:List x7} {k:Nat} (hk:k < l.length) (h:p (l.getD k n4)=false):(l.take (k + 1)).filter (fun x => !p x)=(l.take k).filter (fun x => !p x)++[l.getD k n4]/\(l.take (k + 1)).filter p=(l.take k).filter p:=by
 rw [vI hk,List.filter_append,List.filter_append]
 simp only [List.filter_cons,List.filter_nil,h,if_true,Bool.not_false,Bool.false_eq_true,if_false,List.append_nil,and_self]
def UN (b:G3) (c x:Int) (l:List x7):List Row:=[.cells 334 (Fw b c x (.own 1)),.vec 78 4 n4 I1 l]
def Bi (b:G3) (c x:Int) (l:List x7):List Row:=[.cells 331 [.ptr 1 0 0 0],.cells 334 (Fw b c x (.own 2)),.vec 78 4 n4 I1 l]
theorem Bj (t:w8) (hb:O2 t.n8=true) (hl:t.k9.length < 2 ^ 20) (hp:∀ x,x ∈ t.k9->0<=x.cnt/\x.cnt<=1099511627776) (c x n:Int):PW Tryz.prog 267 [.ptr 0 0 0 0,i64 n] (UN t.n8 c x t.k9) (.bool (cH t n)) (UN t.n8 c x t.k9) :=
 (Bh t hb hl hp c x n).toPWk Tryz.func267 (by kernel_rfl) rfl (by kernel_rfl) (rC _) rfl
theorem OL (b:G3) (hb:O2 b=true) (c x:Int) (l:List x7) (s:x7) (hs:0<=s.cnt/\s.cnt<=1099511627776):PW Tryz.prog 270 [.agg (I1 s),.ptr 0 0 0 0] (Bi b c x l) (.bool (decide (s.cnt + N7 b b.y9=c))) (Bi b c x l) :=
 (OK b hb c x l s hs).toPWk Tryz.func270 (by kernel_rfl) rfl (by kernel_rfl) (rC _) rfl
theorem Bk (b:G3) (hb:O2 b=true) (c x:Int) (l:List x7) (hp:∀ s,s ∈ l->0<=s.cnt/\s.cnt<=1099511627776) (hl:l.length < 2 ^ 20) (p:x7->Bool) (hpp:p=fun s=>decide (s.cnt + N7 b b.y9=c)):PW Tryz.prog 269 [.own 2,.fn (.func 270) [] [.ptr 0 0 0 0]] (Bi b c x l) (.tup [.own 3,.own 4]) (Bi b c x l++[.vec 78 4 n4 I1 (l.filter p),.vec 78 4 n4 I1 (l.filter fun x => !p x)]):=by
 unfold Bi
 refine pW Tryz.func269 ⟨by kernel_rfl,?_⟩
 conv=>whnf
 refine Or.inr ⟨Nat,[10],[],[(4,⟨x7,78,4,n4,I1⟩),(5,⟨x7,78,4,n4,I1⟩)],fun k=>[i64 k],fun _=>[],fun k=>[.vec 78 4 n4 I1 ((l.take k).filter p),.vec 78 4 n4 I1 ((l.take k).filter fun x => !p x)],fun k=>l.length - k,fun k=>k<=l.length,?_⟩
 conv=>whnf
 refine ⟨⟨0,?_⟩,?_⟩
 ·(conv=>whnf)
  exact kK ⟨Nat.zero_le _,rfl,rfl,rfl⟩
 intro k hk
 conv=>whnf
 refine ⟨fun h=>?_,fun h=>?_⟩
 ·have h:=of_decide_eq_true h
  have L7:k < l.length:=by omega
  have c1:=OL b hb c x l (l.getD k n4) (hp _ (I2 (d:=n4) L7))
  have l1:=sX p l k
  have l2:=sX (fun x => !p x) l k
  have hpx:decide ((l.getD k n4).cnt + N7 b b.y9=c)=p (l.getD k n4):=by rw [hpp]
  rw [hpx] at c1
  cases VE:p (l.getD k n4)
  ·have sg:=Ia L7 VE
   rw [VE] at c1
   conv=>whnf
   (repeat' ((first|refine aU fun hh=>?_|refine aV fun hh=>?_|refine aS (fun hh=>?_) fun hh=>?_|refine kT ?_|fail)<;>conv=>whnf))
   (refine Or.inr ⟨[],[],by kernel_rfl,?_⟩;(conv=>whnf);refine ⟨[28,29,30],_,_,_,_,⟨c1,rfl,rfl,by kernel_rfl⟩,?_⟩)
   conv=>whnf
   (repeat' ((first|refine aU fun hh=>?_|refine aV fun hh=>?_|refine aS (fun hh=>?_) fun hh=>?_|refine kT ?_|fail)<;>conv=>whnf))
   refine ⟨⟨x7,4,n4,I1,(l.take k).filter fun x => !p x⟩,[l.getD k n4],rfl,rfl,⟨rfl,rfl⟩,?_,?_,fun y _=>⟨rfl,rfl,rfl⟩,?_⟩
   ·show (((l.take k).filter fun x => !p x).length + 1) * 24<=_;omega
   ·show ((l.take k).filter fun x => !p x).length + 1<=_;omega
   (repeat' ((first|refine aU fun hh=>?_|refine aV fun hh=>?_|refine aS (fun hh=>?_) fun hh=>?_|refine kT ?_|fail)<;>conv=>whnf))
   refine ⟨k + 1,?_⟩
   conv=>whnf
   refine kK ⟨⟨?_,?_⟩,?_,rfl,?_⟩
   ·show l.length - (k + 1) < l.length - k;omega
   ·show k + 1<=l.length;omega
   ·rw [C7 _ (by omega) (by omega)];rfl
   ·show _=[Row.vec 78 4 n4 I1 ((l.take (k + 1)).filter p),Row.vec 78 4 n4 I1 ((l.take (k + 1)).filter fun x => !p x)]
    rw [sg.1,sg.2]<;>rfl
  ·have sg:=DQ L7 VE
   rw [VE] at c1
   conv=>whnf
   (repeat' ((first|refine aU fun hh=>?_|refine aV fun hh=>?_|refine aS (fun hh=>?_) fun hh=>?_|refine kT ?_|fail)<;>conv=>whnf))
   (refine Or.inr ⟨[],[],by kernel_rfl,?_⟩;(conv=>whnf);refine ⟨[28,29,30],_,_,_,_,⟨c1,rfl,rfl,by kernel_rfl⟩,?_⟩)
   conv=>whnf
   (repeat' ((first|refine aU fun hh=>?_|refine aV fun hh=>?_|refine aS (fun hh=>?_) fun hh=>?_|refine kT ?_|fail)<;>conv=>whnf))
   refine ⟨⟨x7,4,n4,I1,(l.take k).filter p⟩,[l.getD k n4],rfl,rfl,⟨rfl,rfl⟩,?_,?_,fun y _=>⟨rfl,rfl,rfl⟩,?_⟩
   ·show (((l.take k).filter p).length + 1) * 24<=_;omega
   ·show ((l.take k).filter p).length + 1<=_;omega
   (repeat' ((first|refine aU fun hh=>?_|refine aV fun hh=>?_|refine aS (fun hh=>?_) fun hh=>?_|refine kT ?_|fail)<;>conv=>whnf))
   refine ⟨k + 1,?_⟩
   conv=>whnf
   refine kK ⟨⟨?_,?_⟩,?_,rfl,?_⟩
   ·show l.length - (k + 1) < l.length - k;omega
   ·show k + 1<=l.length;omega
   ·rw [C7 _ (by omega) (by omega)];rfl
   ·show _=[Row.vec 78 4 n4 I1 ((l.take (k + 1)).filter p),Row.vec 78 4 n4 I1 ((l.take (k + 1)).filter fun x => !p x)]
    rw [sg.1,sg.2]<;>rfl
 ·have h:=of_decide_eq_false h
  have ek:l.take k=l:=List.take_of_length_le (by omega)
  rw [ek]
  conv=>whnf
  (repeat' ((first|refine aU fun hh=>?_|refine aV fun hh=>?_|refine aS (fun hh=>?_) fun hh=>?_|refine kT ?_|fail)<;>conv=>whnf))
  refine ⟨[4,5],by kernel_rfl,?_⟩
  conv=>whnf
  exact ⟨rfl,rfl⟩
theorem vJ {α:Type} (f:α->α) (d:α) (l:List α):∀ k i,i < k->i < l.length->(pK f d l k).getD i d=f (l.getD i d)
 | 0,_,h,_=>absurd h (Nat.not_lt_zero _)
 | k + 1,i,h,hl=>by
  show ((pK f d l k).set k _).getD i d=_
  by_cases e:i=k
  ·subst e
   rw [V3 (by rw [gI];exact hl),xB f d l i i (Nat.le_refl i)]
  ·rw [List.getD,List.getElem?_set_ne (by omega)]
   exact vJ f d l k i (by omega) hl
theorem Fy {α:Type} (f:α->α) (d:α) (l:List α):pK f d l l.length=l.map f:=by
 apply List.ext_getElem?
 intro i
 by_cases h:i < l.length
 ·have e:=vJ f d l l.length i h h
  rw [List.getElem?_map,List.getElem?_eq_getElem h,List.getElem?_eq_getElem (by rw [gI];exact h)]
  rw [List.getD,List.getD,List.getElem?_eq_getElem h,List.getElem?_eq_getElem (by rw [gI];exact h)] at e
  simp only [Option.getD_some] at e
  rw [e];rfl
 ·rw [List.getElem?_eq_none (by rw [gI];omega),List.getElem?_eq_none (by rw [List.length_map];omega)]
theorem Bl (b:G3) (n:Int) (l:List x7):l.map (S9 b false n)=l:=by
 have e:∀ x:x7,S9 b false n x=x:=fun x=>by unfold S9;simp
 rw [show S9 b false n=id from funext e,List.map_id]
theorem Fz (b:G3) (n x:Int):gP ⟨b,n,x,[]⟩=⟨b,n + 1,x,[]⟩/\nX ⟨b,n,x,[]⟩=[]:=by
 have e:N2 ⟨b,n,x,[]⟩=false:=decide_eq_false fun h=>absurd h.1 (Nat.lt_irrefl 0)
 unfold gP nX
 rw [e]
 exact ⟨rfl,rfl⟩
theorem Bm (b:G3) (n x:Int) (hv:eT ⟨b,n,x,[]⟩=0) (hc:n < 1099511627776):PC Tryz.prog 218 [sL ⟨b,n,x,[]⟩,i64 1] (.tup [sL (gP ⟨b,n,x,[]⟩),AH (nX ⟨b,n,x,[]⟩),i64 0]):=by
 have g:=L3.1 hv
 have sz:=dX hv
 have c:=K9 ⟨b,n,x,[]⟩ (show 0 < 2 ^ 40 by decide)
 rw [hv] at c
 have sz:=sz.1
 simp only at sz
 have w1:IntKind.i64.wrap (n + 1)=n + 1:=C7 _ (by omega) (by omega)
 have w0:IntKind.i64.wrap (1099511627776 - 1)=1099511627775:=by decide
 rw [(Fz b n x).1,(Fz b n x).2,<- w1]
 refine PC.sub (res := .tup [sL ⟨b,IntKind.i64.wrap (n + 1),x,[]⟩,.nils,i64 0]) ?_ rfl (fun i hi => .refl _) ?_
 ·refine pF Tryz.func218 ?_
  conv=>whnf
  (repeat' ((first|refine aU fun hh=>?_|refine aV fun hh=>?_|refine aS (fun hh=>?_) fun hh=>?_|refine kR ?_|((try refine Or.inl ?_;conv=>whnf);(try refine ⟨false,?_⟩;conv=>whnf);refine ⟨_,by exact c,?_⟩)|fail)<;>conv=>whnf))
  (refine Or.inr ⟨[],[37,1],by kernel_rfl,?_⟩;(conv=>whnf);refine ⟨[],_,_,_,_,⟨vH _ g.bl (show 0 < 2 ^ 20 by decide),rfl,rfl,by kernel_rfl⟩,?_⟩)
  conv=>whnf
  refine Or.inl ⟨2,?_⟩
  conv=>whnf
  (repeat' ((first|refine aU fun hh=>?_|refine aV fun hh=>?_|refine aS (fun hh=>?_) fun hh=>?_|refine kR ?_|fail)<;>conv=>whnf))
  all_goals rfl
 ·refine (Y0 (xs:=[sL ⟨b,IntKind.i64.wrap (n + 1),x,[]⟩,.nils,i64 0]) (ys:=[sL ⟨b,IntKind.i64.wrap (n + 1),x,[]⟩,AH [],i64 0]) rfl fun i hi=>?_).2
  match i with
  | 0=>exact .refl _
  | 1=>exact pV.nils _ _ _
  | 2=>exact .refl _
  | (n + 3)=>exact .refl _
theorem Bn (t:w8) (hv:eT t=0) (hc:t.count < 1099511627776) (dC:¬t.k9.length=0) (hg:N2 t=true):PC Tryz.prog 218 [sL t,i64 1] (.tup [sL (gP t),AH (nX t),i64 0]):=by
 have g:=L3.1 hv
 have sz:=dX hv
 have c:=K9 t (by omega)
 rw [hv] at c
 have w1:IntKind.i64.wrap (t.count + 1)=t.count + 1:=C7 _ (by omega) (by omega)
 have w0:IntKind.i64.wrap (1099511627776 - 1)=1099511627775:=by decide
 have Sk:∀ x,x ∈ t.k9->0<=x.cnt/\x.cnt<=1099511627776:=fun x hx=>by have:=(g.sn x hx).2;omega
 have hf:=bZ g
 have Pv:=fN t
 have Qt:∀ s,s ∈ hits t->0<=s.cnt/\s.cnt<=1099511627776:=fun s hs=>by
  obtain ⟨m,hm,e2⟩:=List.getElem_of_mem hs
  have e3:s=S9 t.n8 (cH t (t.count + 1)) (t.count + 1) (t.k9.getD m n4):=by rw [<- bI t m (by omega),x9 hm,e2]
  rw [e3]
  exact Sk (t.k9.getD m n4) (I2 (by omega))
 have LJ:=Bj t g.bl (by omega) Sk (IntKind.i64.wrap (t.count + 1)) t.next (IntKind.i64.wrap (t.count + 1))
 have eo:cH t (IntKind.i64.wrap (t.count + 1))=cH t (t.count + 1):=by rw [w1]
 rw [eo] at LJ
 have LK:=Bk t.n8 g.bl (IntKind.i64.wrap (t.count + 1)) t.next (hits t) Qt (by omega) (fun s=>decide (s.cnt + N7 t.n8 t.n8.y9=t.count + 1)) (by rw [w1])
 rw [hf.1,hf.2] at LK
 rw [if_pos hg] at LK
 have af:nX t=[ja ((hits t).getD 0 n4)]:=by unfold nX;rw [if_pos hg]
 cases lp:cH t (t.count + 1)
 ·rw [lp] at LJ
  have eh:hits t=t.k9:=by unfold hits;rw [lp,Bl]
  rw [eh] at LK
  rw [eh] at af
  refine cN hm Tryz.func218 (by kernel_rfl) ?_
  conv=>whnf
  refine Or.inl ?_
  conv=>whnf
  (repeat' ((first|refine aU fun hh=>?_|refine aV fun hh=>?_|refine aS (fun hh=>?_) fun hh=>?_|refine kR ?_|((try refine Or.inl ?_;conv=>whnf);(try refine ⟨false,?_⟩;conv=>whnf);refine ⟨_,by exact c,?_⟩)|fail)<;>conv=>whnf))
  (refine Or.inr ⟨[],[37,1],by kernel_rfl,?_⟩;(conv=>whnf);refine ⟨[],_,_,_,_,⟨vH t g.bl (by omega),rfl,rfl,by kernel_rfl⟩,?_⟩)
  conv=>whnf
  refine Or.inl ?_
  conv=>whnf
  refine Or.inl ⟨2,?_⟩
  conv=>whnf
  (repeat' ((first|refine aU fun hh=>?_|refine aV fun hh=>?_|refine aS (fun hh=>?_) fun hh=>?_|refine kR ?_|fail)<;>conv=>whnf))
  refine Or.inr ⟨false,[37,1],_,_,_,_,⟨LJ,rfl,rfl,by kernel_rfl⟩,?_⟩
  conv=>whnf
  (repeat' ((first|refine aU fun hh=>?_|refine aV fun hh=>?_|refine aS (fun hh=>?_) fun hh=>?_|refine kR ?_|fail)<;>conv=>whnf))
  (refine Or.inr ⟨[],[117,118],by kernel_rfl,?_⟩;(conv=>whnf);refine ⟨[8,37,1],_,_,_,_,⟨LK,rfl,rfl,by kernel_rfl⟩,?_⟩)
  conv=>whnf
  (repeat' ((first|refine aU fun hh=>?_|refine aV fun hh=>?_|refine aS (fun hh=>?_) fun hh=>?_|refine kR ?_|fail)<;>conv=>whnf))
  refine Or.inl ⟨2,?_⟩
  conv=>whnf
  (repeat' ((first|refine y7 ?_|refine y8 ?_|refine dD ?_|refine dN ?_|refine dB ?_|refine aU fun hh=>?_|refine aV fun hh=>?_|refine aS (fun hh=>?_) fun hh=>?_|refine kR ?_|fail)<;>conv=>whnf))
  refine ⟨Nat.zero_lt_one,?_⟩
  conv=>whnf
  (repeat' ((first|refine aU fun hh=>?_|refine aV fun hh=>?_|refine aS (fun hh=>?_) fun hh=>?_|refine kT ?_|fail)<;>conv=>whnf))
  refine ⟨⟨km,3,Lh,AG,[]⟩,[ja (t.k9.getD 0 n4)],rfl,rfl,⟨rfl,rfl⟩,?_,?_,fun y _=>⟨rfl,rfl,rfl⟩,?_⟩
  ·show (0 + 1) * 16<=1099511627776;decide
  ·show 0 + 1<=1099511627776;decide
  conv=>whnf
  (repeat' ((first|refine y7 ?_|refine y8 ?_|refine dD ?_|refine dN ?_|refine dB ?_|refine aU fun hh=>?_|refine aV fun hh=>?_|refine aS (fun hh=>?_) fun hh=>?_|refine kR ?_|fail)<;>conv=>whnf))
  (repeat' ((first|refine aU fun hh=>?_|refine aV fun hh=>?_|refine aS (fun hh=>?_) fun hh=>?_|refine kT ?_|fail)<;>conv=>whnf))
  rw [w1,af]
  rfl
 ·rw [lp] at LJ
  have eh:pK (S9 t.n8 true (t.count + 1)) n4 t.k9 t.k9.length=hits t:=by unfold hits;rw [lp,Fy]
  refine cN hm Tryz.func218 (by kernel_rfl) ?_
  conv=>whnf
  refine Or.inl ?_
  conv=>whnf
  (repeat' ((first|refine aU fun hh=>?_|refine aV fun hh=>?_|refine aS (fun hh=>?_) fun hh=>?_|refine kR ?_|((try refine Or.inl ?_;conv=>whnf);(try refine ⟨false,?_⟩;conv=>whnf);refine ⟨_,by exact c,?_⟩)|fail)<;>conv=>whnf))
  (refine Or.inr ⟨[],[37,1],by kernel_rfl,?_⟩;(conv=>whnf);refine ⟨[],_,_,_,_,⟨vH t g.bl (by omega),rfl,rfl,by kernel_rfl⟩,?_⟩)
  conv=>whnf
  refine Or.inl ?_
  conv=>whnf
  refine Or.inl ⟨2,?_⟩
  conv=>whnf
  (repeat' ((first|refine aU fun hh=>?_|refine aV fun hh=>?_|refine aS (fun hh=>?_) fun hh=>?_|refine kR ?_|fail)<;>conv=>whnf))
  refine Or.inr ⟨false,[37,1],_,_,_,_,⟨LJ,rfl,rfl,by kernel_rfl⟩,?_⟩
  conv=>whnf
  (repeat' ((first|refine aU fun hh=>?_|refine aV fun hh=>?_|refine aS (fun hh=>?_) fun hh=>?_|refine kR ?_|fail)<;>conv=>whnf))
  refine Or.inr ⟨Nat,[83],[1],[],fun k=>[i64 k],fun k=>[.vec 78 4 n4 I1 (pK (S9 t.n8 true (t.count + 1)) n4 t.k9 k)],fun _=>[],fun k=>t.k9.length - k,fun k=>k<=t.k9.length,?_⟩
  conv=>whnf
  refine ⟨⟨0,?_⟩,?_⟩
  ·(conv=>whnf)
   exact kK ⟨Nat.zero_le _,rfl,rfl,rfl⟩
  intro k hk
  have XR:=gI (S9 t.n8 true (t.count + 1)) n4 t.k9 k
  conv=>whnf
  refine ⟨fun h=>?_,fun h=>?_⟩
  ·have h:=of_decide_eq_true h
   have L7:k < t.k9.length:=by omega
   have UO:=xB (S9 t.n8 true (t.count + 1)) n4 t.k9 k k (Nat.le_refl k)
   have yw:pK (S9 t.n8 true (t.count + 1)) n4 t.k9 (k + 1)=(pK (S9 t.n8 true (t.count + 1)) n4 t.k9 k).set k (S9 t.n8 true (t.count + 1) ((pK (S9 t.n8 true (t.count + 1)) n4 t.k9 k).getD k n4)):=rfl
   generalize pK (S9 t.n8 true (t.count + 1)) n4 t.k9 k=u at XR UO yw
   have ch:=yf t.n8 g.bl (IntKind.i64.wrap (t.count + 1)) t.next u (u.getD k n4) (by rw [UO];exact Sk _ (I2 L7)) (IntKind.i64.wrap (t.count + 1))
   have hw:aG t.n8 (u.getD k n4) (IntKind.i64.wrap (t.count + 1))=aG t.n8 (u.getD k n4) (t.count + 1):=by rw [w1]
   rw [hw] at ch
   conv=>whnf
   (repeat' ((first|refine aU fun hh=>?_|refine aV fun hh=>?_|refine aS (fun hh=>?_) fun hh=>?_|refine kT ?_|((try refine Or.inl ?_;conv=>whnf);(try refine ⟨false,?_⟩;conv=>whnf);refine ⟨_,by exact ch,?_⟩)|fail)<;>conv=>whnf))
   ·have NC:(u.getD k n4).hit=true:=hh
    refine ⟨⟨(u.getD k n4).id,(u.getD k n4).cnt,(u.getD k n4).o6,true⟩,rfl,by omega,?_⟩
    (repeat' ((first|refine aU fun hh=>?_|refine aV fun hh=>?_|refine aS (fun hh=>?_) fun hh=>?_|refine kT ?_|fail)<;>conv=>whnf))
    have ey:(⟨(u.getD k n4).id,(u.getD k n4).cnt,(u.getD k n4).o6,true⟩:x7)=S9 t.n8 true (t.count + 1) (u.getD k n4):=by
     unfold S9;rw [NC];rfl
    refine ⟨k + 1,?_⟩
    conv=>whnf
    refine kK ⟨⟨?_,?_⟩,?_,?_,rfl⟩
    ·show t.k9.length - (k + 1) < t.k9.length - k;omega
    ·show k + 1<=t.k9.length;omega
    ·rw [C7 _ (by omega) (by omega)];rfl
    ·show _=[Row.vec 78 4 n4 I1 (pK (S9 t.n8 true (t.count + 1)) n4 t.k9 (k + 1))]
     rw [yw,<- ey]<;>rfl
   ·have NC:(u.getD k n4).hit=false:=hh
    refine ⟨⟨(u.getD k n4).id,(u.getD k n4).cnt,(u.getD k n4).o6,aG t.n8 (u.getD k n4) (t.count + 1)⟩,rfl,by omega,?_⟩
    (repeat' ((first|refine aU fun hh=>?_|refine aV fun hh=>?_|refine aS (fun hh=>?_) fun hh=>?_|refine kT ?_|fail)<;>conv=>whnf))
    have ey:(⟨(u.getD k n4).id,(u.getD k n4).cnt,(u.getD k n4).o6,aG t.n8 (u.getD k n4) (t.count + 1)⟩:x7)=S9 t.n8 true (t.count + 1) (u.getD k n4):=by
     unfold S9;rw [NC];rfl
    refine ⟨k + 1,?_⟩
    conv=>whnf
    refine kK ⟨⟨?_,?_⟩,?_,?_,rfl⟩
    ·show t.k9.length - (k + 1) < t.k9.length - k;omega
    ·show k + 1<=t.k9.length;omega
    ·rw [C7 _ (by omega) (by omega)];rfl
    ·show _=[Row.vec 78 4 n4 I1 (pK (S9 t.n8 true (t.count + 1)) n4 t.k9 (k + 1))]
     rw [yw,<- ey]<;>rfl
  ·have h:=of_decide_eq_false h
   have ek:k=t.k9.length:=by omega
   subst ek
   rw [eh]
   conv=>whnf
   (repeat' ((first|refine aU fun hh=>?_|refine aV fun hh=>?_|refine aS (fun hh=>?_) fun hh=>?_|refine kR ?_|fail)<;>conv=>whnf))
   (refine Or.inr ⟨[],[117,118],by kernel_rfl,?_⟩;(conv=>whnf);refine ⟨[8,37,1],_,_,_,_,⟨LK,rfl,rfl,by kernel_rfl⟩,?_⟩)
   conv=>whnf
   (repeat' ((first|refine aU fun hh=>?_|refine aV fun hh=>?_|refine aS (fun hh=>?_) fun hh=>?_|refine kR ?_|fail)<;>conv=>whnf))
   refine Or.inl ⟨2,?_⟩
   conv=>whnf
   (repeat' ((first|refine y7 ?_|refine y8 ?_|refine dD ?_|refine dN ?_|refine dB ?_|refine aU fun hh=>?_|refine aV fun hh=>?_|refine aS (fun hh=>?_) fun hh=>?_|refine kR ?_|fail)<;>conv=>whnf))
   refine ⟨Nat.zero_lt_one,?_⟩
   conv=>whnf
   (repeat' ((first|refine aU fun hh=>?_|refine aV fun hh=>?_|refine aS (fun hh=>?_) fun hh=>?_|refine kT ?_|fail)<;>conv=>whnf))
   refine ⟨⟨km,3,Lh,AG,[]⟩,[ja ((hits t).getD 0 n4)],rfl,rfl,⟨rfl,rfl⟩,?_,?_,fun y _=>⟨rfl,rfl,rfl⟩,?_⟩
   ·show (0 + 1) * 16<=1099511627776;decide
   ·show 0 + 1<=1099511627776;decide
   conv=>whnf
   (repeat' ((first|refine y7 ?_|refine y8 ?_|refine dD ?_|refine dN ?_|refine dB ?_|refine aU fun hh=>?_|refine aV fun hh=>?_|refine aS (fun hh=>?_) fun hh=>?_|refine kR ?_|fail)<;>conv=>whnf))
   (repeat' ((first|refine aU fun hh=>?_|refine aV fun hh=>?_|refine aS (fun hh=>?_) fun hh=>?_|refine kT ?_|fail)<;>conv=>whnf))
   rw [w1,af]
   rfl
theorem Bo (t:w8) (hv:eT t=0) (hc:t.count < 1099511627776) (dC:¬t.k9.length=0) (hg:¬N2 t=true):PC Tryz.prog 218 [sL t,i64 1] (.tup [sL (gP t),.nils,i64 0]):=by
 have g:=L3.1 hv
 have sz:=dX hv
 have c:=K9 t (by omega)
 rw [hv] at c
 have w1:IntKind.i64.wrap (t.count + 1)=t.count + 1:=C7 _ (by omega) (by omega)
 have w0:IntKind.i64.wrap (1099511627776 - 1)=1099511627775:=by decide
 have Sk:∀ x,x ∈ t.k9->0<=x.cnt/\x.cnt<=1099511627776:=fun x hx=>by have:=(g.sn x hx).2;omega
 have hf:=bZ g
 have Pv:=fN t
 have Qt:∀ s,s ∈ hits t->0<=s.cnt/\s.cnt<=1099511627776:=fun s hs=>by
  obtain ⟨m,hm,e2⟩:=List.getElem_of_mem hs
  have e3:s=S9 t.n8 (cH t (t.count + 1)) (t.count + 1) (t.k9.getD m n4):=by rw [<- bI t m (by omega),x9 hm,e2]
  rw [e3]
  exact Sk (t.k9.getD m n4) (I2 (by omega))
 have LJ:=Bj t g.bl (by omega) Sk (IntKind.i64.wrap (t.count + 1)) t.next (IntKind.i64.wrap (t.count + 1))
 have eo:cH t (IntKind.i64.wrap (t.count + 1))=cH t (t.count + 1):=by rw [w1]
 rw [eo] at LJ
 have LK:=Bk t.n8 g.bl (IntKind.i64.wrap (t.count + 1)) t.next (hits t) Qt (by omega) (fun s=>decide (s.cnt + N7 t.n8 t.n8.y9=t.count + 1)) (by rw [w1])
 rw [hf.1,hf.2] at LK
 rw [if_neg hg] at LK
 cases lp:cH t (t.count + 1)
 ·rw [lp] at LJ
  have eh:hits t=t.k9:=by unfold hits;rw [lp,Bl]
  rw [eh] at LK
  refine cN hm Tryz.func218 (by kernel_rfl) ?_
  conv=>whnf
  refine Or.inl ?_
  conv=>whnf
  (repeat' ((first|refine aU fun hh=>?_|refine aV fun hh=>?_|refine aS (fun hh=>?_) fun hh=>?_|refine kR ?_|((try refine Or.inl ?_;conv=>whnf);(try refine ⟨false,?_⟩;conv=>whnf);refine ⟨_,by exact c,?_⟩)|fail)<;>conv=>whnf))
  (refine Or.inr ⟨[],[37,1],by kernel_rfl,?_⟩;(conv=>whnf);refine ⟨[],_,_,_,_,⟨vH t g.bl (by omega),rfl,rfl,by kernel_rfl⟩,?_⟩)
  conv=>whnf
  refine Or.inl ?_
  conv=>whnf
  refine Or.inl ⟨2,?_⟩
  conv=>whnf
  (repeat' ((first|refine aU fun hh=>?_|refine aV fun hh=>?_|refine aS (fun hh=>?_) fun hh=>?_|refine kR ?_|fail)<;>conv=>whnf))
  refine Or.inr ⟨false,[37,1],_,_,_,_,⟨LJ,rfl,rfl,by kernel_rfl⟩,?_⟩
  conv=>whnf
  (repeat' ((first|refine aU fun hh=>?_|refine aV fun hh=>?_|refine aS (fun hh=>?_) fun hh=>?_|refine kR ?_|fail)<;>conv=>whnf))
  (refine Or.inr ⟨[],[117,118],by kernel_rfl,?_⟩;(conv=>whnf);refine ⟨[8,37,1],_,_,_,_,⟨LK,rfl,rfl,by kernel_rfl⟩,?_⟩)
  conv=>whnf
  (repeat' ((first|refine aU fun hh=>?_|refine aV fun hh=>?_|refine aS (fun hh=>?_) fun hh=>?_|refine kR ?_|fail)<;>conv=>whnf))
  refine Or.inl ⟨1,?_⟩
  conv=>whnf
  (repeat' ((first|refine y7 ?_|refine y8 ?_|refine dD ?_|refine dN ?_|refine dB ?_|refine aU fun hh=>?_|refine aV fun hh=>?_|refine aS (fun hh=>?_) fun hh=>?_|refine kR ?_|fail)<;>conv=>whnf))
  (repeat' ((first|refine aU fun hh=>?_|refine aV fun hh=>?_|refine aS (fun hh=>?_) fun hh=>?_|refine kT ?_|fail)<;>conv=>whnf))
  repeat (refine Or.inl ?_;(conv=>whnf);(repeat' ((first|refine aU fun hh=>?_|refine aV fun hh=>?_|refine aS (fun hh=>?_) fun hh=>?_|refine kT ?_|fail)<;>conv=>whnf)))
  rw [w1]
  rfl
 ·rw [lp] at LJ
  have eh:pK (S9 t.n8 true (t.count + 1)) n4 t.k9 t.k9.length=hits t:=by unfold hits;rw [lp,Fy]
  refine cN hm Tryz.func218 (by kernel_rfl) ?_
  conv=>whnf
  refine Or.inl ?_
  conv=>whnf
  (repeat' ((first|refine aU fun hh=>?_|refine aV fun hh=>?_|refine aS (fun hh=>?_) fun hh=>?_|refine kR ?_|((try refine Or.inl ?_;conv=>whnf);(try refine ⟨false,?_⟩;conv=>whnf);refine ⟨_,by exact c,?_⟩)|fail)<;>conv=>whnf))
  (refine Or.inr ⟨[],[37,1],by kernel_rfl,?_⟩;(conv=>whnf);refine ⟨[],_,_,_,_,⟨vH t g.bl (by omega),rfl,rfl,by kernel_rfl⟩,?_⟩)
  conv=>whnf
  refine Or.inl ?_
  conv=>whnf
  refine Or.inl ⟨2,?_⟩
  conv=>whnf
  (repeat' ((first|refine aU fun hh=>?_|refine aV fun hh=>?_|refine aS (fun hh=>?_) fun hh=>?_|refine kR ?_|fail)<;>conv=>whnf))
  refine Or.inr ⟨false,[37,1],_,_,_,_,⟨LJ,rfl,rfl,by kernel_rfl⟩,?_⟩
  conv=>whnf
  (repeat' ((first|refine aU fun hh=>?_|refine aV fun hh=>?_|refine aS (fun hh=>?_) fun hh=>?_|refine kR ?_|fail)<;>conv=>whnf))
  refine Or.inr ⟨Nat,[83],[1],[],fun k=>[i64 k],fun k=>[.vec 78 4 n4 I1 (pK (S9 t.n8 true (t.count + 1)) n4 t.k9 k)],fun _=>[],fun k=>t.k9.length - k,fun k=>k<=t.k9.length,?_⟩
  conv=>whnf
  refine ⟨⟨0,?_⟩,?_⟩
  ·(conv=>whnf)
   exact kK ⟨Nat.zero_le _,rfl,rfl,rfl⟩
  intro k hk
  have XR:=gI (S9 t.n8 true (t.count + 1)) n4 t.k9 k
  conv=>whnf
  refine ⟨fun h=>?_,fun h=>?_⟩
  ·have h:=of_decide_eq_true h
   have L7:k < t.k9.length:=by omega
   have UO:=xB (S9 t.n8 true (t.count + 1)) n4 t.k9 k k (Nat.le_refl k)
   have yw:pK (S9 t.n8 true (t.count + 1)) n4 t.k9 (k + 1)=(pK (S9 t.n8 true (t.count + 1)) n4 t.k9 k).set k (S9 t.n8 true (t.count + 1) ((pK (S9 t.n8 true (t.count + 1)) n4 t.k9 k).getD k n4)):=rfl
   generalize pK (S9 t.n8 true (t.count + 1)) n4 t.k9 k=u at XR UO yw
   have ch:=yf t.n8 g.bl (IntKind.i64.wrap (t.count + 1)) t.next u (u.getD k n4) (by rw [UO];exact Sk _ (I2 L7)) (IntKind.i64.wrap (t.count + 1))
   have hw:aG t.n8 (u.getD k n4) (IntKind.i64.wrap (t.count + 1))=aG t.n8 (u.getD k n4) (t.count + 1):=by rw [w1]
   rw [hw] at ch
   conv=>whnf
   (repeat' ((first|refine aU fun hh=>?_|refine aV fun hh=>?_|refine aS (fun hh=>?_) fun hh=>?_|refine kT ?_|((try refine Or.inl ?_;conv=>whnf);(try refine ⟨false,?_⟩;conv=>whnf);refine ⟨_,by exact ch,?_⟩)|fail)<;>conv=>whnf))
   ·have NC:(u.getD k n4).hit=true:=hh
    refine ⟨⟨(u.getD k n4).id,(u.getD k n4).cnt,(u.getD k n4).o6,true⟩,rfl,by omega,?_⟩
    (repeat' ((first|refine aU fun hh=>?_|refine aV fun hh=>?_|refine aS (fun hh=>?_) fun hh=>?_|refine kT ?_|fail)<;>conv=>whnf))
    have ey:(⟨(u.getD k n4).id,(u.getD k n4).cnt,(u.getD k n4).o6,true⟩:x7)=S9 t.n8 true (t.count + 1) (u.getD k n4):=by
     unfold S9;rw [NC];rfl
    refine ⟨k + 1,?_⟩
    conv=>whnf
    refine kK ⟨⟨?_,?_⟩,?_,?_,rfl⟩
    ·show t.k9.length - (k + 1) < t.k9.length - k;omega
    ·show k + 1<=t.k9.length;omega
    ·rw [C7 _ (by omega) (by omega)];rfl
    ·show _=[Row.vec 78 4 n4 I1 (pK (S9 t.n8 true (t.count + 1)) n4 t.k9 (k + 1))]
     rw [yw,<- ey]<;>rfl
   ·have NC:(u.getD k n4).hit=false:=hh
    refine ⟨⟨(u.getD k n4).id,(u.getD k n4).cnt,(u.getD k n4).o6,aG t.n8 (u.getD k n4) (t.count + 1)⟩,rfl,by omega,?_⟩
    (repeat' ((first|refine aU fun hh=>?_|refine aV fun hh=>?_|refine aS (fun hh=>?_) fun hh=>?_|refine kT ?_|fail)<;>conv=>whnf))
    have ey:(⟨(u.getD k n4).id,(u.getD k n4).cnt,(u.getD k n4).o6,aG t.n8 (u.getD k n4) (t.count + 1)⟩:x7)=S9 t.n8 true (t.count + 1) (u.getD k n4):=by
     unfold S9;rw [NC];rfl
    refine ⟨k + 1,?_⟩
    conv=>whnf
    refine kK ⟨⟨?_,?_⟩,?_,?_,rfl⟩
    ·show t.k9.length - (k + 1) < t.k9.length - k;omega
    ·show k + 1<=t.k9.length;omega
    ·rw [C7 _ (by omega) (by omega)];rfl
    ·show _=[Row.vec 78 4 n4 I1 (pK (S9 t.n8 true (t.count + 1)) n4 t.k9 (k + 1))]
     rw [yw,<- ey]<;>rfl
  ·have h:=of_decide_eq_false h
   have ek:k=t.k9.length:=by omega
   subst ek
   rw [eh]
   conv=>whnf
   (repeat' ((first|refine aU fun hh=>?_|refine aV fun hh=>?_|refine aS (fun hh=>?_) fun hh=>?_|refine kR ?_|fail)<;>conv=>whnf))
   (refine Or.inr ⟨[],[117,118],by kernel_rfl,?_⟩;(conv=>whnf);refine ⟨[8,37,1],_,_,_,_,⟨LK,rfl,rfl,by kernel_rfl⟩,?_⟩)
   conv=>whnf
   (repeat' ((first|refine aU fun hh=>?_|refine aV fun hh=>?_|refine aS (fun hh=>?_) fun hh=>?_|refine kR ?_|fail)<;>conv=>whnf))
   refine Or.inl ⟨1,?_⟩
   conv=>whnf
   (repeat' ((first|refine y7 ?_|refine y8 ?_|refine dD ?_|refine dN ?_|refine dB ?_|refine aU fun hh=>?_|refine aV fun hh=>?_|refine aS (fun hh=>?_) fun hh=>?_|refine kR ?_|fail)<;>conv=>whnf))
   (repeat' ((first|refine aU fun hh=>?_|refine aV fun hh=>?_|refine aS (fun hh=>?_) fun hh=>?_|refine kT ?_|fail)<;>conv=>whnf))
   repeat (refine Or.inl ?_;(conv=>whnf);(repeat' ((first|refine aU fun hh=>?_|refine aV fun hh=>?_|refine aS (fun hh=>?_) fun hh=>?_|refine kT ?_|fail)<;>conv=>whnf)))
   rw [w1]
   rfl
theorem sY (t:w8) (hv:eT t=0) (hc:t.count < 1099511627776):PC Tryz.prog 218 [sL t,i64 1] (.tup [sL (gP t),AH (nX t),i64 0]):=by
 by_cases dC:t.k9.length=0
 ·obtain ⟨b,n,x,l⟩:=t
  have e0:l=[]:=List.eq_nil_of_length_eq_zero dC
  subst e0
  exact Bm b n x hv hc
 ·by_cases hg:N2 t=true
  ·exact Bn t hv hc dC hg
  ·refine PC.sub (Bo t hv hc dC hg) rfl (fun i hi => .refl _) ?_
   have e:nX t=[]:=by unfold nX;rw [if_neg hg]
   rw [e]
   refine (Y0 (xs:=[sL (gP t),.nils,i64 0]) (ys:=[sL (gP t),AH [],i64 0]) rfl fun i hi=>?_).2
   match i with
   | 0=>exact .refl _
   | 1=>exact pV.nils _ _ _
   | 2=>exact .refl _
   | (n + 3)=>exact .refl _

end Go.Proofs.Tryz.My
