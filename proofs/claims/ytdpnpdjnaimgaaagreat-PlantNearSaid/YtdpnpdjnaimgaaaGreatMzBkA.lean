/- Helper lemmas. -/
import Derived.Test.YtdpnpdjnaimgaaaGreatMzBk1
set_option linter.unusedVariables false
set_option linter.unusedSimpArgs false
set_option maxRecDepth 100000
set_option maxHeartbeats 0
namespace Go.Proofs.Tryz.My
open Go Go.Ev
theorem Aa {l:List A9} {j:Nat} (hj:j < l.length):C4 (l.take (j + 1))=C4 (l.take j) + if (l.getD j r9).state=3 then 1 else 0:=by
 unfold C4
 rw [List.take_add_one,List.filter_append,List.length_append,List.getElem?_eq_getElem hj]
 simp only [List.getD,List.getElem?_eq_getElem hj,Option.getD_some,Option.toList_some,List.filter_cons,List.filter_nil]
 by_cases h:l[j].state=3<;>simp [h]
theorem GY (l:List A9):C4 l<=l.length:=by
 unfold C4
 exact List.length_filter_le _ _
theorem qb {k n:Int} {us:List Int} {rs:List A9} {lg:List B8} {j:Nat} {x:A9} (hj:j < rs.length) (hx:rs.getD j r9=x) (h:mz us x=false):AV.bool false=AV.bool (T8 ⟨k,us,rs,n,lg⟩):=by
 subst hx
 unfold T8
 rw [NT hj h,Bool.false_and]
theorem rV {us:List Int} {x:A9} {i:Nat} (hi:i < x.B0.length) (h:Kx us x i=false):mz us x=false:=by
 unfold mz pg
 rw [eL hi h,Bool.false_and]
theorem GZ {us:List Int} {x:A9} (h:nH us x=false):mz us x=false:=by
 unfold mz
 rw [h,Bool.and_false]
theorem xy {us:List Int} {x:A9} {i:Nat}:Kx us x i=true↔my x.B0 i < x.B0.getD i 0/\¬x.B0.getD i 0=x.author/\I7 [2,3] us (x.B0.getD i 0)=true:=by
 simp only [Kx,Bool.and_eq_true,decide_eq_true_eq,Bool.not_eq_true',decide_eq_false_iff_not,and_assoc]
theorem vh {us:List Int} {x:A9}:nH us x=true↔I7 [2] us x.author=true/\S6 x.b9=true/\1<=x.state/\x.state<=4/\(decide (1 < x.state) != K8 us x.B0)=false:=by
 simp only [nH,D1,Bool.and_eq_true,decide_eq_true_eq,and_assoc,bne,Bool.not_eq_false',gt_iff_lt]
theorem EY {g:x8}:(if S6 g then (0:Int) else 8)=0↔S6 g=true:=by
 by_cases h:S6 g=true<;>simp [h]
theorem Ab (k n:Int) (us:List Int) (rs:List A9) (lg:List B8) (hu:us.length < 2 ^ 40) (hr:rs.length < 2 ^ 40) (ha:∀ i,(rs.getD i r9).B0.length < 2 ^ 40) :
  PC Tryz.prog 115 [.pt (EW k us rs n lg) 0] (.bool (T8 ⟨k,us,rs,n,lg⟩)):=by
 have c1:=EX k n us rs lg 2
 have c2:=NU k n us rs lg 2 3
 have e1:=fun u=>T3 k n u us rs lg 2 hu
 have e2:=fun u=>rT k n u us rs lg 2 3 hu
 refine pF Tryz.func115 ?_
 conv=>whnf
 ((first|refine Or.inl ?_|skip);(conv=>whnf);refine ⟨true,?_⟩;(conv=>whnf);refine ⟨_,c1,?_⟩;(conv=>whnf))
 ((first|refine Or.inl ?_|skip);(conv=>whnf);refine ⟨true,?_⟩;(conv=>whnf);refine ⟨_,c2,?_⟩;(conv=>whnf))
 refine Or.inr ⟨Nat,[3,23],[],[],fun k=>[i64 (C4 (rs.take k)),i64 k],fun _=>[],fun _=>[],fun k=>rs.length - k,fun k=>k<=rs.length/\∀ i,i < k->mz us (rs.getD i r9)=true,?_⟩
 conv=>whnf
 refine ⟨⟨0,?_⟩,?_⟩
 ·(conv=>whnf)
  exact kK ⟨⟨Nat.zero_le _,fun i hi=>absurd hi (Nat.not_lt_zero i)⟩,rfl,rfl,rfl⟩
 ·intro j hj
  conv=>whnf
  refine ⟨fun h=>?_,fun h=>?_⟩
  ·have h:=of_decide_eq_true h
   conv=>whnf
   refine ⟨⟨by omega,by omega⟩,?_⟩
   conv=>whnf
   have BX:j < rs.length:=by omega
   have Xt:=ha j
   rw [show Int.toNat (j:Int)=j from rfl]
   generalize hx:rs.getD j r9=x at Xt
   refine Or.inr ⟨Nat,[8,30],[],[],fun i=>[i64 (my x.B0 i),i64 i],fun _=>[],fun _=>[],fun i=>x.B0.length - i,fun i=>i<=x.B0.length/\∀ m,m < i->Kx us x m=true,?_⟩
   conv=>whnf
   refine ⟨⟨0,?_⟩,?_⟩
   ·(conv=>whnf)
    exact kK ⟨⟨Nat.zero_le _,fun i hi=>absurd hi (Nat.not_lt_zero i)⟩,rfl,rfl,rfl⟩
   ·intro i hi
    conv=>whnf
    refine ⟨fun h2=>?_,fun h2=>?_⟩
    ·have h2:=of_decide_eq_true h2
     conv=>whnf
     refine ⟨⟨by omega,by omega⟩,?_⟩
     conv=>whnf
     rw [show Int.toNat (i:Int)=i from rfl]
     (repeat' ((first|refine aU fun hh=>?_|refine aV fun hh=>?_|refine aS (fun hh=>?_) fun hh=>?_|refine kR ?_|((try refine Or.inl ?_;conv=>whnf);(try refine ⟨false,?_⟩;conv=>whnf);refine ⟨_,by exact e2 _,?_⟩)|fail)<;>conv=>whnf))
     ·exact qb BX hx (rV (i:=i) (by omega) (Bool.eq_false_iff.2 fun q=>by have q:=xy.1 q;omega))
     ·exact qb BX hx (rV (i:=i) (by omega) (Bool.eq_false_iff.2 fun q=>(xy.1 q).2.1 (by assumption)))
     ·exact qb BX hx (rV (i:=i) (by omega) (Bool.eq_false_iff.2 fun q=>Bool.noConfusion ((xy.1 q).2.2.symm.trans (by assumption))))
     ·have ok:Kx us x i=true:=xy.2 ⟨by omega,by assumption,by assumption⟩
      refine ⟨i + 1,?_⟩
      conv=>whnf
      refine kK ⟨⟨?_,?_,?_⟩,?_,rfl,rfl⟩
      ·show x.B0.length - (i + 1) < x.B0.length - i;omega
      ·omega
      ·intro m hm
       by_cases e:m=i
       ·subst e;exact ok
       ·exact hi.2 m (by omega)
      ·rw [C7 _ (by omega) (by omega)]
       simp [my]
    ·have h2:=of_decide_eq_false h2
     have ha1:pg us x=true:=ah.2 fun m hm=>hi.2 m (by omega)
     (repeat' ((first|refine aU fun hh=>?_|refine aV fun hh=>?_|refine aS (fun hh=>?_) fun hh=>?_|refine kR ?_|((try refine Or.inl ?_;conv=>whnf);(try refine ⟨false,?_⟩;conv=>whnf);refine ⟨_,by first|exact e1 _|exact X9 _|exact vg k n us rs lg hu _ Xt,?_⟩)|fail)<;>conv=>whnf))
     iterate 5 (refine qb BX hx (GZ (Bool.eq_false_iff.2 fun q=>?_));have q:=vh.1 q;first|(exact absurd (EY.2 q.2.1) (by assumption))|omega|exact Bool.noConfusion (q.1.symm.trans (by assumption))|exact Bool.noConfusion (q.2.2.2.2.symm.trans (by assumption)))
     all_goals (
      have ok:mz us x=true:=by
       unfold mz
       rw [ha1,Bool.true_and]
       exact vh.2 ⟨by assumption,EY.1 (by assumption),by omega,by omega,by assumption⟩
      have hn:=Aa BX
      have hm:C4 (rs.take j)<=rs.length:=Nat.le_trans (GY _) (by rw [List.length_take];omega)
      rw [hx] at hn
      refine ⟨j + 1,?_⟩
      conv=>whnf
      refine kK ⟨⟨?_,?_,?_⟩,?_,rfl,rfl⟩
      ·show rs.length - (j + 1) < rs.length - j;omega
      ·omega
      ·intro m hm
       by_cases e:m=j
       ·rw [e,hx];exact ok
       ·exact hj.2 m (by omega)
      ·first
        | (rw [if_pos (by assumption)] at hn;rw [C7 _ (by omega) (by omega),C7 _ (by omega) (by omega)];show _=[i64 (C4 (rs.take (j + 1)):Nat),i64 ((j + 1:Nat):Int)];rw [hn];first|rfl|(simp;done))
        | (rw [if_neg (by assumption)] at hn;rw [C7 _ (by omega) (by omega)];show _=[i64 (C4 (rs.take (j + 1)):Nat),i64 ((j + 1:Nat):Int)];rw [hn];first|rfl|(simp;done)))
  ·have h:=of_decide_eq_false h
   conv=>whnf
   have e:T8 ⟨k,us,rs,n,lg⟩=decide ((C4 (rs.take j):Int)<=1):=by
    have ej:rs.take j=rs:=List.take_of_length_le (by omega)
    unfold T8
    rw [mA.2 fun i hi=>hj.2 i (by omega),ej,Bool.true_and]
    exact decide_eq_decide.2 (show C4 rs<=1↔_ by omega)
   rw [e]
theorem EZ {b:o7} {i:Nat} {s:B8} {x:A9} (hs:b.log.getD i w9=s) (hx:b.b8.getD s.recipe.toNat r9=x):rS b i=true↔hH b.log i < s.seq/\s.seq < b.next/\D1 s.recipe 0 (b.b8.length - 1)=true/\D1 s.part 0 1099511627776=true /\
  (F8 x.b9 s.o9).2.2=0/\(F8 x.b9 s.o9).2.1=s.o6/\¬x.state=1:=by
 simp only [rS,hs,hx,Bool.and_eq_true,decide_eq_true_eq,Bool.not_eq_true',decide_eq_false_iff_not,and_assoc]
theorem Ha (k n:Int) (us:List Int) (rs:List A9) (lg:List B8) (hr:rs.length < 2 ^ 40) (hl:lg.length < 2 ^ 40) (ha:∀ i,(lg.getD i w9).o9.length < 2 ^ 40) :
  PC Tryz.prog 116 [.pt (EW k us rs n lg) 0] (.bool (bM ⟨k,us,rs,n,lg⟩)):=by
 have w1:IntKind.i64.wrap ((rs.length:Int) - 1)=(rs.length:Int) - 1:=C7 _ (by omega) (by omega)
 have c1:∀ u,PC Tryz.prog 105 [i64 0,i64 (IntKind.i64.wrap ((rs.length:Int) - 1)),i64 u] (.bool (decide (0<=u) && decide (u<=(rs.length:Int) - 1))):=fun u=>by rw [w1];exact M1 0 _ u
 have c2:∀ u,PC Tryz.prog 105 [i64 0,i64 1099511627776,i64 u] (.bool (decide (0<=u) && decide (u<=1099511627776))):=fun u=>M1 0 _ u
 refine pF Tryz.func116 ?_
 conv=>whnf
 refine Or.inr ⟨Nat,[3,16],[],[],fun j=>[i64 (hH lg j),i64 j],fun _=>[],fun _=>[],fun j=>lg.length - j,fun j=>j<=lg.length/\∀ i,i < j->rS ⟨k,us,rs,n,lg⟩ i=true,?_⟩
 conv=>whnf
 refine ⟨⟨0,?_⟩,?_⟩
 ·(conv=>whnf)
  exact kK ⟨⟨Nat.zero_le _,fun i hi=>absurd hi (Nat.not_lt_zero i)⟩,rfl,rfl,rfl⟩
 ·intro j hj
  conv=>whnf
  refine ⟨fun h=>?_,fun h=>?_⟩
  ·have h:=of_decide_eq_true h
   have BX:j < lg.length:=by omega
   conv=>whnf
   refine ⟨⟨by omega,by omega⟩,?_⟩
   conv=>whnf
   have BU:=ha j
   rw [show Int.toNat (j:Int)=j from rfl]
   generalize hs:lg.getD j w9=s at BU
   have bad:¬(hH lg j < s.seq/\s.seq < n/\D1 s.recipe 0 (rs.length - 1)=true/\D1 s.part 0 1099511627776=true /\
     (F8 (rs.getD s.recipe.toNat r9).b9 s.o9).2.2=0/\(F8 (rs.getD s.recipe.toNat r9).b9 s.o9).2.1=s.o6/\¬(rs.getD s.recipe.toNat r9).state=1)->AV.bool false=AV.bool (bM ⟨k,us,rs,n,lg⟩):=fun q=>by
    unfold bM
    rw [eL BX (Bool.eq_false_iff.2 fun e=>q ((EZ hs rfl).1 e))]
   conv=>whnf
   (repeat' ((first|refine aU fun hh=>?_|refine aV fun hh=>?_|refine aS (fun hh=>?_) fun hh=>?_|refine kR ?_|((try refine Or.inl ?_;conv=>whnf);(try refine ⟨false,?_⟩;conv=>whnf);refine ⟨_,by first|exact c1 _|exact c2 _|exact bA _ _ BU,?_⟩)|fail)<;>conv=>whnf))
   iterate 7 (refine bad fun q=>?_;obtain ⟨q1,q2,q3,q4,q5,q6,q7⟩:=q;simp only [D1,Bool.and_eq_true,decide_eq_true_eq] at q3 q4;omega)
   have ok:rS ⟨k,us,rs,n,lg⟩ j=true:=(EZ hs rfl).2 ⟨show hH lg j < s.seq by omega,show s.seq < n by omega,by simp only [D1,Bool.and_eq_true,decide_eq_true_eq];assumption,by simp only [D1,Bool.and_eq_true,decide_eq_true_eq];assumption,by assumption,by assumption,by assumption⟩
   refine ⟨j + 1,?_⟩
   conv=>whnf
   refine kK ⟨⟨?_,?_,?_⟩,?_,rfl,rfl⟩
   ·show lg.length - (j + 1) < lg.length - j;omega
   ·omega
   ·intro m hm
    by_cases e:m=j
    ·rw [e];exact ok
    ·exact hj.2 m (by omega)
   ·rw [C7 _ (by omega) (by omega)]
    show _=[i64 (hH lg (j + 1)),i64 ((j + 1:Nat):Int)]
    unfold hH
    rw [if_neg (Nat.succ_ne_zero j),Nat.add_sub_cancel,hs]
    rfl
  ·have h:=of_decide_eq_false h
   conv=>whnf
   have e:bM ⟨k,us,rs,n,lg⟩=true:=ah.2 fun i hi=>hj.2 i (by have:i < lg.length:=hi;omega)
   rw [e]
structure G8 (b:o7):Prop where
 u:b.p9.length < 2 ^ 20
 r:b.b8.length < 2 ^ 20
 l:b.log.length < 2 ^ 20
 a:∀ i,(b.b8.getD i r9).B0.length < 2 ^ 20
 p:∀ i,(b.log.getD i w9).o9.length < 2 ^ 20
theorem S7 {n:Nat} (h:n < 2 ^ 20):n < 2 ^ 40:=Nat.lt_trans h (by decide)
theorem fD (b:o7) (o:G8 b):PC Tryz.prog 69 [au b] (i64 (if E1 b then 0 else 8)):=by
 have c1:=Kz b.keep b.next b.p9 b.b8 b.log
 have c2:=Dj b.keep b.next b.p9 b.b8 b.log (S7 o.u)
 have c3:=Ab b.keep b.next b.p9 b.b8 b.log (S7 o.u) (S7 o.r) fun i=>S7 (o.a i)
 have c4:=Ha b.keep b.next b.p9 b.b8 b.log (S7 o.r) (S7 o.l) fun i=>S7 (o.p i)
 refine pF Tryz.func69 ?_
 conv=>whnf
 refine Or.inl ⟨5,?_⟩
 conv=>whnf
 (repeat' ((first|refine y7 ?_|refine y8 ?_|((try refine Or.inl ?_;conv=>whnf);(try refine ⟨false,?_⟩;conv=>whnf);refine ⟨_,by first|exact c1|exact c2|exact c3|exact c4,?_⟩)|refine lD ?_|refine lN ?_|refine kL ?_|fail);conv=>whnf))
 refine ⟨fun h=>?_,fun h=>?_⟩<;>(conv=>whnf)
 ·have h1:gG b=false:=(by rw [Bool.not_eq_true'] at h;exact h)
  exact congrArg i64 (if_neg (by unfold E1;rw [h1];simp)).symm
 have h1:gG b=true:=(by rw [Bool.not_eq_false'] at h;exact h)
 clear h
 (repeat' ((first|refine y7 ?_|refine y8 ?_|((try refine Or.inl ?_;conv=>whnf);(try refine ⟨false,?_⟩;conv=>whnf);refine ⟨_,by first|exact c1|exact c2|exact c3|exact c4,?_⟩)|refine lD ?_|refine lN ?_|refine kL ?_|fail);conv=>whnf))
 refine ⟨fun h=>?_,fun h=>?_⟩<;>(conv=>whnf)
 ·have h2:iT b=false:=(by rw [Bool.not_eq_true'] at h;exact h)
  exact congrArg i64 (if_neg (by unfold E1;rw [h1,h2];simp)).symm
 have h2:iT b=true:=(by rw [Bool.not_eq_false'] at h;exact h)
 clear h
 (repeat' ((first|refine y7 ?_|refine y8 ?_|((try refine Or.inl ?_;conv=>whnf);(try refine ⟨false,?_⟩;conv=>whnf);refine ⟨_,by first|exact c1|exact c2|exact c3|exact c4,?_⟩)|refine lD ?_|refine lN ?_|refine kL ?_|fail);conv=>whnf))
 refine ⟨fun h=>?_,fun h=>?_⟩<;>(conv=>whnf)
 ·have h3:T8 b=false:=(by rw [Bool.not_eq_true'] at h;exact h)
  exact congrArg i64 (if_neg (by unfold E1;rw [h1,h2,h3];simp)).symm
 have h3:T8 b=true:=(by rw [Bool.not_eq_false'] at h;exact h)
 clear h
 (repeat' ((first|refine y7 ?_|refine y8 ?_|((try refine Or.inl ?_;conv=>whnf);(try refine ⟨false,?_⟩;conv=>whnf);refine ⟨_,by first|exact c1|exact c2|exact c3|exact c4,?_⟩)|refine lD ?_|refine lN ?_|refine kL ?_|fail);conv=>whnf))
 refine ⟨fun h=>?_,fun h=>?_⟩<;>(conv=>whnf)
 ·have h4:bM b=false:=(by rw [Bool.not_eq_true'] at h;exact h)
  exact congrArg i64 (if_neg (by unfold E1;rw [h1,h2,h3,h4];simp)).symm
 have h4:bM b=true:=(by rw [Bool.not_eq_false'] at h;exact h)
 clear h
 (repeat' ((first|refine y7 ?_|refine y8 ?_|((try refine Or.inl ?_;conv=>whnf);(try refine ⟨false,?_⟩;conv=>whnf);refine ⟨_,by first|exact c1|exact c2|exact c3|exact c4,?_⟩)|refine lD ?_|refine lN ?_|refine kL ?_|fail);conv=>whnf))
 exact congrArg i64 (if_pos (by unfold E1;rw [h1,h2,h3,h4];rfl)).symm

end Go.Proofs.Tryz.My
