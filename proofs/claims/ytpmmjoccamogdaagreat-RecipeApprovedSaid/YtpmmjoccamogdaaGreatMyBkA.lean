/- Helper lemmas. -/
import Derived.Test.YtpmmjoccamogdaaGreatMyBk1
set_option linter.unusedVariables false
set_option linter.unusedSimpArgs false
set_option maxRecDepth 100000
set_option maxHeartbeats 0
namespace Go.Proofs.Tryz.My
open Go Go.Ev
theorem qB {l:List x7} {j:Nat} (hj:j < l.length):z5 (l.take (j + 1))=z5 (l.take j) + if (l.getD j n5).state=3 then 1 else 0:=by
 unfold z5
 rw [List.take_add_one,List.filter_append,List.length_append,List.getElem?_eq_getElem hj]
 simp only [List.getD,List.getElem?_eq_getElem hj,Option.getD_some,Option.toList_some,List.filter_cons,List.filter_nil]
 by_cases h:l[j].state=3<;>simp [h]
theorem vH (l:List x7):z5 l<=l.length:=by
 unfold z5
 exact List.length_filter_le _ _
theorem iO {k n:Int} {us:List Int} {rs:List x7} {lg:List A1} {j:Nat} {x:x7} (hj:j < rs.length) (hx:rs.getD j n5=x) (h:fw us x=false):AV.bool false=AV.bool (L5 ⟨k,us,rs,n,lg⟩):=by
 subst hx
 unfold L5
 rw [Bn hj h,Bool.false_and]
theorem ko {us:List Int} {x:x7} {i:Nat} (hi:i < x.k9.length) (h:yI us x i=false):fw us x=false:=by
 unfold fw ir
 rw [dv hi h,Bool.false_and]
theorem vI {us:List Int} {x:x7} (h:gC us x=false):fw us x=false:=by
 unfold fw
 rw [h,Bool.and_false]
theorem oy {us:List Int} {x:x7} {i:Nat}:yI us x i=true↔fv x.k9 i < x.k9.getD i 0/\¬x.k9.getD i 0=x.author/\C7 [2,3] us (x.k9.getD i 0)=true:=by
 simp only [yI,Bool.and_eq_true,decide_eq_true_eq,Bool.not_eq_true',decide_eq_false_iff_not,and_assoc]
theorem mI {us:List Int} {x:x7}:gC us x=true↔C7 [2] us x.author=true/\N3 x.o6=true/\1<=x.state/\x.state<=4/\(decide (1 < x.state) != D9 us x.k9)=false:=by
 simp only [gC,A0,Bool.and_eq_true,decide_eq_true_eq,and_assoc,bne,Bool.not_eq_false',gt_iff_lt]
theorem tV {g:H4}:(if N3 g then (0:Int) else 8)=0↔N3 g=true:=by
 by_cases h:N3 g=true<;>simp [h]
theorem qC (k n:Int) (us:List Int) (rs:List x7) (lg:List A1) (hu:us.length < 2 ^ 40) (hr:rs.length < 2 ^ 40) (ha:∀ i,(rs.getD i n5).k9.length < 2 ^ 40) :
  PC Tryz.prog 84 [.pt (tT k us rs n lg) 0] (.bool (L5 ⟨k,us,rs,n,lg⟩)):=by
 have c1:=tU k n us rs lg 2
 have c2:=Bo k n us rs lg 2 3
 have e1:=fun u=>L1 k n u us rs lg 2 hu
 have e2:=fun u=>km k n u us rs lg 2 3 hu
 refine pF Tryz.func84 ?_
 conv=>whnf
 ((first|refine Or.inl ?_|skip);(conv=>whnf);refine ⟨true,?_⟩;(conv=>whnf);refine ⟨_,c1,?_⟩;(conv=>whnf))
 ((first|refine Or.inl ?_|skip);(conv=>whnf);refine ⟨true,?_⟩;(conv=>whnf);refine ⟨_,c2,?_⟩;(conv=>whnf))
 refine Or.inr ⟨Nat,[3,23],[],[],fun k=>[i64 (z5 (rs.take k)),i64 k],fun _=>[],fun _=>[],fun k=>rs.length - k,fun k=>k<=rs.length/\∀ i,i < k->fw us (rs.getD i n5)=true,?_⟩
 conv=>whnf
 refine ⟨⟨0,?_⟩,?_⟩
 ·(conv=>whnf)
  exact kK ⟨⟨Nat.zero_le _,fun i hi=>absurd hi (Nat.not_lt_zero i)⟩,rfl,rfl,rfl⟩
 ·intro j hj
  conv=>whnf
  refine ⟨fun h=>?_,fun h=>?_⟩
  ·have h:=of_decide_eq_true h
   conv=>whnf
   refine ⟨⟨by omega,by omega⟩,?_⟩
   conv=>whnf
   have rq:j < rs.length:=by omega
   have IQ:=ha j
   rw [show Int.toNat (j:Int)=j from rfl]
   generalize hx:rs.getD j n5=x at IQ
   refine Or.inr ⟨Nat,[8,30],[],[],fun i=>[i64 (fv x.k9 i),i64 i],fun _=>[],fun _=>[],fun i=>x.k9.length - i,fun i=>i<=x.k9.length/\∀ m,m < i->yI us x m=true,?_⟩
   conv=>whnf
   refine ⟨⟨0,?_⟩,?_⟩
   ·(conv=>whnf)
    exact kK ⟨⟨Nat.zero_le _,fun i hi=>absurd hi (Nat.not_lt_zero i)⟩,rfl,rfl,rfl⟩
   ·intro i hi
    conv=>whnf
    refine ⟨fun h2=>?_,fun h2=>?_⟩
    ·have h2:=of_decide_eq_true h2
     conv=>whnf
     refine ⟨⟨by omega,by omega⟩,?_⟩
     conv=>whnf
     rw [show Int.toNat (i:Int)=i from rfl]
     (repeat' ((first|refine aU fun hh=>?_|refine aV fun hh=>?_|refine aS (fun hh=>?_) fun hh=>?_|refine kR ?_|((try refine Or.inl ?_;conv=>whnf);(try refine ⟨false,?_⟩;conv=>whnf);refine ⟨_,by exact e2 _,?_⟩)|fail)<;>conv=>whnf))
     ·exact iO rq hx (ko (i:=i) (by omega) (Bool.eq_false_iff.2 fun q=>by have q:=oy.1 q;omega))
     ·exact iO rq hx (ko (i:=i) (by omega) (Bool.eq_false_iff.2 fun q=>(oy.1 q).2.1 (by assumption)))
     ·exact iO rq hx (ko (i:=i) (by omega) (Bool.eq_false_iff.2 fun q=>Bool.noConfusion ((oy.1 q).2.2.symm.trans (by assumption))))
     ·have ok:yI us x i=true:=oy.2 ⟨by omega,by assumption,by assumption⟩
      refine ⟨i + 1,?_⟩
      conv=>whnf
      refine kK ⟨⟨?_,?_,?_⟩,?_,rfl,rfl⟩
      ·show x.k9.length - (i + 1) < x.k9.length - i;omega
      ·omega
      ·intro m hm
       by_cases e:m=i
       ·subst e;exact ok
       ·exact hi.2 m (by omega)
      ·rw [L9 _ (by omega) (by omega)]
       simp [fv]
    ·have h2:=of_decide_eq_false h2
     have LO:ir us x=true:=T5.2 fun m hm=>hi.2 m (by omega)
     (repeat' ((first|refine aU fun hh=>?_|refine aV fun hh=>?_|refine aS (fun hh=>?_) fun hh=>?_|refine kR ?_|((try refine Or.inl ?_;conv=>whnf);(try refine ⟨false,?_⟩;conv=>whnf);refine ⟨_,by first|exact e1 _|exact O0 _|exact mH k n us rs lg hu _ IQ,?_⟩)|fail)<;>conv=>whnf))
     iterate 5 (refine iO rq hx (vI (Bool.eq_false_iff.2 fun q=>?_));have q:=mI.1 q;first|(exact absurd (tV.2 q.2.1) (by assumption))|omega|exact Bool.noConfusion (q.1.symm.trans (by assumption))|exact Bool.noConfusion (q.2.2.2.2.symm.trans (by assumption)))
     all_goals (
      have ok:fw us x=true:=by
       unfold fw
       rw [LO,Bool.true_and]
       exact mI.2 ⟨by assumption,tV.1 (by assumption),by omega,by omega,by assumption⟩
      have hn:=qB rq
      have hm:z5 (rs.take j)<=rs.length:=Nat.le_trans (vH _) (by rw [List.length_take];omega)
      rw [hx] at hn
      refine ⟨j + 1,?_⟩
      conv=>whnf
      refine kK ⟨⟨?_,?_,?_⟩,?_,rfl,rfl⟩
      ·show rs.length - (j + 1) < rs.length - j;omega
      ·omega
      ·intro m hm
       by_cases e:m=j
       ·rw [e,hx];exact ok
       ·exact hj.2 m (by omega)
      ·first
        | (rw [if_pos (by assumption)] at hn;rw [L9 _ (by omega) (by omega),L9 _ (by omega) (by omega)];show _=[i64 (z5 (rs.take (j + 1)):Nat),i64 ((j + 1:Nat):Int)];rw [hn];first|rfl|(simp;done))
        | (rw [if_neg (by assumption)] at hn;rw [L9 _ (by omega) (by omega)];show _=[i64 (z5 (rs.take (j + 1)):Nat),i64 ((j + 1:Nat):Int)];rw [hn];first|rfl|(simp;done)))
  ·have h:=of_decide_eq_false h
   conv=>whnf
   have e:L5 ⟨k,us,rs,n,lg⟩=decide ((z5 (rs.take j):Int)<=1):=by
    have ej:rs.take j=rs:=List.take_of_length_le (by omega)
    unfold L5
    rw [qy.2 fun i hi=>hj.2 i (by omega),ej,Bool.true_and]
    exact decide_eq_decide.2 (show z5 rs<=1↔_ by omega)
   rw [e]
theorem tW {b:b9} {i:Nat} {s:A1} {x:x7} (hs:b.log.getD i o8=s) (hx:b.a7.getD s.recipe.toNat n5=x):kl b i=true↔bP b.log i < s.seq/\s.seq < b.next/\A0 s.recipe 0 (b.a7.length - 1)=true/\A0 s.part 0 1099511627776=true /\
  (I3 x.o6 s.j8).2.2=0/\(I3 x.o6 s.j8).2.1=s.H8/\¬x.state=1:=by
 simp only [kl,hs,hx,Bool.and_eq_true,decide_eq_true_eq,Bool.not_eq_true',decide_eq_false_iff_not,and_assoc]
theorem vJ (k n:Int) (us:List Int) (rs:List x7) (lg:List A1) (hr:rs.length < 2 ^ 40) (hl:lg.length < 2 ^ 40) (ha:∀ i,(lg.getD i o8).j8.length < 2 ^ 40) :
  PC Tryz.prog 85 [.pt (tT k us rs n lg) 0] (.bool (U1 ⟨k,us,rs,n,lg⟩)):=by
 have w1:IntKind.i64.wrap ((rs.length:Int) - 1)=(rs.length:Int) - 1:=L9 _ (by omega) (by omega)
 have c1:∀ u,PC Tryz.prog 19 [i64 0,i64 (IntKind.i64.wrap ((rs.length:Int) - 1)),i64 u] (.bool (decide (0<=u) && decide (u<=(rs.length:Int) - 1))):=fun u=>by rw [w1];exact E6 0 _ u
 have c2:∀ u,PC Tryz.prog 19 [i64 0,i64 1099511627776,i64 u] (.bool (decide (0<=u) && decide (u<=1099511627776))):=fun u=>E6 0 _ u
 refine pF Tryz.func85 ?_
 conv=>whnf
 refine Or.inr ⟨Nat,[3,16],[],[],fun j=>[i64 (bP lg j),i64 j],fun _=>[],fun _=>[],fun j=>lg.length - j,fun j=>j<=lg.length/\∀ i,i < j->kl ⟨k,us,rs,n,lg⟩ i=true,?_⟩
 conv=>whnf
 refine ⟨⟨0,?_⟩,?_⟩
 ·(conv=>whnf)
  exact kK ⟨⟨Nat.zero_le _,fun i hi=>absurd hi (Nat.not_lt_zero i)⟩,rfl,rfl,rfl⟩
 ·intro j hj
  conv=>whnf
  refine ⟨fun h=>?_,fun h=>?_⟩
  ·have h:=of_decide_eq_true h
   have rq:j < lg.length:=by omega
   conv=>whnf
   refine ⟨⟨by omega,by omega⟩,?_⟩
   conv=>whnf
   have wc:=ha j
   rw [show Int.toNat (j:Int)=j from rfl]
   generalize hs:lg.getD j o8=s at wc
   have bad:¬(bP lg j < s.seq/\s.seq < n/\A0 s.recipe 0 (rs.length - 1)=true/\A0 s.part 0 1099511627776=true /\
     (I3 (rs.getD s.recipe.toNat n5).o6 s.j8).2.2=0/\(I3 (rs.getD s.recipe.toNat n5).o6 s.j8).2.1=s.H8/\¬(rs.getD s.recipe.toNat n5).state=1)->AV.bool false=AV.bool (U1 ⟨k,us,rs,n,lg⟩):=fun q=>by
    unfold U1
    rw [dv rq (Bool.eq_false_iff.2 fun e=>q ((tW hs rfl).1 e))]
   conv=>whnf
   (repeat' ((first|refine aU fun hh=>?_|refine aV fun hh=>?_|refine aS (fun hh=>?_) fun hh=>?_|refine kR ?_|((try refine Or.inl ?_;conv=>whnf);(try refine ⟨false,?_⟩;conv=>whnf);refine ⟨_,by first|exact c1 _|exact c2 _|exact Y5 _ _ wc,?_⟩)|fail)<;>conv=>whnf))
   iterate 7 (refine bad fun q=>?_;obtain ⟨q1,q2,q3,q4,q5,q6,q7⟩:=q;simp only [A0,Bool.and_eq_true,decide_eq_true_eq] at q3 q4;omega)
   have ok:kl ⟨k,us,rs,n,lg⟩ j=true:=(tW hs rfl).2 ⟨show bP lg j < s.seq by omega,show s.seq < n by omega,by simp only [A0,Bool.and_eq_true,decide_eq_true_eq];assumption,by simp only [A0,Bool.and_eq_true,decide_eq_true_eq];assumption,by assumption,by assumption,by assumption⟩
   refine ⟨j + 1,?_⟩
   conv=>whnf
   refine kK ⟨⟨?_,?_,?_⟩,?_,rfl,rfl⟩
   ·show lg.length - (j + 1) < lg.length - j;omega
   ·omega
   ·intro m hm
    by_cases e:m=j
    ·rw [e];exact ok
    ·exact hj.2 m (by omega)
   ·rw [L9 _ (by omega) (by omega)]
    show _=[i64 (bP lg (j + 1)),i64 ((j + 1:Nat):Int)]
    unfold bP
    rw [if_neg (Nat.succ_ne_zero j),Nat.add_sub_cancel,hs]
    rfl
  ·have h:=of_decide_eq_false h
   conv=>whnf
   have e:U1 ⟨k,us,rs,n,lg⟩=true:=T5.2 fun i hi=>hj.2 i (by have:i < lg.length:=hi;omega)
   rw [e]
structure H5 (b:b9):Prop where
 u:b.k8.length < 2 ^ 20
 r:b.a7.length < 2 ^ 20
 l:b.log.length < 2 ^ 20
 a:∀ i,(b.a7.getD i n5).k9.length < 2 ^ 20
 p:∀ i,(b.log.getD i o8).j8.length < 2 ^ 20
theorem R4 {n:Nat} (h:n < 2 ^ 20):n < 2 ^ 40:=Nat.lt_trans h (by decide)
theorem cP (b:b9) (o:H5 b):PC Tryz.prog 56 [G4 b] (i64 (if A8 b then 0 else 8)):=by
 have c1:=yM b.keep b.next b.k8 b.a7 b.log
 have c2:=sS b.keep b.next b.k8 b.a7 b.log (R4 o.u)
 have c3:=qC b.keep b.next b.k8 b.a7 b.log (R4 o.u) (R4 o.r) fun i=>R4 (o.a i)
 have c4:=vJ b.keep b.next b.k8 b.a7 b.log (R4 o.r) (R4 o.l) fun i=>R4 (o.p i)
 refine pF Tryz.func56 ?_
 conv=>whnf
 refine Or.inl ⟨5,?_⟩
 conv=>whnf
 (repeat' ((first|refine u6 ?_|refine u7 ?_|((try refine Or.inl ?_;conv=>whnf);(try refine ⟨false,?_⟩;conv=>whnf);refine ⟨_,by first|exact c1|exact c2|exact c3|exact c4,?_⟩)|refine lD ?_|refine lN ?_|refine kL ?_|fail);conv=>whnf))
 refine ⟨fun h=>?_,fun h=>?_⟩<;>(conv=>whnf)
 ·have h1:bI b=false:=(by rw [Bool.not_eq_true'] at h;exact h)
  exact congrArg i64 (if_neg (by unfold A8;rw [h1];simp)).symm
 have h1:bI b=true:=(by rw [Bool.not_eq_false'] at h;exact h)
 clear h
 (repeat' ((first|refine u6 ?_|refine u7 ?_|((try refine Or.inl ?_;conv=>whnf);(try refine ⟨false,?_⟩;conv=>whnf);refine ⟨_,by first|exact c1|exact c2|exact c3|exact c4,?_⟩)|refine lD ?_|refine lN ?_|refine kL ?_|fail);conv=>whnf))
 refine ⟨fun h=>?_,fun h=>?_⟩<;>(conv=>whnf)
 ·have h2:cC b=false:=(by rw [Bool.not_eq_true'] at h;exact h)
  exact congrArg i64 (if_neg (by unfold A8;rw [h1,h2];simp)).symm
 have h2:cC b=true:=(by rw [Bool.not_eq_false'] at h;exact h)
 clear h
 (repeat' ((first|refine u6 ?_|refine u7 ?_|((try refine Or.inl ?_;conv=>whnf);(try refine ⟨false,?_⟩;conv=>whnf);refine ⟨_,by first|exact c1|exact c2|exact c3|exact c4,?_⟩)|refine lD ?_|refine lN ?_|refine kL ?_|fail);conv=>whnf))
 refine ⟨fun h=>?_,fun h=>?_⟩<;>(conv=>whnf)
 ·have h3:L5 b=false:=(by rw [Bool.not_eq_true'] at h;exact h)
  exact congrArg i64 (if_neg (by unfold A8;rw [h1,h2,h3];simp)).symm
 have h3:L5 b=true:=(by rw [Bool.not_eq_false'] at h;exact h)
 clear h
 (repeat' ((first|refine u6 ?_|refine u7 ?_|((try refine Or.inl ?_;conv=>whnf);(try refine ⟨false,?_⟩;conv=>whnf);refine ⟨_,by first|exact c1|exact c2|exact c3|exact c4,?_⟩)|refine lD ?_|refine lN ?_|refine kL ?_|fail);conv=>whnf))
 refine ⟨fun h=>?_,fun h=>?_⟩<;>(conv=>whnf)
 ·have h4:U1 b=false:=(by rw [Bool.not_eq_true'] at h;exact h)
  exact congrArg i64 (if_neg (by unfold A8;rw [h1,h2,h3,h4];simp)).symm
 have h4:U1 b=true:=(by rw [Bool.not_eq_false'] at h;exact h)
 clear h
 (repeat' ((first|refine u6 ?_|refine u7 ?_|((try refine Or.inl ?_;conv=>whnf);(try refine ⟨false,?_⟩;conv=>whnf);refine ⟨_,by first|exact c1|exact c2|exact c3|exact c4,?_⟩)|refine lD ?_|refine lN ?_|refine kL ?_|fail);conv=>whnf))
 exact congrArg i64 (if_pos (by unfold A8;rw [h1,h2,h3,h4];rfl)).symm

end Go.Proofs.Tryz.My
