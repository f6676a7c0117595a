/- A helper text: contracts of functions of the program, and plain lemmas. -/
import Derived.Test.YtdpnpdjnaimgaaaGreatEvSix
import Derived.Test.YtdpnpdjnaimgaaaGreatMzBk1
import Derived.Test.YtdpnpdjnaimgaaaGreatMzGdB
import Derived.Test.YtdpnpdjnaimgaaaGreatMzGdE
set_option maxRecDepth 100000
set_option maxHeartbeats 0
set_option linter.unusedVariables false
set_option linter.unusedSimpArgs false
namespace Go.Proofs.Tryz.My
open Go Go.Ev
theorem a7a {l:List RecT} {j:Nat} (hj:j < l.length):o9 (l.take (j + 1))=o9 (l.take j) + if (l.getD j rec0).state=3 then 1 else 0:=by
 unfold o9
 rw [List.take_add_one,List.filter_append,List.length_append,List.getElem?_eq_getElem hj]
 simp only [List.getD,List.getElem?_eq_getElem hj,Option.getD_some,Option.toList_some,List.filter_cons,List.filter_nil]
 by_cases h:l[j].state=3<;>simp [h]
theorem b0E (l:List RecT):o9 l<=l.length:=by
 unfold o9
 exact List.length_filter_le _ _
theorem a2d {k n:Int} {us:List Int} {rs:List RecT} {lg:List EntT} {j:Nat} {x:RecT} (hj:j < rs.length) (hx:rs.getD j rec0=x) (h:recB us x=false):AV.bool false=AV.bool (B7 ⟨k,us,rs,n,lg⟩):=by
 subst hx
 unfold B7
 rw [b3J hj h,Bool.false_and]
theorem a3a {us:List Int} {x:RecT} {i:Nat} (hi:i < x.appr.length) (h:okA us x i=false):recB us x=false:=by
 unfold recB a1Z
 rw [a0q hi h,Bool.false_and]
theorem b0F {us:List Int} {x:RecT} (h:a1x us x=false):recB us x=false:=by
 unfold recB
 rw [h,Bool.and_false]
theorem a5J {us:List Int} {x:RecT} {i:Nat}:okA us x i=true↔a06 x.appr i < x.appr.getD i 0/\¬x.appr.getD i 0=x.author/\mayB [2,3] us (x.appr.getD i 0)=true:=by
 simp only [okA,Bool.and_eq_true,decide_eq_true_eq,Bool.not_eq_true',decide_eq_false_iff_not,and_assoc]
theorem a4v {us:List Int} {x:RecT}:a1x us x=true↔mayB [2] us x.author=true/\gauB x.gauge=true/\1<=x.state/\x.state<=4/\(decide (1 < x.state) != x7 us x.appr)=false:=by
 simp only [a1x,n8,Bool.and_eq_true,decide_eq_true_eq,and_assoc,bne,Bool.not_eq_false',gt_iff_lt]
theorem a9E {g:GauT}:(if gauB g then (0:Int) else 8)=0↔gauB g=true:=by
 by_cases h:gauB g=true<;>simp [h]
theorem a7b (k n:Int) (us:List Int) (rs:List RecT) (lg:List EntT) (hu:us.length < 2 ^ 40) (hr:rs.length < 2 ^ 40) (ha:∀ i,(rs.getD i rec0).appr.length < 2 ^ 40) :
  PC Tryz.prog 115 [.pt (dsk k us rs n lg) 0] (.bool (B7 ⟨k,us,rs,n,lg⟩)):=by
 have c1:=a9D k n us rs lg 2
 have c2:=b3K k n us rs lg 2 3
 have e1:=fun u=>C9 k n u us rs lg 2 hu
 have e2:=fun u=>a28 k n u us rs lg 2 3 hu
 refine a7 hm Tryz.func115 (by kernel_rfl) ?_
 conv=>whnf
 ((first | refine Or.inl ?_ | skip); (conv=>whnf); refine ⟨true,?_⟩; (conv=>whnf); refine ⟨_,c1,?_⟩; (conv=>whnf))
 ((first | refine Or.inl ?_ | skip); (conv=>whnf); refine ⟨true,?_⟩; (conv=>whnf); refine ⟨_,c2,?_⟩; (conv=>whnf))
 refine Or.inr ⟨Nat,[3,23],[],[],fun k=>[i64 (o9 (rs.take k)),i64 k],fun _=>[],fun _=>[],fun k=>rs.length - k,fun k=>k<=rs.length/\∀ i,i < k->recB us (rs.getD i rec0)=true,?_⟩
 conv=>whnf
 refine ⟨⟨0,?_⟩,?_⟩
 ·(conv=>whnf)
  exact ⟨⟨⟨Nat.zero_le _,fun i hi=>absurd hi (Nat.not_lt_zero i)⟩,rfl,rfl,rfl⟩,by kernel_rfl,by kernel_rfl⟩
 ·intro j hj
  conv=>whnf
  refine ⟨fun h => ?_,fun h => ?_⟩
  ·have h:=of_decide_eq_true h
   conv=>whnf
   refine ⟨⟨by omega,by omega⟩,?_⟩
   conv=>whnf
   have hjj:j < rs.length:=by omega
   have hx1:=ha j
   rw [show Int.toNat (j:Int)=j from rfl]
   generalize hx:rs.getD j rec0=x at hx1
   refine Or.inr ⟨Nat,[8,30],[],[],fun i=>[i64 (a06 x.appr i),i64 i],fun _=>[],fun _=>[],fun i=>x.appr.length - i,fun i=>i<=x.appr.length/\∀ m,m < i->okA us x m=true,?_⟩
   conv=>whnf
   refine ⟨⟨0,?_⟩,?_⟩
   ·(conv=>whnf)
    exact ⟨⟨⟨Nat.zero_le _,fun i hi=>absurd hi (Nat.not_lt_zero i)⟩,rfl,rfl,rfl⟩,by kernel_rfl,by kernel_rfl⟩
   ·intro i hi
    conv=>whnf
    refine ⟨fun h2 => ?_,fun h2 => ?_⟩
    ·have h2:=of_decide_eq_true h2
     conv=>whnf
     refine ⟨⟨by omega,by omega⟩,?_⟩
     conv=>whnf
     rw [show Int.toNat (i:Int)=i from rfl]
     (repeat' first|(refine ansS (fun hh=>?_) (fun hh=>?_)<;>(try simp only [ansX] at hh)<;>first|(exfalso;first|omega|(simp [*] at hh;done)|(revert hh;decide))|exact absurd (by assumption) hh|conv=>whnf)|((first|refine kR ?_|refine aB ?_|refine aL ?_|refine aN ?_|((try (refine Or.inl ?_;conv=>whnf));(try (refine ⟨false,?_⟩;conv=>whnf));refine ⟨_,by exact e2 _,?_⟩)|fail);conv=>whnf))
     ·exact a2d hjj hx (a3a (i:=i) (by omega) (Bool.eq_false_iff.2 fun q=>by have q:=a5J.1 q; omega))
     ·exact a2d hjj hx (a3a (i:=i) (by omega) (Bool.eq_false_iff.2 fun q=>(a5J.1 q).2.1 (by assumption)))
     ·exact a2d hjj hx (a3a (i:=i) (by omega) (Bool.eq_false_iff.2 fun q=>Bool.noConfusion ((a5J.1 q).2.2.symm.trans (by assumption))))
     ·have ok:okA us x i=true:=a5J.2 ⟨by omega,by assumption,by assumption⟩
      refine ⟨i + 1,?_⟩
      conv=>whnf
      refine ⟨⟨⟨?_,?_,?_⟩,?_,rfl,rfl⟩,by kernel_rfl,by kernel_rfl⟩
      ·show x.appr.length - (i + 1) < x.appr.length - i; omega
      ·omega
      ·intro m hm
       by_cases e:m=i
       ·subst e; exact ok
       ·exact hi.2 m (by omega)
      ·rw [w64 _ (by omega) (by omega)]
       simp [a06]
    ·have h2:=of_decide_eq_false h2
     have ha1:a1Z us x=true:=M0.2 fun m hm=>hi.2 m (by omega)
     (repeat' first|(refine ansS (fun hh=>?_) (fun hh=>?_)<;>(try simp only [ansX] at hh)<;>first|(exfalso;first|omega|(simp [*] at hh;done)|(revert hh;decide))|exact absurd (by assumption) hh|conv=>whnf)|((first|refine kR ?_|refine aB ?_|refine aL ?_|refine aN ?_|((try (refine Or.inl ?_;conv=>whnf));(try (refine ⟨false,?_⟩;conv=>whnf));refine ⟨_,by first | exact e1 _ | exact E7 _ | exact a4u k n us rs lg hu _ hx1,?_⟩)|fail);conv=>whnf))
     iterate 5 (refine a2d hjj hx (b0F (Bool.eq_false_iff.2 fun q => ?_)); have q:=a4v.1 q; first | (exact absurd (a9E.2 q.2.1) (by assumption)) | omega | exact Bool.noConfusion (q.1.symm.trans (by assumption)) | exact Bool.noConfusion (q.2.2.2.2.symm.trans (by assumption)))
     all_goals (
      have ok:recB us x=true:=by
       unfold recB
       rw [ha1,Bool.true_and]
       exact a4v.2 ⟨by assumption,a9E.1 (by assumption),by omega,by omega,by assumption⟩
      have hn:=a7a hjj
      have hm:o9 (rs.take j)<=rs.length:=Nat.le_trans (b0E _) (by rw [List.length_take]; omega)
      rw [hx] at hn
      refine ⟨j + 1,?_⟩
      conv=>whnf
      refine ⟨⟨⟨?_,?_,?_⟩,?_,rfl,rfl⟩,by kernel_rfl,by kernel_rfl⟩
      ·show rs.length - (j + 1) < rs.length - j; omega
      ·omega
      ·intro m hm
       by_cases e:m=j
       ·rw [e,hx]; exact ok
       ·exact hj.2 m (by omega)
      ·first
        | (rw [if_pos (by assumption)] at hn; rw [w64 _ (by omega) (by omega),w64 _ (by omega) (by omega)]; show _=[i64 (o9 (rs.take (j + 1)):Nat),i64 ((j + 1:Nat):Int)]; rw [hn]; first | rfl | (simp; done))
        | (rw [if_neg (by assumption)] at hn; rw [w64 _ (by omega) (by omega)]; show _=[i64 (o9 (rs.take (j + 1)):Nat),i64 ((j + 1:Nat):Int)]; rw [hn]; first | rfl | (simp; done)))
  ·have h:=of_decide_eq_false h
   conv=>whnf
   have e:B7 ⟨k,us,rs,n,lg⟩=decide ((o9 (rs.take j):Int)<=1):=by
    have ej:rs.take j=rs:=List.take_of_length_le (by omega)
    unfold B7
    rw [a67.2 fun i hi=>hj.2 i (by omega),ej,Bool.true_and]
    exact decide_eq_decide.2 (show o9 rs<=1↔_ by omega)
   rw [e]
theorem a9F {b:BooksT} {i:Nat} {s:EntT} {x:RecT} (hs:b.log.getD i ent0=s) (hx:b.recipes.getD s.recipe.toNat rec0=x):entB b i=true↔V6 b.log i < s.seq/\s.seq < b.next/\n8 s.recipe 0 (b.recipes.length - 1)=true/\n8 s.part 0 1099511627776=true /\
  (meaF x.gauge s.profile).2.2=0/\(meaF x.gauge s.profile).2.1=s.verdict/\¬x.state=1:=by
 simp only [entB,hs,hx,Bool.and_eq_true,decide_eq_true_eq,Bool.not_eq_true',decide_eq_false_iff_not,and_assoc]
theorem b0G (k n:Int) (us:List Int) (rs:List RecT) (lg:List EntT) (hr:rs.length < 2 ^ 40) (hl:lg.length < 2 ^ 40) (ha:∀ i,(lg.getD i ent0).profile.length < 2 ^ 40) :
  PC Tryz.prog 116 [.pt (dsk k us rs n lg) 0] (.bool (J0 ⟨k,us,rs,n,lg⟩)):=by
 have w1:IntKind.i64.wrap ((rs.length:Int) - 1)=(rs.length:Int) - 1:=w64 _ (by omega) (by omega)
 have c1:∀ u,PC Tryz.prog 105 [i64 0,i64 (IntKind.i64.wrap ((rs.length:Int) - 1)),i64 u] (.bool (decide (0<=u) && decide (u<=(rs.length:Int) - 1))):=fun u=>by rw [w1]; exact y0 0 _ u
 have c2:∀ u,PC Tryz.prog 105 [i64 0,i64 1099511627776,i64 u] (.bool (decide (0<=u) && decide (u<=1099511627776))):=fun u=>y0 0 _ u
 refine a7 hm Tryz.func116 (by kernel_rfl) ?_
 conv=>whnf
 refine Or.inr ⟨Nat,[3,16],[],[],fun j=>[i64 (V6 lg j),i64 j],fun _=>[],fun _=>[],fun j=>lg.length - j,fun j=>j<=lg.length/\∀ i,i < j->entB ⟨k,us,rs,n,lg⟩ i=true,?_⟩
 conv=>whnf
 refine ⟨⟨0,?_⟩,?_⟩
 ·(conv=>whnf)
  exact ⟨⟨⟨Nat.zero_le _,fun i hi=>absurd hi (Nat.not_lt_zero i)⟩,rfl,rfl,rfl⟩,by kernel_rfl,by kernel_rfl⟩
 ·intro j hj
  conv=>whnf
  refine ⟨fun h => ?_,fun h => ?_⟩
  ·have h:=of_decide_eq_true h
   have hjj:j < lg.length:=by omega
   conv=>whnf
   refine ⟨⟨by omega,by omega⟩,?_⟩
   conv=>whnf
   have hs1:=ha j
   rw [show Int.toNat (j:Int)=j from rfl]
   generalize hs:lg.getD j ent0=s at hs1
   have bad:¬(V6 lg j < s.seq/\s.seq < n/\n8 s.recipe 0 (rs.length - 1)=true/\n8 s.part 0 1099511627776=true /\
     (meaF (rs.getD s.recipe.toNat rec0).gauge s.profile).2.2=0/\(meaF (rs.getD s.recipe.toNat rec0).gauge s.profile).2.1=s.verdict/\¬(rs.getD s.recipe.toNat rec0).state=1)->AV.bool false=AV.bool (J0 ⟨k,us,rs,n,lg⟩):=fun q=>by
    unfold J0
    rw [a0q hjj (Bool.eq_false_iff.2 fun e=>q ((a9F hs rfl).1 e))]
   conv=>whnf
   (repeat' first|(refine ansS (fun hh=>?_) (fun hh=>?_)<;>(try simp only [ansX] at hh)<;>first|(exfalso;first|omega|(simp [*] at hh;done)|(revert hh;decide))|exact absurd (by assumption) hh|conv=>whnf)|((first|refine kR ?_|refine aB ?_|refine aL ?_|refine aN ?_|((try (refine Or.inl ?_;conv=>whnf));(try (refine ⟨false,?_⟩;conv=>whnf));refine ⟨_,by first | exact c1 _ | exact c2 _ | exact a0G _ _ hs1,?_⟩)|fail);conv=>whnf))
   iterate 7 (refine bad fun q => ?_; obtain ⟨q1,q2,q3,q4,q5,q6,q7⟩:=q; simp only [n8,Bool.and_eq_true,decide_eq_true_eq] at q3 q4; omega)
   have ok:entB ⟨k,us,rs,n,lg⟩ j=true:=(a9F hs rfl).2 ⟨show V6 lg j < s.seq by omega,show s.seq < n by omega,by simp only [n8,Bool.and_eq_true,decide_eq_true_eq]; assumption,by simp only [n8,Bool.and_eq_true,decide_eq_true_eq]; assumption,by assumption,by assumption,by assumption⟩
   refine ⟨j + 1,?_⟩
   conv=>whnf
   refine ⟨⟨⟨?_,?_,?_⟩,?_,rfl,rfl⟩,by kernel_rfl,by kernel_rfl⟩
   ·show lg.length - (j + 1) < lg.length - j; omega
   ·omega
   ·intro m hm
    by_cases e:m=j
    ·rw [e]; exact ok
    ·exact hj.2 m (by omega)
   ·rw [w64 _ (by omega) (by omega)]
    show _=[i64 (V6 lg (j + 1)),i64 ((j + 1:Nat):Int)]
    unfold V6
    rw [if_neg (Nat.succ_ne_zero j),Nat.add_sub_cancel,hs]
    rfl
  ·have h:=of_decide_eq_false h
   conv=>whnf
   have e:J0 ⟨k,us,rs,n,lg⟩=true:=M0.2 fun i hi=>hj.2 i (by have:i < lg.length:=hi; omega)
   rw [e]
structure Okay (b:BooksT):Prop where
 u:b.users.length < 2 ^ 20
 r:b.recipes.length < 2 ^ 20
 l:b.log.length < 2 ^ 20
 a:∀ i,(b.recipes.getD i rec0).appr.length < 2 ^ 20
 p:∀ i,(b.log.getD i ent0).profile.length < 2 ^ 20
theorem lt40 {n:Nat} (h:n < 2 ^ 20):n < 2 ^ 40:=Nat.lt_trans h (by decide)
theorem Z5 (b:BooksT) (o:Okay b):PC Tryz.prog 69 [bks b] (i64 (if chkB b then 0 else 8)):=by
 have c1:=b2c b.keep b.next b.users b.recipes b.log
 have c2:=a8L b.keep b.next b.users b.recipes b.log (lt40 o.u)
 have c3:=a7b b.keep b.next b.users b.recipes b.log (lt40 o.u) (lt40 o.r) fun i=>lt40 (o.a i)
 have c4:=b0G b.keep b.next b.users b.recipes b.log (lt40 o.r) (lt40 o.l) fun i=>lt40 (o.p i)
 refine a7 hm Tryz.func69 (by kernel_rfl) ?_
 conv=>whnf
 refine Or.inl ⟨5,?_⟩
 conv=>whnf
 (repeat' ((first | refine ansT ?_ | refine ansF ?_|((try (refine Or.inl ?_;conv=>whnf));(try (refine ⟨false,?_⟩;conv=>whnf));refine ⟨_,by first | exact c1 | exact c2 | exact c3 | exact c4,?_⟩) | refine ansD (by first|(simp [*];done)|omega) ?_ | refine ansN (by first|(simp [*];done)|omega) ?_ | refine ⟨by kernel_rfl,?_⟩ | refine ansB (by decide) (by first | decide | (simp; done) | (simp only [List.length_cons,List.length_nil]; decide)) ?_|fail);conv=>whnf))
 refine ⟨fun h => ?_,fun h => ?_⟩<;>(conv=>whnf)
 ·have h1:U5 b=false:=(by rw [Bool.not_eq_true'] at h; exact h)
  exact congrArg i64 (if_neg (by unfold chkB; rw [h1]; simp)).symm
 have h1:U5 b=true:=(by rw [Bool.not_eq_false'] at h; exact h)
 clear h
 (repeat' ((first | refine ansT ?_ | refine ansF ?_|((try (refine Or.inl ?_;conv=>whnf));(try (refine ⟨false,?_⟩;conv=>whnf));refine ⟨_,by first | exact c1 | exact c2 | exact c3 | exact c4,?_⟩) | refine ansD (by first|(simp [*];done)|omega) ?_ | refine ansN (by first|(simp [*];done)|omega) ?_ | refine ⟨by kernel_rfl,?_⟩ | refine ansB (by decide) (by first | decide | (simp; done) | (simp only [List.length_cons,List.length_nil]; decide)) ?_|fail);conv=>whnf))
 refine ⟨fun h => ?_,fun h => ?_⟩<;>(conv=>whnf)
 ·have h2:R8 b=false:=(by rw [Bool.not_eq_true'] at h; exact h)
  exact congrArg i64 (if_neg (by unfold chkB; rw [h1,h2]; simp)).symm
 have h2:R8 b=true:=(by rw [Bool.not_eq_false'] at h; exact h)
 clear h
 (repeat' ((first | refine ansT ?_ | refine ansF ?_|((try (refine Or.inl ?_;conv=>whnf));(try (refine ⟨false,?_⟩;conv=>whnf));refine ⟨_,by first | exact c1 | exact c2 | exact c3 | exact c4,?_⟩) | refine ansD (by first|(simp [*];done)|omega) ?_ | refine ansN (by first|(simp [*];done)|omega) ?_ | refine ⟨by kernel_rfl,?_⟩ | refine ansB (by decide) (by first | decide | (simp; done) | (simp only [List.length_cons,List.length_nil]; decide)) ?_|fail);conv=>whnf))
 refine ⟨fun h => ?_,fun h => ?_⟩<;>(conv=>whnf)
 ·have h3:B7 b=false:=(by rw [Bool.not_eq_true'] at h; exact h)
  exact congrArg i64 (if_neg (by unfold chkB; rw [h1,h2,h3]; simp)).symm
 have h3:B7 b=true:=(by rw [Bool.not_eq_false'] at h; exact h)
 clear h
 (repeat' ((first | refine ansT ?_ | refine ansF ?_|((try (refine Or.inl ?_;conv=>whnf));(try (refine ⟨false,?_⟩;conv=>whnf));refine ⟨_,by first | exact c1 | exact c2 | exact c3 | exact c4,?_⟩) | refine ansD (by first|(simp [*];done)|omega) ?_ | refine ansN (by first|(simp [*];done)|omega) ?_ | refine ⟨by kernel_rfl,?_⟩ | refine ansB (by decide) (by first | decide | (simp; done) | (simp only [List.length_cons,List.length_nil]; decide)) ?_|fail);conv=>whnf))
 refine ⟨fun h => ?_,fun h => ?_⟩<;>(conv=>whnf)
 ·have h4:J0 b=false:=(by rw [Bool.not_eq_true'] at h; exact h)
  exact congrArg i64 (if_neg (by unfold chkB; rw [h1,h2,h3,h4]; simp)).symm
 have h4:J0 b=true:=(by rw [Bool.not_eq_false'] at h; exact h)
 clear h
 (repeat' ((first | refine ansT ?_ | refine ansF ?_|((try (refine Or.inl ?_;conv=>whnf));(try (refine ⟨false,?_⟩;conv=>whnf));refine ⟨_,by first | exact c1 | exact c2 | exact c3 | exact c4,?_⟩) | refine ansD (by first|(simp [*];done)|omega) ?_ | refine ansN (by first|(simp [*];done)|omega) ?_ | refine ⟨by kernel_rfl,?_⟩ | refine ansB (by decide) (by first | decide | (simp; done) | (simp only [List.length_cons,List.length_nil]; decide)) ?_|fail);conv=>whnf))
 exact congrArg i64 (if_pos (by unfold chkB; rw [h1,h2,h3,h4]; rfl)).symm

end Go.Proofs.Tryz.My
