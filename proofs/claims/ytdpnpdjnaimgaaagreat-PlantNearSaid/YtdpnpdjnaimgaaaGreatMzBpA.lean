/- A helper text: contracts of functions of the program, and plain lemmas. -/
import Derived.Test.YtdpnpdjnaimgaaaGreatEvSix
import Derived.Test.YtdpnpdjnaimgaaaGreatMzBoC
import Derived.Test.YtdpnpdjnaimgaaaGreatEvTen
set_option maxRecDepth 100000
set_option maxHeartbeats 0
set_option linter.unusedVariables false
set_option linter.unusedSimpArgs false
namespace Go.Proofs.Tryz.My
open Go Go.Ev
def posI (l:List Int) (t:Int):Nat:=l.findIdx fun x=>decide (t<=x)
theorem b3L {l:List Int} {t:Int} {i:Nat} (hi:i<=l.length) (h1:∀ m,m < i->l.getD m 0 < t) (h2:i < l.length->t<=l.getD i 0):posI l t=i:=by
 unfold posI
 rcases Nat.lt_trichotomy (l.findIdx fun x=>decide (t<=x)) i with h | h | h
 ·have hl:(l.findIdx fun x=>decide (t<=x)) < l.length:=by omega
  have a:=List.findIdx_getElem (p:=fun x=>decide (t<=x)) (xs:=l) (w:=hl)
  have b:=h1 _ h
  simp only [List.getD,List.getElem?_eq_getElem hl,Option.getD_some] at b
  have a:=of_decide_eq_true a
  omega
 ·exact h
 ·have hl:i < l.length:=Nat.lt_of_lt_of_le h List.findIdx_le_length
  have a:=List.not_of_lt_findIdx h
  have b:=h2 hl
  simp only [List.getD,List.getElem?_eq_getElem hl,Option.getD_some] at b
  simp [b] at a
theorem a5N (l:List Int) (t:Int):posI l t<=l.length:=List.findIdx_le_length
def Inc (l:List Int):Prop:=∀ i j,i < j->j < l.length->l.getD i 0 < l.getD j 0
theorem b2j {us:List Int} {x:RecT} (h:a1Z us x=true):Inc x.appr:=by
 have h:=M0.1 h
 have st:∀ i,i + 1 < x.appr.length->x.appr.getD i 0 < x.appr.getD (i + 1) 0:=by
  intro i hi
  have:=h (i + 1) hi
  simp only [okA,Bool.and_eq_true,a06] at this
  have e:=of_decide_eq_true this.1.1
  rw [if_neg (by omega),show i + 1 - 1=i by omega] at e
  exact e
 intro i j hij
 induction j with
 | zero=>omega
 | succ j ih =>
  intro hj
  by_cases e:i=j
  ·subst e; exact st i hj
  ·have a:=ih (by omega) (by omega)
   have b:=st j hj
   omega
theorem b3M {l:List Int} (h:Inc l) {t:Int} {i:Nat} (hi:i<=l.length) (h1:∀ m,m < i->l.getD m 0 < t) (h2:∀ m,i<=m->m < l.length->t<=l.getD m 0):l.contains t=(decide (i < l.length) && decide (l.getD i 0=t)):=by
 rw [Bool.eq_iff_iff,List.contains_iff_mem,Bool.and_eq_true,decide_eq_true_eq,decide_eq_true_eq]
 constructor
 ·intro hm
  obtain ⟨m,hm,e⟩:=List.getElem_of_mem hm
  have e2:l.getD m 0=t:=by simp only [List.getD,List.getElem?_eq_getElem hm,Option.getD_some]; exact e
  rcases Nat.lt_trichotomy m i with q | q | q
  ·have:=h1 m q; omega
  ·subst q; exact ⟨hm,e2⟩
  ·have a:=h i m q hm
   have b:=h2 i (Nat.le_refl i) (by omega)
   omega
 ·rintro ⟨a,b⟩
  rw [<- b]
  simp only [List.getD,List.getElem?_eq_getElem a,Option.getD_some]
  exact List.getElem_mem a
theorem b4x (i j:Nat) (hi:i < 2 ^ 40) (hj:j < 2 ^ 40):IntKind.i64.wrap ((IntKind.u64.wrap (IntKind.i64.wrap ((i:Int) + (j:Int)))).fdiv (2 ^ min (Int.toNat 1) IntKind.u64.bits))=(((i + j) / 2:Nat):Int):=by
 have e1:IntKind.i64.wrap ((i:Int) + (j:Int))=((i + j:Nat):Int):=by rw [wi _ (by omega) (by omega)]; omega
 have e:Int.toNat ((1:Nat):Int)=Int.toNat 1:=rfl
 have:=a37 (i + j) 1 (by omega)
 rw [e] at this
 rw [e1,wu _ (by omega),this,wi _ (by omega) (by omega)]
theorem b3N (x:Int):PC Tryz.prog 324 [i64 x] (.bool false):=by
 refine a7 hm Tryz.func324 (by kernel_rfl) ?_
 conv=>whnf
 first | rfl | (simp; done)
theorem b3O (x:Int):PC Tryz.prog 310 [i64 x] (.bool false):=by
 refine a7 hm Tryz.func310 (by kernel_rfl) ?_
 conv=>whnf
 first | rfl | (simp; done)
theorem b2k (x y:Int):PC Tryz.prog 309 [i64 x,i64 y] (.bool (decide (x < y))):=by
 refine a7 hm Tryz.func309 (by kernel_rfl) ?_
 conv=>whnf
 (repeat' first|(refine ansS (fun hh=>?_) (fun hh=>?_)<;>(try simp only [ansX] at hh)<;>first|(exfalso;first|omega|(simp [*] at hh;done)|(revert hh;decide))|exact absurd (by assumption) hh|conv=>whnf)|((first|refine kR ?_|refine aB ?_|refine aL ?_|refine aN ?_|((try (refine Or.inl ?_;conv=>whnf));(try (refine ⟨false,?_⟩;conv=>whnf));refine ⟨_,by exact b3N _,?_⟩)|fail);conv=>whnf))
 all_goals rfl
theorem a9G (l:List Int) (hs:Inc l) (hl:l.length < 2 ^ 39) (t:Int):PC Tryz.prog 275 [ints l,i64 t] (.tup [i64 (posI l t),.bool (l.contains t)]):=by
 refine a7 hm Tryz.func275 (by kernel_rfl) ?_
 conv=>whnf
 refine Or.inr ⟨Nat×Nat,[7,8],[],[],fun i=>[i64 i.1,i64 i.2],fun _=>[],fun _=>[],fun i=>i.2 - i.1,fun i=>i.1<=i.2/\i.2<=l.length/\(∀ m,m < i.1->l.getD m 0 < t)/\∀ m,i.2<=m->m < l.length->t<=l.getD m 0,?_⟩
 conv=>whnf
 refine ⟨⟨(0,l.length),?_⟩,?_⟩
 ·(conv=>whnf)
  exact ⟨⟨⟨Nat.zero_le _,Nat.le_refl _,fun m hm=>absurd hm (Nat.not_lt_zero m),fun m h1 h2=>absurd h2 (Nat.not_lt.2 h1)⟩,rfl,rfl,rfl⟩,by kernel_rfl,by kernel_rfl⟩
 ·rintro ⟨i,j⟩ ⟨g1,g2,g3,g4⟩
  simp only [] at g1 g2 g3 g4
  conv=>whnf
  refine ⟨fun h => ?_,fun h => ?_⟩
  ·have h:=of_decide_eq_true h
   simp only [] at h
   conv=>whnf
   rw [b4x i j (by omega) (by omega)]
   have e1:i<=(i + j) / 2:=by omega
   have e2:(i + j) / 2 < j:=by omega
   generalize (i + j) / 2=m at *
   have z:l.getD (Int.toNat (m:Int)) 0=l.getD m 0:=rfl
   (repeat' first|(refine ansS (fun hh=>?_) (fun hh=>?_)<;>(try simp only [ansX] at hh)<;>first|(exfalso;first|omega|(simp [*] at hh;done)|(revert hh;decide))|exact absurd (by assumption) hh|conv=>whnf)|((first|refine kR ?_|refine aB ?_|refine aL ?_|refine aN ?_|((try (refine Or.inl ?_;conv=>whnf));(try (refine ⟨false,?_⟩;conv=>whnf));refine ⟨_,by exact b2k _ _,?_⟩)|fail);conv=>whnf))
   ·refine ⟨(m + 1,j),?_⟩
    conv=>whnf
    refine ⟨⟨⟨?_,by show m + 1<=j; omega,g2,?_,g4⟩,?_,rfl,rfl⟩,by kernel_rfl,by kernel_rfl⟩
    ·show j - (m + 1) < j - i; omega
    ·intro q hq
     have hq:q < m + 1:=hq
     by_cases e:q=m
     ·subst e; assumption
     ·have:=hs q m (by omega) (by omega)
      omega
    ·rw [w64 _ (by omega) (by omega)]; rfl
   ·refine ⟨(i,m),?_⟩
    conv=>whnf
    refine ⟨⟨⟨?_,e1,by show m<=l.length; omega,g3,?_⟩,rfl,rfl,rfl⟩,by kernel_rfl,by kernel_rfl⟩
    ·show m - i < j - i; omega
    ·intro q h1 h2
     have h1:m<=q:=h1
     by_cases e:q=m
     ·subst e; omega
     ·have:=hs m q (by omega) h2
      omega
  ·have h:=of_decide_eq_false h
   simp only [] at h
   have e:i=j:=by omega
   subst e
   rw [b3M hs g2 g3 g4,b3L g2 g3 (fun q=>g4 i (Nat.le_refl i) q)]
   (repeat' first|(refine ansS (fun hh=>?_) (fun hh=>?_)<;>(try simp only [ansX] at hh)<;>first|(exfalso;first|omega|(simp [*] at hh;done)|(revert hh;decide))|exact absurd (by assumption) hh|conv=>whnf)|((first|refine kR ?_|refine aB ?_|refine aL ?_|refine aN ?_|((try (refine Or.inl ?_;conv=>whnf));(try (refine ⟨false,?_⟩;conv=>whnf));refine ⟨_,by exact b3O _,?_⟩)|fail);conv=>whnf))
   all_goals (refine congrArg (fun z=>AV.tup [i64 i,AV.bool z]) ?_; first | (simp_all; done) | (rw [decide_eq_false (show ¬i < l.length by omega)]; rfl))
def H5 (q:Int) (x:EntT):Bool:=decide (x.seq=q)
def ixE (p:EntT->Bool) (l:List EntT):Int:=if l.any p then l.findIdx p else -1
theorem a0r {p:EntT->Bool} {l:List EntT} (h:l.any p=true):l.findIdx p < l.length:=by
 obtain ⟨x,hx,hp⟩:=List.any_eq_true.1 h
 exact List.findIdx_lt_length_of_exists ⟨x,hx,hp⟩
theorem b4y {p:EntT->Bool} {l:List EntT} (h:l.any p=true):p (l.getD (l.findIdx p) ent0)=true:=by
 have hl:=a0r h
 have:=List.findIdx_getElem (p:=p) (xs:=l) (w:=hl)
 simp only [List.getD,List.getElem?_eq_getElem hl,Option.getD_some]
 exact this
theorem b5w {p:EntT->Bool} {l:List EntT} {m:Nat} (h:m < l.findIdx p):p (l.getD m ent0)=false:=by
 have hl:m < l.length:=Nat.lt_of_lt_of_le h List.findIdx_le_length
 have:=List.not_of_lt_findIdx h
 simp only [List.getD,List.getElem?_eq_getElem hl,Option.getD_some]
 simpa using this
theorem b4Y {p:EntT->Bool} {l:List EntT} {k:Nat} (hk:k < l.length) (h:p (l.getD k ent0)=true):l.any p=true:=List.any_eq_true.2 ⟨l.getD k ent0,by simp only [List.getD,List.getElem?_eq_getElem hk,Option.getD_some]; exact List.getElem_mem hk,h⟩
theorem a9H {p:EntT->Bool} {l:List EntT} {k:Nat} (hk:k < l.length) (h:p (l.getD k ent0)=true) (hno:∀ m,m < k->p (l.getD m ent0)=false):ixE p l=k:=by
 have ha:=b4Y hk h
 unfold ixE
 rw [if_pos ha]
 have e:l.findIdx p=k:=by
  have h1:=b4y ha
  rcases Nat.lt_trichotomy (l.findIdx p) k with h2 | h2 | h2
  ·rw [hno _ h2] at h1; cases h1
  ·exact h2
  ·rw [b5w h2] at h; cases h
 rw [e]
theorem a7g {p:EntT->Bool} {l:List EntT} (hno:∀ m,m < l.length->p (l.getD m ent0)=false):ixE p l = -1:=by
 unfold ixE
 rw [if_neg]
 intro h
 have h1:=b4y h
 rw [hno _ (a0r h)] at h1
 cases h1
theorem a3g (x:EntT) (q:Int):PC Tryz.prog 155 [ent x,.pt [i64 q] 0] (.bool (H5 q x)):=by
 refine a7 hm Tryz.func155 (by kernel_rfl) ?_
 conv=>whnf
 try rfl
theorem a7h (l:List EntT) (hl:l.length < 2 ^ 40) (q:Int):PC Tryz.prog 154 [ents l,.fn (.func 155) [] [.pt [i64 q] 0]] (i64 (ixE (H5 q) l)):=by
 refine a7 hm Tryz.func154 (by kernel_rfl) ?_
 conv=>whnf
 refine Or.inr ⟨Nat,[8],[],[],fun k=>[i64 k],fun _=>[],fun _=>[],fun k=>l.length - k,fun k=>k<=l.length/\∀ m,m < k->H5 q (l.getD m ent0)=false,?_⟩
 conv=>whnf
 refine ⟨⟨0,?_⟩,?_⟩
 ·(conv=>whnf)
  exact ⟨⟨⟨Nat.zero_le _,fun i hi=>absurd hi (Nat.not_lt_zero i)⟩,rfl,rfl,rfl⟩,by kernel_rfl,by kernel_rfl⟩
 intro k hk
 conv=>whnf
 refine ⟨fun h => ?_,fun h => ?_⟩
 ·have h:=of_decide_eq_true h
  have hkk:k < l.length:=by omega
  conv=>whnf
  refine ⟨⟨by omega,by omega⟩,?_⟩
  conv=>whnf
  rw [show Int.toNat (k:Int)=k from rfl]
  (repeat' (first|(refine ⟨_,by first | exact a3g _ _,?_⟩; (conv=>whnf)) | (refine Or.inl ?_; (conv=>whnf); refine ⟨_,by first | exact a3g _ _,?_⟩; (conv=>whnf)) | (refine Or.inl ?_; (conv=>whnf); refine ⟨false,?_⟩; (conv=>whnf); refine ⟨_,by first | exact a3g _ _,?_⟩; (conv=>whnf)) | (refine ⟨by kernel_rfl,?_⟩; (conv=>whnf)) | fail))
  refine ⟨fun q1 => ?_,fun q1 => ?_⟩
  ·(conv=>whnf)
   exact congrArg i64 (a9H hkk q1 hk.2).symm
  ·refine ⟨k + 1,?_⟩
   conv=>whnf
   refine ⟨⟨⟨?_,?_,?_⟩,?_,rfl,rfl⟩,by kernel_rfl,by kernel_rfl⟩
   ·show l.length - (k + 1) < l.length - k; omega
   ·omega
   ·intro m h2
    by_cases e:m=k
    ·subst e; exact q1
    ·exact hk.2 m (by omega)
   ·rw [w64 _ (by omega) (by omega)]; rfl
 ·have h:=of_decide_eq_false h
  conv=>whnf
  exact congrArg i64 (a7g fun m h2=>hk.2 m (by omega)).symm
theorem Z6 (b:BooksT) (o:Okay b) (q:Int) (h:b.log.any (H5 q)=true):PW Tryz.prog 98 [.ptr 0 0 0 0,i64 q] (dskR b) (.ptr 3 6 (b.log.findIdx (H5 q)) 0) (dskR b):=by
 have c:=a7h b.log (lt40 o.l) q
 have hlt:=a0r h
 have ho:=o.l
 unfold ixE at c
 rw [if_pos h] at c
 generalize b.log.findIdx (H5 q)=i at *
 refine a9 hm Tryz.func98 (by kernel_rfl) ⟨by kernel_rfl,?_⟩
 conv=>whnf
 (repeat' ((first | refine ansT ?_ | refine ansF ?_|((try (refine Or.inl ?_;conv=>whnf));(try (refine ⟨false,?_⟩;conv=>whnf));refine ⟨_,by exact c,?_⟩) | refine ansD (by first|(simp [*];done)|omega) ?_ | refine ansN (by first|(simp [*];done)|omega) ?_ | refine ⟨by kernel_rfl,?_⟩ | refine ansB (by decide) (by first | decide | (simp; done) | (simp only [List.length_cons,List.length_nil]; decide)) ?_|fail);conv=>whnf))
 (repeat' first|(refine ansS (fun hh=>?_) (fun hh=>?_)<;>(try simp only [ansX] at hh)<;>first|(exfalso;first|omega|(simp [*] at hh;done)|(revert hh;decide))|exact absurd (by assumption) hh|conv=>whnf)|((first|refine kR ?_|refine aB ?_|refine aL ?_|refine aN ?_|fail);conv=>whnf))
 refine ⟨[],by kernel_rfl,?_⟩
 conv=>whnf
 exact ⟨rfl,rfl⟩
theorem a4x (b:BooksT) (o:Okay b) (q:Int) (h:¬b.log.any (H5 q)=true):PW Tryz.prog 98 [.ptr 0 0 0 0,i64 q] (dskR b) .nilp (dskR b):=by
 have c:=a7h b.log (lt40 o.l) q
 unfold ixE at c
 rw [if_neg h] at c
 refine a9 hm Tryz.func98 (by kernel_rfl) ⟨by kernel_rfl,?_⟩
 conv=>whnf
 (repeat' ((first | refine ansT ?_ | refine ansF ?_|((try (refine Or.inl ?_;conv=>whnf));(try (refine ⟨false,?_⟩;conv=>whnf));refine ⟨_,by exact c,?_⟩) | refine ansD (by first|(simp [*];done)|omega) ?_ | refine ansN (by first|(simp [*];done)|omega) ?_ | refine ⟨by kernel_rfl,?_⟩ | refine ansB (by decide) (by first | decide | (simp; done) | (simp only [List.length_cons,List.length_nil]; decide)) ?_|fail);conv=>whnf))
 (repeat' first|(refine ansS (fun hh=>?_) (fun hh=>?_)<;>(try simp only [ansX] at hh)<;>first|(exfalso;first|omega|(simp [*] at hh;done)|(revert hh;decide))|exact absurd (by assumption) hh|conv=>whnf)|((first|refine kR ?_|refine aB ?_|refine aL ?_|refine aN ?_|fail);conv=>whnf))
 refine ⟨[],by kernel_rfl,?_⟩
 conv=>whnf
 exact ⟨rfl,rfl⟩
theorem a3h (b:BooksT):PW Tryz.prog 160 [.ptr 0 0 0 0,.slc 1 [[u8 1],[u8 2],[u8 3]]] (dskR b) (.fn (.func 207) [] [.ptr 4 0 0 0,.ptr 5 0 0 0]) (dskR b++[.cells 176 [.ptr 0 0 0 0],.cells 33 [.slc 1 [[u8 1],[u8 2],[u8 3]]]]):=by
 refine j9 hm Tryz.func160 (by kernel_rfl) ⟨by kernel_rfl,?_⟩
 conv=>whnf
 refine ⟨[2,3],by kernel_rfl,?_⟩
 conv=>whnf
 exact ⟨rfl,rfl⟩
theorem a3i (b:BooksT):PW Tryz.prog 160 [.ptr 0 0 0 0,.slc 1 [[u8 3]]] (dskR b) (.fn (.func 207) [] [.ptr 4 0 0 0,.ptr 5 0 0 0]) (dskR b++[.cells 176 [.ptr 0 0 0 0],.cells 33 [.slc 1 [[u8 3]]]]):=by
 refine j9 hm Tryz.func160 (by kernel_rfl) ⟨by kernel_rfl,?_⟩
 conv=>whnf
 refine ⟨[2,3],by kernel_rfl,?_⟩
 conv=>whnf
 exact ⟨rfl,rfl⟩
def setD (x:EntT) (is:Bool):EntT:=⟨x.seq,x.recipe,x.part,x.profile,x.verdict,is⟩
def mrkI (b:BooksT) (seq:Int):Nat:=b.log.findIdx (H5 seq)
def mrkB (b:BooksT) (seq:Int) (is:Bool):BooksT:=⟨b.keep,b.users,b.recipes,b.next,b.log.set (mrkI b seq) (setD (b.log.getD (mrkI b seq) ent0) is)⟩
def mrkE (b:BooksT) (user seq:Int) (is:Bool) (rr:List Int):Int :=
 if chkB b then (if ¬(b.log.any (H5 seq)=true/\(0<=user/\user<=(b.users.length:Int) - 1)) then 6 else if mayB rr b.users user=false then 100 else if (b.log.getD (mrkI b seq) ent0).disputed=is then 101 else 0) else 8
theorem a4y {b:BooksT} {user seq:Int} {is:Bool} {rr:List Int} (h:mrkE b user seq is rr=0):chkB b=true/\b.log.any (H5 seq)=true/\(0<=user/\user<=(b.users.length:Int) - 1)/\mayB rr b.users user=true/\¬(b.log.getD (mrkI b seq) ent0).disputed=is:=by
 unfold mrkE at h
 by_cases h1:chkB b=true
 ·rw [if_pos h1] at h
  by_cases h2:b.log.any (H5 seq)=true/\(0<=user/\user<=(b.users.length:Int) - 1)
  ·rw [if_neg (fun q=>q h2)] at h
   by_cases h3:mayB rr b.users user=false
   ·rw [if_pos h3] at h; cases h
   ·rw [if_neg h3] at h
    by_cases h4:(b.log.getD (mrkI b seq) ent0).disputed=is
    ·rw [if_pos h4] at h; cases h
    ·exact ⟨h1,h2.1,h2.2,by simpa using h3,h4⟩
  ·rw [if_pos h2] at h; cases h
 ·rw [if_neg h1] at h; cases h
theorem a5O (b:BooksT) (o:Okay b) (user seq:Int) (h:mrkE b user seq true [1,2,3]=0):PW Tryz.prog 278 [bks b,i64 user,i64 seq,.bool true,.slc 1 [[u8 1],[u8 2],[u8 3]]] [] (.tup [ownB (mrkB b seq true),i64 0]) (ownR (mrkB b seq true)):=by
 obtain ⟨hc,ha,hu,hmy,hd⟩:=a4y h
 clear h
 have s:=u4 hc
 have c1:=fun u=>a69 b.keep b.next u b.users b.recipes b.log 1 2 3 (lt40 o.u)
 have w0:IntKind.i64.wrap ((b.users.length:Int) - 1)=(b.users.length:Int) - 1:=w64 _ (by omega) (by omega)
 have hlt:mrkI b seq < b.log.length:=a0r ha
 have e:=Z6 b o seq ha
 unfold mrkB
 unfold mrkI at *
 generalize b.log.findIdx (H5 seq)=i at *
 refine a9 hm Tryz.func278 (by kernel_rfl) ⟨by kernel_rfl,?_⟩
 conv=>whnf
 (refine Or.inr ⟨[ ],[ 20,18,19,21 ],by kernel_rfl,?_⟩; (conv=>whnf); refine ⟨[ ],_,_,_,_,⟨ v9 b o hc,rfl,rfl,by kernel_rfl⟩,?_⟩)
 conv=>whnf
 (repeat' ((first|refine ansT ?_|refine ansF ?_|refine ansD (by first|(simp [*];done)|omega) ?_ | refine ansN (by first|(simp [*];done)|omega) ?_ | refine ⟨by kernel_rfl,?_⟩ | refine ansB (by decide) (by first | decide | (simp; done) | (simp only [List.length_cons,List.length_nil]; decide)) ?_|fail);conv=>whnf))
 (refine Or.inr ⟨[ ],[ ],by kernel_rfl,?_⟩; (conv=>whnf); refine ⟨[ 20,18,19,21 ],_,_,_,_,⟨ e,rfl,rfl,by kernel_rfl⟩,?_⟩)
 conv=>whnf
 (repeat' first|(refine ansS (fun hh=>?_) (fun hh=>?_)<;>(try simp only [ansX] at hh)<;>first|(exfalso;first|omega|(simp [*] at hh;done)|(revert hh;decide))|exact absurd (by assumption) hh|conv=>whnf)|((first|refine kR ?_|refine aB ?_|refine aL ?_|refine aN ?_|((try (refine Or.inl ?_;conv=>whnf));(try (refine ⟨false,?_⟩;conv=>whnf));refine ⟨_,by exact A8 b o _,?_⟩)|fail);conv=>whnf))
 (refine Or.inr ⟨[ ],[ 49,47 ],by kernel_rfl,?_⟩; (conv=>whnf); refine ⟨[ 20,18,19,21 ],_,_,_,_,⟨ a3h b,rfl,rfl,by kernel_rfl⟩,?_⟩)
 conv=>whnf
 (repeat' first|(refine ansS (fun hh=>?_) (fun hh=>?_)<;>(try simp only [ansX] at hh)<;>first|(exfalso;first|omega|(simp [*] at hh;done)|(revert hh;decide))|exact absurd (by assumption) hh|conv=>whnf)|((first|refine kR ?_|refine aB ?_|refine aL ?_|refine aN ?_|((try (refine Or.inl ?_;conv=>whnf));(try (refine ⟨false,?_⟩;conv=>whnf));refine ⟨_,by exact c1 _,?_⟩)|fail);conv=>whnf))
 refine ⟨hlt,?_⟩
 conv=>whnf
 refine ⟨fun q=>absurd (by simpa using q) hd,fun _ => ?_⟩
 conv=>whnf
 refine ⟨setD (b.log.getD i ent0) true,⟨rfl,rfl,hlt⟩,?_⟩
 conv=>whnf
 refine ⟨[18,19,21],by kernel_rfl,?_⟩
 conv=>whnf
 exact ⟨rfl,rfl⟩
theorem a3P (b:BooksT) (o:Okay b) (user seq:Int) (h:¬mrkE b user seq true [1,2,3]=0):PC Tryz.prog 278 [bks b,i64 user,i64 seq,.bool true,.slc 1 [[u8 1],[u8 2],[u8 3]]] (.tup [newB 0,i64 (mrkE b user seq true [1,2,3])]):=by
 have c1:=fun u=>a69 b.keep b.next u b.users b.recipes b.log 1 2 3 (lt40 o.u)
 by_cases hc:chkB b=true
 ·unfold mrkE at h ⊢
  rw [if_pos hc] at h ⊢
  have s:=u4 hc
  by_cases ha:b.log.any (H5 seq)=true
  ·have e:=Z6 b o seq ha
   have hlt:mrkI b seq < b.log.length:=a0r ha
   unfold mrkI at *
   generalize b.log.findIdx (H5 seq)=i at *
   by_cases hu:0<=user/\user<=(b.users.length:Int) - 1
   ·rw [if_neg (fun q=>q ⟨ha,hu⟩)] at h ⊢
    by_cases hmy:mayB [1,2,3] b.users user=true
    ·rw [if_neg (by rw [hmy]; decide)] at h ⊢
     have hd:(b.log.getD i ent0).disputed=true:=Decidable.byContradiction fun q=>h (if_neg q)
     rw [if_pos hd]
     refine a7 hm Tryz.func278 (by kernel_rfl) ?_
     conv=>whnf
     (refine Or.inr ⟨[ ],[ 20,18,19,21 ],by kernel_rfl,?_⟩; (conv=>whnf); refine ⟨[ ],_,_,_,_,⟨ v9 b o hc,rfl,rfl,by kernel_rfl⟩,?_⟩)
     conv=>whnf
     (repeat' ((first|refine ansT ?_|refine ansF ?_|refine ansD (by first|(simp [*];done)|omega) ?_ | refine ansN (by first|(simp [*];done)|omega) ?_ | refine ⟨by kernel_rfl,?_⟩ | refine ansB (by decide) (by first | decide | (simp; done) | (simp only [List.length_cons,List.length_nil]; decide)) ?_|fail);conv=>whnf))
     (refine Or.inr ⟨[ ],[ ],by kernel_rfl,?_⟩; (conv=>whnf); refine ⟨[ 20,18,19,21 ],_,_,_,_,⟨ e,rfl,rfl,by kernel_rfl⟩,?_⟩)
     conv=>whnf
     (repeat' first|(refine ansS (fun hh=>?_) (fun hh=>?_)<;>(try simp only [ansX] at hh)<;>first|(exfalso;first|omega|(simp [*] at hh;done)|(revert hh;decide))|exact absurd (by assumption) hh|conv=>whnf)|((first|refine kR ?_|refine aB ?_|refine aL ?_|refine aN ?_|((try (refine Or.inl ?_;conv=>whnf));(try (refine ⟨false,?_⟩;conv=>whnf));refine ⟨_,by exact A8 b o _,?_⟩)|fail);conv=>whnf))
     (refine Or.inr ⟨[ ],[ 49,47 ],by kernel_rfl,?_⟩; (conv=>whnf); refine ⟨[ 20,18,19,21 ],_,_,_,_,⟨ a3h b,rfl,rfl,by kernel_rfl⟩,?_⟩)
     conv=>whnf
     (repeat' first|(refine ansS (fun hh=>?_) (fun hh=>?_)<;>(try simp only [ansX] at hh)<;>first|(exfalso;first|omega|(simp [*] at hh;done)|(revert hh;decide))|exact absurd (by assumption) hh|conv=>whnf)|((first|refine kR ?_|refine aB ?_|refine aL ?_|refine aN ?_|((try (refine Or.inl ?_;conv=>whnf));(try (refine ⟨false,?_⟩;conv=>whnf));refine ⟨_,by exact c1 _,?_⟩)|fail);conv=>whnf))
     refine ⟨hlt,?_⟩
     conv=>whnf
     refine ⟨fun _ => ?_,fun q=>absurd hd (by simpa using q)⟩
     conv=>whnf
     all_goals rfl
    ·have hm2:mayB [1,2,3] b.users user=false:=by simpa using hmy
     rw [if_pos hm2]
     refine a7 hm Tryz.func278 (by kernel_rfl) ?_
     conv=>whnf
     (refine Or.inr ⟨[ ],[ 20,18,19,21 ],by kernel_rfl,?_⟩; (conv=>whnf); refine ⟨[ ],_,_,_,_,⟨ v9 b o hc,rfl,rfl,by kernel_rfl⟩,?_⟩)
     conv=>whnf
     (repeat' ((first|refine ansT ?_|refine ansF ?_|refine ansD (by first|(simp [*];done)|omega) ?_ | refine ansN (by first|(simp [*];done)|omega) ?_ | refine ⟨by kernel_rfl,?_⟩ | refine ansB (by decide) (by first | decide | (simp; done) | (simp only [List.length_cons,List.length_nil]; decide)) ?_|fail);conv=>whnf))
     (refine Or.inr ⟨[ ],[ ],by kernel_rfl,?_⟩; (conv=>whnf); refine ⟨[ 20,18,19,21 ],_,_,_,_,⟨ e,rfl,rfl,by kernel_rfl⟩,?_⟩)
     conv=>whnf
     (repeat' first|(refine ansS (fun hh=>?_) (fun hh=>?_)<;>(try simp only [ansX] at hh)<;>first|(exfalso;first|omega|(simp [*] at hh;done)|(revert hh;decide))|exact absurd (by assumption) hh|conv=>whnf)|((first|refine kR ?_|refine aB ?_|refine aL ?_|refine aN ?_|((try (refine Or.inl ?_;conv=>whnf));(try (refine ⟨false,?_⟩;conv=>whnf));refine ⟨_,by exact A8 b o _,?_⟩)|fail);conv=>whnf))
     (refine Or.inr ⟨[ ],[ 49,47 ],by kernel_rfl,?_⟩; (conv=>whnf); refine ⟨[ 20,18,19,21 ],_,_,_,_,⟨ a3h b,rfl,rfl,by kernel_rfl⟩,?_⟩)
     conv=>whnf
     (repeat' first|(refine ansS (fun hh=>?_) (fun hh=>?_)<;>(try simp only [ansX] at hh)<;>first|(exfalso;first|omega|(simp [*] at hh;done)|(revert hh;decide))|exact absurd (by assumption) hh|conv=>whnf)|((first|refine kR ?_|refine aB ?_|refine aL ?_|refine aN ?_|((try (refine Or.inl ?_;conv=>whnf));(try (refine ⟨false,?_⟩;conv=>whnf));refine ⟨_,by exact c1 _,?_⟩)|fail);conv=>whnf))
     all_goals rfl
   ·rw [if_pos (fun q=>hu q.2)]
    refine a7 hm Tryz.func278 (by kernel_rfl) ?_
    conv=>whnf
    (refine Or.inr ⟨[ ],[ 20,18,19,21 ],by kernel_rfl,?_⟩; (conv=>whnf); refine ⟨[ ],_,_,_,_,⟨ v9 b o hc,rfl,rfl,by kernel_rfl⟩,?_⟩)
    conv=>whnf
    (repeat' ((first|refine ansT ?_|refine ansF ?_|refine ansD (by first|(simp [*];done)|omega) ?_ | refine ansN (by first|(simp [*];done)|omega) ?_ | refine ⟨by kernel_rfl,?_⟩ | refine ansB (by decide) (by first | decide | (simp; done) | (simp only [List.length_cons,List.length_nil]; decide)) ?_|fail);conv=>whnf))
    (refine Or.inr ⟨[ ],[ ],by kernel_rfl,?_⟩; (conv=>whnf); refine ⟨[ 20,18,19,21 ],_,_,_,_,⟨ e,rfl,rfl,by kernel_rfl⟩,?_⟩)
    conv=>whnf
    (repeat' first|(refine ansS (fun hh=>?_) (fun hh=>?_)<;>(try simp only [ansX] at hh)<;>first|(exfalso;first|omega|(simp [*] at hh;done)|(revert hh;decide))|exact absurd (by assumption) hh|conv=>whnf)|((first|refine kR ?_|refine aB ?_|refine aL ?_|refine aN ?_|((try (refine Or.inl ?_;conv=>whnf));(try (refine ⟨false,?_⟩;conv=>whnf));refine ⟨_,by exact A8 b o _,?_⟩)|fail);conv=>whnf))
    all_goals rfl
  ·have e:=a4x b o seq ha
   rw [if_pos (fun q=>ha q.1)]
   refine a7 hm Tryz.func278 (by kernel_rfl) ?_
   conv=>whnf
   (refine Or.inr ⟨[ ],[ 20,18,19,21 ],by kernel_rfl,?_⟩; (conv=>whnf); refine ⟨[ ],_,_,_,_,⟨ v9 b o hc,rfl,rfl,by kernel_rfl⟩,?_⟩)
   conv=>whnf
   (repeat' ((first|refine ansT ?_|refine ansF ?_|refine ansD (by first|(simp [*];done)|omega) ?_ | refine ansN (by first|(simp [*];done)|omega) ?_ | refine ⟨by kernel_rfl,?_⟩ | refine ansB (by decide) (by first | decide | (simp; done) | (simp only [List.length_cons,List.length_nil]; decide)) ?_|fail);conv=>whnf))
   (refine Or.inr ⟨[ ],[ ],by kernel_rfl,?_⟩; (conv=>whnf); refine ⟨[ 20,18,19,21 ],_,_,_,_,⟨ e,rfl,rfl,by kernel_rfl⟩,?_⟩)
   conv=>whnf
   (repeat' first|(refine ansS (fun hh=>?_) (fun hh=>?_)<;>(try simp only [ansX] at hh)<;>first|(exfalso;first|omega|(simp [*] at hh;done)|(revert hh;decide))|exact absurd (by assumption) hh|conv=>whnf)|((first|refine kR ?_|refine aB ?_|refine aL ?_|refine aN ?_|((try (refine Or.inl ?_;conv=>whnf));(try (refine ⟨false,?_⟩;conv=>whnf));refine ⟨_,by exact A8 b o _,?_⟩)|fail);conv=>whnf))
   all_goals rfl
 ·have hc2:chkB b=false:=by simpa using hc
  have c:=G0 b o hc2
  unfold mrkE
  rw [if_neg hc]
  refine a7 hm Tryz.func278 (by kernel_rfl) ?_
  conv=>whnf
  (repeat' ((first | refine ansT ?_ | refine ansF ?_|((try (refine Or.inl ?_;conv=>whnf));(try (refine ⟨false,?_⟩;conv=>whnf));refine ⟨_,by exact c,?_⟩) | refine ansD (by first|(simp [*];done)|omega) ?_ | refine ansN (by first|(simp [*];done)|omega) ?_ | refine ⟨by kernel_rfl,?_⟩ | refine ansB (by decide) (by first | decide | (simp; done) | (simp only [List.length_cons,List.length_nil]; decide)) ?_|fail);conv=>whnf))
  all_goals rfl
theorem a5P (b:BooksT) (o:Okay b) (user seq:Int) (h:mrkE b user seq false [3]=0):PW Tryz.prog 278 [bks b,i64 user,i64 seq,.bool false,.slc 1 [[u8 3]]] [] (.tup [ownB (mrkB b seq false),i64 0]) (ownR (mrkB b seq false)):=by
 obtain ⟨hc,ha,hu,hmy,hd⟩:=a4y h
 clear h
 have s:=u4 hc
 have c1:=fun u=>C9 b.keep b.next u b.users b.recipes b.log 3 (lt40 o.u)
 have w0:IntKind.i64.wrap ((b.users.length:Int) - 1)=(b.users.length:Int) - 1:=w64 _ (by omega) (by omega)
 have hlt:mrkI b seq < b.log.length:=a0r ha
 have e:=Z6 b o seq ha
 unfold mrkB
 unfold mrkI at *
 generalize b.log.findIdx (H5 seq)=i at *
 refine a9 hm Tryz.func278 (by kernel_rfl) ⟨by kernel_rfl,?_⟩
 conv=>whnf
 (refine Or.inr ⟨[ ],[ 20,18,19,21 ],by kernel_rfl,?_⟩; (conv=>whnf); refine ⟨[ ],_,_,_,_,⟨ v9 b o hc,rfl,rfl,by kernel_rfl⟩,?_⟩)
 conv=>whnf
 (repeat' ((first|refine ansT ?_|refine ansF ?_|refine ansD (by first|(simp [*];done)|omega) ?_ | refine ansN (by first|(simp [*];done)|omega) ?_ | refine ⟨by kernel_rfl,?_⟩ | refine ansB (by decide) (by first | decide | (simp; done) | (simp only [List.length_cons,List.length_nil]; decide)) ?_|fail);conv=>whnf))
 (refine Or.inr ⟨[ ],[ ],by kernel_rfl,?_⟩; (conv=>whnf); refine ⟨[ 20,18,19,21 ],_,_,_,_,⟨ e,rfl,rfl,by kernel_rfl⟩,?_⟩)
 conv=>whnf
 (repeat' first|(refine ansS (fun hh=>?_) (fun hh=>?_)<;>(try simp only [ansX] at hh)<;>first|(exfalso;first|omega|(simp [*] at hh;done)|(revert hh;decide))|exact absurd (by assumption) hh|conv=>whnf)|((first|refine kR ?_|refine aB ?_|refine aL ?_|refine aN ?_|((try (refine Or.inl ?_;conv=>whnf));(try (refine ⟨false,?_⟩;conv=>whnf));refine ⟨_,by exact A8 b o _,?_⟩)|fail);conv=>whnf))
 (refine Or.inr ⟨[ ],[ 49,47 ],by kernel_rfl,?_⟩; (conv=>whnf); refine ⟨[ 20,18,19,21 ],_,_,_,_,⟨ a3i b,rfl,rfl,by kernel_rfl⟩,?_⟩)
 conv=>whnf
 (repeat' first|(refine ansS (fun hh=>?_) (fun hh=>?_)<;>(try simp only [ansX] at hh)<;>first|(exfalso;first|omega|(simp [*] at hh;done)|(revert hh;decide))|exact absurd (by assumption) hh|conv=>whnf)|((first|refine kR ?_|refine aB ?_|refine aL ?_|refine aN ?_|((try (refine Or.inl ?_;conv=>whnf));(try (refine ⟨false,?_⟩;conv=>whnf));refine ⟨_,by exact c1 _,?_⟩)|fail);conv=>whnf))
 refine ⟨hlt,?_⟩
 conv=>whnf
 refine ⟨fun q=>absurd (by simpa using q) hd,fun _ => ?_⟩
 conv=>whnf
 refine ⟨setD (b.log.getD i ent0) false,⟨rfl,rfl,hlt⟩,?_⟩
 conv=>whnf
 refine ⟨[18,19,21],by kernel_rfl,?_⟩
 conv=>whnf
 exact ⟨rfl,rfl⟩
theorem a3Q (b:BooksT) (o:Okay b) (user seq:Int) (h:¬mrkE b user seq false [3]=0):PC Tryz.prog 278 [bks b,i64 user,i64 seq,.bool false,.slc 1 [[u8 3]]] (.tup [newB 0,i64 (mrkE b user seq false [3])]):=by
 have c1:=fun u=>C9 b.keep b.next u b.users b.recipes b.log 3 (lt40 o.u)
 by_cases hc:chkB b=true
 ·unfold mrkE at h ⊢
  rw [if_pos hc] at h ⊢
  have s:=u4 hc
  by_cases ha:b.log.any (H5 seq)=true
  ·have e:=Z6 b o seq ha
   have hlt:mrkI b seq < b.log.length:=a0r ha
   unfold mrkI at *
   generalize b.log.findIdx (H5 seq)=i at *
   by_cases hu:0<=user/\user<=(b.users.length:Int) - 1
   ·rw [if_neg (fun q=>q ⟨ha,hu⟩)] at h ⊢
    by_cases hmy:mayB [3] b.users user=true
    ·rw [if_neg (by rw [hmy]; decide)] at h ⊢
     have hd:(b.log.getD i ent0).disputed=false:=Decidable.byContradiction fun q=>h (if_neg q)
     rw [if_pos hd]
     refine a7 hm Tryz.func278 (by kernel_rfl) ?_
     conv=>whnf
     (refine Or.inr ⟨[ ],[ 20,18,19,21 ],by kernel_rfl,?_⟩; (conv=>whnf); refine ⟨[ ],_,_,_,_,⟨ v9 b o hc,rfl,rfl,by kernel_rfl⟩,?_⟩)
     conv=>whnf
     (repeat' ((first|refine ansT ?_|refine ansF ?_|refine ansD (by first|(simp [*];done)|omega) ?_ | refine ansN (by first|(simp [*];done)|omega) ?_ | refine ⟨by kernel_rfl,?_⟩ | refine ansB (by decide) (by first | decide | (simp; done) | (simp only [List.length_cons,List.length_nil]; decide)) ?_|fail);conv=>whnf))
     (refine Or.inr ⟨[ ],[ ],by kernel_rfl,?_⟩; (conv=>whnf); refine ⟨[ 20,18,19,21 ],_,_,_,_,⟨ e,rfl,rfl,by kernel_rfl⟩,?_⟩)
     conv=>whnf
     (repeat' first|(refine ansS (fun hh=>?_) (fun hh=>?_)<;>(try simp only [ansX] at hh)<;>first|(exfalso;first|omega|(simp [*] at hh;done)|(revert hh;decide))|exact absurd (by assumption) hh|conv=>whnf)|((first|refine kR ?_|refine aB ?_|refine aL ?_|refine aN ?_|((try (refine Or.inl ?_;conv=>whnf));(try (refine ⟨false,?_⟩;conv=>whnf));refine ⟨_,by exact A8 b o _,?_⟩)|fail);conv=>whnf))
     (refine Or.inr ⟨[ ],[ 49,47 ],by kernel_rfl,?_⟩; (conv=>whnf); refine ⟨[ 20,18,19,21 ],_,_,_,_,⟨ a3i b,rfl,rfl,by kernel_rfl⟩,?_⟩)
     conv=>whnf
     (repeat' first|(refine ansS (fun hh=>?_) (fun hh=>?_)<;>(try simp only [ansX] at hh)<;>first|(exfalso;first|omega|(simp [*] at hh;done)|(revert hh;decide))|exact absurd (by assumption) hh|conv=>whnf)|((first|refine kR ?_|refine aB ?_|refine aL ?_|refine aN ?_|((try (refine Or.inl ?_;conv=>whnf));(try (refine ⟨false,?_⟩;conv=>whnf));refine ⟨_,by exact c1 _,?_⟩)|fail);conv=>whnf))
     refine ⟨hlt,?_⟩
     conv=>whnf
     refine ⟨fun _ => ?_,fun q=>absurd hd (by simpa using q)⟩
     conv=>whnf
     all_goals rfl
    ·have hm2:mayB [3] b.users user=false:=by simpa using hmy
     rw [if_pos hm2]
     refine a7 hm Tryz.func278 (by kernel_rfl) ?_
     conv=>whnf
     (refine Or.inr ⟨[ ],[ 20,18,19,21 ],by kernel_rfl,?_⟩; (conv=>whnf); refine ⟨[ ],_,_,_,_,⟨ v9 b o hc,rfl,rfl,by kernel_rfl⟩,?_⟩)
     conv=>whnf
     (repeat' ((first|refine ansT ?_|refine ansF ?_|refine ansD (by first|(simp [*];done)|omega) ?_ | refine ansN (by first|(simp [*];done)|omega) ?_ | refine ⟨by kernel_rfl,?_⟩ | refine ansB (by decide) (by first | decide | (simp; done) | (simp only [List.length_cons,List.length_nil]; decide)) ?_|fail);conv=>whnf))
     (refine Or.inr ⟨[ ],[ ],by kernel_rfl,?_⟩; (conv=>whnf); refine ⟨[ 20,18,19,21 ],_,_,_,_,⟨ e,rfl,rfl,by kernel_rfl⟩,?_⟩)
     conv=>whnf
     (repeat' first|(refine ansS (fun hh=>?_) (fun hh=>?_)<;>(try simp only [ansX] at hh)<;>first|(exfalso;first|omega|(simp [*] at hh;done)|(revert hh;decide))|exact absurd (by assumption) hh|conv=>whnf)|((first|refine kR ?_|refine aB ?_|refine aL ?_|refine aN ?_|((try (refine Or.inl ?_;conv=>whnf));(try (refine ⟨false,?_⟩;conv=>whnf));refine ⟨_,by exact A8 b o _,?_⟩)|fail);conv=>whnf))
     (refine Or.inr ⟨[ ],[ 49,47 ],by kernel_rfl,?_⟩; (conv=>whnf); refine ⟨[ 20,18,19,21 ],_,_,_,_,⟨ a3i b,rfl,rfl,by kernel_rfl⟩,?_⟩)
     conv=>whnf
     (repeat' first|(refine ansS (fun hh=>?_) (fun hh=>?_)<;>(try simp only [ansX] at hh)<;>first|(exfalso;first|omega|(simp [*] at hh;done)|(revert hh;decide))|exact absurd (by assumption) hh|conv=>whnf)|((first|refine kR ?_|refine aB ?_|refine aL ?_|refine aN ?_|((try (refine Or.inl ?_;conv=>whnf));(try (refine ⟨false,?_⟩;conv=>whnf));refine ⟨_,by exact c1 _,?_⟩)|fail);conv=>whnf))
     all_goals rfl
   ·rw [if_pos (fun q=>hu q.2)]
    refine a7 hm Tryz.func278 (by kernel_rfl) ?_
    conv=>whnf
    (refine Or.inr ⟨[ ],[ 20,18,19,21 ],by kernel_rfl,?_⟩; (conv=>whnf); refine ⟨[ ],_,_,_,_,⟨ v9 b o hc,rfl,rfl,by kernel_rfl⟩,?_⟩)
    conv=>whnf
    (repeat' ((first|refine ansT ?_|refine ansF ?_|refine ansD (by first|(simp [*];done)|omega) ?_ | refine ansN (by first|(simp [*];done)|omega) ?_ | refine ⟨by kernel_rfl,?_⟩ | refine ansB (by decide) (by first | decide | (simp; done) | (simp only [List.length_cons,List.length_nil]; decide)) ?_|fail);conv=>whnf))
    (refine Or.inr ⟨[ ],[ ],by kernel_rfl,?_⟩; (conv=>whnf); refine ⟨[ 20,18,19,21 ],_,_,_,_,⟨ e,rfl,rfl,by kernel_rfl⟩,?_⟩)
    conv=>whnf
    (repeat' first|(refine ansS (fun hh=>?_) (fun hh=>?_)<;>(try simp only [ansX] at hh)<;>first|(exfalso;first|omega|(simp [*] at hh;done)|(revert hh;decide))|exact absurd (by assumption) hh|conv=>whnf)|((first|refine kR ?_|refine aB ?_|refine aL ?_|refine aN ?_|((try (refine Or.inl ?_;conv=>whnf));(try (refine ⟨false,?_⟩;conv=>whnf));refine ⟨_,by exact A8 b o _,?_⟩)|fail);conv=>whnf))
    all_goals rfl
  ·have e:=a4x b o seq ha
   rw [if_pos (fun q=>ha q.1)]
   refine a7 hm Tryz.func278 (by kernel_rfl) ?_
   conv=>whnf
   (refine Or.inr ⟨[ ],[ 20,18,19,21 ],by kernel_rfl,?_⟩; (conv=>whnf); refine ⟨[ ],_,_,_,_,⟨ v9 b o hc,rfl,rfl,by kernel_rfl⟩,?_⟩)
   conv=>whnf
   (repeat' ((first|refine ansT ?_|refine ansF ?_|refine ansD (by first|(simp [*];done)|omega) ?_ | refine ansN (by first|(simp [*];done)|omega) ?_ | refine ⟨by kernel_rfl,?_⟩ | refine ansB (by decide) (by first | decide | (simp; done) | (simp only [List.length_cons,List.length_nil]; decide)) ?_|fail);conv=>whnf))
   (refine Or.inr ⟨[ ],[ ],by kernel_rfl,?_⟩; (conv=>whnf); refine ⟨[ 20,18,19,21 ],_,_,_,_,⟨ e,rfl,rfl,by kernel_rfl⟩,?_⟩)
   conv=>whnf
   (repeat' first|(refine ansS (fun hh=>?_) (fun hh=>?_)<;>(try simp only [ansX] at hh)<;>first|(exfalso;first|omega|(simp [*] at hh;done)|(revert hh;decide))|exact absurd (by assumption) hh|conv=>whnf)|((first|refine kR ?_|refine aB ?_|refine aL ?_|refine aN ?_|((try (refine Or.inl ?_;conv=>whnf));(try (refine ⟨false,?_⟩;conv=>whnf));refine ⟨_,by exact A8 b o _,?_⟩)|fail);conv=>whnf))
   all_goals rfl
 ·have hc2:chkB b=false:=by simpa using hc
  have c:=G0 b o hc2
  unfold mrkE
  rw [if_neg hc]
  refine a7 hm Tryz.func278 (by kernel_rfl) ?_
  conv=>whnf
  (repeat' ((first | refine ansT ?_ | refine ansF ?_|((try (refine Or.inl ?_;conv=>whnf));(try (refine ⟨false,?_⟩;conv=>whnf));refine ⟨_,by exact c,?_⟩) | refine ansD (by first|(simp [*];done)|omega) ?_ | refine ansN (by first|(simp [*];done)|omega) ?_ | refine ⟨by kernel_rfl,?_⟩ | refine ansB (by decide) (by first | decide | (simp; done) | (simp only [List.length_cons,List.length_nil]; decide)) ?_|fail);conv=>whnf))
  all_goals rfl
def disE (b:BooksT) (user seq:Int):Int:=mrkE b user seq true [1,2,3]
def setE (b:BooksT) (user seq:Int):Int:=mrkE b user seq false [3]
theorem a5Q (b:BooksT) (o:Okay b) (user seq:Int) (h:disE b user seq=0):PW Tryz.prog 232 [bks b,i64 user,i64 seq] [] (.tup [ownB (mrkB b seq true),i64 0]) (ownR (mrkB b seq true)):=by
 have c:PW Tryz.prog 278 [bks b,i64 user,i64 seq,.tt,.slc 1 [[u8 1],[u8 2],[u8 3]]] [] (.tup [ownB (mrkB b seq true),i64 0]) (ownR (mrkB b seq true)):=(a5O b o user seq h).tts
 refine a9 hm Tryz.func232 (by kernel_rfl) ⟨by kernel_rfl,?_⟩
 conv=>whnf
 (refine Or.inr ⟨[11 ],[ 13,9,10 ],by kernel_rfl,?_⟩; (conv=>whnf); refine ⟨[ ],_,_,_,_,⟨ c,rfl,rfl,by kernel_rfl⟩,?_⟩)
 conv=>whnf
 (repeat' first|(refine ansS (fun hh=>?_) (fun hh=>?_)<;>(try simp only [ansX] at hh)<;>first|(exfalso;first|omega|(simp [*] at hh;done)|(revert hh;decide))|exact absurd (by assumption) hh|conv=>whnf)|((first|refine kR ?_|refine aB ?_|refine aL ?_|refine aN ?_|fail);conv=>whnf))
 refine ⟨[13,9,10],by kernel_rfl,?_⟩
 conv=>whnf
 exact ⟨rfl,rfl⟩
theorem a3R (b:BooksT) (o:Okay b) (user seq:Int) (h:¬disE b user seq=0):PC Tryz.prog 232 [bks b,i64 user,i64 seq] (.tup [newB 0,i64 (disE b user seq)]):=by
 have c:PC Tryz.prog 278 [bks b,i64 user,i64 seq,.tt,.slc 1 [[u8 1],[u8 2],[u8 3]]] (.tup [newB 0,i64 (mrkE b user seq true [1,2,3])]):=(a3P b o user seq h).tts
 refine a7 hm Tryz.func232 (by kernel_rfl) ?_
 conv=>whnf
 ((first | refine Or.inl ?_ | skip); (conv=>whnf); refine ⟨true,?_⟩; (conv=>whnf); refine ⟨_,c,?_⟩; (conv=>whnf))
 (repeat' ((first|refine ansT ?_|refine ansF ?_|refine ansD (by first|(simp [*];done)|omega) ?_ | refine ansN (by first|(simp [*];done)|omega) ?_ | refine ⟨by kernel_rfl,?_⟩ | refine ansB (by decide) (by first | decide | (simp; done) | (simp only [List.length_cons,List.length_nil]; decide)) ?_|fail);conv=>whnf))
 all_goals rfl
theorem a7i (b:BooksT) (o:Okay b) (user seq:Int) (h:setE b user seq=0):PW Tryz.prog 233 [bks b,i64 user,i64 seq] [] (.tup [ownB (mrkB b seq false),i64 0]) (ownR (mrkB b seq false)):=by
 have c:PW Tryz.prog 278 [bks b,i64 user,i64 seq,.ff,.slc 1 [[u8 3]]] [] (.tup [ownB (mrkB b seq false),i64 0]) (ownR (mrkB b seq false)):=(a5P b o user seq h).tts
 refine a9 hm Tryz.func233 (by kernel_rfl) ⟨by kernel_rfl,?_⟩
 conv=>whnf
 (refine Or.inr ⟨[11 ],[ 13,9,10 ],by kernel_rfl,?_⟩; (conv=>whnf); refine ⟨[ ],_,_,_,_,⟨ c,rfl,rfl,by kernel_rfl⟩,?_⟩)
 conv=>whnf
 (repeat' first|(refine ansS (fun hh=>?_) (fun hh=>?_)<;>(try simp only [ansX] at hh)<;>first|(exfalso;first|omega|(simp [*] at hh;done)|(revert hh;decide))|exact absurd (by assumption) hh|conv=>whnf)|((first|refine kR ?_|refine aB ?_|refine aL ?_|refine aN ?_|fail);conv=>whnf))
 refine ⟨[13,9,10],by kernel_rfl,?_⟩
 conv=>whnf
 exact ⟨rfl,rfl⟩
theorem a5R (b:BooksT) (o:Okay b) (user seq:Int) (h:¬setE b user seq=0):PC Tryz.prog 233 [bks b,i64 user,i64 seq] (.tup [newB 0,i64 (setE b user seq)]):=by
 have c:PC Tryz.prog 278 [bks b,i64 user,i64 seq,.ff,.slc 1 [[u8 3]]] (.tup [newB 0,i64 (mrkE b user seq false [3])]):=(a3Q b o user seq h).tts
 refine a7 hm Tryz.func233 (by kernel_rfl) ?_
 conv=>whnf
 ((first | refine Or.inl ?_ | skip); (conv=>whnf); refine ⟨true,?_⟩; (conv=>whnf); refine ⟨_,c,?_⟩; (conv=>whnf))
 (repeat' ((first|refine ansT ?_|refine ansF ?_|refine ansD (by first|(simp [*];done)|omega) ?_ | refine ansN (by first|(simp [*];done)|omega) ?_ | refine ⟨by kernel_rfl,?_⟩ | refine ansB (by decide) (by first | decide | (simp; done) | (simp only [List.length_cons,List.length_nil]; decide)) ?_|fail);conv=>whnf))
 all_goals rfl
def repE (b:BooksT) (seq:Int):Int:=if chkB b then (if b.log.any (H5 seq) then 0 else 6) else 8
def repV (b:BooksT) (seq:Int):Int:=if chkB b then (if b.log.any (H5 seq) then (b.log.getD (mrkI b seq) ent0).verdict else 0) else 0

end Go.Proofs.Tryz.My
