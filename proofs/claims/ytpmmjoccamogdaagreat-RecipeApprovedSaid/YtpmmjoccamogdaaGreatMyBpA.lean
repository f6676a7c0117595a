/- Helper lemmas. -/
import Derived.Test.YtpmmjoccamogdaaGreatMyBoC
import Derived.Test.YtpmmjoccamogdaaGreatEvTen
set_option linter.unusedVariables false
set_option linter.unusedSimpArgs false
set_option maxRecDepth 100000
set_option maxHeartbeats 0
namespace Go.Proofs.Tryz.My
open Go Go.Ev
def cE (l:List Int) (t:Int):Nat:=l.findIdx fun x=>decide (t<=x)
theorem Bt {l:List Int} {t:Int} {i:Nat} (hi:i<=l.length) (h1:∀ m,m < i->l.getD m 0 < t) (h2:i < l.length->t<=l.getD i 0):cE l t=i:=by
 unfold cE
 rcases Nat.lt_trichotomy (l.findIdx fun x=>decide (t<=x)) i with h|h|h
 ·have hl:(l.findIdx fun x=>decide (t<=x)) < l.length:=by omega
  have a:=List.findIdx_getElem (p:=fun x=>decide (t<=x)) (xs:=l) (w:=hl)
  have b:=h1 _ h
  simp only [List.getD,List.getElem?_eq_getElem hl,Option.getD_some] at b
  have a:=of_decide_eq_true a
  omega
 ·exact h
 ·have hl:i < l.length:=Nat.lt_of_lt_of_le h List.findIdx_le_length
  have a:=List.not_of_lt_findIdx h
  have b:=h2 hl
  simp only [List.getD,List.getElem?_eq_getElem hl,Option.getD_some] at b
  simp [b] at a
theorem oB (l:List Int) (t:Int):cE l t<=l.length:=List.findIdx_le_length
def IS (l:List Int):Prop:=∀ i j,i < j->j < l.length->l.getD i 0 < l.getD j 0
theorem yU {us:List Int} {x:x7} (h:ir us x=true):IS x.k9:=by
 have h:=T5.1 h
 have st:∀ i,i + 1 < x.k9.length->x.k9.getD i 0 < x.k9.getD (i + 1) 0:=by
  intro i hi
  have:=h (i + 1) hi
  simp only [yI,Bool.and_eq_true,fv] at this
  have e:=of_decide_eq_true this.1.1
  rw [if_neg (by omega),show i + 1 - 1=i by omega] at e
  exact e
 intro i j zM
 induction j with
 | zero=>omega
 | succ j ih =>
  intro hj
  by_cases e:i=j
  ·subst e;exact st i hj
  ·have a:=ih (by omega) (by omega)
   have b:=st j hj
   omega
theorem Bu {l:List Int} (h:IS l) {t:Int} {i:Nat} (hi:i<=l.length) (h1:∀ m,m < i->l.getD m 0 < t) (h2:∀ m,i<=m->m < l.length->t<=l.getD m 0):l.contains t=(decide (i < l.length) && decide (l.getD i 0=t)):=by
 rw [Bool.eq_iff_iff,List.contains_iff_mem,Bool.and_eq_true,decide_eq_true_eq,decide_eq_true_eq]
 constructor
 ·intro hm
  obtain ⟨m,hm,e⟩:=List.getElem_of_mem hm
  have e2:l.getD m 0=t:=by simp only [List.getD,List.getElem?_eq_getElem hm,Option.getD_some];exact e
  rcases Nat.lt_trichotomy m i with q|q|q
  ·have:=h1 m q;omega
  ·subst q;exact ⟨hm,e2⟩
  ·have a:=h i m q hm
   have b:=h2 i (Nat.le_refl i) (by omega)
   omega
 ·rintro ⟨a,b⟩
  rw [<- b]
  simp only [List.getD,List.getElem?_eq_getElem a,Option.getD_some]
  exact List.getElem_mem a
theorem Gc (i j:Nat) (hi:i < 2 ^ 40) (hj:j < 2 ^ 40):IntKind.i64.wrap ((IntKind.u64.wrap (IntKind.i64.wrap ((i:Int) + (j:Int)))).fdiv (2 ^ min (Int.toNat 1) IntKind.u64.bits))=(((i + j) / 2:Nat):Int):=by
 have e1:IntKind.i64.wrap ((i:Int) + (j:Int))=((i + j:Nat):Int):=by rw [wi _ (by omega) (by omega)];omega
 have e:Int.toNat ((1:Nat):Int)=Int.toNat 1:=rfl
 have:=mg (i + j) 1 (by omega)
 rw [e] at this
 rw [e1,wu _ (by omega),this,wi _ (by omega) (by omega)]
theorem Bv (x:Int):PC Tryz.prog 87 [i64 x] (.bool false):=by
 refine pF Tryz.func87 ?_
 conv=>whnf
 first|rfl|(simp;done)
theorem Bw (x:Int):PC Tryz.prog 68 [i64 x] (.bool false):=by
 refine pF Tryz.func68 ?_
 conv=>whnf
 first|rfl|(simp;done)
theorem yV (x y:Int):PC Tryz.prog 67 [i64 x,i64 y] (.bool (decide (x < y))):=by
 refine pF Tryz.func67 ?_
 conv=>whnf
 (repeat' ((first|refine aU fun hh=>?_|refine aV fun hh=>?_|refine aS (fun hh=>?_) fun hh=>?_|refine kR ?_|((try refine Or.inl ?_;conv=>whnf);(try refine ⟨false,?_⟩;conv=>whnf);refine ⟨_,by exact Bv _,?_⟩)|fail)<;>conv=>whnf))
 all_goals rfl
theorem tZ (l:List Int) (hs:IS l) (hl:l.length < 2 ^ 39) (t:Int):PC Tryz.prog 43 [I7 l,i64 t] (.tup [i64 (cE l t),.bool (l.contains t)]):=by
 refine pF Tryz.func43 ?_
 conv=>whnf
 refine Or.inr ⟨Nat×Nat,[7,8],[],[],fun i=>[i64 i.1,i64 i.2],fun _=>[],fun _=>[],fun i=>i.2 - i.1,fun i=>i.1<=i.2/\i.2<=l.length/\(∀ m,m < i.1->l.getD m 0 < t)/\∀ m,i.2<=m->m < l.length->t<=l.getD m 0,?_⟩
 conv=>whnf
 refine ⟨⟨(0,l.length),?_⟩,?_⟩
 ·(conv=>whnf)
  exact kK ⟨⟨Nat.zero_le _,Nat.le_refl _,fun m hm=>absurd hm (Nat.not_lt_zero m),fun m h1 h2=>absurd h2 (Nat.not_lt.2 h1)⟩,rfl,rfl,rfl⟩
 ·rintro ⟨i,j⟩ ⟨g1,g2,g3,g4⟩
  simp only [] at g1 g2 g3 g4
  conv=>whnf
  refine ⟨fun h=>?_,fun h=>?_⟩
  ·have h:=of_decide_eq_true h
   simp only [] at h
   conv=>whnf
   rw [Gc i j (by omega) (by omega)]
   have e1:i<=(i + j) / 2:=by omega
   have e2:(i + j) / 2 < j:=by omega
   generalize (i + j) / 2=m at *
   have z:l.getD (Int.toNat (m:Int)) 0=l.getD m 0:=rfl
   (repeat' ((first|refine aU fun hh=>?_|refine aV fun hh=>?_|refine aS (fun hh=>?_) fun hh=>?_|refine kR ?_|((try refine Or.inl ?_;conv=>whnf);(try refine ⟨false,?_⟩;conv=>whnf);refine ⟨_,by exact yV _ _,?_⟩)|fail)<;>conv=>whnf))
   ·refine ⟨(m + 1,j),?_⟩
    conv=>whnf
    refine kK ⟨⟨?_,by show m + 1<=j;omega,g2,?_,g4⟩,?_,rfl,rfl⟩
    ·show j - (m + 1) < j - i;omega
    ·intro q hq
     have hq:q < m + 1:=hq
     by_cases e:q=m
     ·subst e;assumption
     ·have:=hs q m (by omega) (by omega)
      omega
    ·rw [L9 _ (by omega) (by omega)];rfl
   ·refine ⟨(i,m),?_⟩
    conv=>whnf
    refine kK ⟨⟨?_,e1,by show m<=l.length;omega,g3,?_⟩,rfl,rfl,rfl⟩
    ·show m - i < j - i;omega
    ·intro q h1 h2
     have h1:m<=q:=h1
     by_cases e:q=m
     ·subst e;omega
     ·have:=hs m q (by omega) h2
      omega
  ·have h:=of_decide_eq_false h
   simp only [] at h
   have e:i=j:=by omega
   subst e
   rw [Bu hs g2 g3 g4,Bt g2 g3 (fun q=>g4 i (Nat.le_refl i) q)]
   (repeat' ((first|refine aU fun hh=>?_|refine aV fun hh=>?_|refine aS (fun hh=>?_) fun hh=>?_|refine kR ?_|((try refine Or.inl ?_;conv=>whnf);(try refine ⟨false,?_⟩;conv=>whnf);refine ⟨_,by exact Bw _,?_⟩)|fail)<;>conv=>whnf))
   all_goals (refine congrArg (fun z=>AV.tup [i64 i,AV.bool z]) ?_;first|(simp_all;done)|(rw [decide_eq_false (show ¬i < l.length by omega)];rfl))
def L2 (q:Int) (x:A1):Bool:=decide (x.seq=q)
def zQ (p:A1->Bool) (l:List A1):Int:=if l.any p then l.findIdx p else -1
theorem bQ {p:A1->Bool} {l:List A1} (h:l.any p=true):l.findIdx p < l.length:=by
 obtain ⟨x,hx,hp⟩:=List.any_eq_true.1 h
 exact List.findIdx_lt_length_of_exists ⟨x,hx,hp⟩
theorem Cj {p:A1->Bool} {l:List A1} (h:l.any p=true):p (l.getD (l.findIdx p) o8)=true:=by
 have hl:=bQ h
 have:=List.findIdx_getElem (p:=p) (xs:=l) (w:=hl)
 simp only [List.getD,List.getElem?_eq_getElem hl,Option.getD_some]
 exact this
theorem Gd {p:A1->Bool} {l:List A1} {m:Nat} (h:m < l.findIdx p):p (l.getD m o8)=false:=by
 have hl:m < l.length:=Nat.lt_of_lt_of_le h List.findIdx_le_length
 have:=List.not_of_lt_findIdx h
 simp only [List.getD,List.getElem?_eq_getElem hl,Option.getD_some]
 simpa using this
theorem DR {p:A1->Bool} {l:List A1} {k:Nat} (hk:k < l.length) (h:p (l.getD k o8)=true):l.any p=true:=List.any_eq_true.2 ⟨l.getD k o8,by simp only [List.getD,List.getElem?_eq_getElem hk,Option.getD_some];exact List.getElem_mem hk,h⟩
theorem ua {p:A1->Bool} {l:List A1} {k:Nat} (hk:k < l.length) (h:p (l.getD k o8)=true) (lX:∀ m,m < k->p (l.getD m o8)=false):zQ p l=k:=by
 have ha:=DR hk h
 unfold zQ
 rw [if_pos ha]
 have e:l.findIdx p=k:=by
  have h1:=Cj ha
  rcases Nat.lt_trichotomy (l.findIdx p) k with h2|h2|h2
  ·rw [lX _ h2] at h1;cases h1
  ·exact h2
  ·rw [Gd h2] at h;cases h
 rw [e]
theorem qI {p:A1->Bool} {l:List A1} (lX:∀ m,m < l.length->p (l.getD m o8)=false):zQ p l = -1:=by
 unfold zQ
 rw [if_neg]
 intro h
 have h1:=Cj h
 rw [lX _ (bQ h)] at h1
 cases h1
theorem kC (x:A1) (q:Int):PC Tryz.prog 62 [wk x,.pt [i64 q] 0] (.bool (L2 q x)):=by
 refine pF Tryz.func62 ?_
 conv=>whnf
 try rfl
theorem qJ (l:List A1) (hl:l.length < 2 ^ 40) (q:Int):PC Tryz.prog 35 [vG l,.fn (.func 62) [] [.pt [i64 q] 0]] (i64 (zQ (L2 q) l)):=by
 refine pF Tryz.func35 ?_
 conv=>whnf
 refine Or.inr ⟨Nat,[8],[],[],fun k=>[i64 k],fun _=>[],fun _=>[],fun k=>l.length - k,fun k=>k<=l.length/\∀ m,m < k->L2 q (l.getD m o8)=false,?_⟩
 conv=>whnf
 refine ⟨⟨0,?_⟩,?_⟩
 ·(conv=>whnf)
  exact kK ⟨⟨Nat.zero_le _,fun i hi=>absurd hi (Nat.not_lt_zero i)⟩,rfl,rfl,rfl⟩
 intro k hk
 conv=>whnf
 refine ⟨fun h=>?_,fun h=>?_⟩
 ·have h:=of_decide_eq_true h
  have cD:k < l.length:=by omega
  conv=>whnf
  refine ⟨⟨by omega,by omega⟩,?_⟩
  conv=>whnf
  rw [show Int.toNat (k:Int)=k from rfl]
  (repeat' (first|(refine ⟨_,by exact kC _ _,?_⟩;(conv=>whnf))|(refine Or.inl ?_;(conv=>whnf);refine ⟨_,by exact kC _ _,?_⟩;(conv=>whnf))|(refine Or.inl ?_;(conv=>whnf);refine ⟨false,?_⟩;(conv=>whnf);refine ⟨_,by exact kC _ _,?_⟩;(conv=>whnf))|(refine ⟨by kernel_rfl,?_⟩;(conv=>whnf))|fail))
  refine ⟨fun q1=>?_,fun q1=>?_⟩
  ·(conv=>whnf)
   exact congrArg i64 (ua cD q1 hk.2).symm
  ·refine ⟨k + 1,?_⟩
   conv=>whnf
   refine kK ⟨⟨?_,?_,?_⟩,?_,rfl,rfl⟩
   ·show l.length - (k + 1) < l.length - k;omega
   ·omega
   ·intro m h2
    by_cases e:m=k
    ·subst e;exact q1
    ·exact hk.2 m (by omega)
   ·rw [L9 _ (by omega) (by omega)];rfl
 ·have h:=of_decide_eq_false h
  conv=>whnf
  exact congrArg i64 (qI fun m h2=>hk.2 m (by omega)).symm
theorem ba (b:b9) (o:H5 b) (q:Int) (h:b.log.any (L2 q)=true):PW Tryz.prog 32 [.ptr 0 0 0 0,i64 q] (bV b) (.ptr 3 6 (b.log.findIdx (L2 q)) 0) (bV b):=by
 have c:=qJ b.log (R4 o.l) q
 have u2:=bQ h
 have ho:=o.l
 unfold zQ at c
 rw [if_pos h] at c
 generalize b.log.findIdx (L2 q)=i at *
 refine pW Tryz.func32 ⟨by kernel_rfl,?_⟩
 conv=>whnf
 (repeat' ((first|refine u6 ?_|refine u7 ?_|((try refine Or.inl ?_;conv=>whnf);(try refine ⟨false,?_⟩;conv=>whnf);refine ⟨_,by exact c,?_⟩)|refine lD ?_|refine lN ?_|refine kL ?_|fail);conv=>whnf))
 (repeat' ((first|refine aU fun hh=>?_|refine aV fun hh=>?_|refine aS (fun hh=>?_) fun hh=>?_|refine kR ?_|fail)<;>conv=>whnf))
 refine ⟨[],by kernel_rfl,?_⟩
 conv=>whnf
 exact ⟨rfl,rfl⟩
theorem gI (b:b9) (o:H5 b) (q:Int) (h:¬b.log.any (L2 q)=true):PW Tryz.prog 32 [.ptr 0 0 0 0,i64 q] (bV b) .nilp (bV b):=by
 have c:=qJ b.log (R4 o.l) q
 unfold zQ at c
 rw [if_neg h] at c
 refine pW Tryz.func32 ⟨by kernel_rfl,?_⟩
 conv=>whnf
 (repeat' ((first|refine u6 ?_|refine u7 ?_|((try refine Or.inl ?_;conv=>whnf);(try refine ⟨false,?_⟩;conv=>whnf);refine ⟨_,by exact c,?_⟩)|refine lD ?_|refine lN ?_|refine kL ?_|fail);conv=>whnf))
 (repeat' ((first|refine aU fun hh=>?_|refine aV fun hh=>?_|refine aS (fun hh=>?_) fun hh=>?_|refine kR ?_|fail)<;>conv=>whnf))
 refine ⟨[],by kernel_rfl,?_⟩
 conv=>whnf
 exact ⟨rfl,rfl⟩
theorem kD (b:b9):PW Tryz.prog 40 [.ptr 0 0 0 0,.slc 1 [[u8 1],[u8 2],[u8 3]]] (bV b) (.fn (.func 65) [] [.ptr 4 0 0 0,.ptr 5 0 0 0]) (bV b++[.cells 80 [.ptr 0 0 0 0],.cells 24 [.slc 1 [[u8 1],[u8 2],[u8 3]]]]):=by
 refine M8 hm Tryz.func40 (by kernel_rfl) ⟨by kernel_rfl,?_⟩
 conv=>whnf
 refine ⟨[2,3],by kernel_rfl,?_⟩
 conv=>whnf
 exact ⟨rfl,rfl⟩
theorem kE (b:b9):PW Tryz.prog 40 [.ptr 0 0 0 0,.slc 1 [[u8 3]]] (bV b) (.fn (.func 65) [] [.ptr 4 0 0 0,.ptr 5 0 0 0]) (bV b++[.cells 80 [.ptr 0 0 0 0],.cells 24 [.slc 1 [[u8 3]]]]):=by
 refine M8 hm Tryz.func40 (by kernel_rfl) ⟨by kernel_rfl,?_⟩
 conv=>whnf
 refine ⟨[2,3],by kernel_rfl,?_⟩
 conv=>whnf
 exact ⟨rfl,rfl⟩
def vN (x:A1) (is:Bool):A1:=⟨x.seq,x.recipe,x.part,x.j8,x.H8,is⟩
def V9 (b:b9) (seq:Int):Nat:=b.log.findIdx (L2 seq)
def P9 (b:b9) (seq:Int) (is:Bool):b9:=⟨b.keep,b.k8,b.a7,b.next,b.log.set (V9 b seq) (vN (b.log.getD (V9 b seq) o8) is)⟩
def dc (b:b9) (b8 seq:Int) (is:Bool) (rr:List Int):Int :=
 if A8 b then (if ¬(b.log.any (L2 seq)=true/\(0<=b8/\b8<=(b.k8.length:Int) - 1)) then 6 else if C7 rr b.k8 b8=false then 100 else if (b.log.getD (V9 b seq) o8).disputed=is then 101 else 0) else 8
theorem mL {b:b9} {b8 seq:Int} {is:Bool} {rr:List Int} (h:dc b b8 seq is rr=0):A8 b=true/\b.log.any (L2 seq)=true/\(0<=b8/\b8<=(b.k8.length:Int) - 1)/\C7 rr b.k8 b8=true/\¬(b.log.getD (V9 b seq) o8).disputed=is:=by
 unfold dc at h
 by_cases h1:A8 b=true
 ·rw [if_pos h1] at h
  by_cases h2:b.log.any (L2 seq)=true/\(0<=b8/\b8<=(b.k8.length:Int) - 1)
  ·rw [if_neg (fun q=>q h2)] at h
   by_cases h3:C7 rr b.k8 b8=false
   ·rw [if_pos h3] at h;cases h
   ·rw [if_neg h3] at h
    by_cases h4:(b.log.getD (V9 b seq) o8).disputed=is
    ·rw [if_pos h4] at h;cases h
    ·exact ⟨h1,h2.1,h2.2,by simpa using h3,h4⟩
  ·rw [if_pos h2] at h;cases h
 ·rw [if_neg h1] at h;cases h
theorem oC (b:b9) (o:H5 b) (b8 seq:Int) (h:dc b b8 seq true [1,2,3]=0):PW Tryz.prog 42 [G4 b,i64 b8,i64 seq,.bool true,.slc 1 [[u8 1],[u8 2],[u8 3]]] [] (.tup [kq (P9 b seq true),i64 0]) (kr (P9 b seq true)):=by
 obtain ⟨hc,ha,hu,lG,hd⟩:=mL h
 clear h
 have s:=B9 hc
 have c1:=fun u=>qA b.keep b.next u b.k8 b.a7 b.log 1 2 3 (R4 o.u)
 have w0:IntKind.i64.wrap ((b.k8.length:Int) - 1)=(b.k8.length:Int) - 1:=L9 _ (by omega) (by omega)
 have u2:V9 b seq < b.log.length:=bQ ha
 have e:=ba b o seq ha
 unfold P9
 unfold V9 at *
 generalize b.log.findIdx (L2 seq)=i at *
 refine pW Tryz.func42 ⟨by kernel_rfl,?_⟩
 conv=>whnf
 (refine Or.inr ⟨[],[20,18,19,21],by kernel_rfl,?_⟩;(conv=>whnf);refine ⟨[],_,_,_,_,⟨D4 b o hc,rfl,rfl,by kernel_rfl⟩,?_⟩)
 conv=>whnf
 (repeat' ((first|refine u6 ?_|refine u7 ?_|refine lD ?_|refine lN ?_|refine kL ?_|fail);conv=>whnf))
 (refine Or.inr ⟨[],[],by kernel_rfl,?_⟩;(conv=>whnf);refine ⟨[20,18,19,21],_,_,_,_,⟨e,rfl,rfl,by kernel_rfl⟩,?_⟩)
 conv=>whnf
 (repeat' ((first|refine aU fun hh=>?_|refine aV fun hh=>?_|refine aS (fun hh=>?_) fun hh=>?_|refine kR ?_|((try refine Or.inl ?_;conv=>whnf);(try refine ⟨false,?_⟩;conv=>whnf);refine ⟨_,by exact H7 b o _,?_⟩)|fail)<;>conv=>whnf))
 (refine Or.inr ⟨[],[49,47],by kernel_rfl,?_⟩;(conv=>whnf);refine ⟨[20,18,19,21],_,_,_,_,⟨kD b,rfl,rfl,by kernel_rfl⟩,?_⟩)
 conv=>whnf
 (repeat' ((first|refine aU fun hh=>?_|refine aV fun hh=>?_|refine aS (fun hh=>?_) fun hh=>?_|refine kR ?_|((try refine Or.inl ?_;conv=>whnf);(try refine ⟨false,?_⟩;conv=>whnf);refine ⟨_,by exact c1 _,?_⟩)|fail)<;>conv=>whnf))
 refine ⟨u2,?_⟩
 conv=>whnf
 refine ⟨fun q=>absurd (by simpa using q) hd,fun _=>?_⟩
 conv=>whnf
 refine ⟨vN (b.log.getD i o8) true,⟨rfl,rfl,u2⟩,?_⟩
 conv=>whnf
 refine ⟨[18,19,21],by kernel_rfl,?_⟩
 conv=>whnf
 exact ⟨rfl,rfl⟩
theorem lI (b:b9) (o:H5 b) (b8 seq:Int) (h:¬dc b b8 seq true [1,2,3]=0):PC Tryz.prog 42 [G4 b,i64 b8,i64 seq,.bool true,.slc 1 [[u8 1],[u8 2],[u8 3]]] (.tup [aZ 0,i64 (dc b b8 seq true [1,2,3])]):=by
 have c1:=fun u=>qA b.keep b.next u b.k8 b.a7 b.log 1 2 3 (R4 o.u)
 by_cases hc:A8 b=true
 ·unfold dc at h ⊢
  rw [if_pos hc] at h ⊢
  have s:=B9 hc
  by_cases ha:b.log.any (L2 seq)=true
  ·have e:=ba b o seq ha
   have u2:V9 b seq < b.log.length:=bQ ha
   unfold V9 at *
   generalize b.log.findIdx (L2 seq)=i at *
   by_cases hu:0<=b8/\b8<=(b.k8.length:Int) - 1
   ·rw [if_neg (fun q=>q ⟨ha,hu⟩)] at h ⊢
    by_cases lG:C7 [1,2,3] b.k8 b8=true
    ·rw [if_neg (by rw [lG];decide)] at h ⊢
     have hd:(b.log.getD i o8).disputed=true:=Decidable.byContradiction fun q=>h (if_neg q)
     rw [if_pos hd]
     refine pF Tryz.func42 ?_
     conv=>whnf
     (refine Or.inr ⟨[],[20,18,19,21],by kernel_rfl,?_⟩;(conv=>whnf);refine ⟨[],_,_,_,_,⟨D4 b o hc,rfl,rfl,by kernel_rfl⟩,?_⟩)
     conv=>whnf
     (repeat' ((first|refine u6 ?_|refine u7 ?_|refine lD ?_|refine lN ?_|refine kL ?_|fail);conv=>whnf))
     (refine Or.inr ⟨[],[],by kernel_rfl,?_⟩;(conv=>whnf);refine ⟨[20,18,19,21],_,_,_,_,⟨e,rfl,rfl,by kernel_rfl⟩,?_⟩)
     conv=>whnf
     (repeat' ((first|refine aU fun hh=>?_|refine aV fun hh=>?_|refine aS (fun hh=>?_) fun hh=>?_|refine kR ?_|((try refine Or.inl ?_;conv=>whnf);(try refine ⟨false,?_⟩;conv=>whnf);refine ⟨_,by exact H7 b o _,?_⟩)|fail)<;>conv=>whnf))
     (refine Or.inr ⟨[],[49,47],by kernel_rfl,?_⟩;(conv=>whnf);refine ⟨[20,18,19,21],_,_,_,_,⟨kD b,rfl,rfl,by kernel_rfl⟩,?_⟩)
     conv=>whnf
     (repeat' ((first|refine aU fun hh=>?_|refine aV fun hh=>?_|refine aS (fun hh=>?_) fun hh=>?_|refine kR ?_|((try refine Or.inl ?_;conv=>whnf);(try refine ⟨false,?_⟩;conv=>whnf);refine ⟨_,by exact c1 _,?_⟩)|fail)<;>conv=>whnf))
     refine ⟨u2,?_⟩
     conv=>whnf
     refine ⟨fun _=>?_,fun q=>absurd hd (by simpa using q)⟩
     conv=>whnf
     all_goals rfl
    ·have Dc:C7 [1,2,3] b.k8 b8=false:=by simpa using lG
     rw [if_pos Dc]
     refine pF Tryz.func42 ?_
     conv=>whnf
     (refine Or.inr ⟨[],[20,18,19,21],by kernel_rfl,?_⟩;(conv=>whnf);refine ⟨[],_,_,_,_,⟨D4 b o hc,rfl,rfl,by kernel_rfl⟩,?_⟩)
     conv=>whnf
     (repeat' ((first|refine u6 ?_|refine u7 ?_|refine lD ?_|refine lN ?_|refine kL ?_|fail);conv=>whnf))
     (refine Or.inr ⟨[],[],by kernel_rfl,?_⟩;(conv=>whnf);refine ⟨[20,18,19,21],_,_,_,_,⟨e,rfl,rfl,by kernel_rfl⟩,?_⟩)
     conv=>whnf
     (repeat' ((first|refine aU fun hh=>?_|refine aV fun hh=>?_|refine aS (fun hh=>?_) fun hh=>?_|refine kR ?_|((try refine Or.inl ?_;conv=>whnf);(try refine ⟨false,?_⟩;conv=>whnf);refine ⟨_,by exact H7 b o _,?_⟩)|fail)<;>conv=>whnf))
     (refine Or.inr ⟨[],[49,47],by kernel_rfl,?_⟩;(conv=>whnf);refine ⟨[20,18,19,21],_,_,_,_,⟨kD b,rfl,rfl,by kernel_rfl⟩,?_⟩)
     conv=>whnf
     (repeat' ((first|refine aU fun hh=>?_|refine aV fun hh=>?_|refine aS (fun hh=>?_) fun hh=>?_|refine kR ?_|((try refine Or.inl ?_;conv=>whnf);(try refine ⟨false,?_⟩;conv=>whnf);refine ⟨_,by exact c1 _,?_⟩)|fail)<;>conv=>whnf))
     all_goals rfl
   ·rw [if_pos (fun q=>hu q.2)]
    refine pF Tryz.func42 ?_
    conv=>whnf
    (refine Or.inr ⟨[],[20,18,19,21],by kernel_rfl,?_⟩;(conv=>whnf);refine ⟨[],_,_,_,_,⟨D4 b o hc,rfl,rfl,by kernel_rfl⟩,?_⟩)
    conv=>whnf
    (repeat' ((first|refine u6 ?_|refine u7 ?_|refine lD ?_|refine lN ?_|refine kL ?_|fail);conv=>whnf))
    (refine Or.inr ⟨[],[],by kernel_rfl,?_⟩;(conv=>whnf);refine ⟨[20,18,19,21],_,_,_,_,⟨e,rfl,rfl,by kernel_rfl⟩,?_⟩)
    conv=>whnf
    (repeat' ((first|refine aU fun hh=>?_|refine aV fun hh=>?_|refine aS (fun hh=>?_) fun hh=>?_|refine kR ?_|((try refine Or.inl ?_;conv=>whnf);(try refine ⟨false,?_⟩;conv=>whnf);refine ⟨_,by exact H7 b o _,?_⟩)|fail)<;>conv=>whnf))
    all_goals rfl
  ·have e:=gI b o seq ha
   rw [if_pos (fun q=>ha q.1)]
   refine pF Tryz.func42 ?_
   conv=>whnf
   (refine Or.inr ⟨[],[20,18,19,21],by kernel_rfl,?_⟩;(conv=>whnf);refine ⟨[],_,_,_,_,⟨D4 b o hc,rfl,rfl,by kernel_rfl⟩,?_⟩)
   conv=>whnf
   (repeat' ((first|refine u6 ?_|refine u7 ?_|refine lD ?_|refine lN ?_|refine kL ?_|fail);conv=>whnf))
   (refine Or.inr ⟨[],[],by kernel_rfl,?_⟩;(conv=>whnf);refine ⟨[20,18,19,21],_,_,_,_,⟨e,rfl,rfl,by kernel_rfl⟩,?_⟩)
   conv=>whnf
   (repeat' ((first|refine aU fun hh=>?_|refine aV fun hh=>?_|refine aS (fun hh=>?_) fun hh=>?_|refine kR ?_|((try refine Or.inl ?_;conv=>whnf);(try refine ⟨false,?_⟩;conv=>whnf);refine ⟨_,by exact H7 b o _,?_⟩)|fail)<;>conv=>whnf))
   all_goals rfl
 ·have rJ:A8 b=false:=by simpa using hc
  have c:=M5 b o rJ
  unfold dc
  rw [if_neg hc]
  refine pF Tryz.func42 ?_
  conv=>whnf
  (repeat' ((first|refine u6 ?_|refine u7 ?_|((try refine Or.inl ?_;conv=>whnf);(try refine ⟨false,?_⟩;conv=>whnf);refine ⟨_,by exact c,?_⟩)|refine lD ?_|refine lN ?_|refine kL ?_|fail);conv=>whnf))
  all_goals rfl
theorem oD (b:b9) (o:H5 b) (b8 seq:Int) (h:dc b b8 seq false [3]=0):PW Tryz.prog 42 [G4 b,i64 b8,i64 seq,.bool false,.slc 1 [[u8 3]]] [] (.tup [kq (P9 b seq false),i64 0]) (kr (P9 b seq false)):=by
 obtain ⟨hc,ha,hu,lG,hd⟩:=mL h
 clear h
 have s:=B9 hc
 have c1:=fun u=>L1 b.keep b.next u b.k8 b.a7 b.log 3 (R4 o.u)
 have w0:IntKind.i64.wrap ((b.k8.length:Int) - 1)=(b.k8.length:Int) - 1:=L9 _ (by omega) (by omega)
 have u2:V9 b seq < b.log.length:=bQ ha
 have e:=ba b o seq ha
 unfold P9
 unfold V9 at *
 generalize b.log.findIdx (L2 seq)=i at *
 refine pW Tryz.func42 ⟨by kernel_rfl,?_⟩
 conv=>whnf
 (refine Or.inr ⟨[],[20,18,19,21],by kernel_rfl,?_⟩;(conv=>whnf);refine ⟨[],_,_,_,_,⟨D4 b o hc,rfl,rfl,by kernel_rfl⟩,?_⟩)
 conv=>whnf
 (repeat' ((first|refine u6 ?_|refine u7 ?_|refine lD ?_|refine lN ?_|refine kL ?_|fail);conv=>whnf))
 (refine Or.inr ⟨[],[],by kernel_rfl,?_⟩;(conv=>whnf);refine ⟨[20,18,19,21],_,_,_,_,⟨e,rfl,rfl,by kernel_rfl⟩,?_⟩)
 conv=>whnf
 (repeat' ((first|refine aU fun hh=>?_|refine aV fun hh=>?_|refine aS (fun hh=>?_) fun hh=>?_|refine kR ?_|((try refine Or.inl ?_;conv=>whnf);(try refine ⟨false,?_⟩;conv=>whnf);refine ⟨_,by exact H7 b o _,?_⟩)|fail)<;>conv=>whnf))
 (refine Or.inr ⟨[],[49,47],by kernel_rfl,?_⟩;(conv=>whnf);refine ⟨[20,18,19,21],_,_,_,_,⟨kE b,rfl,rfl,by kernel_rfl⟩,?_⟩)
 conv=>whnf
 (repeat' ((first|refine aU fun hh=>?_|refine aV fun hh=>?_|refine aS (fun hh=>?_) fun hh=>?_|refine kR ?_|((try refine Or.inl ?_;conv=>whnf);(try refine ⟨false,?_⟩;conv=>whnf);refine ⟨_,by exact c1 _,?_⟩)|fail)<;>conv=>whnf))
 refine ⟨u2,?_⟩
 conv=>whnf
 refine ⟨fun q=>absurd (by simpa using q) hd,fun _=>?_⟩
 conv=>whnf
 refine ⟨vN (b.log.getD i o8) false,⟨rfl,rfl,u2⟩,?_⟩
 conv=>whnf
 refine ⟨[18,19,21],by kernel_rfl,?_⟩
 conv=>whnf
 exact ⟨rfl,rfl⟩
theorem lJ (b:b9) (o:H5 b) (b8 seq:Int) (h:¬dc b b8 seq false [3]=0):PC Tryz.prog 42 [G4 b,i64 b8,i64 seq,.bool false,.slc 1 [[u8 3]]] (.tup [aZ 0,i64 (dc b b8 seq false [3])]):=by
 have c1:=fun u=>L1 b.keep b.next u b.k8 b.a7 b.log 3 (R4 o.u)
 by_cases hc:A8 b=true
 ·unfold dc at h ⊢
  rw [if_pos hc] at h ⊢
  have s:=B9 hc
  by_cases ha:b.log.any (L2 seq)=true
  ·have e:=ba b o seq ha
   have u2:V9 b seq < b.log.length:=bQ ha
   unfold V9 at *
   generalize b.log.findIdx (L2 seq)=i at *
   by_cases hu:0<=b8/\b8<=(b.k8.length:Int) - 1
   ·rw [if_neg (fun q=>q ⟨ha,hu⟩)] at h ⊢
    by_cases lG:C7 [3] b.k8 b8=true
    ·rw [if_neg (by rw [lG];decide)] at h ⊢
     have hd:(b.log.getD i o8).disputed=false:=Decidable.byContradiction fun q=>h (if_neg q)
     rw [if_pos hd]
     refine pF Tryz.func42 ?_
     conv=>whnf
     (refine Or.inr ⟨[],[20,18,19,21],by kernel_rfl,?_⟩;(conv=>whnf);refine ⟨[],_,_,_,_,⟨D4 b o hc,rfl,rfl,by kernel_rfl⟩,?_⟩)
     conv=>whnf
     (repeat' ((first|refine u6 ?_|refine u7 ?_|refine lD ?_|refine lN ?_|refine kL ?_|fail);conv=>whnf))
     (refine Or.inr ⟨[],[],by kernel_rfl,?_⟩;(conv=>whnf);refine ⟨[20,18,19,21],_,_,_,_,⟨e,rfl,rfl,by kernel_rfl⟩,?_⟩)
     conv=>whnf
     (repeat' ((first|refine aU fun hh=>?_|refine aV fun hh=>?_|refine aS (fun hh=>?_) fun hh=>?_|refine kR ?_|((try refine Or.inl ?_;conv=>whnf);(try refine ⟨false,?_⟩;conv=>whnf);refine ⟨_,by exact H7 b o _,?_⟩)|fail)<;>conv=>whnf))
     (refine Or.inr ⟨[],[49,47],by kernel_rfl,?_⟩;(conv=>whnf);refine ⟨[20,18,19,21],_,_,_,_,⟨kE b,rfl,rfl,by kernel_rfl⟩,?_⟩)
     conv=>whnf
     (repeat' ((first|refine aU fun hh=>?_|refine aV fun hh=>?_|refine aS (fun hh=>?_) fun hh=>?_|refine kR ?_|((try refine Or.inl ?_;conv=>whnf);(try refine ⟨false,?_⟩;conv=>whnf);refine ⟨_,by exact c1 _,?_⟩)|fail)<;>conv=>whnf))
     refine ⟨u2,?_⟩
     conv=>whnf
     refine ⟨fun _=>?_,fun q=>absurd hd (by simpa using q)⟩
     conv=>whnf
     all_goals rfl
    ·have Dc:C7 [3] b.k8 b8=false:=by simpa using lG
     rw [if_pos Dc]
     refine pF Tryz.func42 ?_
     conv=>whnf
     (refine Or.inr ⟨[],[20,18,19,21],by kernel_rfl,?_⟩;(conv=>whnf);refine ⟨[],_,_,_,_,⟨D4 b o hc,rfl,rfl,by kernel_rfl⟩,?_⟩)
     conv=>whnf
     (repeat' ((first|refine u6 ?_|refine u7 ?_|refine lD ?_|refine lN ?_|refine kL ?_|fail);conv=>whnf))
     (refine Or.inr ⟨[],[],by kernel_rfl,?_⟩;(conv=>whnf);refine ⟨[20,18,19,21],_,_,_,_,⟨e,rfl,rfl,by kernel_rfl⟩,?_⟩)
     conv=>whnf
     (repeat' ((first|refine aU fun hh=>?_|refine aV fun hh=>?_|refine aS (fun hh=>?_) fun hh=>?_|refine kR ?_|((try refine Or.inl ?_;conv=>whnf);(try refine ⟨false,?_⟩;conv=>whnf);refine ⟨_,by exact H7 b o _,?_⟩)|fail)<;>conv=>whnf))
     (refine Or.inr ⟨[],[49,47],by kernel_rfl,?_⟩;(conv=>whnf);refine ⟨[20,18,19,21],_,_,_,_,⟨kE b,rfl,rfl,by kernel_rfl⟩,?_⟩)
     conv=>whnf
     (repeat' ((first|refine aU fun hh=>?_|refine aV fun hh=>?_|refine aS (fun hh=>?_) fun hh=>?_|refine kR ?_|((try refine Or.inl ?_;conv=>whnf);(try refine ⟨false,?_⟩;conv=>whnf);refine ⟨_,by exact c1 _,?_⟩)|fail)<;>conv=>whnf))
     all_goals rfl
   ·rw [if_pos (fun q=>hu q.2)]
    refine pF Tryz.func42 ?_
    conv=>whnf
    (refine Or.inr ⟨[],[20,18,19,21],by kernel_rfl,?_⟩;(conv=>whnf);refine ⟨[],_,_,_,_,⟨D4 b o hc,rfl,rfl,by kernel_rfl⟩,?_⟩)
    conv=>whnf
    (repeat' ((first|refine u6 ?_|refine u7 ?_|refine lD ?_|refine lN ?_|refine kL ?_|fail);conv=>whnf))
    (refine Or.inr ⟨[],[],by kernel_rfl,?_⟩;(conv=>whnf);refine ⟨[20,18,19,21],_,_,_,_,⟨e,rfl,rfl,by kernel_rfl⟩,?_⟩)
    conv=>whnf
    (repeat' ((first|refine aU fun hh=>?_|refine aV fun hh=>?_|refine aS (fun hh=>?_) fun hh=>?_|refine kR ?_|((try refine Or.inl ?_;conv=>whnf);(try refine ⟨false,?_⟩;conv=>whnf);refine ⟨_,by exact H7 b o _,?_⟩)|fail)<;>conv=>whnf))
    all_goals rfl
  ·have e:=gI b o seq ha
   rw [if_pos (fun q=>ha q.1)]
   refine pF Tryz.func42 ?_
   conv=>whnf
   (refine Or.inr ⟨[],[20,18,19,21],by kernel_rfl,?_⟩;(conv=>whnf);refine ⟨[],_,_,_,_,⟨D4 b o hc,rfl,rfl,by kernel_rfl⟩,?_⟩)
   conv=>whnf
   (repeat' ((first|refine u6 ?_|refine u7 ?_|refine lD ?_|refine lN ?_|refine kL ?_|fail);conv=>whnf))
   (refine Or.inr ⟨[],[],by kernel_rfl,?_⟩;(conv=>whnf);refine ⟨[20,18,19,21],_,_,_,_,⟨e,rfl,rfl,by kernel_rfl⟩,?_⟩)
   conv=>whnf
   (repeat' ((first|refine aU fun hh=>?_|refine aV fun hh=>?_|refine aS (fun hh=>?_) fun hh=>?_|refine kR ?_|((try refine Or.inl ?_;conv=>whnf);(try refine ⟨false,?_⟩;conv=>whnf);refine ⟨_,by exact H7 b o _,?_⟩)|fail)<;>conv=>whnf))
   all_goals rfl
 ·have rJ:A8 b=false:=by simpa using hc
  have c:=M5 b o rJ
  unfold dc
  rw [if_neg hc]
  refine pF Tryz.func42 ?_
  conv=>whnf
  (repeat' ((first|refine u6 ?_|refine u7 ?_|((try refine Or.inl ?_;conv=>whnf);(try refine ⟨false,?_⟩;conv=>whnf);refine ⟨_,by exact c,?_⟩)|refine lD ?_|refine lN ?_|refine kL ?_|fail);conv=>whnf))
  all_goals rfl
def yW (b:b9) (b8 seq:Int):Int:=dc b b8 seq true [1,2,3]
def yX (b:b9) (b8 seq:Int):Int:=dc b b8 seq false [3]
theorem oE (b:b9) (o:H5 b) (b8 seq:Int) (h:yW b b8 seq=0):PW Tryz.prog 17 [G4 b,i64 b8,i64 seq] [] (.tup [kq (P9 b seq true),i64 0]) (kr (P9 b seq true)):=by
 have c:PW Tryz.prog 42 [G4 b,i64 b8,i64 seq,.tt,.slc 1 [[u8 1],[u8 2],[u8 3]]] [] (.tup [kq (P9 b seq true),i64 0]) (kr (P9 b seq true)):=(oC b o b8 seq h).tts
 refine pW Tryz.func17 ⟨by kernel_rfl,?_⟩
 conv=>whnf
 (refine Or.inr ⟨[11 ],[13,9,10],by kernel_rfl,?_⟩;(conv=>whnf);refine ⟨[],_,_,_,_,⟨c,rfl,rfl,by kernel_rfl⟩,?_⟩)
 conv=>whnf
 (repeat' ((first|refine aU fun hh=>?_|refine aV fun hh=>?_|refine aS (fun hh=>?_) fun hh=>?_|refine kR ?_|fail)<;>conv=>whnf))
 refine ⟨[13,9,10],by kernel_rfl,?_⟩
 conv=>whnf
 exact ⟨rfl,rfl⟩
theorem lK (b:b9) (o:H5 b) (b8 seq:Int) (h:¬yW b b8 seq=0):PC Tryz.prog 17 [G4 b,i64 b8,i64 seq] (.tup [aZ 0,i64 (yW b b8 seq)]):=by
 have c:PC Tryz.prog 42 [G4 b,i64 b8,i64 seq,.tt,.slc 1 [[u8 1],[u8 2],[u8 3]]] (.tup [aZ 0,i64 (dc b b8 seq true [1,2,3])]):=(lI b o b8 seq h).tts
 refine pF Tryz.func17 ?_
 conv=>whnf
 ((first|refine Or.inl ?_|skip);(conv=>whnf);refine ⟨true,?_⟩;(conv=>whnf);refine ⟨_,c,?_⟩;(conv=>whnf))
 (repeat' ((first|refine u6 ?_|refine u7 ?_|refine lD ?_|refine lN ?_|refine kL ?_|fail);conv=>whnf))
 all_goals rfl
theorem qK (b:b9) (o:H5 b) (b8 seq:Int) (h:yX b b8 seq=0):PW Tryz.prog 24 [G4 b,i64 b8,i64 seq] [] (.tup [kq (P9 b seq false),i64 0]) (kr (P9 b seq false)):=by
 have c:PW Tryz.prog 42 [G4 b,i64 b8,i64 seq,.ff,.slc 1 [[u8 3]]] [] (.tup [kq (P9 b seq false),i64 0]) (kr (P9 b seq false)):=(oD b o b8 seq h).tts
 refine pW Tryz.func24 ⟨by kernel_rfl,?_⟩
 conv=>whnf
 (refine Or.inr ⟨[11 ],[13,9,10],by kernel_rfl,?_⟩;(conv=>whnf);refine ⟨[],_,_,_,_,⟨c,rfl,rfl,by kernel_rfl⟩,?_⟩)
 conv=>whnf
 (repeat' ((first|refine aU fun hh=>?_|refine aV fun hh=>?_|refine aS (fun hh=>?_) fun hh=>?_|refine kR ?_|fail)<;>conv=>whnf))
 refine ⟨[13,9,10],by kernel_rfl,?_⟩
 conv=>whnf
 exact ⟨rfl,rfl⟩
theorem oF (b:b9) (o:H5 b) (b8 seq:Int) (h:¬yX b b8 seq=0):PC Tryz.prog 24 [G4 b,i64 b8,i64 seq] (.tup [aZ 0,i64 (yX b b8 seq)]):=by
 have c:PC Tryz.prog 42 [G4 b,i64 b8,i64 seq,.ff,.slc 1 [[u8 3]]] (.tup [aZ 0,i64 (dc b b8 seq false [3])]):=(lJ b o b8 seq h).tts
 refine pF Tryz.func24 ?_
 conv=>whnf
 ((first|refine Or.inl ?_|skip);(conv=>whnf);refine ⟨true,?_⟩;(conv=>whnf);refine ⟨_,c,?_⟩;(conv=>whnf))
 (repeat' ((first|refine u6 ?_|refine u7 ?_|refine lD ?_|refine lN ?_|refine kL ?_|fail);conv=>whnf))
 all_goals rfl
def DS (b:b9) (seq:Int):Int:=if A8 b then (if b.log.any (L2 seq) then 0 else 6) else 8
def DT (b:b9) (seq:Int):Int:=if A8 b then (if b.log.any (L2 seq) then (b.log.getD (V9 b seq) o8).H8 else 0) else 0
theorem Bx {b:b9} (h:A8 b=true) (i:Nat) (hi:i < b.log.length):(0<=(b.log.getD i o8).recipe/\(b.log.getD i o8).recipe<=(b.a7.length:Int) - 1)/\(I3 (b.a7.getD (b.log.getD i o8).recipe.toNat n5).o6 (b.log.getD i o8).j8).2.2=0/\(I3 (b.a7.getD (b.log.getD i o8).recipe.toNat n5).o6 (b.log.getD i o8).j8).2.1=(b.log.getD i o8).H8:=by
 simp only [A8,Bool.and_eq_true] at h
 have h:=T5.1 h.2 i hi
 simp only [kl,A0,Bool.and_eq_true,decide_eq_true_eq] at h
 exact ⟨h.1.1.2,h.2.1⟩
theorem mM (b:b9) (o:H5 b) (seq:Int):PC Tryz.prog 12 [G4 b,i64 seq] (.tup [u8 (DT b seq),i64 (DS b seq)]):=by
 unfold DT DS
 by_cases hc:A8 b=true
 ·rw [if_pos hc,if_pos hc]
  have s:=B9 hc
  by_cases ha:b.log.any (L2 seq)=true
  ·rw [if_pos ha,if_pos ha]
   have e:=ba b o seq ha
   have u2:V9 b seq < b.log.length:=bQ ha
   obtain ⟨hr,Ck,hv⟩:=Bx hc _ u2
   unfold V9 at *
   generalize b.log.findIdx (L2 seq)=i at *
   have c:=Y5 (b.a7.getD (b.log.getD i o8).recipe.toNat n5).o6 (b.log.getD i o8).j8 (R4 (o.p i))
   refine pF Tryz.func12 ?_
   conv=>whnf
   (refine Or.inr ⟨[],[16,14,15,17],by kernel_rfl,?_⟩;(conv=>whnf);refine ⟨[],_,_,_,_,⟨D4 b o hc,rfl,rfl,by kernel_rfl⟩,?_⟩)
   conv=>whnf
   (repeat' ((first|refine u6 ?_|refine u7 ?_|refine lD ?_|refine lN ?_|refine kL ?_|fail);conv=>whnf))
   (refine Or.inr ⟨[],[],by kernel_rfl,?_⟩;(conv=>whnf);refine ⟨[16,14,15,17],_,_,_,_,⟨e,rfl,rfl,by kernel_rfl⟩,?_⟩)
   conv=>whnf
   (repeat' ((first|refine aU fun hh=>?_|refine aV fun hh=>?_|refine aS (fun hh=>?_) fun hh=>?_|refine kR ?_|((try refine Or.inl ?_;conv=>whnf);(try refine ⟨false,?_⟩;conv=>whnf);refine ⟨_,by exact c,?_⟩)|fail)<;>conv=>whnf))
   refine ⟨u2,?_⟩
   conv=>whnf
   (repeat' ((first|refine aU fun hh=>?_|refine aV fun hh=>?_|refine aS (fun hh=>?_) fun hh=>?_|refine kR ?_|((try refine Or.inl ?_;conv=>whnf);(try refine ⟨false,?_⟩;conv=>whnf);refine ⟨_,by exact c,?_⟩)|fail)<;>conv=>whnf))
   refine ⟨by omega,?_⟩
   conv=>whnf
   (repeat' ((first|refine aU fun hh=>?_|refine aV fun hh=>?_|refine aS (fun hh=>?_) fun hh=>?_|refine kR ?_|((try refine Or.inl ?_;conv=>whnf);(try refine ⟨false,?_⟩;conv=>whnf);refine ⟨_,by exact c,?_⟩)|fail)<;>conv=>whnf))
   refine ⟨u2,?_⟩
   conv=>whnf
   (repeat' ((first|refine aU fun hh=>?_|refine aV fun hh=>?_|refine aS (fun hh=>?_) fun hh=>?_|refine kR ?_|((try refine Or.inl ?_;conv=>whnf);(try refine ⟨false,?_⟩;conv=>whnf);refine ⟨_,by exact c,?_⟩)|fail)<;>conv=>whnf))
   all_goals (first|rfl|(rw [hv,Ck];done)|(rw [hv,Ck];rfl))
  ·rw [if_neg ha,if_neg ha]
   have e:=gI b o seq ha
   refine pF Tryz.func12 ?_
   conv=>whnf
   (refine Or.inr ⟨[],[16,14,15,17],by kernel_rfl,?_⟩;(conv=>whnf);refine ⟨[],_,_,_,_,⟨D4 b o hc,rfl,rfl,by kernel_rfl⟩,?_⟩)
   conv=>whnf
   (repeat' ((first|refine u6 ?_|refine u7 ?_|refine lD ?_|refine lN ?_|refine kL ?_|fail);conv=>whnf))
   (refine Or.inr ⟨[],[],by kernel_rfl,?_⟩;(conv=>whnf);refine ⟨[16,14,15,17],_,_,_,_,⟨e,rfl,rfl,by kernel_rfl⟩,?_⟩)
   conv=>whnf
   (repeat' ((first|refine aU fun hh=>?_|refine aV fun hh=>?_|refine aS (fun hh=>?_) fun hh=>?_|refine kR ?_|fail)<;>conv=>whnf))
   all_goals rfl
 ·have rJ:A8 b=false:=by simpa using hc
  have c:=M5 b o rJ
  rw [if_neg hc,if_neg hc]
  refine pF Tryz.func12 ?_
  conv=>whnf
  (repeat' ((first|refine u6 ?_|refine u7 ?_|((try refine Or.inl ?_;conv=>whnf);(try refine ⟨false,?_⟩;conv=>whnf);refine ⟨_,by exact c,?_⟩)|refine lD ?_|refine lN ?_|refine kL ?_|fail);conv=>whnf))
  all_goals rfl

end Go.Proofs.Tryz.My
