/- Helper lemmas. -/
import Derived.Test.YtpmmjoccamogdaaGreatEvFn
import Derived.Test.YtpmmjoccamogdaaGreatMyBq4
import Derived.Test.YtpmmjoccamogdaaGreatMyBt1
set_option linter.unusedVariables false
set_option linter.unusedSimpArgs false
set_option maxRecDepth 100000
set_option maxHeartbeats 0
namespace Go.Proofs.Tryz.My
open Go Go.Ev
theorem gG (l:List Int) (hl:l.length < 2 ^ 20):PW Tryz.prog 38 [I7 l] [] (.own 0) [.vec 3 1 0 eI l]:=by
 refine M8 hm Tryz.func38 (by kernel_rfl) ⟨by kernel_rfl,?_⟩
 conv=>whnf
 refine Or.inl ?_
 conv=>whnf
 intro b hb
 conv=>whnf
 refine ⟨fun h=>?_,fun h=>?_⟩
 ·(conv=>whnf)
  refine Or.inr ⟨by kernel_rfl,.vec 3 1 0 eI [],rfl,?_⟩
  conv=>whnf
  refine ⟨[2],by kernel_rfl,?_⟩
  conv=>whnf
  rw [hb h]
  exact ⟨rfl,rfl⟩
 conv=>whnf
 refine ⟨⟨Int,1,0,eI,[]⟩,l,rfl,⟨rfl,rfl⟩,rfl,?_,?_,fun y _=>⟨rfl,rfl,rfl⟩,?_⟩
 ·show (0 + l.length) * 8<=_;omega
 ·show 0 + l.length<=_;omega
 conv=>whnf
 refine ⟨[7],by kernel_rfl,?_⟩
 conv=>whnf
 exact ⟨rfl,rfl⟩
theorem mJ (l:List Int) (hl:l.length < 2 ^ 20):PW Tryz.prog 57 [FZ l] [] (.own 0) [.vec 5 1 0 e8 l]:=by
 refine M8 hm Tryz.func57 (by kernel_rfl) ⟨by kernel_rfl,?_⟩
 conv=>whnf
 refine Or.inl ?_
 conv=>whnf
 intro b hb
 conv=>whnf
 refine ⟨fun h=>?_,fun h=>?_⟩
 ·(conv=>whnf)
  refine Or.inr ⟨by kernel_rfl,.vec 5 1 0 e8 [],rfl,?_⟩
  conv=>whnf
  refine ⟨[2],by kernel_rfl,?_⟩
  conv=>whnf
  rw [hb h]
  exact ⟨rfl,rfl⟩
 conv=>whnf
 refine ⟨⟨Int,1,0,e8,[]⟩,l,rfl,⟨rfl,rfl⟩,rfl,?_,?_,fun y _=>⟨rfl,rfl,rfl⟩,?_⟩
 ·show (0 + l.length) * 1<=_;omega
 ·show 0 + l.length<=_;omega
 conv=>whnf
 refine ⟨[7],by kernel_rfl,?_⟩
 conv=>whnf
 exact ⟨rfl,rfl⟩
theorem yO (x:x7) (hx:x.k9.length < 2 ^ 20):PW Tryz.prog 59 [Kb x] [] (.agg ((iH x).set 11 (.own 0))) [.vec 3 1 0 eI x.k9]:=by
 refine pW Tryz.func59 ⟨by kernel_rfl,?_⟩
 conv=>whnf
 (refine Or.inr ⟨[],[5],by kernel_rfl,?_⟩;(conv=>whnf);refine ⟨[],_,_,_,_,⟨gG x.k9 hx,rfl,rfl,by kernel_rfl⟩,?_⟩)
 conv=>whnf
 refine ⟨[5],by kernel_rfl,?_⟩
 conv=>whnf
 exact ⟨rfl,rfl⟩
theorem qD (x:A1) (hx:x.j8.length < 2 ^ 20):PW Tryz.prog 61 [wk x] [] (.agg ((V8 x).set 3 (.own 0))) [.vec 3 1 0 eI x.j8]:=by
 refine pW Tryz.func61 ⟨by kernel_rfl,?_⟩
 conv=>whnf
 (refine Or.inr ⟨[],[5],by kernel_rfl,?_⟩;(conv=>whnf);refine ⟨[],_,_,_,_,⟨gG x.j8 hx,rfl,rfl,by kernel_rfl⟩,?_⟩)
 conv=>whnf
 refine ⟨[5],by kernel_rfl,?_⟩
 conv=>whnf
 exact ⟨rfl,rfl⟩
theorem qE (l:List x7) (hl:l.length < 2 ^ 16) (ha:∀ i,(l.getD i n5).k9.length < 2 ^ 20):PW Tryz.prog 58 [Bm l,.fn (.func 59) [] []] [] (.own 0) [.nest 54 13 11 3 n5 iH x7.k9 none l]:=by
 have w1:IntKind.i64.wrap ((l.length:Int) + 1)=(l.length:Int) + 1:=L9 _ (by omega) (by omega)
 refine pW Tryz.func58 ⟨by kernel_rfl,?_⟩
 conv=>whnf
 refine ⟨.nest 54 13 11 3 n5 iH x7.k9 none [],⟨⟨rfl,by kernel_rfl,rfl,rfl⟩,by omega,by omega,of_decide_eq_true (by kernel_rfl)⟩,?_⟩
 conv=>whnf
 refine Or.inr ⟨Nat,[14],[],[(5,⟨x7,54,13,n5,iH⟩)],fun i=>[i64 i],fun _=>[],fun i=>[.nest 54 13 11 3 n5 iH x7.k9 none (l.take i)],fun i=>l.length - i,fun i=>i<=l.length,?_⟩
 conv=>whnf
 refine ⟨⟨0,?_⟩,?_⟩
 ·(conv=>whnf)
  exact kK ⟨Nat.zero_le _,rfl,rfl,rfl⟩
 ·intro j hj
  conv=>whnf
  refine ⟨fun h=>?_,fun h=>?_⟩
  ·have h:=of_decide_eq_true h
   have rq:j < l.length:=by omega
   have hk:(l.take j).length=j:=by rw [List.length_take];omega
   conv=>whnf
   refine ⟨⟨by omega,by omega⟩,?_⟩
   conv=>whnf
   (refine Or.inr ⟨[],[21],by kernel_rfl,?_⟩;(conv=>whnf);refine ⟨[],_,_,_,_,⟨yO _ (ha _),rfl,rfl,by kernel_rfl⟩,?_⟩)
   conv=>whnf
   refine ⟨_,l.getD j n5,⟨rfl,rfl,rfl,?_,?_⟩,?_⟩
   ·show ((l.take j).length + 1) * 120<=_;rw [hk];omega
   ·rw [hk];omega
   conv=>whnf
   refine ⟨j + 1,?_⟩
   conv=>whnf
   refine kK ⟨⟨?_,?_⟩,?_,rfl,?_⟩
   ·show l.length - (j + 1) < l.length - j;omega
   ·show j + 1<=l.length;omega
   ·rw [L9 _ (by omega) (by omega)];rfl
   ·show [Row.nest 54 13 11 3 n5 iH x7.k9 none (l.take j++[l.getD j n5])]=[Row.nest 54 13 11 3 n5 iH x7.k9 none (l.take (j + 1))]
    rw [List.take_add_one,List.getElem?_eq_getElem rq]
    simp [List.getD,rq]
  ·have h:=of_decide_eq_false h
   have ej:l.take j=l:=List.take_of_length_le (by omega)
   rw [ej]
   conv=>whnf
   refine ⟨[5],by kernel_rfl,?_⟩
   conv=>whnf
   exact ⟨rfl,rfl⟩
theorem yP (l:List A1) (hl:l.length < 2 ^ 16) (ha:∀ i,(l.getD i o8).j8.length < 2 ^ 20):PW Tryz.prog 60 [vG l,.fn (.func 61) [] []] [] (.own 0) [.nest 52 6 3 3 o8 V8 A1.j8 none l]:=by
 have w1:IntKind.i64.wrap ((l.length:Int) + 1)=(l.length:Int) + 1:=L9 _ (by omega) (by omega)
 refine pW Tryz.func60 ⟨by kernel_rfl,?_⟩
 conv=>whnf
 refine ⟨.nest 52 6 3 3 o8 V8 A1.j8 none [],⟨⟨rfl,by kernel_rfl,rfl,rfl⟩,by omega,by omega,of_decide_eq_true (by kernel_rfl)⟩,?_⟩
 conv=>whnf
 refine Or.inr ⟨Nat,[14],[],[(5,⟨A1,52,6,o8,V8⟩)],fun i=>[i64 i],fun _=>[],fun i=>[.nest 52 6 3 3 o8 V8 A1.j8 none (l.take i)],fun i=>l.length - i,fun i=>i<=l.length,?_⟩
 conv=>whnf
 refine ⟨⟨0,?_⟩,?_⟩
 ·(conv=>whnf)
  exact kK ⟨Nat.zero_le _,rfl,rfl,rfl⟩
 ·intro j hj
  conv=>whnf
  refine ⟨fun h=>?_,fun h=>?_⟩
  ·have h:=of_decide_eq_true h
   have rq:j < l.length:=by omega
   have hk:(l.take j).length=j:=by rw [List.length_take];omega
   conv=>whnf
   refine ⟨⟨by omega,by omega⟩,?_⟩
   conv=>whnf
   (refine Or.inr ⟨[],[21],by kernel_rfl,?_⟩;(conv=>whnf);refine ⟨[],_,_,_,_,⟨qD _ (ha _),rfl,rfl,by kernel_rfl⟩,?_⟩)
   conv=>whnf
   refine ⟨_,l.getD j o8,⟨rfl,rfl,rfl,?_,?_⟩,?_⟩
   ·show ((l.take j).length + 1) * 56<=_;rw [hk];omega
   ·rw [hk];omega
   conv=>whnf
   refine ⟨j + 1,?_⟩
   conv=>whnf
   refine kK ⟨⟨?_,?_⟩,?_,rfl,?_⟩
   ·show l.length - (j + 1) < l.length - j;omega
   ·show j + 1<=l.length;omega
   ·rw [L9 _ (by omega) (by omega)];rfl
   ·show [Row.nest 52 6 3 3 o8 V8 A1.j8 none (l.take j++[l.getD j o8])]=[Row.nest 52 6 3 3 o8 V8 A1.j8 none (l.take (j + 1))]
    rw [List.take_add_one,List.getElem?_eq_getElem rq]
    simp [List.getD,rq]
  ·have h:=of_decide_eq_false h
   have ej:l.take j=l:=List.take_of_length_le (by omega)
   rw [ej]
   conv=>whnf
   refine ⟨[5],by kernel_rfl,?_⟩
   conv=>whnf
   exact ⟨rfl,rfl⟩
theorem M5 (b:b9) (o:H5 b) (h:A8 b=false):PC Tryz.prog 31 [G4 b] (.tup [.nilp,i64 8]):=by
 have c:PC Tryz.prog 56 [G4 b] (i64 8):=by have c:=cP b o;rwa [if_neg (by rw [h];decide)] at c
 refine pF Tryz.func31 ?_
 conv=>whnf
 (repeat' ((first|refine u6 ?_|refine u7 ?_|((try refine Or.inl ?_;conv=>whnf);(try refine ⟨false,?_⟩;conv=>whnf);refine ⟨_,by exact c,?_⟩)|refine lD ?_|refine lN ?_|refine kL ?_|fail);conv=>whnf))
 try rfl
theorem B9 {b:b9} (h:A8 b=true):b.k8.length<=16/\b.a7.length<=16/\b.log.length<=32:=by
 simp only [A8,bI,A0,Bool.and_eq_true,decide_eq_true_eq] at h
 omega
def bV (b:b9):List Row:=[.cells 86 [i64 b.keep,.own 1,.own 2,i64 b.next,.own 3],.vec 5 1 0 e8 b.k8,.nest 54 13 11 3 n5 iH x7.k9 none b.a7,.nest 52 6 3 3 o8 V8 A1.j8 none b.log]
theorem D4 (b:b9) (o:H5 b) (h:A8 b=true):PW Tryz.prog 31 [G4 b] [] (.tup [.ptr 0 0 0 0,i64 0]) (bV b):=by
 have c:PC Tryz.prog 56 [G4 b] (i64 0):=by have c:=cP b o;rwa [if_pos h] at c
 have s:=B9 h
 refine pW Tryz.func31 ⟨by kernel_rfl,?_⟩
 conv=>whnf
 (repeat' ((first|refine u6 ?_|refine u7 ?_|((try refine Or.inl ?_;conv=>whnf);(try refine ⟨false,?_⟩;conv=>whnf);refine ⟨_,by exact c,?_⟩)|refine lD ?_|refine lN ?_|refine kL ?_|fail);conv=>whnf))
 (refine Or.inr ⟨[],[12],by kernel_rfl,?_⟩;(conv=>whnf);refine ⟨[],_,_,_,_,⟨mJ b.k8 o.u,rfl,rfl,by kernel_rfl⟩,?_⟩)
 conv=>whnf
 (refine Or.inr ⟨[],[16],by kernel_rfl,?_⟩;(conv=>whnf);refine ⟨[],_,_,_,_,⟨qE b.a7 (by omega) o.a,rfl,rfl,by kernel_rfl⟩,?_⟩)
 conv=>whnf
 (refine Or.inr ⟨[],[20],by kernel_rfl,?_⟩;(conv=>whnf);refine ⟨[],_,_,_,_,⟨yP b.log (by omega) o.p,rfl,rfl,by kernel_rfl⟩,?_⟩)
 conv=>whnf
 refine ⟨[24,12,16,20],by kernel_rfl,?_⟩
 conv=>whnf
 exact ⟨rfl,rfl⟩
def yQ (b:b9) (I4:Int):b9:=⟨b.keep,b.k8++[I4],b.a7,b.next,b.log⟩
def iI (b:b9) (I4:Int):Int:=if A8 b then (if I4 < 1∨3 < I4 then 2 else if (b.k8.length:Int)=16 then 9 else 0) else 8
abbrev kq (b:b9):AV := .agg [i64 b.keep,.own 0,.own 1,i64 b.next,.own 2]
def kr (b:b9):List Row:=[.vec 5 1 0 e8 b.k8,.nest 54 13 11 3 n5 iH x7.k9 none b.a7,.nest 52 6 3 3 o8 V8 A1.j8 none b.log]
theorem oz (b:b9) (o:H5 b) (I4:Int) (h:iI b I4=0):PW Tryz.prog 20 [G4 b,u8 I4] [] (.tup [kq (yQ b I4),i64 b.k8.length,i64 0]) (kr (yQ b I4)):=by
 have hc:A8 b=true:=by
  unfold iI at h
  split at h
  ·assumption
  ·cases h
 have hr:¬(I4 < 1∨3 < I4):=fun q=>by
  unfold iI at h
  rw [if_pos hc,if_pos q] at h
  cases h
 have hu:¬(b.k8.length:Int)=16:=fun q=>by
  unfold iI at h
  rw [if_pos hc,if_neg hr,if_pos q] at h
  cases h
 have s:=B9 hc
 have w1:IntKind.i64.wrap (((b.k8++[I4]).length:Int) - 1)=b.k8.length:=by
  have hl:((b.k8++[I4]).length:Int)=b.k8.length + 1:=by simp
  rw [hl,L9 _ (by omega) (by omega)]
  omega
 refine pW Tryz.func20 ⟨by kernel_rfl,?_⟩
 conv=>whnf
 (refine Or.inr ⟨[],[11,9,12,13],by kernel_rfl,?_⟩;(conv=>whnf);refine ⟨[],_,_,_,_,⟨D4 b o hc,rfl,rfl,by kernel_rfl⟩,?_⟩)
 conv=>whnf
 (repeat' ((first|refine u6 ?_|refine u7 ?_|refine lD ?_|refine lN ?_|refine kL ?_|fail);conv=>whnf))
 (repeat' ((first|refine aU fun hh=>?_|refine aV fun hh=>?_|refine aS (fun hh=>?_) fun hh=>?_|refine kR ?_|fail)<;>conv=>whnf))
 refine ⟨⟨Int,1,0,e8,b.k8⟩,[I4],rfl,rfl,⟨rfl,rfl⟩,?_,?_,fun y _=>⟨rfl,rfl,rfl⟩,?_⟩
 ·show (b.k8.length + 1) * 1<=_;omega
 ·show b.k8.length + 1<=_;omega
 conv=>whnf
 (repeat' ((first|refine aU fun hh=>?_|refine aV fun hh=>?_|refine aS (fun hh=>?_) fun hh=>?_|refine kR ?_|fail)<;>conv=>whnf))
 refine ⟨[44,12,13],by kernel_rfl,?_⟩
 conv=>whnf
 refine ⟨?_,rfl⟩
 rw [w1]
 rfl
theorem lE (b:b9) (o:H5 b) (I4:Int) (h:¬iI b I4=0):PC Tryz.prog 20 [G4 b,u8 I4] (.tup [aZ 0,i64 0,i64 (iI b I4)]):=by
 by_cases hc:A8 b=true
 ·have s:=B9 hc
  unfold iI at h ⊢
  rw [if_pos hc] at h ⊢
  refine pF Tryz.func20 ?_
  conv=>whnf
  (refine Or.inr ⟨[],[11,9,12,13],by kernel_rfl,?_⟩;(conv=>whnf);refine ⟨[],_,_,_,_,⟨D4 b o hc,rfl,rfl,by kernel_rfl⟩,?_⟩)
  conv=>whnf
  (repeat' ((first|refine u6 ?_|refine u7 ?_|refine lD ?_|refine lN ?_|refine kL ?_|fail);conv=>whnf))
  (repeat' ((first|refine aU fun hh=>?_|refine aV fun hh=>?_|refine aS (fun hh=>?_) fun hh=>?_|refine kR ?_|fail)<;>conv=>whnf))
  all_goals first
   | (exfalso;apply h;rw [if_neg (by omega),if_neg (by omega)];done)
   | (rw [if_pos (by omega)];done)
   | (rw [if_neg (by omega),if_pos (by omega)];done)
  
 ·have hc:A8 b=false:=by simpa using hc
  have c:=M5 b o hc
  unfold iI
  rw [if_neg (by rw [hc];decide)]
  refine pF Tryz.func20 ?_
  conv=>whnf
  (repeat' ((first|refine u6 ?_|refine u7 ?_|((try refine Or.inl ?_;conv=>whnf);(try refine ⟨false,?_⟩;conv=>whnf);refine ⟨_,by exact c,?_⟩)|refine lD ?_|refine lN ?_|refine kL ?_|fail);conv=>whnf))
  try rfl
theorem W9 (b:b9) (a:Int):PW Tryz.prog 40 [.ptr 0 0 0 0,.own 4] (bV b++[.lit 5 1 [[u8 a]]]) (.fn (.func 65) [] [.ptr 5 0 0 0,.ptr 6 0 0 0]) (bV b++[.lit 5 1 [[u8 a]],.cells 80 [.ptr 0 0 0 0],.cells 24 [.own 4]]):=by
 refine M8 hm Tryz.func40 (by kernel_rfl) ⟨by kernel_rfl,?_⟩
 conv=>whnf
 refine ⟨[2,3],by kernel_rfl,?_⟩
 conv=>whnf
 exact ⟨rfl,rfl⟩
def J3 (b8:Int) (g:H4):x7:=⟨b8,g,[],1⟩
def lF (b:b9) (b8:Int) (g:H4):b9:=⟨b.keep,b.k8,b.a7++[J3 b8 g],b.next,b.log⟩
def kt (b:b9) (b8:Int) (g:H4):Int :=
 if A8 b then (if ¬(0<=b8/\b8<=(b.k8.length:Int) - 1) then 6 else if C7 [2] b.k8 b8=false then 100 else if ¬N3 g=true then 8 else if (b.a7.length:Int)=16 then 9 else 0) else 8
theorem sT (b:b9) (o:H5 b) (b8:Int) (g:H4) (h:kt b b8 g=0):PW Tryz.prog 21 [G4 b,i64 b8,DF g] [] (.tup [kq (lF b b8 g),i64 b.a7.length,i64 0]) (kr (lF b b8 g)):=by
 have hc:A8 b=true:=by
  unfold kt at h
  split at h
  ·assumption
  ·cases h
 unfold kt at h
 rw [if_pos hc] at h
 have hu:0<=b8/\b8<=(b.k8.length:Int) - 1:=Decidable.byContradiction fun q=>by rw [if_pos q] at h;cases h
 rw [if_neg (show ¬¬(0<=b8/\b8<=(b.k8.length:Int) - 1) from fun q=>q hu)] at h
 have lG:C7 [2] b.k8 b8=true:=by
  cases e:C7 [2] b.k8 b8 with
  | true=>rfl
  | false=>rw [if_pos e] at h;cases h
 rw [if_neg (show ¬C7 [2] b.k8 b8=false by rw [lG];decide)] at h
 have hg:N3 g=true:=Decidable.byContradiction fun q=>by rw [if_pos q] at h;cases h
 rw [if_neg (show ¬¬N3 g=true from fun q=>q hg)] at h
 have hl:¬(b.a7.length:Int)=16:=fun q=>by rw [if_pos q] at h;cases h
 clear h
 have s:=B9 hc
 have c1:=fun u=>L1 b.keep b.next u b.k8 b.a7 b.log 2 (R4 o.u)
 have w0:IntKind.i64.wrap ((b.k8.length:Int) - 1)=(b.k8.length:Int) - 1:=L9 _ (by omega) (by omega)
 have c2:∀ u,PC Tryz.prog 19 [i64 0,i64 (IntKind.i64.wrap ((b.k8.length:Int) - 1)),i64 u] (.bool (decide (0<=u) && decide (u<=(b.k8.length:Int) - 1))):=fun u=>by rw [w0];exact E6 0 _ u
 refine pW Tryz.func21 ⟨by kernel_rfl,?_⟩
 conv=>whnf
 (refine Or.inr ⟨[],[14,9,12,15],by kernel_rfl,?_⟩;(conv=>whnf);refine ⟨[],_,_,_,_,⟨D4 b o hc,rfl,rfl,by kernel_rfl⟩,?_⟩)
 conv=>whnf
 (repeat' ((first|refine u6 ?_|refine u7 ?_|((try refine Or.inl ?_;conv=>whnf);(try refine ⟨false,?_⟩;conv=>whnf);refine ⟨_,by exact c2 _,?_⟩)|refine lD ?_|refine lN ?_|refine kL ?_|fail);conv=>whnf))
 (repeat' ((first|refine aU fun hh=>?_|refine aV fun hh=>?_|refine aS (fun hh=>?_) fun hh=>?_|refine kR ?_|fail)<;>conv=>whnf))
 (refine Or.inr ⟨[],[37,35],by kernel_rfl,?_⟩;(conv=>whnf);refine ⟨[14,9,12,15,36],_,_,_,_,⟨W9 b 2,rfl,rfl,by kernel_rfl⟩,?_⟩)
 conv=>whnf
 (repeat' ((first|refine aU fun hh=>?_|refine aV fun hh=>?_|refine aS (fun hh=>?_) fun hh=>?_|refine kR ?_|((try refine Or.inl ?_;conv=>whnf);(try refine ⟨false,?_⟩;conv=>whnf);refine ⟨_,by first|exact c1 _|exact O0 g,?_⟩)|fail)<;>conv=>whnf))
 refine ⟨J3 b8 g,⟨rfl,rfl,?_,?_⟩,?_⟩
 ·show (b.a7.length + 1) * 120<=_;omega
 ·omega
 have w1:IntKind.i64.wrap (((b.a7++[J3 b8 g]).length:Int) - 1)=b.a7.length:=by
  have hl:((b.a7++[J3 b8 g]).length:Int)=b.a7.length + 1:=by simp
  rw [hl,L9 _ (by omega) (by omega)]
  omega
 conv=>whnf
 (repeat' ((first|refine aU fun hh=>?_|refine aV fun hh=>?_|refine aS (fun hh=>?_) fun hh=>?_|refine kR ?_|fail)<;>conv=>whnf))
 refine ⟨[9,66,15],by kernel_rfl,?_⟩
 conv=>whnf
 refine ⟨?_,rfl⟩
 rw [w1]
 rfl
theorem qF (b:b9) (o:H5 b) (b8:Int) (g:H4) (h:¬kt b b8 g=0):PC Tryz.prog 21 [G4 b,i64 b8,DF g] (.tup [aZ 0,i64 0,i64 (kt b b8 g)]):=by
 by_cases hc:A8 b=true
 ·unfold kt at h ⊢
  rw [if_pos hc] at h ⊢
  have s:=B9 hc
  have c1:=fun u=>L1 b.keep b.next u b.k8 b.a7 b.log 2 (R4 o.u)
  have w0:IntKind.i64.wrap ((b.k8.length:Int) - 1)=(b.k8.length:Int) - 1:=L9 _ (by omega) (by omega)
  have c2:∀ u,PC Tryz.prog 19 [i64 0,i64 (IntKind.i64.wrap ((b.k8.length:Int) - 1)),i64 u] (.bool (decide (0<=u) && decide (u<=(b.k8.length:Int) - 1))):=fun u=>by rw [w0];exact E6 0 _ u
  by_cases hu:0<=b8/\b8<=(b.k8.length:Int) - 1
  ·rw [if_neg (show ¬¬(0<=b8/\b8<=(b.k8.length:Int) - 1) from fun q=>q hu)] at h ⊢
   refine pF Tryz.func21 ?_
   conv=>whnf
   (refine Or.inr ⟨[],[14,9,12,15],by kernel_rfl,?_⟩;(conv=>whnf);refine ⟨[],_,_,_,_,⟨D4 b o hc,rfl,rfl,by kernel_rfl⟩,?_⟩)
   conv=>whnf
   (repeat' ((first|refine u6 ?_|refine u7 ?_|((try refine Or.inl ?_;conv=>whnf);(try refine ⟨false,?_⟩;conv=>whnf);refine ⟨_,by exact c2 _,?_⟩)|refine lD ?_|refine lN ?_|refine kL ?_|fail);conv=>whnf))
   (repeat' ((first|refine aU fun hh=>?_|refine aV fun hh=>?_|refine aS (fun hh=>?_) fun hh=>?_|refine kR ?_|fail)<;>conv=>whnf))
   (refine Or.inr ⟨[],[37,35],by kernel_rfl,?_⟩;(conv=>whnf);refine ⟨[14,9,12,15,36],_,_,_,_,⟨W9 b 2,rfl,rfl,by kernel_rfl⟩,?_⟩)
   conv=>whnf
   (repeat' ((first|refine aU fun hh=>?_|refine aV fun hh=>?_|refine aS (fun hh=>?_) fun hh=>?_|refine kR ?_|((try refine Or.inl ?_;conv=>whnf);(try refine ⟨false,?_⟩;conv=>whnf);refine ⟨_,by first|exact c1 _|exact O0 g,?_⟩)|fail)<;>conv=>whnf))
   all_goals first
    | (exfalso;apply h;simp_all;done)
    | (simp_all;done)
    | (exfalso;omega)
   
  ·rw [if_pos hu]
   refine pF Tryz.func21 ?_
   conv=>whnf
   (refine Or.inr ⟨[],[14,9,12,15],by kernel_rfl,?_⟩;(conv=>whnf);refine ⟨[],_,_,_,_,⟨D4 b o hc,rfl,rfl,by kernel_rfl⟩,?_⟩)
   conv=>whnf
   (repeat' ((first|refine u6 ?_|refine u7 ?_|((try refine Or.inl ?_;conv=>whnf);(try refine ⟨false,?_⟩;conv=>whnf);refine ⟨_,by exact c2 _,?_⟩)|refine lD ?_|refine lN ?_|refine kL ?_|fail);conv=>whnf))
   (repeat' ((first|refine aU fun hh=>?_|refine aV fun hh=>?_|refine aS (fun hh=>?_) fun hh=>?_|refine kR ?_|fail)<;>conv=>whnf))
   all_goals first
    | (exfalso;apply h;simp_all;done)
    | (simp_all;done)
    | (exfalso;omega)
   
 ·have hc:A8 b=false:=by simpa using hc
  have c:=M5 b o hc
  unfold kt
  rw [if_neg (by rw [hc];decide)]
  refine pF Tryz.func21 ?_
  conv=>whnf
  (repeat' ((first|refine u6 ?_|refine u7 ?_|((try refine Or.inl ?_;conv=>whnf);(try refine ⟨false,?_⟩;conv=>whnf);refine ⟨_,by exact c,?_⟩)|refine lD ?_|refine lN ?_|refine kL ?_|fail);conv=>whnf))
  try rfl
def ad (x:x7) (n:Int):x7:=⟨x.author,x.o6,x.k9,n⟩
def fx (b:b9) (i:Nat):b9:=⟨b.keep,b.k8,b.a7.set i (ad (b.a7.getD i n5) 4),b.next,b.log⟩
theorem ku (b:b9) (hr:b.a7.length < 2 ^ 20) (i:Nat) (hi:i < b.a7.length) (h3:(b.a7.getD i n5).state=3) (lX:∀ m,m < i->¬(b.a7.getD m n5).state=3):PW Tryz.prog 41 [.ptr 0 0 0 0] (bV b) (.bool true) (bV (fx b i)):=by
 refine pW Tryz.func41 ⟨by kernel_rfl,?_⟩
 conv=>whnf
 refine Or.inr ⟨Nat,[11],[],[],fun k=>[i64 k],fun _=>[],fun _=>[],fun k=>b.a7.length - k,fun k=>k<=i,?_⟩
 conv=>whnf
 refine ⟨⟨0,?_⟩,?_⟩
 ·(conv=>whnf)
  exact kK ⟨Nat.zero_le _,rfl,rfl,rfl⟩
 intro k hk
 conv=>whnf
 refine ⟨fun h=>?_,fun h=>absurd (of_decide_eq_false h) (by omega)⟩
 have cD:k < b.a7.length:=by omega
 conv=>whnf
 refine ⟨⟨by omega,by omega⟩,?_⟩
 conv=>whnf
 refine ⟨cD,?_⟩
 conv=>whnf
 rw [show Int.toNat (k:Int)=k from rfl]
 refine ⟨fun q=>?_,fun q=>?_⟩
 ·have q:=of_decide_eq_true q
  have e:k=i:=by
   by_cases e:k=i
   ·exact e
   ·exact absurd q (lX k (by omega))
  subst e
  conv=>whnf
  refine ⟨⟨by omega,by omega⟩,?_⟩
  conv=>whnf
  refine ⟨ad (b.a7.getD k n5) 4,⟨rfl,rfl,cD⟩,?_⟩
  conv=>whnf
  refine ⟨[],by kernel_rfl,?_⟩
  conv=>whnf
  exact ⟨rfl,rfl⟩
 ·have q:=of_decide_eq_false q
  have e:¬k=i:=fun e=>q (e ▸ h3)
  refine ⟨k + 1,?_⟩
  conv=>whnf
  refine kK ⟨⟨?_,?_⟩,?_,rfl,rfl⟩
  ·show b.a7.length - (k + 1) < b.a7.length - k;omega
  ·show k + 1<=i;omega
  ·rw [L9 _ (by omega) (by omega)];rfl
theorem kv (b:b9) (hr:b.a7.length < 2 ^ 20) (lX:∀ m,m < b.a7.length->¬(b.a7.getD m n5).state=3):PW Tryz.prog 41 [.ptr 0 0 0 0] (bV b) (.bool false) (bV b):=by
 refine pW Tryz.func41 ⟨by kernel_rfl,?_⟩
 conv=>whnf
 refine Or.inr ⟨Nat,[11],[],[],fun k=>[i64 k],fun _=>[],fun _=>[],fun k=>b.a7.length - k,fun k=>k<=b.a7.length,?_⟩
 conv=>whnf
 refine ⟨⟨0,?_⟩,?_⟩
 ·(conv=>whnf)
  exact kK ⟨Nat.zero_le _,rfl,rfl,rfl⟩
 intro k hk
 conv=>whnf
 refine ⟨fun h=>?_,fun h=>?_⟩
 ·have cD:k < b.a7.length:=by have:=of_decide_eq_true h;omega
  conv=>whnf
  refine ⟨⟨by omega,by omega⟩,?_⟩
  conv=>whnf
  refine ⟨cD,?_⟩
  conv=>whnf
  rw [show Int.toNat (k:Int)=k from rfl]
  refine ⟨fun q=>absurd (of_decide_eq_true q) (lX k cD),fun q=>?_⟩
  refine ⟨k + 1,?_⟩
  conv=>whnf
  refine kK ⟨⟨?_,?_⟩,?_,rfl,rfl⟩
  ·show b.a7.length - (k + 1) < b.a7.length - k;omega
  ·show k + 1<=b.a7.length;omega
  ·rw [L9 _ (by omega) (by omega)];rfl
 conv=>whnf
 refine ⟨[],by kernel_rfl,?_⟩
 conv=>whnf
 exact ⟨rfl,rfl⟩
def H6 (x:x7):Bool:=decide (x.state=3)
def A2 (l:List x7):Nat:=l.findIdx H6
theorem J4 {l:List x7} (h:l.any H6=true):A2 l < l.length:=by
 obtain ⟨x,hx,hp⟩:=List.any_eq_true.1 h
 exact List.findIdx_lt_length_of_exists ⟨x,hx,hp⟩
theorem L6 {l:List x7} (h:l.any H6=true):(l.getD (A2 l) n5).state=3:=by
 have hl:=J4 h
 have:=List.findIdx_getElem (p:=H6) (xs:=l) (w:=hl)
 simp only [List.getD,List.getElem?_eq_getElem hl,Option.getD_some]
 exact of_decide_eq_true this
theorem gH {l:List x7} {m:Nat} (h:m < A2 l):¬(l.getD m n5).state=3:=by
 have hl:m < l.length:=Nat.lt_of_lt_of_le h List.findIdx_le_length
 have:=List.not_of_lt_findIdx h
 simp only [List.getD,List.getElem?_eq_getElem hl,Option.getD_some]
 intro q
 simp [H6,q] at this
theorem yR {l:List x7} (h:¬l.any H6=true) (m:Nat) (hm:m < l.length):¬(l.getD m n5).state=3:=fun q=>h (List.any_eq_true.2 ⟨l[m],List.getElem_mem hm,by
 simp only [List.getD,List.getElem?_eq_getElem hm,Option.getD_some] at q
 exact decide_eq_true q⟩)
def kz (b:b9) (b8:Int):Int :=
 if A8 b then (if ¬(0<=b8/\b8<=(b.k8.length:Int) - 1) then 6 else if C7 [3] b.k8 b8=false then 100 else if ¬b.a7.any H6=true then 102 else 0) else 8
theorem qG (b:b9) (o:H5 b) (b8:Int) (h:kz b b8=0):PW Tryz.prog 23 [G4 b,i64 b8] [] (.tup [kq (fx b (A2 b.a7)),i64 0]) (kr (fx b (A2 b.a7))):=by
 have hc:A8 b=true:=by
  unfold kz at h
  split at h
  ·assumption
  ·cases h
 unfold kz at h
 rw [if_pos hc] at h
 have hu:0<=b8/\b8<=(b.k8.length:Int) - 1:=Decidable.byContradiction fun q=>by rw [if_pos q] at h;cases h
 rw [if_neg (show ¬¬(0<=b8/\b8<=(b.k8.length:Int) - 1) from fun q=>q hu)] at h
 have lG:C7 [3] b.k8 b8=true:=by
  cases e:C7 [3] b.k8 b8 with
  | true=>rfl
  | false=>rw [if_pos e] at h;cases h
 rw [if_neg (show ¬C7 [3] b.k8 b8=false by rw [lG];decide)] at h
 have hg:b.a7.any H6=true:=Decidable.byContradiction fun q=>by rw [if_pos q] at h;cases h
 clear h
 have s:=B9 hc
 have c1:=fun u=>L1 b.keep b.next u b.k8 b.a7 b.log 3 (R4 o.u)
 have w0:IntKind.i64.wrap ((b.k8.length:Int) - 1)=(b.k8.length:Int) - 1:=L9 _ (by omega) (by omega)
 have c2:∀ u,PC Tryz.prog 19 [i64 0,i64 (IntKind.i64.wrap ((b.k8.length:Int) - 1)),i64 u] (.bool (decide (0<=u) && decide (u<=(b.k8.length:Int) - 1))):=fun u=>by rw [w0];exact E6 0 _ u
 have r:=ku b o.r (A2 b.a7) (J4 hg) (L6 hg) (fun m hm=>gH hm)
 refine pW Tryz.func23 ⟨by kernel_rfl,?_⟩
 conv=>whnf
 (refine Or.inr ⟨[],[10,8,11,12],by kernel_rfl,?_⟩;(conv=>whnf);refine ⟨[],_,_,_,_,⟨D4 b o hc,rfl,rfl,by kernel_rfl⟩,?_⟩)
 conv=>whnf
 (repeat' ((first|refine u6 ?_|refine u7 ?_|((try refine Or.inl ?_;conv=>whnf);(try refine ⟨false,?_⟩;conv=>whnf);refine ⟨_,by exact c2 _,?_⟩)|refine lD ?_|refine lN ?_|refine kL ?_|fail);conv=>whnf))
 (repeat' ((first|refine aU fun hh=>?_|refine aV fun hh=>?_|refine aS (fun hh=>?_) fun hh=>?_|refine kR ?_|fail)<;>conv=>whnf))
 (refine Or.inr ⟨[],[33,31],by kernel_rfl,?_⟩;(conv=>whnf);refine ⟨[10,8,11,12,32],_,_,_,_,⟨W9 b 3,rfl,rfl,by kernel_rfl⟩,?_⟩)
 conv=>whnf
 (repeat' ((first|refine aU fun hh=>?_|refine aV fun hh=>?_|refine aS (fun hh=>?_) fun hh=>?_|refine kR ?_|((try refine Or.inl ?_;conv=>whnf);(try refine ⟨false,?_⟩;conv=>whnf);refine ⟨_,by exact c1 _,?_⟩)|fail)<;>conv=>whnf))
 (refine Or.inr ⟨[],[],by kernel_rfl,?_⟩;(conv=>whnf);refine ⟨[10,8,11,12],_,_,_,_,⟨r,rfl,rfl,by kernel_rfl⟩,?_⟩)
 conv=>whnf
 (repeat' ((first|refine u6 ?_|refine u7 ?_|refine lD ?_|refine lN ?_|refine kL ?_|fail);conv=>whnf))
 refine ⟨[8,11,12],by kernel_rfl,?_⟩
 conv=>whnf
 exact ⟨rfl,rfl⟩
theorem oA (b:b9) (o:H5 b) (b8:Int) (h:¬kz b b8=0):PC Tryz.prog 23 [G4 b,i64 b8] (.tup [aZ 0,i64 (kz b b8)]):=by
 by_cases hc:A8 b=true
 ·unfold kz at h ⊢
  rw [if_pos hc] at h ⊢
  have s:=B9 hc
  have c1:=fun u=>L1 b.keep b.next u b.k8 b.a7 b.log 3 (R4 o.u)
  have w0:IntKind.i64.wrap ((b.k8.length:Int) - 1)=(b.k8.length:Int) - 1:=L9 _ (by omega) (by omega)
  have c2:∀ u,PC Tryz.prog 19 [i64 0,i64 (IntKind.i64.wrap ((b.k8.length:Int) - 1)),i64 u] (.bool (decide (0<=u) && decide (u<=(b.k8.length:Int) - 1))):=fun u=>by rw [w0];exact E6 0 _ u
  by_cases hu:0<=b8/\b8<=(b.k8.length:Int) - 1
  ·rw [if_neg (show ¬¬(0<=b8/\b8<=(b.k8.length:Int) - 1) from fun q=>q hu)] at h ⊢
   by_cases lG:C7 [3] b.k8 b8=true
   ·rw [if_neg (show ¬C7 [3] b.k8 b8=false by rw [lG];decide)] at h ⊢
    have hg:¬b.a7.any H6=true:=fun q=>h (if_neg (fun e=>e q))
    rw [if_pos hg]
    have r:=kv b o.r (fun m hm=>yR hg m hm)
    refine pF Tryz.func23 ?_
    conv=>whnf
    (refine Or.inr ⟨[],[10,8,11,12],by kernel_rfl,?_⟩;(conv=>whnf);refine ⟨[],_,_,_,_,⟨D4 b o hc,rfl,rfl,by kernel_rfl⟩,?_⟩)
    conv=>whnf
    (repeat' ((first|refine u6 ?_|refine u7 ?_|((try refine Or.inl ?_;conv=>whnf);(try refine ⟨false,?_⟩;conv=>whnf);refine ⟨_,by exact c2 _,?_⟩)|refine lD ?_|refine lN ?_|refine kL ?_|fail);conv=>whnf))
    (repeat' ((first|refine aU fun hh=>?_|refine aV fun hh=>?_|refine aS (fun hh=>?_) fun hh=>?_|refine kR ?_|fail)<;>conv=>whnf))
    (refine Or.inr ⟨[],[33,31],by kernel_rfl,?_⟩;(conv=>whnf);refine ⟨[10,8,11,12,32],_,_,_,_,⟨W9 b 3,rfl,rfl,by kernel_rfl⟩,?_⟩)
    conv=>whnf
    (repeat' ((first|refine aU fun hh=>?_|refine aV fun hh=>?_|refine aS (fun hh=>?_) fun hh=>?_|refine kR ?_|((try refine Or.inl ?_;conv=>whnf);(try refine ⟨false,?_⟩;conv=>whnf);refine ⟨_,by exact c1 _,?_⟩)|fail)<;>conv=>whnf))
    (refine Or.inr ⟨[],[],by kernel_rfl,?_⟩;(conv=>whnf);refine ⟨[10,8,11,12],_,_,_,_,⟨r,rfl,rfl,by kernel_rfl⟩,?_⟩)
    conv=>whnf
    (repeat' ((first|refine u6 ?_|refine u7 ?_|refine lD ?_|refine lN ?_|refine kL ?_|fail);conv=>whnf))
    all_goals rfl
   ·have Dc:C7 [3] b.k8 b8=false:=by simpa using lG
    rw [if_pos Dc]
    refine pF Tryz.func23 ?_
    conv=>whnf
    (refine Or.inr ⟨[],[10,8,11,12],by kernel_rfl,?_⟩;(conv=>whnf);refine ⟨[],_,_,_,_,⟨D4 b o hc,rfl,rfl,by kernel_rfl⟩,?_⟩)
    conv=>whnf
    (repeat' ((first|refine u6 ?_|refine u7 ?_|((try refine Or.inl ?_;conv=>whnf);(try refine ⟨false,?_⟩;conv=>whnf);refine ⟨_,by exact c2 _,?_⟩)|refine lD ?_|refine lN ?_|refine kL ?_|fail);conv=>whnf))
    (repeat' ((first|refine aU fun hh=>?_|refine aV fun hh=>?_|refine aS (fun hh=>?_) fun hh=>?_|refine kR ?_|fail)<;>conv=>whnf))
    (refine Or.inr ⟨[],[33,31],by kernel_rfl,?_⟩;(conv=>whnf);refine ⟨[10,8,11,12,32],_,_,_,_,⟨W9 b 3,rfl,rfl,by kernel_rfl⟩,?_⟩)
    conv=>whnf
    (repeat' ((first|refine aU fun hh=>?_|refine aV fun hh=>?_|refine aS (fun hh=>?_) fun hh=>?_|refine kR ?_|((try refine Or.inl ?_;conv=>whnf);(try refine ⟨false,?_⟩;conv=>whnf);refine ⟨_,by exact c1 _,?_⟩)|fail)<;>conv=>whnf))
    all_goals rfl
  ·rw [if_pos hu]
   refine pF Tryz.func23 ?_
   conv=>whnf
   (refine Or.inr ⟨[],[10,8,11,12],by kernel_rfl,?_⟩;(conv=>whnf);refine ⟨[],_,_,_,_,⟨D4 b o hc,rfl,rfl,by kernel_rfl⟩,?_⟩)
   conv=>whnf
   (repeat' ((first|refine u6 ?_|refine u7 ?_|((try refine Or.inl ?_;conv=>whnf);(try refine ⟨false,?_⟩;conv=>whnf);refine ⟨_,by exact c2 _,?_⟩)|refine lD ?_|refine lN ?_|refine kL ?_|fail);conv=>whnf))
   (repeat' ((first|refine aU fun hh=>?_|refine aV fun hh=>?_|refine aS (fun hh=>?_) fun hh=>?_|refine kR ?_|fail)<;>conv=>whnf))
   all_goals rfl
 ·have hc:A8 b=false:=by simpa using hc
  have c:=M5 b o hc
  unfold kz
  rw [if_neg (by rw [hc];decide)]
  refine pF Tryz.func23 ?_
  conv=>whnf
  (repeat' ((first|refine u6 ?_|refine u7 ?_|((try refine Or.inl ?_;conv=>whnf);(try refine ⟨false,?_⟩;conv=>whnf);refine ⟨_,by exact c,?_⟩)|refine lD ?_|refine lN ?_|refine kL ?_|fail);conv=>whnf))
  try rfl
theorem kA (x:x7):PC Tryz.prog 64 [Kb x] (.bool (H6 x)):=by
 refine pF Tryz.func64 ?_
 conv=>whnf
 try rfl
def vK (l:List x7):Int:=if l.any H6 then A2 l else -1
theorem yS {l:List x7} {k:Nat} (hk:k < l.length) (h:H6 (l.getD k n5)=true) (lX:∀ m,m < k->H6 (l.getD m n5)=false):vK l=k:=by
 have ha:l.any H6=true:=List.any_eq_true.2 ⟨l.getD k n5,by simp only [List.getD,List.getElem?_eq_getElem hk,Option.getD_some];exact List.getElem_mem hk,h⟩
 unfold vK
 rw [if_pos ha]
 have e:A2 l=k:=by
  have h1:=L6 ha
  rcases Nat.lt_trichotomy (A2 l) k with h2|h2|h2
  ·exact absurd h1 (of_decide_eq_false (lX _ h2))
  ·exact h2
  ·exact absurd (of_decide_eq_true h) (gH h2)
 rw [e]
theorem vL {l:List x7} (lX:∀ m,m < l.length->H6 (l.getD m n5)=false):vK l = -1:=by
 unfold vK
 rw [if_neg]
 intro h
 have h1:=L6 h
 exact absurd h1 (of_decide_eq_false (lX _ (J4 h)))
theorem yT (l:List x7) (hl:l.length < 2 ^ 40):PC Tryz.prog 63 [Bm l,.fn (.func 64) [] []] (i64 (vK l)):=by
 refine pF Tryz.func63 ?_
 conv=>whnf
 refine Or.inr ⟨Nat,[8],[],[],fun k=>[i64 k],fun _=>[],fun _=>[],fun k=>l.length - k,fun k=>k<=l.length/\∀ m,m < k->H6 (l.getD m n5)=false,?_⟩
 conv=>whnf
 refine ⟨⟨0,?_⟩,?_⟩
 ·(conv=>whnf)
  exact kK ⟨⟨Nat.zero_le _,fun i hi=>absurd hi (Nat.not_lt_zero i)⟩,rfl,rfl,rfl⟩
 intro k hk
 conv=>whnf
 refine ⟨fun h=>?_,fun h=>?_⟩
 ·have h:=of_decide_eq_true h
  have cD:k < l.length:=by omega
  conv=>whnf
  refine ⟨⟨by omega,by omega⟩,?_⟩
  conv=>whnf
  rw [show Int.toNat (k:Int)=k from rfl]
  (repeat' (first|(refine ⟨_,by exact kA _,?_⟩;(conv=>whnf))|(refine Or.inl ?_;(conv=>whnf);refine ⟨_,by exact kA _,?_⟩;(conv=>whnf))|(refine Or.inl ?_;(conv=>whnf);refine ⟨false,?_⟩;(conv=>whnf);refine ⟨_,by exact kA _,?_⟩;(conv=>whnf))|(refine ⟨by kernel_rfl,?_⟩;(conv=>whnf))|fail))
  refine ⟨fun q=>?_,fun q=>?_⟩
  ·(conv=>whnf)
   exact congrArg i64 (yS cD q hk.2).symm
  ·refine ⟨k + 1,?_⟩
   conv=>whnf
   refine kK ⟨⟨?_,?_,?_⟩,?_,rfl,rfl⟩
   ·show l.length - (k + 1) < l.length - k;omega
   ·omega
   ·intro m hm
    by_cases e:m=k
    ·subst e;exact q
    ·exact hk.2 m (by omega)
   ·rw [L9 _ (by omega) (by omega)];rfl
 ·have h:=of_decide_eq_false h
  conv=>whnf
  exact congrArg i64 (vL fun m hm=>hk.2 m (by omega)).symm
def qH (b:b9):Int:=if A8 b then (if b.a7.any H6 then 0 else 102) else 8
def vM (b:b9):Int:=if A8 b then (if b.a7.any H6 then A2 b.a7 else 0) else 0
theorem mK (b:b9) (o:H5 b):PC Tryz.prog 34 [G4 b] (.tup [i64 (vM b),i64 (qH b)]):=by
 have c:=cP b o
 have c2:=yT b.a7 (R4 o.r)
 unfold vM qH
 by_cases hc:A8 b=true
 ·rw [if_pos hc] at c
  rw [if_pos hc,if_pos hc]
  unfold vK at c2
  by_cases ha:b.a7.any H6=true
  ·rw [if_pos ha] at c2
   rw [if_pos ha,if_pos ha]
   refine pF Tryz.func34 ?_
   conv=>whnf
   (repeat' ((first|refine u6 ?_|refine u7 ?_|((try refine Or.inl ?_;conv=>whnf);(try refine ⟨false,?_⟩;conv=>whnf);refine ⟨_,by first|exact c|exact c2,?_⟩)|refine lD ?_|refine lN ?_|refine kL ?_|fail);conv=>whnf))
   all_goals rfl
  ·rw [if_neg ha] at c2
   rw [if_neg ha,if_neg ha]
   refine pF Tryz.func34 ?_
   conv=>whnf
   (repeat' ((first|refine u6 ?_|refine u7 ?_|((try refine Or.inl ?_;conv=>whnf);(try refine ⟨false,?_⟩;conv=>whnf);refine ⟨_,by first|exact c|exact c2,?_⟩)|refine lD ?_|refine lN ?_|refine kL ?_|fail);conv=>whnf))
   all_goals rfl
 ·rw [if_neg hc] at c
  rw [if_neg hc,if_neg hc]
  refine pF Tryz.func34 ?_
  conv=>whnf
  (repeat' ((first|refine u6 ?_|refine u7 ?_|((try refine Or.inl ?_;conv=>whnf);(try refine ⟨false,?_⟩;conv=>whnf);refine ⟨_,by exact c,?_⟩)|refine lD ?_|refine lN ?_|refine kL ?_|fail);conv=>whnf))
  all_goals rfl
theorem H7 (b:b9) (o:H5 b) (u:Int):PC Tryz.prog 19 [i64 0,i64 (IntKind.i64.wrap ((b.k8.length:Int) - 1)),i64 u] (.bool (decide (0<=u) && decide (u<=(b.k8.length:Int) - 1))):=by
 have:=o.u
 rw [L9 _ (by omega) (by omega)];exact E6 0 _ u
theorem fy (b:b9) (o:H5 b) (u:Int):PC Tryz.prog 19 [i64 0,i64 (IntKind.i64.wrap ((b.a7.length:Int) - 1)),i64 u] (.bool (decide (0<=u) && decide (u<=(b.a7.length:Int) - 1))):=by
 have:=o.r
 rw [L9 _ (by omega) (by omega)];exact E6 0 _ u
def ae (b:b9) (b8 a8:Int):Prop:=(0<=b8/\b8<=(b.k8.length:Int) - 1)/\(0<=a8/\a8<=(b.a7.length:Int) - 1)
instance (b:b9) (b8 a8:Int):Decidable (ae b b8 a8):=by unfold ae;infer_instance
theorem K5 (b:b9) (o:H5 b) (hc:A8 b=true) (b8 a8:Int) (h:ae b b8 a8):PW Tryz.prog 39 [G4 b,i64 b8,i64 a8] [] (.tup [.ptr 0 0 0 0,.ptr 2 13 a8.toNat 0,i64 0]) (bV b):=by
 obtain ⟨h1,h2⟩:=h
 refine pW Tryz.func39 ⟨by kernel_rfl,?_⟩
 conv=>whnf
 (refine Or.inr ⟨[],[13,11,12,14],by kernel_rfl,?_⟩;(conv=>whnf);refine ⟨[],_,_,_,_,⟨D4 b o hc,rfl,rfl,by kernel_rfl⟩,?_⟩)
 conv=>whnf
 (repeat' ((first|refine u6 ?_|refine u7 ?_|((try refine Or.inl ?_;conv=>whnf);(try refine ⟨false,?_⟩;conv=>whnf);refine ⟨_,by first|exact H7 b o _|exact fy b o _,?_⟩)|refine lD ?_|refine lN ?_|refine kL ?_|fail);conv=>whnf))
 (repeat' ((first|refine aU fun hh=>?_|refine aV fun hh=>?_|refine aS (fun hh=>?_) fun hh=>?_|refine kR ?_|((try refine Or.inl ?_;conv=>whnf);(try refine ⟨false,?_⟩;conv=>whnf);refine ⟨_,by first|exact H7 b o _|exact fy b o _,?_⟩)|fail)<;>conv=>whnf))
 refine ⟨[13,11,12,14],by kernel_rfl,?_⟩
 conv=>whnf
 exact ⟨rfl,rfl⟩
theorem iu (b:b9) (o:H5 b) (b8 a8:Int) (h:¬(A8 b=true/\ae b b8 a8)):PC Tryz.prog 39 [G4 b,i64 b8,i64 a8] (.tup [.nilp,.nilp,i64 (if A8 b then 6 else 8)]):=by
 by_cases hc:A8 b=true
 ·have hn:¬ae b b8 a8:=fun q=>h ⟨hc,q⟩
  unfold ae at hn
  rw [if_pos hc]
  refine pF Tryz.func39 ?_
  conv=>whnf
  (refine Or.inr ⟨[],[13,11,12,14],by kernel_rfl,?_⟩;(conv=>whnf);refine ⟨[],_,_,_,_,⟨D4 b o hc,rfl,rfl,by kernel_rfl⟩,?_⟩)
  conv=>whnf
  (repeat' ((first|refine u6 ?_|refine u7 ?_|((try refine Or.inl ?_;conv=>whnf);(try refine ⟨false,?_⟩;conv=>whnf);refine ⟨_,by first|exact H7 b o _|exact fy b o _,?_⟩)|refine lD ?_|refine lN ?_|refine kL ?_|fail);conv=>whnf))
  (repeat' ((first|refine aU fun hh=>?_|refine aV fun hh=>?_|refine aS (fun hh=>?_) fun hh=>?_|refine kR ?_|((try refine Or.inl ?_;conv=>whnf);(try refine ⟨false,?_⟩;conv=>whnf);refine ⟨_,by first|exact H7 b o _|exact fy b o _,?_⟩)|fail)<;>conv=>whnf))
  all_goals (first|rfl|(exfalso;omega))
 ·have rJ:A8 b=false:=by simpa using hc
  rw [if_neg hc]
  have c:=M5 b o rJ
  refine pF Tryz.func39 ?_
  conv=>whnf
  (repeat' ((first|refine u6 ?_|refine u7 ?_|((try refine Or.inl ?_;conv=>whnf);(try refine ⟨false,?_⟩;conv=>whnf);refine ⟨_,by exact c,?_⟩)|refine lD ?_|refine lN ?_|refine kL ?_|fail);conv=>whnf))
  try rfl
def DQ (b:b9) (i:Nat) (n:Int):b9:=⟨b.keep,b.k8,b.a7.set i (ad (b.a7.getD i n5) n),b.next,b.log⟩
def M6 (b:b9):b9:=if b.a7.any H6 then fx b (A2 b.a7) else b
def dw (b:b9) (a8:Int):b9:=DQ (M6 b) a8.toNat 3
def fA (b:b9) (b8 a8:Int):Int :=
 if A8 b=true/\ae b b8 a8 then (if C7 [2] b.k8 b8=false then 100 else if ¬(b.a7.getD a8.toNat n5).state=2 then 101 else 0) else (if A8 b then 6 else 8)
theorem dW {b:b9} {b8 a8:Int} (h:fA b b8 a8=0):A8 b=true/\ae b b8 a8/\C7 [2] b.k8 b8=true/\(b.a7.getD a8.toNat n5).state=2:=by
 unfold fA at h
 by_cases h1:A8 b=true/\ae b b8 a8
 ·rw [if_pos h1] at h
  by_cases h2:C7 [2] b.k8 b8=false
  ·rw [if_pos h2] at h;cases h
  ·rw [if_neg h2] at h
   by_cases h3:(b.a7.getD a8.toNat n5).state=2
   ·exact ⟨h1.1,h1.2,by simpa using h2,h3⟩
   ·rw [if_pos h3] at h;cases h
 ·rw [if_neg h1] at h
  split at h<;>cases h
theorem lH (b:b9) (o:H5 b) (b8 a8:Int) (h:fA b b8 a8=0):PW Tryz.prog 16 [G4 b,i64 b8,i64 a8] [] (.tup [kq (dw b a8),i64 0]) (kr (dw b a8)):=by
 obtain ⟨hc,hn,lG,h2⟩:=dW h
 clear h
 have s:=B9 hc
 have c1:=fun u=>L1 b.keep b.next u b.k8 b.a7 b.log 2 (R4 o.u)
 have u2:a8.toNat < b.a7.length:=by have:=hn.2;omega
 have hi:0<=a8/\a8 < (b.a7.length:Int):=by have:=hn.2;omega
 by_cases ha:b.a7.any H6=true
 ·have r:=ku b o.r (A2 b.a7) (J4 ha) (L6 ha) (fun m hm=>gH hm)
  have e:dw b a8=DQ (fx b (A2 b.a7)) a8.toNat 3:=by unfold dw M6;rw [if_pos ha]
  rw [e]
  have wF:a8.toNat < (fx b (A2 b.a7)).a7.length:=by show a8.toNat < (b.a7.set _ _).length;rw [List.length_set];exact u2
  refine pW Tryz.func16 ⟨by kernel_rfl,?_⟩
  conv=>whnf
  (refine Or.inr ⟨[],[15,12,13,14],by kernel_rfl,?_⟩;(conv=>whnf);refine ⟨[],_,_,_,_,⟨K5 b o hc b8 a8 hn,rfl,rfl,by kernel_rfl⟩,?_⟩)
  conv=>whnf
  (repeat' ((first|refine u6 ?_|refine u7 ?_|refine lD ?_|refine lN ?_|refine kL ?_|fail);conv=>whnf))
  (refine Or.inr ⟨[],[27,25],by kernel_rfl,?_⟩;(conv=>whnf);refine ⟨[15,12,13,14,26],_,_,_,_,⟨W9 b 2,rfl,rfl,by kernel_rfl⟩,?_⟩)
  conv=>whnf
  (repeat' ((first|refine aU fun hh=>?_|refine aV fun hh=>?_|refine aS (fun hh=>?_) fun hh=>?_|refine kR ?_|((try refine Or.inl ?_;conv=>whnf);(try refine ⟨false,?_⟩;conv=>whnf);refine ⟨_,by exact c1 _,?_⟩)|fail)<;>conv=>whnf))
  refine ⟨u2,?_⟩
  conv=>whnf
  (repeat' ((first|refine aU fun hh=>?_|refine aV fun hh=>?_|refine aS (fun hh=>?_) fun hh=>?_|refine kR ?_|fail)<;>conv=>whnf))
  (refine Or.inr ⟨[],[],by kernel_rfl,?_⟩;(conv=>whnf);refine ⟨[15,12,13,14],_,_,_,_,⟨r,rfl,rfl,by kernel_rfl⟩,?_⟩)
  conv=>whnf
  refine ⟨ad ((fx b (A2 b.a7)).a7.getD a8.toNat n5) 3,⟨rfl,rfl,wF⟩,?_⟩
  conv=>whnf
  refine ⟨[12,13,14],by kernel_rfl,?_⟩
  conv=>whnf
  exact ⟨rfl,rfl⟩
 ·have r:=kv b o.r (fun m hm=>yR ha m hm)
  have e:dw b a8=DQ b a8.toNat 3:=by unfold dw M6;rw [if_neg ha]
  rw [e]
  have wF:=u2
  refine pW Tryz.func16 ⟨by kernel_rfl,?_⟩
  conv=>whnf
  (refine Or.inr ⟨[],[15,12,13,14],by kernel_rfl,?_⟩;(conv=>whnf);refine ⟨[],_,_,_,_,⟨K5 b o hc b8 a8 hn,rfl,rfl,by kernel_rfl⟩,?_⟩)
  conv=>whnf
  (repeat' ((first|refine u6 ?_|refine u7 ?_|refine lD ?_|refine lN ?_|refine kL ?_|fail);conv=>whnf))
  (refine Or.inr ⟨[],[27,25],by kernel_rfl,?_⟩;(conv=>whnf);refine ⟨[15,12,13,14,26],_,_,_,_,⟨W9 b 2,rfl,rfl,by kernel_rfl⟩,?_⟩)
  conv=>whnf
  (repeat' ((first|refine aU fun hh=>?_|refine aV fun hh=>?_|refine aS (fun hh=>?_) fun hh=>?_|refine kR ?_|((try refine Or.inl ?_;conv=>whnf);(try refine ⟨false,?_⟩;conv=>whnf);refine ⟨_,by exact c1 _,?_⟩)|fail)<;>conv=>whnf))
  refine ⟨u2,?_⟩
  conv=>whnf
  (repeat' ((first|refine aU fun hh=>?_|refine aV fun hh=>?_|refine aS (fun hh=>?_) fun hh=>?_|refine kR ?_|fail)<;>conv=>whnf))
  (refine Or.inr ⟨[],[],by kernel_rfl,?_⟩;(conv=>whnf);refine ⟨[15,12,13,14],_,_,_,_,⟨r,rfl,rfl,by kernel_rfl⟩,?_⟩)
  conv=>whnf
  refine ⟨ad ((b).a7.getD a8.toNat n5) 3,⟨rfl,rfl,wF⟩,?_⟩
  conv=>whnf
  refine ⟨[12,13,14],by kernel_rfl,?_⟩
  conv=>whnf
  exact ⟨rfl,rfl⟩
theorem kB (b:b9) (o:H5 b) (b8 a8:Int) (h:¬fA b b8 a8=0):PC Tryz.prog 16 [G4 b,i64 b8,i64 a8] (.tup [aZ 0,i64 (fA b b8 a8)]):=by
 by_cases h1:A8 b=true/\ae b b8 a8
 ·unfold fA at h ⊢
  rw [if_pos h1] at h ⊢
  obtain ⟨hc,hn⟩:=h1
  have s:=B9 hc
  have c1:=fun u=>L1 b.keep b.next u b.k8 b.a7 b.log 2 (R4 o.u)
  have u2:a8.toNat < b.a7.length:=by have:=hn.2;omega
  by_cases lG:C7 [2] b.k8 b8=false
  ·rw [if_pos lG]
   refine pF Tryz.func16 ?_
   conv=>whnf
   (refine Or.inr ⟨[],[15,12,13,14],by kernel_rfl,?_⟩;(conv=>whnf);refine ⟨[],_,_,_,_,⟨K5 b o hc b8 a8 hn,rfl,rfl,by kernel_rfl⟩,?_⟩)
   conv=>whnf
   (repeat' ((first|refine u6 ?_|refine u7 ?_|refine lD ?_|refine lN ?_|refine kL ?_|fail);conv=>whnf))
   (refine Or.inr ⟨[],[27,25],by kernel_rfl,?_⟩;(conv=>whnf);refine ⟨[15,12,13,14,26],_,_,_,_,⟨W9 b 2,rfl,rfl,by kernel_rfl⟩,?_⟩)
   conv=>whnf
   (repeat' ((first|refine aU fun hh=>?_|refine aV fun hh=>?_|refine aS (fun hh=>?_) fun hh=>?_|refine kR ?_|((try refine Or.inl ?_;conv=>whnf);(try refine ⟨false,?_⟩;conv=>whnf);refine ⟨_,by exact c1 _,?_⟩)|fail)<;>conv=>whnf))
   all_goals rfl
  ·rw [if_neg lG] at h ⊢
   have Mt:C7 [2] b.k8 b8=true:=by simpa using lG
   have h2:¬(b.a7.getD a8.toNat n5).state=2:=fun q=>h (if_neg (fun e=>e q))
   rw [if_pos h2]
   refine pF Tryz.func16 ?_
   conv=>whnf
   (refine Or.inr ⟨[],[15,12,13,14],by kernel_rfl,?_⟩;(conv=>whnf);refine ⟨[],_,_,_,_,⟨K5 b o hc b8 a8 hn,rfl,rfl,by kernel_rfl⟩,?_⟩)
   conv=>whnf
   (repeat' ((first|refine u6 ?_|refine u7 ?_|refine lD ?_|refine lN ?_|refine kL ?_|fail);conv=>whnf))
   (refine Or.inr ⟨[],[27,25],by kernel_rfl,?_⟩;(conv=>whnf);refine ⟨[15,12,13,14,26],_,_,_,_,⟨W9 b 2,rfl,rfl,by kernel_rfl⟩,?_⟩)
   conv=>whnf
   (repeat' ((first|refine aU fun hh=>?_|refine aV fun hh=>?_|refine aS (fun hh=>?_) fun hh=>?_|refine kR ?_|((try refine Or.inl ?_;conv=>whnf);(try refine ⟨false,?_⟩;conv=>whnf);refine ⟨_,by exact c1 _,?_⟩)|fail)<;>conv=>whnf))
   refine ⟨u2,?_⟩
   conv=>whnf
   (repeat' ((first|refine aU fun hh=>?_|refine aV fun hh=>?_|refine aS (fun hh=>?_) fun hh=>?_|refine kR ?_|fail)<;>conv=>whnf))
   all_goals rfl
 ·have c:=iu b o b8 a8 h1
  unfold fA
  rw [if_neg h1]
  by_cases hc:A8 b=true
  ·rw [if_pos hc] at c ⊢
   refine pF Tryz.func16 ?_
   conv=>whnf
   (repeat' ((first|refine u6 ?_|refine u7 ?_|((try refine Or.inl ?_;conv=>whnf);(try refine ⟨false,?_⟩;conv=>whnf);refine ⟨_,by exact c,?_⟩)|refine lD ?_|refine lN ?_|refine kL ?_|fail);conv=>whnf))
   all_goals rfl
  ·rw [if_neg hc] at c ⊢
   refine pF Tryz.func16 ?_
   conv=>whnf
   (repeat' ((first|refine u6 ?_|refine u7 ?_|((try refine Or.inl ?_;conv=>whnf);(try refine ⟨false,?_⟩;conv=>whnf);refine ⟨_,by exact c,?_⟩)|refine lD ?_|refine lN ?_|refine kL ?_|fail);conv=>whnf))
   all_goals rfl
theorem P7 {α:Type} {d y:α} {l:List α} {j:Nat} (h:j < l.length):(l.set j y).getD j d=y:=by
 rw [List.getD,List.getElem?_set_self h];rfl

end Go.Proofs.Tryz.My
