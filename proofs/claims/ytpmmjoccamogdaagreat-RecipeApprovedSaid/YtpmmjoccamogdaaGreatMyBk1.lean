/- Helper lemmas. -/
import Derived.Test.YtpmmjoccamogdaaGreatMyBkB
set_option linter.unusedVariables false
set_option linter.unusedSimpArgs false
set_option maxRecDepth 100000
set_option maxHeartbeats 0
namespace Go.Proofs.Tryz.My
open Go Go.Ev
theorem E6 (lo hi n:Int):PC Tryz.prog 19 [i64 lo,i64 hi,i64 n] (.bool (A0 n lo hi)):=by
 refine pF Tryz.func19 ?_
 conv=>whnf
 (repeat' (first|(refine ⟨by kernel_rfl,?_⟩;(conv=>whnf))|(refine ⟨fun _=>?_,fun h=>absurd h (by first|decide|(simp;done)|fail)⟩;(conv=>whnf))|(refine ⟨fun h=>absurd h (by first|decide|(simp;done)|fail),fun _=>?_⟩;(conv=>whnf))|((with_reducible refine And.intro (a:=_=true->_) (b:=_=false->_) (fun hh=>?_) (fun hh=>?_))<;>(try simp only [oU] at hh)<;>(first|(exfalso;omega)|(conv=>whnf)))|fail))
 all_goals (first|rfl|(simp [A0, *];done))
abbrev tT (k:Int) (us:List Int) (rs:List x7) (nx:Int) (lg:List A1):List AV:=[i64 k,FZ us,Bm rs,i64 nx,vG lg]
theorem gD (a x:Int):PC Tryz.prog 86 [.slc 1 [[u8 a]],u8 x] (i64 (if x=a then 0 else -1)):=by
 refine pF Tryz.func86 ?_
 conv=>whnf
 refine Or.inl ⟨2,?_⟩
 conv=>whnf
 (repeat' ((first|refine u6 ?_|refine u7 ?_|refine lD ?_|refine lN ?_|refine kL ?_|fail);conv=>whnf))
 refine ⟨fun h=>?_,fun h=>?_⟩
 ·(conv=>whnf)
  rw [if_pos (of_decide_eq_true h)]
 ·(conv=>whnf)
  (repeat' ((first|refine u6 ?_|refine u7 ?_|refine lD ?_|refine lN ?_|refine kL ?_|fail);conv=>whnf))
  rw [if_neg (of_decide_eq_false h)]
theorem gE (a b x:Int):PC Tryz.prog 86 [.slc 1 [[u8 a],[u8 b]],u8 x] (i64 (if x=a then 0 else if x=b then 1 else -1)):=by
 refine pF Tryz.func86 ?_
 conv=>whnf
 refine Or.inl ⟨3,?_⟩
 conv=>whnf
 (repeat' ((first|refine u6 ?_|refine u7 ?_|refine lD ?_|refine lN ?_|refine kL ?_|fail);conv=>whnf))
 refine ⟨fun h=>?_,fun h=>?_⟩
 ·(conv=>whnf)
  rw [if_pos (of_decide_eq_true h)]
 ·(conv=>whnf)
  (repeat' ((first|refine u6 ?_|refine u7 ?_|refine lD ?_|refine lN ?_|refine kL ?_|fail);conv=>whnf))
  refine ⟨fun h2=>?_,fun h2=>?_⟩
  ·(conv=>whnf)
   rw [if_neg (of_decide_eq_false h),if_pos (of_decide_eq_true h2)]
   try rfl
  ·(conv=>whnf)
   (repeat' ((first|refine u6 ?_|refine u7 ?_|refine lD ?_|refine lN ?_|refine kL ?_|fail);conv=>whnf))
   rw [if_neg (of_decide_eq_false h),if_neg (of_decide_eq_false h2)]
theorem gF (a b c x:Int):PC Tryz.prog 86 [.slc 1 [[u8 a],[u8 b],[u8 c]],u8 x] (i64 (if x=a then 0 else if x=b then 1 else if x=c then 2 else -1)):=by
 refine pF Tryz.func86 ?_
 conv=>whnf
 refine Or.inl ⟨4,?_⟩
 conv=>whnf
 (repeat' ((first|refine u6 ?_|refine u7 ?_|refine lD ?_|refine lN ?_|refine kL ?_|fail);conv=>whnf))
 refine ⟨fun h=>?_,fun h=>?_⟩
 ·(conv=>whnf)
  rw [if_pos (of_decide_eq_true h)]
 ·(conv=>whnf)
  (repeat' ((first|refine u6 ?_|refine u7 ?_|refine lD ?_|refine lN ?_|refine kL ?_|fail);conv=>whnf))
  refine ⟨fun h2=>?_,fun h2=>?_⟩
  ·(conv=>whnf)
   rw [if_neg (of_decide_eq_false h),if_pos (of_decide_eq_true h2)]
   try rfl
  ·(conv=>whnf)
   (repeat' ((first|refine u6 ?_|refine u7 ?_|refine lD ?_|refine lN ?_|refine kL ?_|fail);conv=>whnf))
   refine ⟨fun h3=>?_,fun h3=>?_⟩
   ·(conv=>whnf)
    rw [if_neg (of_decide_eq_false h),if_neg (of_decide_eq_false h2),if_pos (of_decide_eq_true h3)]
    try rfl
   ·(conv=>whnf)
    (repeat' ((first|refine u6 ?_|refine u7 ?_|refine lD ?_|refine lN ?_|refine kL ?_|fail);conv=>whnf))
    rw [if_neg (of_decide_eq_false h),if_neg (of_decide_eq_false h2),if_neg (of_decide_eq_false h3)]
theorem oq (a x:Int):PC Tryz.prog 66 [.slc 1 [[u8 a]],u8 x] (.bool ([a].contains x)):=by
 refine pF Tryz.func66 ?_
 conv=>whnf
 (repeat' (first|(refine ⟨_,by exact gD a x,?_⟩;(conv=>whnf))|(refine Or.inl ?_;(conv=>whnf);refine ⟨_,by exact gD a x,?_⟩;(conv=>whnf))|(refine Or.inl ?_;(conv=>whnf);refine ⟨false,?_⟩;(conv=>whnf);refine ⟨_,by exact gD a x,?_⟩;(conv=>whnf))|(refine ⟨by kernel_rfl,?_⟩;(conv=>whnf))|fail))
 congr 1
 by_cases h:x=a<;>simp [h]
theorem ot (a b x:Int):PC Tryz.prog 66 [.slc 1 [[u8 a],[u8 b]],u8 x] (.bool ([a,b].contains x)):=by
 refine pF Tryz.func66 ?_
 conv=>whnf
 (repeat' (first|(refine ⟨_,by exact gE a b x,?_⟩;(conv=>whnf))|(refine Or.inl ?_;(conv=>whnf);refine ⟨_,by exact gE a b x,?_⟩;(conv=>whnf))|(refine Or.inl ?_;(conv=>whnf);refine ⟨false,?_⟩;(conv=>whnf);refine ⟨_,by exact gE a b x,?_⟩;(conv=>whnf))|(refine ⟨by kernel_rfl,?_⟩;(conv=>whnf))|fail))
 congr 1
 by_cases h:x=a
 ·simp [h]
 ·by_cases h2:x=b
  ·subst h2;simp [h]
  ·simp [h,h2]
theorem ou (a b c x:Int):PC Tryz.prog 66 [.slc 1 [[u8 a],[u8 b],[u8 c]],u8 x] (.bool ([a,b,c].contains x)):=by
 refine pF Tryz.func66 ?_
 conv=>whnf
 (repeat' (first|(refine ⟨_,by exact gF a b c x,?_⟩;(conv=>whnf))|(refine Or.inl ?_;(conv=>whnf);refine ⟨_,by exact gF a b c x,?_⟩;(conv=>whnf))|(refine Or.inl ?_;(conv=>whnf);refine ⟨false,?_⟩;(conv=>whnf);refine ⟨_,by exact gF a b c x,?_⟩;(conv=>whnf))|(refine ⟨by kernel_rfl,?_⟩;(conv=>whnf))|fail))
 congr 1
 by_cases h:x=a
 ·simp [h]
 ·by_cases h2:x=b
  ·subst h2;simp [h]
  ·by_cases h3:x=c
   ·subst h3;simp [h,h2]
   ·simp [h,h2,h3]
theorem L1 (k n u:Int) (us:List Int) (rs:List x7) (lg:List A1) (a:Int) (hl:us.length < 2 ^ 40):PC Tryz.prog 65 [i64 u,.pt [.pt (tT k us rs n lg) 0] 0,.pt [.slc 1 [[u8 a]]] 0] (.bool (C7 [a] us u)):=by
 have w1:IntKind.i64.wrap ((us.length:Int) - 1)=(us.length:Int) - 1:=L9 _ (by omega) (by omega)
 have c1:=E6 0 (us.length - 1) u
 have c2:=oq a (us.getD u.toNat 0)
 refine pF Tryz.func65 ?_
 conv=>whnf
 refine ⟨by kernel_rfl,?_⟩
 conv=>whnf
 rw [w1]
 (repeat' (first|(refine ⟨_,by exact c1,?_⟩;(conv=>whnf))|(refine Or.inl ?_;(conv=>whnf);refine ⟨_,by exact c1,?_⟩;(conv=>whnf))|(refine Or.inl ?_;(conv=>whnf);refine ⟨false,?_⟩;(conv=>whnf);refine ⟨_,by exact c1,?_⟩;(conv=>whnf))|(refine ⟨by kernel_rfl,?_⟩;(conv=>whnf))|fail))
 refine ⟨fun h=>?_,fun h=>?_⟩
 ·have hb:0<=u/\u < us.length:=by simp only [A0,Bool.and_eq_true,decide_eq_true_eq] at h;omega
  conv=>whnf
  refine ⟨hb,?_⟩
  conv=>whnf
  (repeat' (first|(refine ⟨_,by exact c2,?_⟩;(conv=>whnf))|(refine Or.inl ?_;(conv=>whnf);refine ⟨_,by exact c2,?_⟩;(conv=>whnf))|(refine Or.inl ?_;(conv=>whnf);refine ⟨false,?_⟩;(conv=>whnf);refine ⟨_,by exact c2,?_⟩;(conv=>whnf))|(refine ⟨by kernel_rfl,?_⟩;(conv=>whnf))|fail))
  unfold C7
  rw [h,Bool.true_and]
 ·(conv=>whnf)
  refine ⟨by kernel_rfl,?_⟩
  conv=>whnf
  unfold C7
  rw [h,Bool.false_and]
theorem tU (k n:Int) (us:List Int) (rs:List x7) (lg:List A1) (a:Int):PC Tryz.prog 40 [.pt (tT k us rs n lg) 0,.slc 1 [[u8 a]]] (.fn (.func 65) [] [.pt [.pt (tT k us rs n lg) 0] 0,.pt [.slc 1 [[u8 a]]] 0]):=by
 refine pF Tryz.func40 ?_
 conv=>whnf
 try rfl
theorem km (k n u:Int) (us:List Int) (rs:List x7) (lg:List A1) (a b:Int) (hl:us.length < 2 ^ 40):PC Tryz.prog 65 [i64 u,.pt [.pt (tT k us rs n lg) 0] 0,.pt [.slc 1 [[u8 a],[u8 b]]] 0] (.bool (C7 [a,b] us u)):=by
 have w1:IntKind.i64.wrap ((us.length:Int) - 1)=(us.length:Int) - 1:=L9 _ (by omega) (by omega)
 have c1:=E6 0 (us.length - 1) u
 have c2:=ot a b (us.getD u.toNat 0)
 refine pF Tryz.func65 ?_
 conv=>whnf
 refine ⟨by kernel_rfl,?_⟩
 conv=>whnf
 rw [w1]
 (repeat' (first|(refine ⟨_,by exact c1,?_⟩;(conv=>whnf))|(refine Or.inl ?_;(conv=>whnf);refine ⟨_,by exact c1,?_⟩;(conv=>whnf))|(refine Or.inl ?_;(conv=>whnf);refine ⟨false,?_⟩;(conv=>whnf);refine ⟨_,by exact c1,?_⟩;(conv=>whnf))|(refine ⟨by kernel_rfl,?_⟩;(conv=>whnf))|fail))
 refine ⟨fun h=>?_,fun h=>?_⟩
 ·have hb:0<=u/\u < us.length:=by simp only [A0,Bool.and_eq_true,decide_eq_true_eq] at h;omega
  conv=>whnf
  refine ⟨hb,?_⟩
  conv=>whnf
  (repeat' (first|(refine ⟨_,by exact c2,?_⟩;(conv=>whnf))|(refine Or.inl ?_;(conv=>whnf);refine ⟨_,by exact c2,?_⟩;(conv=>whnf))|(refine Or.inl ?_;(conv=>whnf);refine ⟨false,?_⟩;(conv=>whnf);refine ⟨_,by exact c2,?_⟩;(conv=>whnf))|(refine ⟨by kernel_rfl,?_⟩;(conv=>whnf))|fail))
  unfold C7
  rw [h,Bool.true_and]
 ·(conv=>whnf)
  refine ⟨by kernel_rfl,?_⟩
  conv=>whnf
  unfold C7
  rw [h,Bool.false_and]
theorem Bo (k n:Int) (us:List Int) (rs:List x7) (lg:List A1) (a b:Int):PC Tryz.prog 40 [.pt (tT k us rs n lg) 0,.slc 1 [[u8 a],[u8 b]]] (.fn (.func 65) [] [.pt [.pt (tT k us rs n lg) 0] 0,.pt [.slc 1 [[u8 a],[u8 b]]] 0]):=by
 refine pF Tryz.func40 ?_
 conv=>whnf
 try rfl
theorem qA (k n u:Int) (us:List Int) (rs:List x7) (lg:List A1) (a b c:Int) (hl:us.length < 2 ^ 40):PC Tryz.prog 65 [i64 u,.pt [.pt (tT k us rs n lg) 0] 0,.pt [.slc 1 [[u8 a],[u8 b],[u8 c]]] 0] (.bool (C7 [a,b,c] us u)):=by
 have w1:IntKind.i64.wrap ((us.length:Int) - 1)=(us.length:Int) - 1:=L9 _ (by omega) (by omega)
 have c1:=E6 0 (us.length - 1) u
 have c2:=ou a b c (us.getD u.toNat 0)
 refine pF Tryz.func65 ?_
 conv=>whnf
 refine ⟨by kernel_rfl,?_⟩
 conv=>whnf
 rw [w1]
 (repeat' (first|(refine ⟨_,by exact c1,?_⟩;(conv=>whnf))|(refine Or.inl ?_;(conv=>whnf);refine ⟨_,by exact c1,?_⟩;(conv=>whnf))|(refine Or.inl ?_;(conv=>whnf);refine ⟨false,?_⟩;(conv=>whnf);refine ⟨_,by exact c1,?_⟩;(conv=>whnf))|(refine ⟨by kernel_rfl,?_⟩;(conv=>whnf))|fail))
 refine ⟨fun h=>?_,fun h=>?_⟩
 ·have hb:0<=u/\u < us.length:=by simp only [A0,Bool.and_eq_true,decide_eq_true_eq] at h;omega
  conv=>whnf
  refine ⟨hb,?_⟩
  conv=>whnf
  (repeat' (first|(refine ⟨_,by exact c2,?_⟩;(conv=>whnf))|(refine Or.inl ?_;(conv=>whnf);refine ⟨_,by exact c2,?_⟩;(conv=>whnf))|(refine Or.inl ?_;(conv=>whnf);refine ⟨false,?_⟩;(conv=>whnf);refine ⟨_,by exact c2,?_⟩;(conv=>whnf))|(refine ⟨by kernel_rfl,?_⟩;(conv=>whnf))|fail))
  unfold C7
  rw [h,Bool.true_and]
 ·(conv=>whnf)
  refine ⟨by kernel_rfl,?_⟩
  conv=>whnf
  unfold C7
  rw [h,Bool.false_and]
theorem kn (k n:Int) (us:List Int) (rs:List x7) (lg:List A1) (a:Int) (hu:us.length < 2 ^ 40) (l:List Int) (hl:l.length < 2 ^ 40) :
  PC Tryz.prog 89 [I7 l,.fn (.func 65) [] [.pt [.pt (tT k us rs n lg) 0] 0,.pt [.slc 1 [[u8 a]]] 0]] (i64 (mf (C7 [a] us) l)):=by
 refine pF Tryz.func89 ?_
 conv=>whnf
 refine Or.inr ⟨Nat,[8],[],[],fun k=>[i64 k],fun _=>[],fun _=>[],fun k=>l.length - k,fun k=>k<=l.length/\∀ i,i < k->C7 [a] us (l.getD i 0)=false,?_⟩
 conv=>whnf
 refine ⟨⟨0,?_⟩,?_⟩
 ·(conv=>whnf)
  exact kK ⟨⟨Nat.zero_le _,fun i hi=>absurd hi (Nat.not_lt_zero i)⟩,rfl,rfl,rfl⟩
 ·intro j hj
  conv=>whnf
  refine ⟨fun h=>?_,fun h=>?_⟩
  ·have h:=of_decide_eq_true h
   conv=>whnf
   refine ⟨⟨by omega,by omega⟩,?_⟩
   conv=>whnf
   (repeat' (first|(refine ⟨_,by exact L1 k n _ us rs lg a hu,?_⟩;(conv=>whnf))|(refine Or.inl ?_;(conv=>whnf);refine ⟨_,by exact L1 k n _ us rs lg a hu,?_⟩;(conv=>whnf))|(refine Or.inl ?_;(conv=>whnf);refine ⟨false,?_⟩;(conv=>whnf);refine ⟨_,by exact L1 k n _ us rs lg a hu,?_⟩;(conv=>whnf))|(refine ⟨by kernel_rfl,?_⟩;(conv=>whnf))|fail))
   refine ⟨fun h2=>?_,fun h2=>?_⟩
   ·(conv=>whnf)
    exact congrArg i64 (iL _ 0 l j (by omega) h2 hj.2).symm
   ·refine ⟨j + 1,?_⟩
    conv=>whnf
    refine kK ⟨⟨?_,?_,?_⟩,?_,rfl,rfl⟩
    ·show l.length - (j + 1) < l.length - j;omega
    ·omega
    ·intro i hi
     by_cases e:i=j
     ·subst e;exact h2
     ·exact hj.2 i (by omega)
    ·rw [L9 _ (by omega) (by omega)];rfl
  ·have h:=of_decide_eq_false h
   conv=>whnf
   exact congrArg i64 (eU _ 0 l fun i hi=>hj.2 i (by omega)).symm
theorem yL (k n:Int) (us:List Int) (rs:List x7) (lg:List A1) (a:Int) (hu:us.length < 2 ^ 40) (l:List Int) (hl:l.length < 2 ^ 40) :
  PC Tryz.prog 71 [I7 l,.fn (.func 65) [] [.pt [.pt (tT k us rs n lg) 0] 0,.pt [.slc 1 [[u8 a]]] 0]] (.bool (l.any (C7 [a] us))):=by
 refine pF Tryz.func71 ?_
 conv=>whnf
 (repeat' (first|(refine ⟨_,by exact kn k n us rs lg a hu l hl,?_⟩;(conv=>whnf))|(refine Or.inl ?_;(conv=>whnf);refine ⟨_,by exact kn k n us rs lg a hu l hl,?_⟩;(conv=>whnf))|(refine Or.inl ?_;(conv=>whnf);refine ⟨false,?_⟩;(conv=>whnf);refine ⟨_,by exact kn k n us rs lg a hu l hl,?_⟩;(conv=>whnf))|(refine ⟨by kernel_rfl,?_⟩;(conv=>whnf))|fail))
 rw [iM]
theorem mH (k n:Int) (us:List Int) (rs:List x7) (lg:List A1) (hu:us.length < 2 ^ 40) (l:List Int) (hl:l.length < 2 ^ 40):PC Tryz.prog 45 [.pt (tT k us rs n lg) 0,I7 l] (.bool (D9 us l)):=by
 have c1:=tU k n us rs lg 3
 have c2:=yL k n us rs lg 3 hu l hl
 refine pF Tryz.func45 ?_
 conv=>whnf
 refine ⟨fun h=>?_,fun h=>?_⟩
 ·(conv=>whnf)
  refine Or.inl ?_
  conv=>whnf
  refine ⟨true,?_⟩
  conv=>whnf
  refine ⟨_,c1,?_⟩
  (repeat' (first|(refine ⟨_,by exact c2,?_⟩;(conv=>whnf))|(refine Or.inl ?_;(conv=>whnf);refine ⟨_,by exact c2,?_⟩;(conv=>whnf))|(refine Or.inl ?_;(conv=>whnf);refine ⟨false,?_⟩;(conv=>whnf);refine ⟨_,by exact c2,?_⟩;(conv=>whnf))|(refine ⟨by kernel_rfl,?_⟩;(conv=>whnf))|fail))
  unfold D9
  rw [h,Bool.true_and]
 ·(conv=>whnf)
  unfold D9
  rw [h,Bool.false_and]
theorem ov (x:Int):PC Tryz.prog 98 [u8 x] (.bool (lC x)):=by
 refine pF Tryz.func98 ?_
 conv=>whnf
 refine ⟨fun h=>?_,fun h=>?_⟩
 ·(conv=>whnf)
  unfold lC
  rw [h,Bool.true_or]
 ·(conv=>whnf)
  unfold lC
  rw [h,Bool.false_or]
  try rfl
theorem ow (bk:Nat) (p:Int->Bool) (hp:∀ n,PC Tryz.prog bk [u8 n] (.bool (p n))) (l:List Int) (hl:l.length < 2 ^ 40):PC Tryz.prog 108 [FZ l,.fn (.func bk) [] []] (i64 (mf p l)):=by
 refine pF Tryz.func108 ?_
 conv=>whnf
 refine Or.inr ⟨Nat,[8],[],[],fun k=>[i64 k],fun _=>[],fun _=>[],fun k=>l.length - k,fun k=>k<=l.length/\∀ i,i < k->p (l.getD i 0)=false,?_⟩
 conv=>whnf
 refine ⟨⟨0,?_⟩,?_⟩
 ·(conv=>whnf)
  exact kK ⟨by simp,rfl,rfl,rfl⟩
 ·intro k hk
  conv=>whnf
  refine ⟨fun h=>?_,fun h=>?_⟩
  ·have h:=of_decide_eq_true h
   conv=>whnf
   refine ⟨⟨by omega,by omega⟩,?_⟩
   conv=>whnf
   (repeat' (first|(refine ⟨_,by exact hp _,?_⟩;(conv=>whnf))|(refine Or.inl ?_;(conv=>whnf);refine ⟨_,by exact hp _,?_⟩;(conv=>whnf))|(refine Or.inl ?_;(conv=>whnf);refine ⟨false,?_⟩;(conv=>whnf);refine ⟨_,by exact hp _,?_⟩;(conv=>whnf))|(refine ⟨by kernel_rfl,?_⟩;(conv=>whnf))|fail))
   refine ⟨fun h2=>?_,fun h2=>?_⟩
   ·(conv=>whnf)
    exact congrArg i64 (iL _ 0 l k (by omega) h2 hk.2).symm
   ·refine ⟨k + 1,?_⟩
    conv=>whnf
    refine kK ⟨⟨?_,?_,?_⟩,?_,rfl,rfl⟩
    ·show l.length - (k + 1) < l.length - k;omega
    ·omega
    ·intro i hi
     by_cases e:i=k
     ·subst e;exact h2
     ·exact hk.2 i (by omega)
    ·rw [L9 _ (by omega) (by omega)];rfl
  ·have h:=of_decide_eq_false h
   conv=>whnf
   exact congrArg i64 (eU _ 0 l fun i hi=>hk.2 i (by omega)).symm
theorem ox (bk:Nat) (p:Int->Bool) (hp:∀ n,PC Tryz.prog bk [u8 n] (.bool (p n))) (l:List Int) (hl:l.length < 2 ^ 40):PC Tryz.prog 97 [FZ l,.fn (.func bk) [] []] (.bool (l.any p)):=by
 refine pF Tryz.func97 ?_
 conv=>whnf
 (repeat' (first|(refine ⟨_,by exact ow bk p hp l hl,?_⟩;(conv=>whnf))|(refine Or.inl ?_;(conv=>whnf);refine ⟨_,by exact ow bk p hp l hl,?_⟩;(conv=>whnf))|(refine Or.inl ?_;(conv=>whnf);refine ⟨false,?_⟩;(conv=>whnf);refine ⟨_,by exact ow bk p hp l hl,?_⟩;(conv=>whnf))|(refine ⟨by kernel_rfl,?_⟩;(conv=>whnf))|fail))
 rw [iM]
theorem sS (k n:Int) (us:List Int) (rs:List x7) (lg:List A1) (hu:us.length < 2 ^ 40):PC Tryz.prog 83 [.pt (tT k us rs n lg) 0] (.bool (!us.any lC)):=by
 refine pF Tryz.func83 ?_
 conv=>whnf
 (repeat' (first|(refine ⟨_,by exact ox _ lC ov us hu,?_⟩;(conv=>whnf))|(refine Or.inl ?_;(conv=>whnf);refine ⟨_,by exact ox _ lC ov us hu,?_⟩;(conv=>whnf))|(refine Or.inl ?_;(conv=>whnf);refine ⟨false,?_⟩;(conv=>whnf);refine ⟨_,by exact ox _ lC ov us hu,?_⟩;(conv=>whnf))|(refine ⟨by kernel_rfl,?_⟩;(conv=>whnf))|fail))
 try rfl
theorem yM (k n:Int) (us:List Int) (rs:List x7) (lg:List A1):PC Tryz.prog 82 [.pt (tT k us rs n lg) 0] (.bool (bI ⟨k,us,rs,n,lg⟩)):=by
 have c1:=E6 1 32 k
 have c2:=E6 0 1099511627776 n
 refine pF Tryz.func82 ?_
 conv=>whnf
 (repeat' (first|(refine ⟨_,by first|exact c1|exact c2,?_⟩;(conv=>whnf))|(refine Or.inl ?_;(conv=>whnf);refine ⟨_,by first|exact c1|exact c2,?_⟩;(conv=>whnf))|(refine Or.inl ?_;(conv=>whnf);refine ⟨false,?_⟩;(conv=>whnf);refine ⟨_,by first|exact c1|exact c2,?_⟩;(conv=>whnf))|(refine ⟨by kernel_rfl,?_⟩;(conv=>whnf))|(refine ⟨fun _=>?_,fun h=>absurd h (by first|decide|(simp;done)|fail)⟩;(conv=>whnf))|(refine ⟨fun h=>absurd h (by first|decide|(simp;done)|fail),fun _=>?_⟩;(conv=>whnf))|((with_reducible refine And.intro (a:=_=true->_) (b:=_=false->_) (fun hh=>?_) (fun hh=>?_))<;>(try simp only [oU] at hh)<;>(first|(exfalso;omega)|(conv=>whnf)))|fail))
 all_goals first|(simp [bI, *];done)

end Go.Proofs.Tryz.My
