/- Helper lemmas. -/
import Derived.Test.YtdpnpdjnaimgaaaGreatMzBkB
set_option linter.unusedVariables false
set_option linter.unusedSimpArgs false
set_option maxRecDepth 100000
set_option maxHeartbeats 0
namespace Go.Proofs.Tryz.My
open Go Go.Ev
theorem M1 (lo hi n:Int):PC Tryz.prog 105 [i64 lo,i64 hi,i64 n] (.bool (D1 n lo hi)):=by
 refine pF Tryz.func105 ?_
 conv=>whnf
 (repeat' (first|(refine ⟨by kernel_rfl,?_⟩;(conv=>whnf))|(refine ⟨fun _=>?_,fun h=>absurd h (by first|decide|(simp;done)|fail)⟩;(conv=>whnf))|(refine ⟨fun h=>absurd h (by first|decide|(simp;done)|fail),fun _=>?_⟩;(conv=>whnf))|((with_reducible refine And.intro (a:=_=true->_) (b:=_=false->_) (fun hh=>?_) (fun hh=>?_))<;>(try simp only [yC] at hh)<;>(first|(exfalso;omega)|(conv=>whnf)))|fail))
 all_goals (first|rfl|(simp [D1, *];done))
abbrev EW (k:Int) (us:List Int) (rs:List A9) (nx:Int) (lg:List B8):List AV:=[i64 k,Iy us,pJ rs,i64 nx,mw lg]
theorem nI (a x:Int):PC Tryz.prog 256 [.slc 1 [[u8 a]],u8 x] (i64 (if x=a then 0 else -1)):=by
 refine pF Tryz.func256 ?_
 conv=>whnf
 refine Or.inl ⟨2,?_⟩
 conv=>whnf
 (repeat' ((first|refine y7 ?_|refine y8 ?_|refine lD ?_|refine lN ?_|refine kL ?_|fail);conv=>whnf))
 refine ⟨fun h=>?_,fun h=>?_⟩
 ·(conv=>whnf)
  rw [if_pos (of_decide_eq_true h)]
 ·(conv=>whnf)
  (repeat' ((first|refine y7 ?_|refine y8 ?_|refine lD ?_|refine lN ?_|refine kL ?_|fail);conv=>whnf))
  rw [if_neg (of_decide_eq_false h)]
theorem nJ (a b x:Int):PC Tryz.prog 256 [.slc 1 [[u8 a],[u8 b]],u8 x] (i64 (if x=a then 0 else if x=b then 1 else -1)):=by
 refine pF Tryz.func256 ?_
 conv=>whnf
 refine Or.inl ⟨3,?_⟩
 conv=>whnf
 (repeat' ((first|refine y7 ?_|refine y8 ?_|refine lD ?_|refine lN ?_|refine kL ?_|fail);conv=>whnf))
 refine ⟨fun h=>?_,fun h=>?_⟩
 ·(conv=>whnf)
  rw [if_pos (of_decide_eq_true h)]
 ·(conv=>whnf)
  (repeat' ((first|refine y7 ?_|refine y8 ?_|refine lD ?_|refine lN ?_|refine kL ?_|fail);conv=>whnf))
  refine ⟨fun h2=>?_,fun h2=>?_⟩
  ·(conv=>whnf)
   rw [if_neg (of_decide_eq_false h),if_pos (of_decide_eq_true h2)]
   try rfl
  ·(conv=>whnf)
   (repeat' ((first|refine y7 ?_|refine y8 ?_|refine lD ?_|refine lN ?_|refine kL ?_|fail);conv=>whnf))
   rw [if_neg (of_decide_eq_false h),if_neg (of_decide_eq_false h2)]
theorem nK (a b c x:Int):PC Tryz.prog 256 [.slc 1 [[u8 a],[u8 b],[u8 c]],u8 x] (i64 (if x=a then 0 else if x=b then 1 else if x=c then 2 else -1)):=by
 refine pF Tryz.func256 ?_
 conv=>whnf
 refine Or.inl ⟨4,?_⟩
 conv=>whnf
 (repeat' ((first|refine y7 ?_|refine y8 ?_|refine lD ?_|refine lN ?_|refine kL ?_|fail);conv=>whnf))
 refine ⟨fun h=>?_,fun h=>?_⟩
 ·(conv=>whnf)
  rw [if_pos (of_decide_eq_true h)]
 ·(conv=>whnf)
  (repeat' ((first|refine y7 ?_|refine y8 ?_|refine lD ?_|refine lN ?_|refine kL ?_|fail);conv=>whnf))
  refine ⟨fun h2=>?_,fun h2=>?_⟩
  ·(conv=>whnf)
   rw [if_neg (of_decide_eq_false h),if_pos (of_decide_eq_true h2)]
   try rfl
  ·(conv=>whnf)
   (repeat' ((first|refine y7 ?_|refine y8 ?_|refine lD ?_|refine lN ?_|refine kL ?_|fail);conv=>whnf))
   refine ⟨fun h3=>?_,fun h3=>?_⟩
   ·(conv=>whnf)
    rw [if_neg (of_decide_eq_false h),if_neg (of_decide_eq_false h2),if_pos (of_decide_eq_true h3)]
    try rfl
   ·(conv=>whnf)
    (repeat' ((first|refine y7 ?_|refine y8 ?_|refine lD ?_|refine lN ?_|refine kL ?_|fail);conv=>whnf))
    rw [if_neg (of_decide_eq_false h),if_neg (of_decide_eq_false h2),if_neg (of_decide_eq_false h3)]
theorem xq (a x:Int):PC Tryz.prog 208 [.slc 1 [[u8 a]],u8 x] (.bool ([a].contains x)):=by
 refine pF Tryz.func208 ?_
 conv=>whnf
 (repeat' (first|(refine ⟨_,by exact nI a x,?_⟩;(conv=>whnf))|(refine Or.inl ?_;(conv=>whnf);refine ⟨_,by exact nI a x,?_⟩;(conv=>whnf))|(refine Or.inl ?_;(conv=>whnf);refine ⟨false,?_⟩;(conv=>whnf);refine ⟨_,by exact nI a x,?_⟩;(conv=>whnf))|(refine ⟨by kernel_rfl,?_⟩;(conv=>whnf))|fail))
 congr 1
 by_cases h:x=a<;>simp [h]
theorem xr (a b x:Int):PC Tryz.prog 208 [.slc 1 [[u8 a],[u8 b]],u8 x] (.bool ([a,b].contains x)):=by
 refine pF Tryz.func208 ?_
 conv=>whnf
 (repeat' (first|(refine ⟨_,by exact nJ a b x,?_⟩;(conv=>whnf))|(refine Or.inl ?_;(conv=>whnf);refine ⟨_,by exact nJ a b x,?_⟩;(conv=>whnf))|(refine Or.inl ?_;(conv=>whnf);refine ⟨false,?_⟩;(conv=>whnf);refine ⟨_,by exact nJ a b x,?_⟩;(conv=>whnf))|(refine ⟨by kernel_rfl,?_⟩;(conv=>whnf))|fail))
 congr 1
 by_cases h:x=a
 ·simp [h]
 ·by_cases h2:x=b
  ·subst h2;simp [h]
  ·simp [h,h2]
theorem xt (a b c x:Int):PC Tryz.prog 208 [.slc 1 [[u8 a],[u8 b],[u8 c]],u8 x] (.bool ([a,b,c].contains x)):=by
 refine pF Tryz.func208 ?_
 conv=>whnf
 (repeat' (first|(refine ⟨_,by exact nK a b c x,?_⟩;(conv=>whnf))|(refine Or.inl ?_;(conv=>whnf);refine ⟨_,by exact nK a b c x,?_⟩;(conv=>whnf))|(refine Or.inl ?_;(conv=>whnf);refine ⟨false,?_⟩;(conv=>whnf);refine ⟨_,by exact nK a b c x,?_⟩;(conv=>whnf))|(refine ⟨by kernel_rfl,?_⟩;(conv=>whnf))|fail))
 congr 1
 by_cases h:x=a
 ·simp [h]
 ·by_cases h2:x=b
  ·subst h2;simp [h]
  ·by_cases h3:x=c
   ·subst h3;simp [h,h2]
   ·simp [h,h2,h3]
theorem T3 (k n u:Int) (us:List Int) (rs:List A9) (lg:List B8) (a:Int) (hl:us.length < 2 ^ 40):PC Tryz.prog 207 [i64 u,.pt [.pt (EW k us rs n lg) 0] 0,.pt [.slc 1 [[u8 a]]] 0] (.bool (I7 [a] us u)):=by
 have w1:IntKind.i64.wrap ((us.length:Int) - 1)=(us.length:Int) - 1:=C7 _ (by omega) (by omega)
 have c1:=M1 0 (us.length - 1) u
 have c2:=xq a (us.getD u.toNat 0)
 refine pF Tryz.func207 ?_
 conv=>whnf
 refine ⟨by kernel_rfl,?_⟩
 conv=>whnf
 rw [w1]
 (repeat' (first|(refine ⟨_,by exact c1,?_⟩;(conv=>whnf))|(refine Or.inl ?_;(conv=>whnf);refine ⟨_,by exact c1,?_⟩;(conv=>whnf))|(refine Or.inl ?_;(conv=>whnf);refine ⟨false,?_⟩;(conv=>whnf);refine ⟨_,by exact c1,?_⟩;(conv=>whnf))|(refine ⟨by kernel_rfl,?_⟩;(conv=>whnf))|fail))
 refine ⟨fun h=>?_,fun h=>?_⟩
 ·have hb:0<=u/\u < us.length:=by simp only [D1,Bool.and_eq_true,decide_eq_true_eq] at h;omega
  conv=>whnf
  refine ⟨hb,?_⟩
  conv=>whnf
  (repeat' (first|(refine ⟨_,by exact c2,?_⟩;(conv=>whnf))|(refine Or.inl ?_;(conv=>whnf);refine ⟨_,by exact c2,?_⟩;(conv=>whnf))|(refine Or.inl ?_;(conv=>whnf);refine ⟨false,?_⟩;(conv=>whnf);refine ⟨_,by exact c2,?_⟩;(conv=>whnf))|(refine ⟨by kernel_rfl,?_⟩;(conv=>whnf))|fail))
  unfold I7
  rw [h,Bool.true_and]
 ·(conv=>whnf)
  refine ⟨by kernel_rfl,?_⟩
  conv=>whnf
  unfold I7
  rw [h,Bool.false_and]
theorem EX (k n:Int) (us:List Int) (rs:List A9) (lg:List B8) (a:Int):PC Tryz.prog 160 [.pt (EW k us rs n lg) 0,.slc 1 [[u8 a]]] (.fn (.func 207) [] [.pt [.pt (EW k us rs n lg) 0] 0,.pt [.slc 1 [[u8 a]]] 0]):=by
 refine pF Tryz.func160 ?_
 conv=>whnf
 try rfl
theorem rT (k n u:Int) (us:List Int) (rs:List A9) (lg:List B8) (a b:Int) (hl:us.length < 2 ^ 40):PC Tryz.prog 207 [i64 u,.pt [.pt (EW k us rs n lg) 0] 0,.pt [.slc 1 [[u8 a],[u8 b]]] 0] (.bool (I7 [a,b] us u)):=by
 have w1:IntKind.i64.wrap ((us.length:Int) - 1)=(us.length:Int) - 1:=C7 _ (by omega) (by omega)
 have c1:=M1 0 (us.length - 1) u
 have c2:=xr a b (us.getD u.toNat 0)
 refine pF Tryz.func207 ?_
 conv=>whnf
 refine ⟨by kernel_rfl,?_⟩
 conv=>whnf
 rw [w1]
 (repeat' (first|(refine ⟨_,by exact c1,?_⟩;(conv=>whnf))|(refine Or.inl ?_;(conv=>whnf);refine ⟨_,by exact c1,?_⟩;(conv=>whnf))|(refine Or.inl ?_;(conv=>whnf);refine ⟨false,?_⟩;(conv=>whnf);refine ⟨_,by exact c1,?_⟩;(conv=>whnf))|(refine ⟨by kernel_rfl,?_⟩;(conv=>whnf))|fail))
 refine ⟨fun h=>?_,fun h=>?_⟩
 ·have hb:0<=u/\u < us.length:=by simp only [D1,Bool.and_eq_true,decide_eq_true_eq] at h;omega
  conv=>whnf
  refine ⟨hb,?_⟩
  conv=>whnf
  (repeat' (first|(refine ⟨_,by exact c2,?_⟩;(conv=>whnf))|(refine Or.inl ?_;(conv=>whnf);refine ⟨_,by exact c2,?_⟩;(conv=>whnf))|(refine Or.inl ?_;(conv=>whnf);refine ⟨false,?_⟩;(conv=>whnf);refine ⟨_,by exact c2,?_⟩;(conv=>whnf))|(refine ⟨by kernel_rfl,?_⟩;(conv=>whnf))|fail))
  unfold I7
  rw [h,Bool.true_and]
 ·(conv=>whnf)
  refine ⟨by kernel_rfl,?_⟩
  conv=>whnf
  unfold I7
  rw [h,Bool.false_and]
theorem NU (k n:Int) (us:List Int) (rs:List A9) (lg:List B8) (a b:Int):PC Tryz.prog 160 [.pt (EW k us rs n lg) 0,.slc 1 [[u8 a],[u8 b]]] (.fn (.func 207) [] [.pt [.pt (EW k us rs n lg) 0] 0,.pt [.slc 1 [[u8 a],[u8 b]]] 0]):=by
 refine pF Tryz.func160 ?_
 conv=>whnf
 try rfl
theorem zZ (k n u:Int) (us:List Int) (rs:List A9) (lg:List B8) (a b c:Int) (hl:us.length < 2 ^ 40):PC Tryz.prog 207 [i64 u,.pt [.pt (EW k us rs n lg) 0] 0,.pt [.slc 1 [[u8 a],[u8 b],[u8 c]]] 0] (.bool (I7 [a,b,c] us u)):=by
 have w1:IntKind.i64.wrap ((us.length:Int) - 1)=(us.length:Int) - 1:=C7 _ (by omega) (by omega)
 have c1:=M1 0 (us.length - 1) u
 have c2:=xt a b c (us.getD u.toNat 0)
 refine pF Tryz.func207 ?_
 conv=>whnf
 refine ⟨by kernel_rfl,?_⟩
 conv=>whnf
 rw [w1]
 (repeat' (first|(refine ⟨_,by exact c1,?_⟩;(conv=>whnf))|(refine Or.inl ?_;(conv=>whnf);refine ⟨_,by exact c1,?_⟩;(conv=>whnf))|(refine Or.inl ?_;(conv=>whnf);refine ⟨false,?_⟩;(conv=>whnf);refine ⟨_,by exact c1,?_⟩;(conv=>whnf))|(refine ⟨by kernel_rfl,?_⟩;(conv=>whnf))|fail))
 refine ⟨fun h=>?_,fun h=>?_⟩
 ·have hb:0<=u/\u < us.length:=by simp only [D1,Bool.and_eq_true,decide_eq_true_eq] at h;omega
  conv=>whnf
  refine ⟨hb,?_⟩
  conv=>whnf
  (repeat' (first|(refine ⟨_,by exact c2,?_⟩;(conv=>whnf))|(refine Or.inl ?_;(conv=>whnf);refine ⟨_,by exact c2,?_⟩;(conv=>whnf))|(refine Or.inl ?_;(conv=>whnf);refine ⟨false,?_⟩;(conv=>whnf);refine ⟨_,by exact c2,?_⟩;(conv=>whnf))|(refine ⟨by kernel_rfl,?_⟩;(conv=>whnf))|fail))
  unfold I7
  rw [h,Bool.true_and]
 ·(conv=>whnf)
  refine ⟨by kernel_rfl,?_⟩
  conv=>whnf
  unfold I7
  rw [h,Bool.false_and]
theorem rU (k n:Int) (us:List Int) (rs:List A9) (lg:List B8) (a:Int) (hu:us.length < 2 ^ 40) (l:List Int) (hl:l.length < 2 ^ 40) :
  PC Tryz.prog 138 [C8 l,.fn (.func 207) [] [.pt [.pt (EW k us rs n lg) 0] 0,.pt [.slc 1 [[u8 a]]] 0]] (i64 (uG (I7 [a] us) l)):=by
 refine pF Tryz.func138 ?_
 conv=>whnf
 refine Or.inr ⟨Nat,[8],[],[],fun k=>[i64 k],fun _=>[],fun _=>[],fun k=>l.length - k,fun k=>k<=l.length/\∀ i,i < k->I7 [a] us (l.getD i 0)=false,?_⟩
 conv=>whnf
 refine ⟨⟨0,?_⟩,?_⟩
 ·(conv=>whnf)
  exact kK ⟨⟨Nat.zero_le _,fun i hi=>absurd hi (Nat.not_lt_zero i)⟩,rfl,rfl,rfl⟩
 ·intro j hj
  conv=>whnf
  refine ⟨fun h=>?_,fun h=>?_⟩
  ·have h:=of_decide_eq_true h
   conv=>whnf
   refine ⟨⟨by omega,by omega⟩,?_⟩
   conv=>whnf
   (repeat' (first|(refine ⟨_,by exact T3 k n _ us rs lg a hu,?_⟩;(conv=>whnf))|(refine Or.inl ?_;(conv=>whnf);refine ⟨_,by exact T3 k n _ us rs lg a hu,?_⟩;(conv=>whnf))|(refine Or.inl ?_;(conv=>whnf);refine ⟨false,?_⟩;(conv=>whnf);refine ⟨_,by exact T3 k n _ us rs lg a hu,?_⟩;(conv=>whnf))|(refine ⟨by kernel_rfl,?_⟩;(conv=>whnf))|fail))
   refine ⟨fun h2=>?_,fun h2=>?_⟩
   ·(conv=>whnf)
    exact congrArg i64 (pX _ 0 l j (by omega) h2 hj.2).symm
   ·refine ⟨j + 1,?_⟩
    conv=>whnf
    refine kK ⟨⟨?_,?_,?_⟩,?_,rfl,rfl⟩
    ·show l.length - (j + 1) < l.length - j;omega
    ·omega
    ·intro i hi
     by_cases e:i=j
     ·subst e;exact h2
     ·exact hj.2 i (by omega)
    ·rw [C7 _ (by omega) (by omega)];rfl
  ·have h:=of_decide_eq_false h
   conv=>whnf
   exact congrArg i64 (lS _ 0 l fun i hi=>hj.2 i (by omega)).symm
theorem Ky (k n:Int) (us:List Int) (rs:List A9) (lg:List B8) (a:Int) (hu:us.length < 2 ^ 40) (l:List Int) (hl:l.length < 2 ^ 40) :
  PC Tryz.prog 84 [C8 l,.fn (.func 207) [] [.pt [.pt (EW k us rs n lg) 0] 0,.pt [.slc 1 [[u8 a]]] 0]] (.bool (l.any (I7 [a] us))):=by
 refine pF Tryz.func84 ?_
 conv=>whnf
 (repeat' (first|(refine ⟨_,by exact rU k n us rs lg a hu l hl,?_⟩;(conv=>whnf))|(refine Or.inl ?_;(conv=>whnf);refine ⟨_,by exact rU k n us rs lg a hu l hl,?_⟩;(conv=>whnf))|(refine Or.inl ?_;(conv=>whnf);refine ⟨false,?_⟩;(conv=>whnf);refine ⟨_,by exact rU k n us rs lg a hu l hl,?_⟩;(conv=>whnf))|(refine ⟨by kernel_rfl,?_⟩;(conv=>whnf))|fail))
 rw [pY]
theorem vg (k n:Int) (us:List Int) (rs:List A9) (lg:List B8) (hu:us.length < 2 ^ 40) (l:List Int) (hl:l.length < 2 ^ 40):PC Tryz.prog 161 [.pt (EW k us rs n lg) 0,C8 l] (.bool (K8 us l)):=by
 have c1:=EX k n us rs lg 3
 have c2:=Ky k n us rs lg 3 hu l hl
 refine pF Tryz.func161 ?_
 conv=>whnf
 refine ⟨fun h=>?_,fun h=>?_⟩
 ·(conv=>whnf)
  refine Or.inl ?_
  conv=>whnf
  refine ⟨true,?_⟩
  conv=>whnf
  refine ⟨_,c1,?_⟩
  (repeat' (first|(refine ⟨_,by exact c2,?_⟩;(conv=>whnf))|(refine Or.inl ?_;(conv=>whnf);refine ⟨_,by exact c2,?_⟩;(conv=>whnf))|(refine Or.inl ?_;(conv=>whnf);refine ⟨false,?_⟩;(conv=>whnf);refine ⟨_,by exact c2,?_⟩;(conv=>whnf))|(refine ⟨by kernel_rfl,?_⟩;(conv=>whnf))|fail))
  unfold K8
  rw [h,Bool.true_and]
 ·(conv=>whnf)
  unfold K8
  rw [h,Bool.false_and]
theorem xu (x:Int):PC Tryz.prog 159 [u8 x] (.bool (tN x)):=by
 refine pF Tryz.func159 ?_
 conv=>whnf
 refine ⟨fun h=>?_,fun h=>?_⟩
 ·(conv=>whnf)
  unfold tN
  rw [h,Bool.true_or]
 ·(conv=>whnf)
  unfold tN
  rw [h,Bool.false_or]
  try rfl
theorem xw (fX:Nat) (p:Int->Bool) (hp:∀ n,PC Tryz.prog fX [u8 n] (.bool (p n))) (l:List Int) (hl:l.length < 2 ^ 40):PC Tryz.prog 206 [Iy l,.fn (.func fX) [] []] (i64 (uG p l)):=by
 refine pF Tryz.func206 ?_
 conv=>whnf
 refine Or.inr ⟨Nat,[8],[],[],fun k=>[i64 k],fun _=>[],fun _=>[],fun k=>l.length - k,fun k=>k<=l.length/\∀ i,i < k->p (l.getD i 0)=false,?_⟩
 conv=>whnf
 refine ⟨⟨0,?_⟩,?_⟩
 ·(conv=>whnf)
  exact kK ⟨by simp,rfl,rfl,rfl⟩
 ·intro k hk
  conv=>whnf
  refine ⟨fun h=>?_,fun h=>?_⟩
  ·have h:=of_decide_eq_true h
   conv=>whnf
   refine ⟨⟨by omega,by omega⟩,?_⟩
   conv=>whnf
   (repeat' (first|(refine ⟨_,by exact hp _,?_⟩;(conv=>whnf))|(refine Or.inl ?_;(conv=>whnf);refine ⟨_,by exact hp _,?_⟩;(conv=>whnf))|(refine Or.inl ?_;(conv=>whnf);refine ⟨false,?_⟩;(conv=>whnf);refine ⟨_,by exact hp _,?_⟩;(conv=>whnf))|(refine ⟨by kernel_rfl,?_⟩;(conv=>whnf))|fail))
   refine ⟨fun h2=>?_,fun h2=>?_⟩
   ·(conv=>whnf)
    exact congrArg i64 (pX _ 0 l k (by omega) h2 hk.2).symm
   ·refine ⟨k + 1,?_⟩
    conv=>whnf
    refine kK ⟨⟨?_,?_,?_⟩,?_,rfl,rfl⟩
    ·show l.length - (k + 1) < l.length - k;omega
    ·omega
    ·intro i hi
     by_cases e:i=k
     ·subst e;exact h2
     ·exact hk.2 i (by omega)
    ·rw [C7 _ (by omega) (by omega)];rfl
  ·have h:=of_decide_eq_false h
   conv=>whnf
   exact congrArg i64 (lS _ 0 l fun i hi=>hk.2 i (by omega)).symm
theorem xx (fX:Nat) (p:Int->Bool) (hp:∀ n,PC Tryz.prog fX [u8 n] (.bool (p n))) (l:List Int) (hl:l.length < 2 ^ 40):PC Tryz.prog 158 [Iy l,.fn (.func fX) [] []] (.bool (l.any p)):=by
 refine pF Tryz.func158 ?_
 conv=>whnf
 (repeat' (first|(refine ⟨_,by exact xw fX p hp l hl,?_⟩;(conv=>whnf))|(refine Or.inl ?_;(conv=>whnf);refine ⟨_,by exact xw fX p hp l hl,?_⟩;(conv=>whnf))|(refine Or.inl ?_;(conv=>whnf);refine ⟨false,?_⟩;(conv=>whnf);refine ⟨_,by exact xw fX p hp l hl,?_⟩;(conv=>whnf))|(refine ⟨by kernel_rfl,?_⟩;(conv=>whnf))|fail))
 rw [pY]
theorem Dj (k n:Int) (us:List Int) (rs:List A9) (lg:List B8) (hu:us.length < 2 ^ 40):PC Tryz.prog 114 [.pt (EW k us rs n lg) 0] (.bool (!us.any tN)):=by
 refine pF Tryz.func114 ?_
 conv=>whnf
 (repeat' (first|(refine ⟨_,by exact xx _ tN xu us hu,?_⟩;(conv=>whnf))|(refine Or.inl ?_;(conv=>whnf);refine ⟨_,by exact xx _ tN xu us hu,?_⟩;(conv=>whnf))|(refine Or.inl ?_;(conv=>whnf);refine ⟨false,?_⟩;(conv=>whnf);refine ⟨_,by exact xx _ tN xu us hu,?_⟩;(conv=>whnf))|(refine ⟨by kernel_rfl,?_⟩;(conv=>whnf))|fail))
 try rfl
theorem Kz (k n:Int) (us:List Int) (rs:List A9) (lg:List B8):PC Tryz.prog 113 [.pt (EW k us rs n lg) 0] (.bool (gG ⟨k,us,rs,n,lg⟩)):=by
 have c1:=M1 1 32 k
 have c2:=M1 0 1099511627776 n
 refine pF Tryz.func113 ?_
 conv=>whnf
 (repeat' (first|(refine ⟨_,by first|exact c1|exact c2,?_⟩;(conv=>whnf))|(refine Or.inl ?_;(conv=>whnf);refine ⟨_,by first|exact c1|exact c2,?_⟩;(conv=>whnf))|(refine Or.inl ?_;(conv=>whnf);refine ⟨false,?_⟩;(conv=>whnf);refine ⟨_,by first|exact c1|exact c2,?_⟩;(conv=>whnf))|(refine ⟨by kernel_rfl,?_⟩;(conv=>whnf))|(refine ⟨fun _=>?_,fun h=>absurd h (by first|decide|(simp;done)|fail)⟩;(conv=>whnf))|(refine ⟨fun h=>absurd h (by first|decide|(simp;done)|fail),fun _=>?_⟩;(conv=>whnf))|((with_reducible refine And.intro (a:=_=true->_) (b:=_=false->_) (fun hh=>?_) (fun hh=>?_))<;>(try simp only [yC] at hh)<;>(first|(exfalso;omega)|(conv=>whnf)))|fail))
 all_goals first|(simp [gG, *];done)

end Go.Proofs.Tryz.My
