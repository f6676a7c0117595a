/- A helper text: contracts of functions of the program, and plain lemmas. -/
import Derived.Test.YtdpnpdjnaimgaaaGreatEvSix
import Derived.Test.YtdpnpdjnaimgaaaGreatMzBkB
import Derived.Test.YtdpnpdjnaimgaaaGreatMzGdE
set_option maxRecDepth 100000
set_option maxHeartbeats 0
set_option linter.unusedVariables false
set_option linter.unusedSimpArgs false
namespace Go.Proofs.Tryz.My
open Go Go.Ev
theorem y0 (lo hi n:Int):PC Tryz.prog 105 [i64 lo,i64 hi,i64 n] (.bool (n8 n lo hi)):=by
 refine a7 hm Tryz.func105 (by kernel_rfl) ?_
 conv=>whnf
 (repeat' (first|(refine ⟨by kernel_rfl,?_⟩; (conv=>whnf)) | (refine ⟨fun _ => ?_,fun h=>absurd h (by first | decide | (simp; done) | fail)⟩; (conv=>whnf)) | (refine ⟨fun h=>absurd h (by first | decide | (simp; done) | fail),fun _ => ?_⟩; (conv=>whnf)) | ((with_reducible refine And.intro (a:=_=true->_) (b:=_=false->_) (fun hh => ?_) (fun hh => ?_))<;>(try simp only [ansX] at hh)<;>(first | (exfalso; omega) | (conv=>whnf))) | fail))
 all_goals (first | rfl | (simp [n8, *]; done))
abbrev dsk (k:Int) (us:List Int) (rs:List RecT) (nx:Int) (lg:List EntT):List AV:=[i64 k,u8l us,recs rs,i64 nx,ents lg]
theorem a1y (a x:Int):PC Tryz.prog 256 [.slc 1 [[u8 a]],u8 x] (i64 (if x=a then 0 else -1)):=by
 refine a7 hm Tryz.func256 (by kernel_rfl) ?_
 conv=>whnf
 refine Or.inl ⟨2,?_⟩
 conv=>whnf
 (repeat' ((first|refine ansT ?_|refine ansF ?_|refine ansD (by first|(simp [*];done)|omega) ?_ | refine ansN (by first|(simp [*];done)|omega) ?_ | refine ⟨by kernel_rfl,?_⟩ | refine ansB (by decide) (by first | decide | (simp; done) | (simp only [List.length_cons,List.length_nil]; decide)) ?_|fail);conv=>whnf))
 refine ⟨fun h => ?_,fun h => ?_⟩
 ·(conv=>whnf)
  rw [if_pos (of_decide_eq_true h)]
 ·(conv=>whnf)
  (repeat' ((first|refine ansT ?_|refine ansF ?_|refine ansD (by first|(simp [*];done)|omega) ?_ | refine ansN (by first|(simp [*];done)|omega) ?_ | refine ⟨by kernel_rfl,?_⟩ | refine ansB (by decide) (by first | decide | (simp; done) | (simp only [List.length_cons,List.length_nil]; decide)) ?_|fail);conv=>whnf))
  rw [if_neg (of_decide_eq_false h)]
theorem a1z (a b x:Int):PC Tryz.prog 256 [.slc 1 [[u8 a],[u8 b]],u8 x] (i64 (if x=a then 0 else if x=b then 1 else -1)):=by
 refine a7 hm Tryz.func256 (by kernel_rfl) ?_
 conv=>whnf
 refine Or.inl ⟨3,?_⟩
 conv=>whnf
 (repeat' ((first|refine ansT ?_|refine ansF ?_|refine ansD (by first|(simp [*];done)|omega) ?_ | refine ansN (by first|(simp [*];done)|omega) ?_ | refine ⟨by kernel_rfl,?_⟩ | refine ansB (by decide) (by first | decide | (simp; done) | (simp only [List.length_cons,List.length_nil]; decide)) ?_|fail);conv=>whnf))
 refine ⟨fun h => ?_,fun h => ?_⟩
 ·(conv=>whnf)
  rw [if_pos (of_decide_eq_true h)]
 ·(conv=>whnf)
  (repeat' ((first|refine ansT ?_|refine ansF ?_|refine ansD (by first|(simp [*];done)|omega) ?_ | refine ansN (by first|(simp [*];done)|omega) ?_ | refine ⟨by kernel_rfl,?_⟩ | refine ansB (by decide) (by first | decide | (simp; done) | (simp only [List.length_cons,List.length_nil]; decide)) ?_|fail);conv=>whnf))
  refine ⟨fun h2 => ?_,fun h2 => ?_⟩
  ·(conv=>whnf)
   rw [if_neg (of_decide_eq_false h),if_pos (of_decide_eq_true h2)]
   try rfl
  ·(conv=>whnf)
   (repeat' ((first|refine ansT ?_|refine ansF ?_|refine ansD (by first|(simp [*];done)|omega) ?_ | refine ansN (by first|(simp [*];done)|omega) ?_ | refine ⟨by kernel_rfl,?_⟩ | refine ansB (by decide) (by first | decide | (simp; done) | (simp only [List.length_cons,List.length_nil]; decide)) ?_|fail);conv=>whnf))
   rw [if_neg (of_decide_eq_false h),if_neg (of_decide_eq_false h2)]
theorem a1A (a b c x:Int):PC Tryz.prog 256 [.slc 1 [[u8 a],[u8 b],[u8 c]],u8 x] (i64 (if x=a then 0 else if x=b then 1 else if x=c then 2 else -1)):=by
 refine a7 hm Tryz.func256 (by kernel_rfl) ?_
 conv=>whnf
 refine Or.inl ⟨4,?_⟩
 conv=>whnf
 (repeat' ((first|refine ansT ?_|refine ansF ?_|refine ansD (by first|(simp [*];done)|omega) ?_ | refine ansN (by first|(simp [*];done)|omega) ?_ | refine ⟨by kernel_rfl,?_⟩ | refine ansB (by decide) (by first | decide | (simp; done) | (simp only [List.length_cons,List.length_nil]; decide)) ?_|fail);conv=>whnf))
 refine ⟨fun h => ?_,fun h => ?_⟩
 ·(conv=>whnf)
  rw [if_pos (of_decide_eq_true h)]
 ·(conv=>whnf)
  (repeat' ((first|refine ansT ?_|refine ansF ?_|refine ansD (by first|(simp [*];done)|omega) ?_ | refine ansN (by first|(simp [*];done)|omega) ?_ | refine ⟨by kernel_rfl,?_⟩ | refine ansB (by decide) (by first | decide | (simp; done) | (simp only [List.length_cons,List.length_nil]; decide)) ?_|fail);conv=>whnf))
  refine ⟨fun h2 => ?_,fun h2 => ?_⟩
  ·(conv=>whnf)
   rw [if_neg (of_decide_eq_false h),if_pos (of_decide_eq_true h2)]
   try rfl
  ·(conv=>whnf)
   (repeat' ((first|refine ansT ?_|refine ansF ?_|refine ansD (by first|(simp [*];done)|omega) ?_ | refine ansN (by first|(simp [*];done)|omega) ?_ | refine ⟨by kernel_rfl,?_⟩ | refine ansB (by decide) (by first | decide | (simp; done) | (simp only [List.length_cons,List.length_nil]; decide)) ?_|fail);conv=>whnf))
   refine ⟨fun h3 => ?_,fun h3 => ?_⟩
   ·(conv=>whnf)
    rw [if_neg (of_decide_eq_false h),if_neg (of_decide_eq_false h2),if_pos (of_decide_eq_true h3)]
    try rfl
   ·(conv=>whnf)
    (repeat' ((first|refine ansT ?_|refine ansF ?_|refine ansD (by first|(simp [*];done)|omega) ?_ | refine ansN (by first|(simp [*];done)|omega) ?_ | refine ⟨by kernel_rfl,?_⟩ | refine ansB (by decide) (by first | decide | (simp; done) | (simp only [List.length_cons,List.length_nil]; decide)) ?_|fail);conv=>whnf))
    rw [if_neg (of_decide_eq_false h),if_neg (of_decide_eq_false h2),if_neg (of_decide_eq_false h3)]
def rls (l:List Int):List (List AV):=l.map fun a=>[u8 a]
theorem a5D (a x:Int):PC Tryz.prog 208 [.slc 1 [[u8 a]],u8 x] (.bool ([a].contains x)):=by
 refine a7 hm Tryz.func208 (by kernel_rfl) ?_
 conv=>whnf
 (repeat' (first|(refine ⟨_,by first | exact a1y a x,?_⟩; (conv=>whnf)) | (refine Or.inl ?_; (conv=>whnf); refine ⟨_,by first | exact a1y a x,?_⟩; (conv=>whnf)) | (refine Or.inl ?_; (conv=>whnf); refine ⟨false,?_⟩; (conv=>whnf); refine ⟨_,by first | exact a1y a x,?_⟩; (conv=>whnf)) | (refine ⟨by kernel_rfl,?_⟩; (conv=>whnf)) | fail))
 congr 1
 by_cases h:x=a<;>simp [h]
theorem a5E (a b x:Int):PC Tryz.prog 208 [.slc 1 [[u8 a],[u8 b]],u8 x] (.bool ([a,b].contains x)):=by
 refine a7 hm Tryz.func208 (by kernel_rfl) ?_
 conv=>whnf
 (repeat' (first|(refine ⟨_,by first | exact a1z a b x,?_⟩; (conv=>whnf)) | (refine Or.inl ?_; (conv=>whnf); refine ⟨_,by first | exact a1z a b x,?_⟩; (conv=>whnf)) | (refine Or.inl ?_; (conv=>whnf); refine ⟨false,?_⟩; (conv=>whnf); refine ⟨_,by first | exact a1z a b x,?_⟩; (conv=>whnf)) | (refine ⟨by kernel_rfl,?_⟩; (conv=>whnf)) | fail))
 congr 1
 by_cases h:x=a
 ·simp [h]
 ·by_cases h2:x=b
  ·subst h2; simp [h]
  ·simp [h,h2]
theorem a5F (a b c x:Int):PC Tryz.prog 208 [.slc 1 [[u8 a],[u8 b],[u8 c]],u8 x] (.bool ([a,b,c].contains x)):=by
 refine a7 hm Tryz.func208 (by kernel_rfl) ?_
 conv=>whnf
 (repeat' (first|(refine ⟨_,by first | exact a1A a b c x,?_⟩; (conv=>whnf)) | (refine Or.inl ?_; (conv=>whnf); refine ⟨_,by first | exact a1A a b c x,?_⟩; (conv=>whnf)) | (refine Or.inl ?_; (conv=>whnf); refine ⟨false,?_⟩; (conv=>whnf); refine ⟨_,by first | exact a1A a b c x,?_⟩; (conv=>whnf)) | (refine ⟨by kernel_rfl,?_⟩; (conv=>whnf)) | fail))
 congr 1
 by_cases h:x=a
 ·simp [h]
 ·by_cases h2:x=b
  ·subst h2; simp [h]
  ·by_cases h3:x=c
   ·subst h3; simp [h,h2]
   ·simp [h,h2,h3]
theorem C9 (k n u:Int) (us:List Int) (rs:List RecT) (lg:List EntT) (a:Int) (hl:us.length < 2 ^ 40):PC Tryz.prog 207 [i64 u,.pt [.pt (dsk k us rs n lg) 0] 0,.pt [.slc 1 [[u8 a]]] 0] (.bool (mayB [a] us u)):=by
 have w1:IntKind.i64.wrap ((us.length:Int) - 1)=(us.length:Int) - 1:=w64 _ (by omega) (by omega)
 have c1:=y0 0 (us.length - 1) u
 have c2:=a5D a (us.getD u.toNat 0)
 refine a7 hm Tryz.func207 (by kernel_rfl) ?_
 conv=>whnf
 refine ⟨by kernel_rfl,?_⟩
 conv=>whnf
 rw [w1]
 (repeat' (first|(refine ⟨_,by first | exact c1,?_⟩; (conv=>whnf)) | (refine Or.inl ?_; (conv=>whnf); refine ⟨_,by first | exact c1,?_⟩; (conv=>whnf)) | (refine Or.inl ?_; (conv=>whnf); refine ⟨false,?_⟩; (conv=>whnf); refine ⟨_,by first | exact c1,?_⟩; (conv=>whnf)) | (refine ⟨by kernel_rfl,?_⟩; (conv=>whnf)) | fail))
 refine ⟨fun h => ?_,fun h => ?_⟩
 ·have hb:0<=u/\u < us.length:=by simp only [n8,Bool.and_eq_true,decide_eq_true_eq] at h; omega
  conv=>whnf
  refine ⟨hb,?_⟩
  conv=>whnf
  (repeat' (first|(refine ⟨_,by first | exact c2,?_⟩; (conv=>whnf)) | (refine Or.inl ?_; (conv=>whnf); refine ⟨_,by first | exact c2,?_⟩; (conv=>whnf)) | (refine Or.inl ?_; (conv=>whnf); refine ⟨false,?_⟩; (conv=>whnf); refine ⟨_,by first | exact c2,?_⟩; (conv=>whnf)) | (refine ⟨by kernel_rfl,?_⟩; (conv=>whnf)) | fail))
  unfold mayB
  rw [h,Bool.true_and]
 ·(conv=>whnf)
  refine ⟨by kernel_rfl,?_⟩
  conv=>whnf
  unfold mayB
  rw [h,Bool.false_and]
theorem a9D (k n:Int) (us:List Int) (rs:List RecT) (lg:List EntT) (a:Int):PC Tryz.prog 160 [.pt (dsk k us rs n lg) 0,.slc 1 [[u8 a]]] (.fn (.func 207) [] [.pt [.pt (dsk k us rs n lg) 0] 0,.pt [.slc 1 [[u8 a]]] 0]):=by
 refine a7 hm Tryz.func160 (by kernel_rfl) ?_
 conv=>whnf
 try rfl
theorem a28 (k n u:Int) (us:List Int) (rs:List RecT) (lg:List EntT) (a b:Int) (hl:us.length < 2 ^ 40):PC Tryz.prog 207 [i64 u,.pt [.pt (dsk k us rs n lg) 0] 0,.pt [.slc 1 [[u8 a],[u8 b]]] 0] (.bool (mayB [a,b] us u)):=by
 have w1:IntKind.i64.wrap ((us.length:Int) - 1)=(us.length:Int) - 1:=w64 _ (by omega) (by omega)
 have c1:=y0 0 (us.length - 1) u
 have c2:=a5E a b (us.getD u.toNat 0)
 refine a7 hm Tryz.func207 (by kernel_rfl) ?_
 conv=>whnf
 refine ⟨by kernel_rfl,?_⟩
 conv=>whnf
 rw [w1]
 (repeat' (first|(refine ⟨_,by first | exact c1,?_⟩; (conv=>whnf)) | (refine Or.inl ?_; (conv=>whnf); refine ⟨_,by first | exact c1,?_⟩; (conv=>whnf)) | (refine Or.inl ?_; (conv=>whnf); refine ⟨false,?_⟩; (conv=>whnf); refine ⟨_,by first | exact c1,?_⟩; (conv=>whnf)) | (refine ⟨by kernel_rfl,?_⟩; (conv=>whnf)) | fail))
 refine ⟨fun h => ?_,fun h => ?_⟩
 ·have hb:0<=u/\u < us.length:=by simp only [n8,Bool.and_eq_true,decide_eq_true_eq] at h; omega
  conv=>whnf
  refine ⟨hb,?_⟩
  conv=>whnf
  (repeat' (first|(refine ⟨_,by first | exact c2,?_⟩; (conv=>whnf)) | (refine Or.inl ?_; (conv=>whnf); refine ⟨_,by first | exact c2,?_⟩; (conv=>whnf)) | (refine Or.inl ?_; (conv=>whnf); refine ⟨false,?_⟩; (conv=>whnf); refine ⟨_,by first | exact c2,?_⟩; (conv=>whnf)) | (refine ⟨by kernel_rfl,?_⟩; (conv=>whnf)) | fail))
  unfold mayB
  rw [h,Bool.true_and]
 ·(conv=>whnf)
  refine ⟨by kernel_rfl,?_⟩
  conv=>whnf
  unfold mayB
  rw [h,Bool.false_and]
theorem b3K (k n:Int) (us:List Int) (rs:List RecT) (lg:List EntT) (a b:Int):PC Tryz.prog 160 [.pt (dsk k us rs n lg) 0,.slc 1 [[u8 a],[u8 b]]] (.fn (.func 207) [] [.pt [.pt (dsk k us rs n lg) 0] 0,.pt [.slc 1 [[u8 a],[u8 b]]] 0]):=by
 refine a7 hm Tryz.func160 (by kernel_rfl) ?_
 conv=>whnf
 try rfl
theorem a69 (k n u:Int) (us:List Int) (rs:List RecT) (lg:List EntT) (a b c:Int) (hl:us.length < 2 ^ 40):PC Tryz.prog 207 [i64 u,.pt [.pt (dsk k us rs n lg) 0] 0,.pt [.slc 1 [[u8 a],[u8 b],[u8 c]]] 0] (.bool (mayB [a,b,c] us u)):=by
 have w1:IntKind.i64.wrap ((us.length:Int) - 1)=(us.length:Int) - 1:=w64 _ (by omega) (by omega)
 have c1:=y0 0 (us.length - 1) u
 have c2:=a5F a b c (us.getD u.toNat 0)
 refine a7 hm Tryz.func207 (by kernel_rfl) ?_
 conv=>whnf
 refine ⟨by kernel_rfl,?_⟩
 conv=>whnf
 rw [w1]
 (repeat' (first|(refine ⟨_,by first | exact c1,?_⟩; (conv=>whnf)) | (refine Or.inl ?_; (conv=>whnf); refine ⟨_,by first | exact c1,?_⟩; (conv=>whnf)) | (refine Or.inl ?_; (conv=>whnf); refine ⟨false,?_⟩; (conv=>whnf); refine ⟨_,by first | exact c1,?_⟩; (conv=>whnf)) | (refine ⟨by kernel_rfl,?_⟩; (conv=>whnf)) | fail))
 refine ⟨fun h => ?_,fun h => ?_⟩
 ·have hb:0<=u/\u < us.length:=by simp only [n8,Bool.and_eq_true,decide_eq_true_eq] at h; omega
  conv=>whnf
  refine ⟨hb,?_⟩
  conv=>whnf
  (repeat' (first|(refine ⟨_,by first | exact c2,?_⟩; (conv=>whnf)) | (refine Or.inl ?_; (conv=>whnf); refine ⟨_,by first | exact c2,?_⟩; (conv=>whnf)) | (refine Or.inl ?_; (conv=>whnf); refine ⟨false,?_⟩; (conv=>whnf); refine ⟨_,by first | exact c2,?_⟩; (conv=>whnf)) | (refine ⟨by kernel_rfl,?_⟩; (conv=>whnf)) | fail))
  unfold mayB
  rw [h,Bool.true_and]
 ·(conv=>whnf)
  refine ⟨by kernel_rfl,?_⟩
  conv=>whnf
  unfold mayB
  rw [h,Bool.false_and]
theorem a29 (k n:Int) (us:List Int) (rs:List RecT) (lg:List EntT) (a:Int) (hu:us.length < 2 ^ 40) (l:List Int) (hl:l.length < 2 ^ 40) :
  PC Tryz.prog 138 [ints l,.fn (.func 207) [] [.pt [.pt (dsk k us rs n lg) 0] 0,.pt [.slc 1 [[u8 a]]] 0]] (i64 (ixF (mayB [a] us) l)):=by
 refine a7 hm Tryz.func138 (by kernel_rfl) ?_
 conv=>whnf
 refine Or.inr ⟨Nat,[8],[],[],fun k=>[i64 k],fun _=>[],fun _=>[],fun k=>l.length - k,fun k=>k<=l.length/\∀ i,i < k->mayB [a] us (l.getD i 0)=false,?_⟩
 conv=>whnf
 refine ⟨⟨0,?_⟩,?_⟩
 ·(conv=>whnf)
  exact ⟨⟨⟨Nat.zero_le _,fun i hi=>absurd hi (Nat.not_lt_zero i)⟩,rfl,rfl,rfl⟩,by kernel_rfl,by kernel_rfl⟩
 ·intro j hj
  conv=>whnf
  refine ⟨fun h => ?_,fun h => ?_⟩
  ·have h:=of_decide_eq_true h
   conv=>whnf
   refine ⟨⟨by omega,by omega⟩,?_⟩
   conv=>whnf
   (repeat' (first|(refine ⟨_,by first | exact C9 k n _ us rs lg a hu,?_⟩; (conv=>whnf)) | (refine Or.inl ?_; (conv=>whnf); refine ⟨_,by first | exact C9 k n _ us rs lg a hu,?_⟩; (conv=>whnf)) | (refine Or.inl ?_; (conv=>whnf); refine ⟨false,?_⟩; (conv=>whnf); refine ⟨_,by first | exact C9 k n _ us rs lg a hu,?_⟩; (conv=>whnf)) | (refine ⟨by kernel_rfl,?_⟩; (conv=>whnf)) | fail))
   refine ⟨fun h2 => ?_,fun h2 => ?_⟩
   ·(conv=>whnf)
    exact congrArg i64 (a2a _ 0 l j (by omega) h2 hj.2).symm
   ·refine ⟨j + 1,?_⟩
    conv=>whnf
    refine ⟨⟨⟨?_,?_,?_⟩,?_,rfl,rfl⟩,by kernel_rfl,by kernel_rfl⟩
    ·show l.length - (j + 1) < l.length - j; omega
    ·omega
    ·intro i hi
     by_cases e:i=j
     ·subst e; exact h2
     ·exact hj.2 i (by omega)
    ·rw [w64 _ (by omega) (by omega)]; rfl
  ·have h:=of_decide_eq_false h
   conv=>whnf
   exact congrArg i64 (a0U _ 0 l fun i hi=>hj.2 i (by omega)).symm
theorem b2b (k n:Int) (us:List Int) (rs:List RecT) (lg:List EntT) (a:Int) (hu:us.length < 2 ^ 40) (l:List Int) (hl:l.length < 2 ^ 40) :
  PC Tryz.prog 84 [ints l,.fn (.func 207) [] [.pt [.pt (dsk k us rs n lg) 0] 0,.pt [.slc 1 [[u8 a]]] 0]] (.bool (l.any (mayB [a] us))):=by
 refine a7 hm Tryz.func84 (by kernel_rfl) ?_
 conv=>whnf
 (repeat' (first|(refine ⟨_,by first | exact a29 k n us rs lg a hu l hl,?_⟩; (conv=>whnf)) | (refine Or.inl ?_; (conv=>whnf); refine ⟨_,by first | exact a29 k n us rs lg a hu l hl,?_⟩; (conv=>whnf)) | (refine Or.inl ?_; (conv=>whnf); refine ⟨false,?_⟩; (conv=>whnf); refine ⟨_,by first | exact a29 k n us rs lg a hu l hl,?_⟩; (conv=>whnf)) | (refine ⟨by kernel_rfl,?_⟩; (conv=>whnf)) | fail))
 rw [a2b]
theorem a4u (k n:Int) (us:List Int) (rs:List RecT) (lg:List EntT) (hu:us.length < 2 ^ 40) (l:List Int) (hl:l.length < 2 ^ 40):PC Tryz.prog 161 [.pt (dsk k us rs n lg) 0,ints l] (.bool (x7 us l)):=by
 have c1:=a9D k n us rs lg 3
 have c2:=b2b k n us rs lg 3 hu l hl
 refine a7 hm Tryz.func161 (by kernel_rfl) ?_
 conv=>whnf
 refine ⟨fun h => ?_,fun h => ?_⟩
 ·(conv=>whnf)
  refine Or.inl ?_
  conv=>whnf
  refine ⟨true,?_⟩
  conv=>whnf
  refine ⟨_,c1,?_⟩
  (repeat' (first|(refine ⟨_,by first | exact c2,?_⟩; (conv=>whnf)) | (refine Or.inl ?_; (conv=>whnf); refine ⟨_,by first | exact c2,?_⟩; (conv=>whnf)) | (refine Or.inl ?_; (conv=>whnf); refine ⟨false,?_⟩; (conv=>whnf); refine ⟨_,by first | exact c2,?_⟩; (conv=>whnf)) | (refine ⟨by kernel_rfl,?_⟩; (conv=>whnf)) | fail))
  unfold x7
  rw [h,Bool.true_and]
 ·(conv=>whnf)
  unfold x7
  rw [h,Bool.false_and]
theorem a5G (x:Int):PC Tryz.prog 159 [u8 x] (.bool (oddR x)):=by
 refine a7 hm Tryz.func159 (by kernel_rfl) ?_
 conv=>whnf
 refine ⟨fun h => ?_,fun h => ?_⟩
 ·(conv=>whnf)
  unfold oddR
  rw [h,Bool.true_or]
 ·(conv=>whnf)
  unfold oddR
  rw [h,Bool.false_or]
  try rfl
theorem a5H (fid:Nat) (p:Int->Bool) (hp:∀ n,PC Tryz.prog fid [u8 n] (.bool (p n))) (l:List Int) (hl:l.length < 2 ^ 40):PC Tryz.prog 206 [u8l l,.fn (.func fid) [] []] (i64 (ixF p l)):=by
 refine a7 hm Tryz.func206 (by kernel_rfl) ?_
 conv=>whnf
 refine Or.inr ⟨Nat,[8],[],[],fun k=>[i64 k],fun _=>[],fun _=>[],fun k=>l.length - k,fun k=>k<=l.length/\∀ i,i < k->p (l.getD i 0)=false,?_⟩
 conv=>whnf
 refine ⟨⟨0,?_⟩,?_⟩
 ·(conv=>whnf)
  exact ⟨⟨by simp,rfl,rfl,rfl⟩,by kernel_rfl,by kernel_rfl⟩
 ·intro k hk
  conv=>whnf
  refine ⟨fun h => ?_,fun h => ?_⟩
  ·have h:=of_decide_eq_true h
   conv=>whnf
   refine ⟨⟨by omega,by omega⟩,?_⟩
   conv=>whnf
   (repeat' (first|(refine ⟨_,by first | exact hp _,?_⟩; (conv=>whnf)) | (refine Or.inl ?_; (conv=>whnf); refine ⟨_,by first | exact hp _,?_⟩; (conv=>whnf)) | (refine Or.inl ?_; (conv=>whnf); refine ⟨false,?_⟩; (conv=>whnf); refine ⟨_,by first | exact hp _,?_⟩; (conv=>whnf)) | (refine ⟨by kernel_rfl,?_⟩; (conv=>whnf)) | fail))
   refine ⟨fun h2 => ?_,fun h2 => ?_⟩
   ·(conv=>whnf)
    exact congrArg i64 (a2a _ 0 l k (by omega) h2 hk.2).symm
   ·refine ⟨k + 1,?_⟩
    conv=>whnf
    refine ⟨⟨⟨?_,?_,?_⟩,?_,rfl,rfl⟩,by kernel_rfl,by kernel_rfl⟩
    ·show l.length - (k + 1) < l.length - k; omega
    ·omega
    ·intro i hi
     by_cases e:i=k
     ·subst e; exact h2
     ·exact hk.2 i (by omega)
    ·rw [w64 _ (by omega) (by omega)]; rfl
  ·have h:=of_decide_eq_false h
   conv=>whnf
   exact congrArg i64 (a0U _ 0 l fun i hi=>hk.2 i (by omega)).symm
theorem a5I (fid:Nat) (p:Int->Bool) (hp:∀ n,PC Tryz.prog fid [u8 n] (.bool (p n))) (l:List Int) (hl:l.length < 2 ^ 40):PC Tryz.prog 158 [u8l l,.fn (.func fid) [] []] (.bool (l.any p)):=by
 refine a7 hm Tryz.func158 (by kernel_rfl) ?_
 conv=>whnf
 (repeat' (first|(refine ⟨_,by first | exact a5H fid p hp l hl,?_⟩; (conv=>whnf)) | (refine Or.inl ?_; (conv=>whnf); refine ⟨_,by first | exact a5H fid p hp l hl,?_⟩; (conv=>whnf)) | (refine Or.inl ?_; (conv=>whnf); refine ⟨false,?_⟩; (conv=>whnf); refine ⟨_,by first | exact a5H fid p hp l hl,?_⟩; (conv=>whnf)) | (refine ⟨by kernel_rfl,?_⟩; (conv=>whnf)) | fail))
 rw [a2b]
theorem a8L (k n:Int) (us:List Int) (rs:List RecT) (lg:List EntT) (hu:us.length < 2 ^ 40):PC Tryz.prog 114 [.pt (dsk k us rs n lg) 0] (.bool (!us.any oddR)):=by
 refine a7 hm Tryz.func114 (by kernel_rfl) ?_
 conv=>whnf
 (repeat' (first|(refine ⟨_,by first | exact a5I _ oddR a5G us hu,?_⟩; (conv=>whnf)) | (refine Or.inl ?_; (conv=>whnf); refine ⟨_,by first | exact a5I _ oddR a5G us hu,?_⟩; (conv=>whnf)) | (refine Or.inl ?_; (conv=>whnf); refine ⟨false,?_⟩; (conv=>whnf); refine ⟨_,by first | exact a5I _ oddR a5G us hu,?_⟩; (conv=>whnf)) | (refine ⟨by kernel_rfl,?_⟩; (conv=>whnf)) | fail))
 try rfl
theorem b2c (k n:Int) (us:List Int) (rs:List RecT) (lg:List EntT):PC Tryz.prog 113 [.pt (dsk k us rs n lg) 0] (.bool (U5 ⟨k,us,rs,n,lg⟩)):=by
 have c1:=y0 1 32 k
 have c2:=y0 0 1099511627776 n
 refine a7 hm Tryz.func113 (by kernel_rfl) ?_
 conv=>whnf
 (repeat' (first|(refine ⟨_,by first | exact c1 | exact c2,?_⟩; (conv=>whnf)) | (refine Or.inl ?_; (conv=>whnf); refine ⟨_,by first | exact c1 | exact c2,?_⟩; (conv=>whnf)) | (refine Or.inl ?_; (conv=>whnf); refine ⟨false,?_⟩; (conv=>whnf); refine ⟨_,by first | exact c1 | exact c2,?_⟩; (conv=>whnf)) | (refine ⟨by kernel_rfl,?_⟩; (conv=>whnf)) | (refine ⟨fun _ => ?_,fun h=>absurd h (by first | decide | (simp; done) | fail)⟩; (conv=>whnf)) | (refine ⟨fun h=>absurd h (by first | decide | (simp; done) | fail),fun _ => ?_⟩; (conv=>whnf)) | ((with_reducible refine And.intro (a:=_=true->_) (b:=_=false->_) (fun hh => ?_) (fun hh => ?_))<;>(try simp only [ansX] at hh)<;>(first | (exfalso; omega) | (conv=>whnf))) | fail))
 all_goals first | (simp [U5, *]; done)

end Go.Proofs.Tryz.My
