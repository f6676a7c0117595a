/- Helper lemmas. -/
import Derived.Test.YtdpnpdjnaimgaaaGreatMzBkB
set_option linter.unusedVariables false
set_option linter.unusedSimpArgs false
set_option maxRecDepth 100000
set_option maxHeartbeats 0
namespace Go.Proofs.Tryz.My
open Go Go.Ev
theorem M1(lo hi n:Int):va6 105 [i64 lo,i64 hi,i64 n] (.bool (D1 n lo hi)):=by
 refine pF Tryz.func105 ?_;conv=>whnf
 (repeat' (first|(refine⟨va4,?_⟩;(conv=>whnf))|(refine⟨fun _=>?_,fun h=>absurd h (by first|decide|(simp;done)|fail)⟩;(conv=>whnf))|(refine⟨fun h=>absurd h (by first|decide|(simp;done)|fail),fun _=>?_⟩;(conv=>whnf))|((with_reducible refine And.intro (a:=_=true->_) (b:=_=false->_) (fun hh=>?_) (fun hh=>?_))<;>(try simp only[yC]at hh)<;>(first|(exfalso;omega)|(conv=>whnf)))|fail));all_goals (first|rfl|(simp[D1, *];done))
abbrev EW(k:Int)(us:List Int)(rs:List A9)(nx:Int)(lg:List B8):List AV:=[i64 k,Iy us,pJ rs,i64 nx,mw lg]
theorem nI(a x:Int):va6 256 [.slc 1 [[u8 a]],u8 x] (i64 (if x=a then 0 else -1)):=by
 refine pF Tryz.func256 ?_;conv=>whnf
 refine Or.inl ⟨2,?_⟩;conv=>whnf
 refine vb6 ?_;(repeat intro hh);refine⟨fun h=>?_,fun h=>?_⟩
 ·(conv=>whnf);rw[if_pos (zA1 h)]
 ·(conv=>whnf);refine vb6 ?_;(repeat intro hh);rw[if_neg (zA0 h)]
theorem nJ(a b x:Int):va6 256 [.slc 1 [[u8 a],[u8 b]],u8 x] (i64 (if x=a then 0 else if x=b then 1 else -1)):=by
 refine pF Tryz.func256 ?_;conv=>whnf
 refine Or.inl ⟨3,?_⟩;conv=>whnf
 refine vb6 ?_;(repeat intro hh);refine⟨fun h=>?_,fun h=>?_⟩
 ·(conv=>whnf);rw[if_pos (zA1 h)]
 ·(conv=>whnf);refine vb6 ?_;(repeat intro hh);refine⟨fun h2=>?_,fun h2=>?_⟩
  ·(conv=>whnf);rw[if_neg (zA0 h),if_pos (zA1 h2)];try rfl
  ·(conv=>whnf);refine vb6 ?_;(repeat intro hh);rw[if_neg (zA0 h),if_neg (zA0 h2)]
theorem nK(a b c x:Int):va6 256 [.slc 1 [[u8 a],[u8 b],[u8 c]],u8 x] (i64 (if x=a then 0 else if x=b then 1 else if x=c then 2 else -1)):=by
 refine pF Tryz.func256 ?_;conv=>whnf
 refine Or.inl ⟨4,?_⟩;conv=>whnf
 refine vb6 ?_;(repeat intro hh);refine⟨fun h=>?_,fun h=>?_⟩
 ·(conv=>whnf);rw[if_pos (zA1 h)]
 ·(conv=>whnf);refine vb6 ?_;(repeat intro hh);refine⟨fun h2=>?_,fun h2=>?_⟩
  ·(conv=>whnf);rw[if_neg (zA0 h),if_pos (zA1 h2)];try rfl
  ·(conv=>whnf);refine vb6 ?_;(repeat intro hh);refine⟨fun h3=>?_,fun h3=>?_⟩
   ·(conv=>whnf);rw[if_neg (zA0 h),if_neg (zA0 h2),if_pos (zA1 h3)];try rfl
   ·(conv=>whnf);refine vb6 ?_;(repeat intro hh);rw[if_neg (zA0 h),if_neg (zA0 h2),if_neg (zA0 h3)]
theorem xq(a x:Int):va6 208 [.slc 1 [[u8 a]],u8 x] (.bool ([a].contains x)):=by
 refine pF Tryz.func208 ?_;conv=>whnf
 (repeat' (first|(refine⟨_,by exact nI a x,?_⟩;(conv=>whnf))|(refine Or.inl ?_;(conv=>whnf);refine⟨_,by exact nI a x,?_⟩;(conv=>whnf))|(refine Or.inl ?_;(conv=>whnf);refine⟨false,?_⟩;(conv=>whnf);refine⟨_,by exact nI a x,?_⟩;(conv=>whnf))|(refine⟨va4,?_⟩;(conv=>whnf))|fail))
 congr 1
 by_cases h:x=a<;>simp[h]
theorem xr(a b x:Int):va6 208 [.slc 1 [[u8 a],[u8 b]],u8 x] (.bool ([a,b].contains x)):=by
 refine pF Tryz.func208 ?_;conv=>whnf
 (repeat' (first|(refine⟨_,by exact nJ a b x,?_⟩;(conv=>whnf))|(refine Or.inl ?_;(conv=>whnf);refine⟨_,by exact nJ a b x,?_⟩;(conv=>whnf))|(refine Or.inl ?_;(conv=>whnf);refine⟨false,?_⟩;(conv=>whnf);refine⟨_,by exact nJ a b x,?_⟩;(conv=>whnf))|(refine⟨va4,?_⟩;(conv=>whnf))|fail))
 congr 1
 by_cases h:x=a
 ·simp[h]
 ·by_cases h2:x=b
  ·subst h2;simp[h]
  ·simp[h,h2]
theorem xt(a b c x:Int):va6 208 [.slc 1 [[u8 a],[u8 b],[u8 c]],u8 x] (.bool ([a,b,c].contains x)):=by
 refine pF Tryz.func208 ?_;conv=>whnf
 (repeat' (first|(refine⟨_,by exact nK a b c x,?_⟩;(conv=>whnf))|(refine Or.inl ?_;(conv=>whnf);refine⟨_,by exact nK a b c x,?_⟩;(conv=>whnf))|(refine Or.inl ?_;(conv=>whnf);refine⟨false,?_⟩;(conv=>whnf);refine⟨_,by exact nK a b c x,?_⟩;(conv=>whnf))|(refine⟨va4,?_⟩;(conv=>whnf))|fail))
 congr 1
 by_cases h:x=a
 ·simp[h]
 ·by_cases h2:x=b
  ·subst h2;simp[h]
  ·by_cases h3:x=c
   ·subst h3;simp[h,h2]
   ·simp[h,h2,h3]
theorem T3(k n u:Int)(us:List Int)(rs:List A9)(lg:List B8)(a:Int)(hl:us.length<2^40):va6 207 [i64 u,.pt [.pt (EW k us rs n lg) 0] 0,.pt [.slc 1 [[u8 a]]] 0] (.bool (I7 [a] us u)):=by
 have w1:IntKind.i64.wrap ((us.length:Int)-1)=(us.length:Int)-1:=C7 _ va5 va5;have c1:=M1 0 (us.length-1) u;have c2:=xq a (us.getD u.toNat 0);refine pF Tryz.func207 ?_;conv=>whnf
 refine⟨va4,?_⟩;conv=>whnf
 rw[w1];(repeat' (first|(refine⟨_,by exact c1,?_⟩;(conv=>whnf))|(refine Or.inl ?_;(conv=>whnf);refine⟨_,by exact c1,?_⟩;(conv=>whnf))|(refine Or.inl ?_;(conv=>whnf);refine⟨false,?_⟩;(conv=>whnf);refine⟨_,by exact c1,?_⟩;(conv=>whnf))|(refine⟨va4,?_⟩;(conv=>whnf))|fail));refine⟨fun h=>?_,fun h=>?_⟩
 ·have hb:0<=u/\u<us.length:=by simp only[D1,zA2,zA3]at h;omega
  conv=>whnf
  refine⟨hb,?_⟩;conv=>whnf
  (repeat' (first|(refine⟨_,by exact c2,?_⟩;(conv=>whnf))|(refine Or.inl ?_;(conv=>whnf);refine⟨_,by exact c2,?_⟩;(conv=>whnf))|(refine Or.inl ?_;(conv=>whnf);refine⟨false,?_⟩;(conv=>whnf);refine⟨_,by exact c2,?_⟩;(conv=>whnf))|(refine⟨va4,?_⟩;(conv=>whnf))|fail));unfold I7;rw[h,Bool.true_and]
 ·(conv=>whnf);refine⟨va4,?_⟩;conv=>whnf
  unfold I7;rw[h,Bool.false_and]
theorem EX(k n:Int)(us:List Int)(rs:List A9)(lg:List B8)(a:Int):va6 160 [.pt (EW k us rs n lg) 0,.slc 1 [[u8 a]]] (.fn (.func 207) [] [.pt [.pt (EW k us rs n lg) 0] 0,.pt [.slc 1 [[u8 a]]] 0]):=by
 refine pF Tryz.func160 ?_;conv=>whnf
 try rfl
theorem rT(k n u:Int)(us:List Int)(rs:List A9)(lg:List B8)(a b:Int)(hl:us.length<2^40):va6 207 [i64 u,.pt [.pt (EW k us rs n lg) 0] 0,.pt [.slc 1 [[u8 a],[u8 b]]] 0] (.bool (I7 [a,b] us u)):=by
 have w1:IntKind.i64.wrap ((us.length:Int)-1)=(us.length:Int)-1:=C7 _ va5 va5;have c1:=M1 0 (us.length-1) u;have c2:=xr a b (us.getD u.toNat 0);refine pF Tryz.func207 ?_;conv=>whnf
 refine⟨va4,?_⟩;conv=>whnf
 rw[w1];(repeat' (first|(refine⟨_,by exact c1,?_⟩;(conv=>whnf))|(refine Or.inl ?_;(conv=>whnf);refine⟨_,by exact c1,?_⟩;(conv=>whnf))|(refine Or.inl ?_;(conv=>whnf);refine⟨false,?_⟩;(conv=>whnf);refine⟨_,by exact c1,?_⟩;(conv=>whnf))|(refine⟨va4,?_⟩;(conv=>whnf))|fail));refine⟨fun h=>?_,fun h=>?_⟩
 ·have hb:0<=u/\u<us.length:=by simp only[D1,zA2,zA3]at h;omega
  conv=>whnf
  refine⟨hb,?_⟩;conv=>whnf
  (repeat' (first|(refine⟨_,by exact c2,?_⟩;(conv=>whnf))|(refine Or.inl ?_;(conv=>whnf);refine⟨_,by exact c2,?_⟩;(conv=>whnf))|(refine Or.inl ?_;(conv=>whnf);refine⟨false,?_⟩;(conv=>whnf);refine⟨_,by exact c2,?_⟩;(conv=>whnf))|(refine⟨va4,?_⟩;(conv=>whnf))|fail));unfold I7;rw[h,Bool.true_and]
 ·(conv=>whnf);refine⟨va4,?_⟩;conv=>whnf
  unfold I7;rw[h,Bool.false_and]
theorem NU(k n:Int)(us:List Int)(rs:List A9)(lg:List B8)(a b:Int):va6 160 [.pt (EW k us rs n lg) 0,.slc 1 [[u8 a],[u8 b]]] (.fn (.func 207) [] [.pt [.pt (EW k us rs n lg) 0] 0,.pt [.slc 1 [[u8 a],[u8 b]]] 0]):=by
 refine pF Tryz.func160 ?_;conv=>whnf
 try rfl
theorem zZ(k n u:Int)(us:List Int)(rs:List A9)(lg:List B8)(a b c:Int)(hl:us.length<2^40):va6 207 [i64 u,.pt [.pt (EW k us rs n lg) 0] 0,.pt [.slc 1 [[u8 a],[u8 b],[u8 c]]] 0] (.bool (I7 [a,b,c] us u)):=by
 have w1:IntKind.i64.wrap ((us.length:Int)-1)=(us.length:Int)-1:=C7 _ va5 va5;have c1:=M1 0 (us.length-1) u;have c2:=xt a b c (us.getD u.toNat 0);refine pF Tryz.func207 ?_;conv=>whnf
 refine⟨va4,?_⟩;conv=>whnf
 rw[w1];(repeat' (first|(refine⟨_,by exact c1,?_⟩;(conv=>whnf))|(refine Or.inl ?_;(conv=>whnf);refine⟨_,by exact c1,?_⟩;(conv=>whnf))|(refine Or.inl ?_;(conv=>whnf);refine⟨false,?_⟩;(conv=>whnf);refine⟨_,by exact c1,?_⟩;(conv=>whnf))|(refine⟨va4,?_⟩;(conv=>whnf))|fail));refine⟨fun h=>?_,fun h=>?_⟩
 ·have hb:0<=u/\u<us.length:=by simp only[D1,zA2,zA3]at h;omega
  conv=>whnf
  refine⟨hb,?_⟩;conv=>whnf
  (repeat' (first|(refine⟨_,by exact c2,?_⟩;(conv=>whnf))|(refine Or.inl ?_;(conv=>whnf);refine⟨_,by exact c2,?_⟩;(conv=>whnf))|(refine Or.inl ?_;(conv=>whnf);refine⟨false,?_⟩;(conv=>whnf);refine⟨_,by exact c2,?_⟩;(conv=>whnf))|(refine⟨va4,?_⟩;(conv=>whnf))|fail));unfold I7;rw[h,Bool.true_and]
 ·(conv=>whnf);refine⟨va4,?_⟩;conv=>whnf
  unfold I7;rw[h,Bool.false_and]
theorem rU(k n:Int)(us:List Int)(rs:List A9)(lg:List B8)(a:Int)(hu:us.length<2^40)(l:List Int)(hl:l.length<2^40) :
  va6 138 [C8 l,.fn (.func 207) [] [.pt [.pt (EW k us rs n lg) 0] 0,.pt [.slc 1 [[u8 a]]] 0]] (i64 (uG (I7 [a] us) l)):=by
 refine pF Tryz.func138 ?_;conv=>whnf
 refine Or.inr ⟨Nat,[8],[],[],fun k=>[i64 k],fun _=>[],fun _=>[],fun k=>l.length-k,fun k=>k<=l.length/\∀ i,i<k->I7 [a] us (l.getD i 0)=false,?_⟩;conv=>whnf
 refine⟨⟨0,?_⟩,?_⟩
 ·(conv=>whnf);exact kK ⟨⟨zB4 _,fun i hi=>absurd hi (zB3 i)⟩,rfl,rfl,rfl⟩
 ·intro j hj;conv=>whnf
  refine⟨fun h=>?_,fun h=>?_⟩
  ·have h:=zA1 h;conv=>whnf
   refine⟨⟨va5,va5⟩,?_⟩;conv=>whnf
   (repeat' (first|(refine⟨_,by exact T3 k n _ us rs lg a hu,?_⟩;(conv=>whnf))|(refine Or.inl ?_;(conv=>whnf);refine⟨_,by exact T3 k n _ us rs lg a hu,?_⟩;(conv=>whnf))|(refine Or.inl ?_;(conv=>whnf);refine⟨false,?_⟩;(conv=>whnf);refine⟨_,by exact T3 k n _ us rs lg a hu,?_⟩;(conv=>whnf))|(refine⟨va4,?_⟩;(conv=>whnf))|fail));refine⟨fun h2=>?_,fun h2=>?_⟩
   ·(conv=>whnf);exact congrArg i64 (pX _ 0 l j va5 h2 hj.2).symm
   ·refine⟨j+1,?_⟩;conv=>whnf
    refine kK ⟨⟨?_,?_,?_⟩,?_,rfl,rfl⟩
    ·show l.length-(j+1)<l.length-j;omega
    ·omega
    ·intro i hi;by_cases e:i=j
     ·subst e;exact h2
     ·exact hj.2 i va5
    ·rw[C7 _ va5 va5];rfl
  ·have h:=zA0 h;conv=>whnf
   exact congrArg i64 (lS _ 0 l fun i hi=>hj.2 i va5).symm
theorem Ky(k n:Int)(us:List Int)(rs:List A9)(lg:List B8)(a:Int)(hu:us.length<2^40)(l:List Int)(hl:l.length<2^40) :
  va6 84 [C8 l,.fn (.func 207) [] [.pt [.pt (EW k us rs n lg) 0] 0,.pt [.slc 1 [[u8 a]]] 0]] (.bool (l.any (I7 [a] us))):=by
 refine pF Tryz.func84 ?_;conv=>whnf
 (repeat' (first|(refine⟨_,by exact rU k n us rs lg a hu l hl,?_⟩;(conv=>whnf))|(refine Or.inl ?_;(conv=>whnf);refine⟨_,by exact rU k n us rs lg a hu l hl,?_⟩;(conv=>whnf))|(refine Or.inl ?_;(conv=>whnf);refine⟨false,?_⟩;(conv=>whnf);refine⟨_,by exact rU k n us rs lg a hu l hl,?_⟩;(conv=>whnf))|(refine⟨va4,?_⟩;(conv=>whnf))|fail));rw[pY]
theorem vg(k n:Int)(us:List Int)(rs:List A9)(lg:List B8)(hu:us.length<2^40)(l:List Int)(hl:l.length<2^40):va6 161 [.pt (EW k us rs n lg) 0,C8 l] (.bool (K8 us l)):=by
 have c1:=EX k n us rs lg 3;have c2:=Ky k n us rs lg 3 hu l hl;refine pF Tryz.func161 ?_;conv=>whnf
 refine⟨fun h=>?_,fun h=>?_⟩
 ·(conv=>whnf);refine Or.inl ?_;conv=>whnf
  refine⟨true,?_⟩;conv=>whnf
  refine⟨_,c1,?_⟩;(repeat' (first|(refine⟨_,by exact c2,?_⟩;(conv=>whnf))|(refine Or.inl ?_;(conv=>whnf);refine⟨_,by exact c2,?_⟩;(conv=>whnf))|(refine Or.inl ?_;(conv=>whnf);refine⟨false,?_⟩;(conv=>whnf);refine⟨_,by exact c2,?_⟩;(conv=>whnf))|(refine⟨va4,?_⟩;(conv=>whnf))|fail));unfold K8;rw[h,Bool.true_and]
 ·(conv=>whnf);unfold K8;rw[h,Bool.false_and]
theorem xu(x:Int):va6 159 [u8 x] (.bool (tN x)):=by
 refine pF Tryz.func159 ?_;conv=>whnf
 refine⟨fun h=>?_,fun h=>?_⟩
 ·(conv=>whnf);unfold tN;rw[h,Bool.true_or]
 ·(conv=>whnf);unfold tN;rw[h,Bool.false_or];try rfl
theorem xw(fX:Nat)(p:Int->Bool)(hp:∀ n,va6 fX [u8 n] (.bool (p n)))(l:List Int)(hl:l.length<2^40):va6 206 [Iy l,.fn (.func fX) [] []] (i64 (uG p l)):=by
 refine pF Tryz.func206 ?_;conv=>whnf
 refine Or.inr ⟨Nat,[8],[],[],fun k=>[i64 k],fun _=>[],fun _=>[],fun k=>l.length-k,fun k=>k<=l.length/\∀ i,i<k->p (l.getD i 0)=false,?_⟩;conv=>whnf
 refine⟨⟨0,?_⟩,?_⟩
 ·(conv=>whnf);exact kK ⟨by simp,rfl,rfl,rfl⟩
 ·intro k hk;conv=>whnf
  refine⟨fun h=>?_,fun h=>?_⟩
  ·have h:=zA1 h;conv=>whnf
   refine⟨⟨va5,va5⟩,?_⟩;conv=>whnf
   (repeat' (first|(refine⟨_,by exact hp _,?_⟩;(conv=>whnf))|(refine Or.inl ?_;(conv=>whnf);refine⟨_,by exact hp _,?_⟩;(conv=>whnf))|(refine Or.inl ?_;(conv=>whnf);refine⟨false,?_⟩;(conv=>whnf);refine⟨_,by exact hp _,?_⟩;(conv=>whnf))|(refine⟨va4,?_⟩;(conv=>whnf))|fail));refine⟨fun h2=>?_,fun h2=>?_⟩
   ·(conv=>whnf);exact congrArg i64 (pX _ 0 l k va5 h2 hk.2).symm
   ·refine⟨k+1,?_⟩;conv=>whnf
    refine kK ⟨⟨?_,?_,?_⟩,?_,rfl,rfl⟩
    ·show l.length-(k+1)<l.length-k;omega
    ·omega
    ·intro i hi;by_cases e:i=k
     ·subst e;exact h2
     ·exact hk.2 i va5
    ·rw[C7 _ va5 va5];rfl
  ·have h:=zA0 h;conv=>whnf
   exact congrArg i64 (lS _ 0 l fun i hi=>hk.2 i va5).symm
theorem xx(fX:Nat)(p:Int->Bool)(hp:∀ n,va6 fX [u8 n] (.bool (p n)))(l:List Int)(hl:l.length<2^40):va6 158 [Iy l,.fn (.func fX) [] []] (.bool (l.any p)):=by
 refine pF Tryz.func158 ?_;conv=>whnf
 (repeat' (first|(refine⟨_,by exact xw fX p hp l hl,?_⟩;(conv=>whnf))|(refine Or.inl ?_;(conv=>whnf);refine⟨_,by exact xw fX p hp l hl,?_⟩;(conv=>whnf))|(refine Or.inl ?_;(conv=>whnf);refine⟨false,?_⟩;(conv=>whnf);refine⟨_,by exact xw fX p hp l hl,?_⟩;(conv=>whnf))|(refine⟨va4,?_⟩;(conv=>whnf))|fail));rw[pY]
theorem Dj(k n:Int)(us:List Int)(rs:List A9)(lg:List B8)(hu:us.length<2^40):va6 114 [.pt (EW k us rs n lg) 0] (.bool (!us.any tN)):=by
 refine pF Tryz.func114 ?_;conv=>whnf
 (repeat' (first|(refine⟨_,by exact xx _ tN xu us hu,?_⟩;(conv=>whnf))|(refine Or.inl ?_;(conv=>whnf);refine⟨_,by exact xx _ tN xu us hu,?_⟩;(conv=>whnf))|(refine Or.inl ?_;(conv=>whnf);refine⟨false,?_⟩;(conv=>whnf);refine⟨_,by exact xx _ tN xu us hu,?_⟩;(conv=>whnf))|(refine⟨va4,?_⟩;(conv=>whnf))|fail));try rfl
theorem Kz(k n:Int)(us:List Int)(rs:List A9)(lg:List B8):va6 113 [.pt (EW k us rs n lg) 0] (.bool (gG ⟨k,us,rs,n,lg⟩)):=by
 have c1:=M1 1 32 k;have c2:=M1 0 1099511627776 n;refine pF Tryz.func113 ?_;conv=>whnf
 (repeat' (first|(refine⟨_,by first|exact c1|exact c2,?_⟩;(conv=>whnf))|(refine Or.inl ?_;(conv=>whnf);refine⟨_,by first|exact c1|exact c2,?_⟩;(conv=>whnf))|(refine Or.inl ?_;(conv=>whnf);refine⟨false,?_⟩;(conv=>whnf);refine⟨_,by first|exact c1|exact c2,?_⟩;(conv=>whnf))|(refine⟨va4,?_⟩;(conv=>whnf))|(refine⟨fun _=>?_,fun h=>absurd h (by first|decide|(simp;done)|fail)⟩;(conv=>whnf))|(refine⟨fun h=>absurd h (by first|decide|(simp;done)|fail),fun _=>?_⟩;(conv=>whnf))|((with_reducible refine And.intro (a:=_=true->_) (b:=_=false->_) (fun hh=>?_) (fun hh=>?_))<;>(try simp only[yC]at hh)<;>(first|(exfalso;omega)|(conv=>whnf)))|fail));all_goals first|(simp[gG, *];done)
theorem Aa{l:List A9}{j:Nat}(hj:j<l.length):C4 (l.take (j+1))=C4 (l.take j)+if (l.getD j r9).state=3 then 1 else 0:=by
 unfold C4;rw[List.take_add_one,List.filter_append,List.length_append,zA6 hj];simp only[List.getD,zA6 hj,Option.getD_some,Option.toList_some,List.filter_cons,List.filter_nil];by_cases h:l[j].state=3<;>simp[h]
theorem GY(l:List A9):C4 l<=l.length:=by
 unfold C4;exact List.length_filter_le _ _
theorem qb{k n:Int}{us:List Int}{rs:List A9}{lg:List B8}{j:Nat}{x:A9}(hj:j<rs.length)(hx:rs.getD j r9=x)(h:mz us x=false):AV.bool false=AV.bool (T8 ⟨k,us,rs,n,lg⟩):=by
 subst hx;unfold T8;rw[NT hj h,Bool.false_and]
theorem rV{us:List Int}{x:A9}{i:Nat}(hi:i<x.B0.length)(h:Kx us x i=false):mz us x=false:=by
 unfold mz pg;rw[kO hi h,Bool.false_and]
theorem GZ{us:List Int}{x:A9}(h:nH us x=false):mz us x=false:=by
 unfold mz;rw[h,Bool.and_false]
theorem xy{us:List Int}{x:A9}{i:Nat}:Kx us x i=true↔my x.B0 i<x.B0.getD i 0/\¬x.B0.getD i 0=x.author/\I7 [2,3] us (x.B0.getD i 0)=true:=by
 simp only[Kx,zA2,zA3,Bool.not_eq_true',decide_eq_false_iff_not,and_assoc]
theorem vh{us:List Int}{x:A9}:nH us x=true↔I7 [2] us x.author=true/\S6 x.gauge=true/\1<=x.state/\x.state<=4/\(decide (1<x.state) != K8 us x.B0)=false:=by
 simp only[nH,D1,zA2,zA3,and_assoc,bne,Bool.not_eq_false',gt_iff_lt]
theorem EY{g:x8}:(if S6 g then(0:Int)else 8)=0↔S6 g=true:=by
 by_cases h:S6 g=true<;>simp[h]
theorem Ab(k n:Int)(us:List Int)(rs:List A9)(lg:List B8)(hu:us.length<2^40)(hr:rs.length<2^40)(ha:∀ i,(rs.getD i r9).B0.length<2^40) :
  va6 115 [.pt (EW k us rs n lg) 0] (.bool (T8 ⟨k,us,rs,n,lg⟩)):=by
 have c1:=EX k n us rs lg 2;have c2:=NU k n us rs lg 2 3;have e1:=fun u=>T3 k n u us rs lg 2 hu
 have e2:=fun u=>rT k n u us rs lg 2 3 hu
 refine pF Tryz.func115 ?_;conv=>whnf
 ((first|refine Or.inl ?_|skip);(conv=>whnf);refine⟨true,?_⟩;(conv=>whnf);refine⟨_,c1,?_⟩;(conv=>whnf))
 ((first|refine Or.inl ?_|skip);(conv=>whnf);refine⟨true,?_⟩;(conv=>whnf);refine⟨_,c2,?_⟩;(conv=>whnf))
 refine Or.inr ⟨Nat,[3,23],[],[],fun k=>[i64 (C4 (rs.take k)),i64 k],fun _=>[],fun _=>[],fun k=>rs.length-k,fun k=>k<=rs.length/\∀ i,i<k->mz us (rs.getD i r9)=true,?_⟩;conv=>whnf
 refine⟨⟨0,?_⟩,?_⟩
 ·(conv=>whnf);exact kK ⟨⟨zB4 _,fun i hi=>absurd hi (zB3 i)⟩,rfl,rfl,rfl⟩
 ·intro j hj;conv=>whnf
  refine⟨fun h=>?_,fun h=>?_⟩
  ·have h:=zA1 h;conv=>whnf
   refine⟨⟨va5,va5⟩,?_⟩;conv=>whnf
   have BX:j<rs.length:=by omega
   have Xt:=ha j;rw[show Int.toNat (j:Int)=j from rfl];generalize hx:rs.getD j r9=x at Xt;refine Or.inr ⟨Nat,[8,30],[],[],fun i=>[i64 (my x.B0 i),i64 i],fun _=>[],fun _=>[],fun i=>x.B0.length-i,fun i=>i<=x.B0.length/\∀ m,m<i->Kx us x m=true,?_⟩;conv=>whnf
   refine⟨⟨0,?_⟩,?_⟩
   ·(conv=>whnf);exact kK ⟨⟨zB4 _,fun i hi=>absurd hi (zB3 i)⟩,rfl,rfl,rfl⟩
   ·intro i hi;conv=>whnf
    refine⟨fun h2=>?_,fun h2=>?_⟩
    ·have h2:=zA1 h2;conv=>whnf
     refine⟨⟨va5,va5⟩,?_⟩;conv=>whnf
     rw[show Int.toNat (i:Int)=i from rfl];(repeat' ((first|refine va0 (fun hh=>?_) fun hh=>?_|refine kR ?_|((try refine .inl ?_;conv=>whnf);(try refine⟨false,?_⟩;conv=>whnf);refine⟨_,by exact e2 _,?_⟩)|fail)<;>first|exact hh.elim|conv=>whnf))
     ·exact qb BX hx (rV (i:=i) va5 (Bool.eq_false_iff.2 fun q=>by have q:=xy.1 q;omega))
     ·exact qb BX hx (rV (i:=i) va5 (Bool.eq_false_iff.2 fun q=>(xy.1 q).2.1 (by assumption)))
     ·exact qb BX hx (rV (i:=i) va5 (Bool.eq_false_iff.2 fun q=>Bool.noConfusion ((xy.1 q).2.2.symm.trans (by assumption))))
     ·have ok:Kx us x i=true:=xy.2 ⟨va5,by assumption,by assumption⟩;refine⟨i+1,?_⟩;conv=>whnf
      refine kK ⟨⟨?_,?_,?_⟩,?_,rfl,rfl⟩
      ·show x.B0.length-(i+1)<x.B0.length-i;omega
      ·omega
      ·intro m hm;by_cases e:m=i
       ·subst e;exact ok
       ·exact hi.2 m va5
      ·rw[C7 _ va5 va5];simp[my]
    ·have h2:=zA0 h2;have ha1:pg us x=true:=ah.2 fun m hm=>hi.2 m va5
     (repeat' ((first|refine va0 (fun hh=>?_) fun hh=>?_|refine kR ?_|((try refine .inl ?_;conv=>whnf);(try refine⟨false,?_⟩;conv=>whnf);refine⟨_,by first|exact e1 _|exact X9 _|exact vg k n us rs lg hu _ Xt,?_⟩)|fail)<;>first|exact hh.elim|conv=>whnf))
     iterate 5 (refine qb BX hx (GZ (Bool.eq_false_iff.2 fun q=>?_));have q:=vh.1 q;first|(exact absurd (EY.2 q.2.1) (by assumption))|omega|exact Bool.noConfusion (q.1.symm.trans (by assumption))|exact Bool.noConfusion (q.2.2.2.2.symm.trans (by assumption)))
     all_goals (
      have ok:mz us x=true:=by
       unfold mz;rw[ha1,Bool.true_and];exact vh.2 ⟨by assumption,EY.1 (by assumption),va5,va5,by assumption⟩
      have hn:=Aa BX;have hm:C4 (rs.take j)<=rs.length:=Nat.le_trans (GY _) (by rw[zB1];omega);rw[hx]at hn;refine⟨j+1,?_⟩;conv=>whnf
      refine kK ⟨⟨?_,?_,?_⟩,?_,rfl,rfl⟩
      ·show rs.length-(j+1)<rs.length-j;omega
      ·omega
      ·intro m hm;by_cases e:m=j
       ·rw[e,hx];exact ok
       ·exact hj.2 m va5
      ·first
        | (rw[if_pos (by assumption)]at hn;rw[C7 _ va5 va5,C7 _ va5 va5];show _=[i64 (C4 (rs.take (j+1)):Nat),i64 ((j+1:Nat):Int)];rw[hn];first|rfl|(simp;done))
        | (rw[if_neg (by assumption)]at hn;rw[C7 _ va5 va5];show _=[i64 (C4 (rs.take (j+1)):Nat),i64 ((j+1:Nat):Int)];rw[hn];first|rfl|(simp;done)))
  ·have h:=zA0 h;conv=>whnf
   have e:T8 ⟨k,us,rs,n,lg⟩=decide ((C4 (rs.take j):Int)<=1):=by
    have ej:rs.take j=rs:=List.take_of_length_le va5;unfold T8;rw[mA.2 fun i hi=>hj.2 i va5,ej,Bool.true_and];exact decide_eq_decide.2 (show C4 rs<=1↔_ by omega)
   rw[e]
theorem EZ{b:o7}{i:Nat}{s:B8}{x:A9}(hs:b.log.getD i w9=s)(hx:b.recipes.getD s.recipe.toNat r9=x):rS b i=true↔hH b.log i<s.seq/\s.seq<b.next/\D1 s.recipe 0 (b.recipes.length-1)=true/\D1 s.part 0 1099511627776=true /\
  (F8 x.gauge s.o9).2.2=0/\(F8 x.gauge s.o9).2.1=s.o6/\¬x.state=1:=by
 simp only[rS,hs,hx,zA2,zA3,Bool.not_eq_true',decide_eq_false_iff_not,and_assoc]
theorem Ha(k n:Int)(us:List Int)(rs:List A9)(lg:List B8)(hr:rs.length<2^40)(hl:lg.length<2^40)(ha:∀ i,(lg.getD i w9).o9.length<2^40) :
  va6 116 [.pt (EW k us rs n lg) 0] (.bool (bM ⟨k,us,rs,n,lg⟩)):=by
 have w1:IntKind.i64.wrap ((rs.length:Int)-1)=(rs.length:Int)-1:=C7 _ va5 va5;have c1:∀ u,va6 105 [i64 0,i64 (IntKind.i64.wrap ((rs.length:Int)-1)),i64 u] (.bool (decide (0<=u) && decide (u<=(rs.length:Int)-1))):=fun u=>by rw[w1];exact M1 0 _ u
 have c2:∀ u,va6 105 [i64 0,i64 1099511627776,i64 u] (.bool (decide (0<=u) && decide (u<=1099511627776))):=fun u=>M1 0 _ u
 refine pF Tryz.func116 ?_;conv=>whnf
 refine Or.inr ⟨Nat,[3,16],[],[],fun j=>[i64 (hH lg j),i64 j],fun _=>[],fun _=>[],fun j=>lg.length-j,fun j=>j<=lg.length/\∀ i,i<j->rS ⟨k,us,rs,n,lg⟩ i=true,?_⟩;conv=>whnf
 refine⟨⟨0,?_⟩,?_⟩
 ·(conv=>whnf);exact kK ⟨⟨zB4 _,fun i hi=>absurd hi (zB3 i)⟩,rfl,rfl,rfl⟩
 ·intro j hj;conv=>whnf
  refine⟨fun h=>?_,fun h=>?_⟩
  ·have h:=zA1 h;have BX:j<lg.length:=by omega
   conv=>whnf
   refine⟨⟨va5,va5⟩,?_⟩;conv=>whnf
   have BU:=ha j;rw[show Int.toNat (j:Int)=j from rfl];generalize hs:lg.getD j w9=s at BU;have bad:¬(hH lg j<s.seq/\s.seq<n/\D1 s.recipe 0 (rs.length-1)=true/\D1 s.part 0 1099511627776=true /\
     (F8 (rs.getD s.recipe.toNat r9).gauge s.o9).2.2=0/\(F8 (rs.getD s.recipe.toNat r9).gauge s.o9).2.1=s.o6/\¬(rs.getD s.recipe.toNat r9).state=1)->AV.bool false=AV.bool (bM ⟨k,us,rs,n,lg⟩):=fun q=>by
    unfold bM;rw[kO BX (Bool.eq_false_iff.2 fun e=>q ((EZ hs rfl).1 e))]
   conv=>whnf
   (repeat' ((first|refine va0 (fun hh=>?_) fun hh=>?_|refine kR ?_|((try refine .inl ?_;conv=>whnf);(try refine⟨false,?_⟩;conv=>whnf);refine⟨_,by first|exact c1 _|exact c2 _|exact bA _ _ BU,?_⟩)|fail)<;>first|exact hh.elim|conv=>whnf))
   iterate 7 (refine bad fun q=>?_;obtain⟨q1,q2,q3,q4,q5,q6,q7⟩:=q;simp only[D1,zA2,zA3]at q3 q4;omega)
   have ok:rS ⟨k,us,rs,n,lg⟩ j=true:=(EZ hs rfl).2 ⟨show hH lg j<s.seq by omega,show s.seq<n by omega,by simp only[D1,zA2,zA3];assumption,by simp only[D1,zA2,zA3];assumption,by assumption,by assumption,by assumption⟩;refine⟨j+1,?_⟩;conv=>whnf
   refine kK ⟨⟨?_,?_,?_⟩,?_,rfl,rfl⟩
   ·show lg.length-(j+1)<lg.length-j;omega
   ·omega
   ·intro m hm;by_cases e:m=j
    ·rw[e];exact ok
    ·exact hj.2 m va5
   ·rw[C7 _ va5 va5];show _=[i64 (hH lg (j+1)),i64 ((j+1:Nat):Int)]
    unfold hH;rw[if_neg (Nat.succ_ne_zero j),Nat.add_sub_cancel,hs];rfl
  ·have h:=zA0 h;conv=>whnf
   have e:bM ⟨k,us,rs,n,lg⟩=true:=ah.2 fun i hi=>hj.2 i (by have:i<lg.length:=hi;omega)
   rw[e]
structure G8 (b:o7):Prop where
 u:b.p9.length<2^20
 r:b.recipes.length<2^20
 l:b.log.length<2^20
 a:∀ i,(b.recipes.getD i r9).B0.length<2^20
 p:∀ i,(b.log.getD i w9).o9.length<2^20
theorem S7{n:Nat}(h:n<2^20):n<2^40:=Nat.lt_trans h va8
theorem fD(b:o7)(o:G8 b):va6 69 [au b] (i64 (if E1 b then 0 else 8)):=by
 have c1:=Kz b.keep b.next b.p9 b.recipes b.log;have c2:=Dj b.keep b.next b.p9 b.recipes b.log (S7 o.u);have c3:=Ab b.keep b.next b.p9 b.recipes b.log (S7 o.u) (S7 o.r) fun i=>S7 (o.a i)
 have c4:=Ha b.keep b.next b.p9 b.recipes b.log (S7 o.r) (S7 o.l) fun i=>S7 (o.p i)
 refine pF Tryz.func69 ?_;conv=>whnf
 refine Or.inl ⟨5,?_⟩;conv=>whnf
 refine vb5 ?_;(repeat intro hh);refine⟨fun h=>?_,fun h=>?_⟩<;>(conv=>whnf)
 ·have h1:gG b=false:=(by rw[Bool.not_eq_true']at h;exact h)
  exact congrArg i64 (if_neg (by unfold E1;rw[h1];simp)).symm
 have h1:gG b=true:=(by rw[Bool.not_eq_false']at h;exact h)
 clear h;refine vb5 ?_;(repeat intro hh);refine⟨fun h=>?_,fun h=>?_⟩<;>(conv=>whnf)
 ·have h2:iT b=false:=(by rw[Bool.not_eq_true']at h;exact h)
  exact congrArg i64 (if_neg (by unfold E1;rw[h1,h2];simp)).symm
 have h2:iT b=true:=(by rw[Bool.not_eq_false']at h;exact h)
 clear h;refine vb5 ?_;(repeat intro hh);refine⟨fun h=>?_,fun h=>?_⟩<;>(conv=>whnf)
 ·have h3:T8 b=false:=(by rw[Bool.not_eq_true']at h;exact h)
  exact congrArg i64 (if_neg (by unfold E1;rw[h1,h2,h3];simp)).symm
 have h3:T8 b=true:=(by rw[Bool.not_eq_false']at h;exact h)
 clear h;refine vb5 ?_;(repeat intro hh);refine⟨fun h=>?_,fun h=>?_⟩<;>(conv=>whnf)
 ·have h4:bM b=false:=(by rw[Bool.not_eq_true']at h;exact h)
  exact congrArg i64 (if_neg (by unfold E1;rw[h1,h2,h3,h4];simp)).symm
 have h4:bM b=true:=(by rw[Bool.not_eq_false']at h;exact h)
 clear h;refine vb5 ?_;(repeat intro hh);exact congrArg i64 (if_pos (by unfold E1;rw[h1,h2,h3,h4];rfl)).symm

end Go.Proofs.Tryz.My
