/- Helper lemmas. -/
import Derived.Test.YtacahppoighegaaGreatMzBqX
import Derived.Test.YtacahppoighegaaGreatEvFn
set_option linter.unusedVariables false
set_option linter.unusedSimpArgs false
set_option maxRecDepth 100000
set_option maxHeartbeats 0
namespace Go.Proofs.Tryz.My
open Go Go.Ev
theorem aI(l:List Int)(hl:l.length<2^20):va7 36 [A9 l] [] (.own 0) [.vec 3 1 0 eI l]:=by
 refine u4 hm Tryz.func36 va4 ⟨va4,vb3 ?_⟩;refine Or.inl (vb3 ?_);intro b hb;conv=>whnf
 refine⟨fun h=>?_,fun h=>?_⟩
 ·(conv=>whnf);refine Or.inr ⟨va4,.vec 3 1 0 eI [],rfl,vb3 ?_⟩;refine⟨[2],va4,vb3 ?_⟩;rw[hb h];exact⟨rfl,rfl⟩
 conv=>whnf
 refine⟨⟨Int,1,0,eI,[]⟩,l,rfl,⟨rfl,rfl⟩,rfl,?_,?_,fun y _=>⟨rfl,rfl,rfl⟩,?_⟩
 ·show(0+l.length)*8<=_;omega
 ·show 0+l.length<=_;omega
 conv=>whnf
 refine⟨[7],va4,vb3 ?_⟩;exact⟨rfl,rfl⟩
theorem pY(l:List Int)(hl:l.length<2^20):va7 33 [Nz l] [] (.own 0) [.vec 5 1 0 e8 l]:=by
 refine u4 hm Tryz.func33 va4 ⟨va4,vb3 ?_⟩;refine Or.inl (vb3 ?_);intro b hb;conv=>whnf
 refine⟨fun h=>?_,fun h=>?_⟩
 ·(conv=>whnf);refine Or.inr ⟨va4,.vec 5 1 0 e8 [],rfl,vb3 ?_⟩;refine⟨[2],va4,vb3 ?_⟩;rw[hb h];exact⟨rfl,rfl⟩
 conv=>whnf
 refine⟨⟨Int,1,0,e8,[]⟩,l,rfl,⟨rfl,rfl⟩,rfl,?_,?_,fun y _=>⟨rfl,rfl,rfl⟩,?_⟩
 ·show(0+l.length)*1<=_;omega
 ·show 0+l.length<=_;omega
 conv=>whnf
 refine⟨[7],va4,vb3 ?_⟩;exact⟨rfl,rfl⟩
theorem NG(x:D1)(hx:x.y7.length<2^20):va7 207 [rcp x] [] (.agg ((bX x).set 11 (.own 0))) [.vec 3 1 0 eI x.y7]:=by
 refine vb5 Tryz.func207 ?_;refine va2 [] [5] (vb3 ?_);refine va3 [] (aI x.y7 hx) (vb3 ?_);refine⟨[5],va4,vb3 ?_⟩;exact⟨rfl,rfl⟩
theorem CL(x:A2)(hx:x.n7.length<2^20):va7 209 [UW x] [] (.agg ((K6 x).set 3 (.own 0))) [.vec 3 1 0 eI x.n7]:=by
 refine vb5 Tryz.func209 ?_;refine va2 [] [5] (vb3 ?_);refine va3 [] (aI x.n7 hx) (vb3 ?_);refine⟨[5],va4,vb3 ?_⟩;exact⟨rfl,rfl⟩
theorem CM(l:List D1)(hl:l.length<2^16)(ha:∀ i,(l.getD i p9).y7.length<2^20):va7 206 [uq l,.fn (.func 207) [] []] [] (.own 0) [.nest 92 13 11 3 p9 bX D1.y7 none l]:=by
 have w1:IntKind.i64.wrap ((l.length:Int)+1)=(l.length:Int)+1:=z5 _ va5 va5;refine vb5 Tryz.func206 ?_;refine⟨.nest 92 13 11 3 p9 bX D1.y7 none [],⟨⟨rfl,va4,rfl,rfl⟩,va5,va5,zA1 va4⟩,vb3 ?_⟩;refine Or.inr ⟨Nat,[14],[],[(5,⟨D1,92,13,p9,bX⟩)],fun i=>[i64 i],fun _=>[],fun i=>[.nest 92 13 11 3 p9 bX D1.y7 none (l.take i)],fun i=>l.length-i,fun i=>i<=l.length,vb3 ?_⟩;refine⟨⟨0,?_⟩,?_⟩
 ·(conv=>whnf);exact kK ⟨zB4 _,rfl,rfl,rfl⟩
 ·intro j hj;conv=>whnf
  refine⟨fun h=>?_,fun h=>?_⟩
  ·have h:=zA1 h;have kO:j<l.length:=by omega
   have hk:(l.take j).length=j:=by rw[zB1];omega
   conv=>whnf
   refine⟨⟨va5,va5⟩,vb3 ?_⟩;refine va2 [] [21] (vb3 ?_);refine va3 [] (NG _ (ha _)) (vb3 ?_);refine⟨_,l.getD j p9,⟨rfl,rfl,rfl,?_,?_⟩,?_⟩
   ·show((l.take j).length+1)*120<=_;rw[hk];omega
   ·rw[hk];omega
   conv=>whnf
   refine⟨j+1,vb3 ?_⟩;refine kK ⟨⟨?_,?_⟩,?_,rfl,?_⟩
   ·show l.length-(j+1)<l.length-j;omega
   ·show j+1<=l.length;omega
   ·rw[z5 _ va5 va5];rfl
   ·show [Row.nest 92 13 11 3 p9 bX D1.y7 none (l.take j++[l.getD j p9])]=[Row.nest 92 13 11 3 p9 bX D1.y7 none (l.take (j+1))]
    rw[List.take_add_one,zA6 kO];simp[List.getD,kO]
  ·have h:=zA0 h;have ej:l.take j=l:=List.take_of_length_le va5;rw[ej];conv=>whnf
   refine⟨[5],va4,vb3 ?_⟩;exact⟨rfl,rfl⟩
theorem NH(l:List A2)(hl:l.length<2^16)(ha:∀ i,(l.getD i s9).n7.length<2^20):va7 208 [od l,.fn (.func 209) [] []] [] (.own 0) [.nest 71 6 3 3 s9 K6 A2.n7 none l]:=by
 have w1:IntKind.i64.wrap ((l.length:Int)+1)=(l.length:Int)+1:=z5 _ va5 va5;refine vb5 Tryz.func208 ?_;refine⟨.nest 71 6 3 3 s9 K6 A2.n7 none [],⟨⟨rfl,va4,rfl,rfl⟩,va5,va5,zA1 va4⟩,vb3 ?_⟩;refine Or.inr ⟨Nat,[14],[],[(5,⟨A2,71,6,s9,K6⟩)],fun i=>[i64 i],fun _=>[],fun i=>[.nest 71 6 3 3 s9 K6 A2.n7 none (l.take i)],fun i=>l.length-i,fun i=>i<=l.length,vb3 ?_⟩;refine⟨⟨0,?_⟩,?_⟩
 ·(conv=>whnf);exact kK ⟨zB4 _,rfl,rfl,rfl⟩
 ·intro j hj;conv=>whnf
  refine⟨fun h=>?_,fun h=>?_⟩
  ·have h:=zA1 h;have kO:j<l.length:=by omega
   have hk:(l.take j).length=j:=by rw[zB1];omega
   conv=>whnf
   refine⟨⟨va5,va5⟩,vb3 ?_⟩;refine va2 [] [21] (vb3 ?_);refine va3 [] (CL _ (ha _)) (vb3 ?_);refine⟨_,l.getD j s9,⟨rfl,rfl,rfl,?_,?_⟩,?_⟩
   ·show((l.take j).length+1)*56<=_;rw[hk];omega
   ·rw[hk];omega
   conv=>whnf
   refine⟨j+1,vb3 ?_⟩;refine kK ⟨⟨?_,?_⟩,?_,rfl,?_⟩
   ·show l.length-(j+1)<l.length-j;omega
   ·show j+1<=l.length;omega
   ·rw[z5 _ va5 va5];rfl
   ·show [Row.nest 71 6 3 3 s9 K6 A2.n7 none (l.take j++[l.getD j s9])]=[Row.nest 71 6 3 3 s9 K6 A2.n7 none (l.take (j+1))]
    rw[List.take_add_one,zA6 kO];simp[List.getD,kO]
  ·have h:=zA0 h;have ej:l.take j=l:=List.take_of_length_le va5;rw[ej];conv=>whnf
   refine⟨[5],va4,vb3 ?_⟩;exact⟨rfl,rfl⟩
theorem az(b:n9)(o:C8 b)(h:B8 b=false):va6 166 [R5 b] (.tup [.nilp,i64 8]):=by
 have c:va6 29 [R5 b] (i64 8):=by have c:=hC b o;rwa[if_neg (by rw[h];decide)]at c
 refine pF Tryz.func166 ?_;conv=>whnf
 try exact vc1
 try rfl
theorem B0{b:n9}(h:B8 b=true):b.n5.length<=16/\b.j8.length<=16/\b.log.length<=32:=by
 simp only[B8,gh,B6,zA2,zA3]at h;omega
def jy(b:n9):List Row:=[.cells 127 [i64 b.keep,.own 1,.own 2,i64 b.next,.own 3],.vec 5 1 0 e8 b.n5,.nest 92 13 11 3 p9 bX D1.y7 none b.j8,.nest 71 6 3 3 s9 K6 A2.n7 none b.log]
theorem K0(b:n9)(o:C8 b)(h:B8 b=true):va7 166 [R5 b] [] (.tup [.ptr 0 0 0 0,i64 0]) (jy b):=by
 have c:va6 29 [R5 b] (i64 0):=by have c:=hC b o;rwa[if_pos h]at c
 have s:=B0 h;refine vb5 Tryz.func166 ?_;refine vc0 ?_;intros;refine va2 [] [12] (vb3 ?_);refine va3 [] (pY b.n5 o.u) (vb3 ?_);refine va2 [] [16] (vb3 ?_);refine va3 [] (CM b.j8 va5 o.a) (vb3 ?_);refine va2 [] [20] (vb3 ?_);refine va3 [] (NH b.log va5 o.p) (vb3 ?_);refine⟨[24,12,16,20],va4,vb3 ?_⟩;exact⟨rfl,rfl⟩
def wh(b:n9)(n4:Int):n9:=⟨b.keep,b.n5++[n4],b.j8,b.next,b.log⟩
def bZ(b:n9)(n4:Int):Int:=if B8 b then(if n4<1∨3<n4 then 2 else if (b.n5.length:Int)=16 then 9 else 0)else 8
abbrev mF(b:n9):AV := .agg [i64 b.keep,.own 0,.own 1,i64 b.next,.own 2]
def mG(b:n9):List Row:=[.vec 5 1 0 e8 b.n5,.nest 92 13 11 3 p9 bX D1.y7 none b.j8,.nest 71 6 3 3 s9 K6 A2.n7 none b.log]
theorem Am(b:n9)(o:C8 b)(n4:Int)(h:bZ b n4=0):va7 119 [R5 b,u8 n4] [] (.tup [mF (wh b n4),i64 b.n5.length,i64 0]) (mG (wh b n4)):=by
 have hc:B8 b=true:=by
  unfold bZ at h;split at h
  ·assumption
  ·cases h
 have hr:¬(n4<1∨3<n4):=fun q=>by
  unfold bZ at h;rw[if_pos hc,if_pos q]at h;cases h
 have hu:¬(b.n5.length:Int)=16:=fun q=>by
  unfold bZ at h;rw[if_pos hc,if_neg hr,if_pos q]at h;cases h
 have s:=B0 hc;have w1:IntKind.i64.wrap (((b.n5++[n4]).length:Int)-1)=b.n5.length:=by
  have hl:((b.n5++[n4]).length:Int)=b.n5.length+1:=by simp
  rw[hl,z5 _ va5 va5];omega
 refine vb5 Tryz.func119 ?_;refine va2 [] [11,9,12,13] (vb3 ?_);refine va3 [] (K0 b o hc) (vb3 ?_);refine vc4 ?_;intros;refine ve4 ?_;intros;refine⟨⟨Int,1,0,e8,b.n5⟩,[n4],rfl,rfl,⟨rfl,rfl⟩,?_,?_,fun y _=>⟨rfl,rfl,rfl⟩,?_⟩
 ·show(b.n5.length+1)*1<=_;omega
 ·show b.n5.length+1<=_;omega
 conv=>whnf
 refine ve4 ?_;intros;refine⟨[44,12,13],va4,vb3 ?_⟩;refine⟨?_,rfl⟩;rw[w1];rfl
theorem wj(b:n9)(o:C8 b)(n4:Int)(h:¬bZ b n4=0):va6 119 [R5 b,u8 n4] (.tup [dL 0,i64 0,i64 (bZ b n4)]):=by
 by_cases hc:B8 b=true
 ·have s:=B0 hc;unfold bZ at h ⊢;rw[if_pos hc]at h ⊢;refine vb4 Tryz.func119 ?_;refine va2 [] [11,9,12,13] (vb3 ?_);refine va3 [] (K0 b o hc) (vb3 ?_);refine vc4 ?_;intros;refine ve6 ?_ ?_ ?_<;>intros
  all_goals first
   | (exfalso;apply h;rw[if_neg va5,if_neg va5];done)
   | (rw[if_pos va5];done)
   | (rw[if_neg va5,if_pos va5];done)
  
 ·have hc:B8 b=false:=by simpa using hc
  have c:=az b o hc;unfold bZ;rw[if_neg (by rw[hc];decide)];refine pF Tryz.func119 ?_;conv=>whnf
  try exact vc1
  try rfl
theorem dM(b:n9)(a:Int):va7 102 [.ptr 0 0 0 0,.own 4] (jy b++[.lit 5 1 [[u8 a]]]) (.fn (.func 147) [] [.ptr 5 0 0 0,.ptr 6 0 0 0]) (jy b++[.lit 5 1 [[u8 a]],.cells 125 [.ptr 0 0 0 0],.cells 33 [.own 4]]):=by
 refine u4 hm Tryz.func102 va4 ⟨va4,vb3 ?_⟩;refine⟨[2,3],va4,vb3 ?_⟩;exact⟨rfl,rfl⟩
def X9(k7:Int)(g:v7):D1:=⟨k7,g,[],1⟩
def wo(b:n9)(k7:Int)(g:v7):n9:=⟨b.keep,b.n5,b.j8++[X9 k7 g],b.next,b.log⟩
def dq(b:n9)(k7:Int)(g:v7):Int :=
 if B8 b then(if ¬(0<=k7/\k7<=(b.n5.length:Int)-1)then 6 else if D6 [2] b.n5 k7=false then 100 else if ¬N0 g=true then 8 else if (b.j8.length:Int)=16 then 9 else 0)else 8
theorem Fz(b:n9)(o:C8 b)(k7:Int)(g:v7)(h:dq b k7 g=0):va7 121 [R5 b,i64 k7,PA g] [] (.tup [mF (wo b k7 g),i64 b.j8.length,i64 0]) (mG (wo b k7 g)):=by
 have hc:B8 b=true:=by
  unfold dq at h;split at h
  ·assumption
  ·cases h
 unfold dq at h;rw[if_pos hc]at h;have hu:0<=k7/\k7<=(b.n5.length:Int)-1:=Decidable.byContradiction fun q=>by rw[if_pos q]at h;cases h
 rw[if_neg (show ¬¬(0<=k7/\k7<=(b.n5.length:Int)-1) from fun q=>q hu)]at h;have eT:D6 [2] b.n5 k7=true:=by
  cases e:D6 [2] b.n5 k7 with
  | true=>rfl
  | false=>rw[if_pos e]at h;cases h
 rw[if_neg (show ¬D6 [2] b.n5 k7=false by rw[eT];decide)]at h;have hg:N0 g=true:=Decidable.byContradiction fun q=>by rw[if_pos q]at h;cases h
 rw[if_neg (show ¬¬N0 g=true from fun q=>q hg)]at h;have hl:¬(b.j8.length:Int)=16:=fun q=>by rw[if_pos q]at h;cases h
 clear h;have s:=B0 hc;have c1:=fun u=>U9 b.keep b.next u b.n5 b.j8 b.log 2 (P1 o.u)
 have w0:IntKind.i64.wrap ((b.n5.length:Int)-1)=(b.n5.length:Int)-1:=z5 _ va5 va5;have c2:∀ u,va6 99 [i64 0,i64 (IntKind.i64.wrap ((b.n5.length:Int)-1)),i64 u] (.bool (decide (0<=u) && decide (u<=(b.n5.length:Int)-1))):=fun u=>by rw[w0];exact O4 0 _ u
 refine vb5 Tryz.func121 ?_;refine va2 [] [14,9,12,15] (vb3 ?_);refine va3 [] (K0 b o hc) (vb3 ?_);refine vc2 c2 ?_;intros;refine ve4 ?_;intros;refine va2 [] [37,35] (vb3 ?_);refine va3 [14,9,12,15,36] (dM b 2) (vb3 ?_);have cZ:=Z7 g;refine vd4 c1 ?_;intros;refine⟨X9 k7 g,⟨rfl,rfl,?_,?_⟩,?_⟩
 ·show(b.j8.length+1)*120<=_;omega
 ·omega
 have w1:IntKind.i64.wrap (((b.j8++[X9 k7 g]).length:Int)-1)=b.j8.length:=by
  have hl:((b.j8++[X9 k7 g]).length:Int)=b.j8.length+1:=by simp
  rw[hl,z5 _ va5 va5];omega
 conv=>whnf
 refine ve4 ?_;intros;refine⟨[9,66,15],va4,vb3 ?_⟩;refine⟨?_,rfl⟩;rw[w1];rfl
theorem CN(b:n9)(o:C8 b)(k7:Int)(g:v7)(h:¬dq b k7 g=0):va6 121 [R5 b,i64 k7,PA g] (.tup [dL 0,i64 0,i64 (dq b k7 g)]):=by
 by_cases hc:B8 b=true
 ·unfold dq at h ⊢;rw[if_pos hc]at h ⊢;have s:=B0 hc;have c1:=fun u=>U9 b.keep b.next u b.n5 b.j8 b.log 2 (P1 o.u)
  have w0:IntKind.i64.wrap ((b.n5.length:Int)-1)=(b.n5.length:Int)-1:=z5 _ va5 va5;have c2:∀ u,va6 99 [i64 0,i64 (IntKind.i64.wrap ((b.n5.length:Int)-1)),i64 u] (.bool (decide (0<=u) && decide (u<=(b.n5.length:Int)-1))):=fun u=>by rw[w0];exact O4 0 _ u
  by_cases hu:0<=k7/\k7<=(b.n5.length:Int)-1
  ·rw[if_neg (show ¬¬(0<=k7/\k7<=(b.n5.length:Int)-1) from fun q=>q hu)]at h ⊢;refine vb4 Tryz.func121 ?_;refine va2 [] [14,9,12,15] (vb3 ?_);refine va3 [] (K0 b o hc) (vb3 ?_);refine vc2 c2 ?_;intros;refine ve4 ?_;intros;refine va2 [] [37,35] (vb3 ?_);refine va3 [14,9,12,15,36] (dM b 2) (vb3 ?_);have cZ:=Z7 g;refine vd8 c1 ?_ ?_ ?_ ?_<;>intros
   all_goals first
    | (exfalso;apply h;simp_all;done)
    | (simp_all;done)
    | (exfalso;omega)
   
  ·rw[if_pos hu];refine vb4 Tryz.func121 ?_;refine va2 [] [14,9,12,15] (vb3 ?_);refine va3 [] (K0 b o hc) (vb3 ?_);refine vc2 c2 ?_;intros;try exact va1
   all_goals first
    | (exfalso;apply h;simp_all;done)
    | (simp_all;done)
    | (exfalso;omega)
   
 ·have hc:B8 b=false:=by simpa using hc
  have c:=az b o hc;unfold dq;rw[if_neg (by rw[hc];decide)];refine pF Tryz.func121 ?_;conv=>whnf
  try exact vc1
  try rfl
def bj(x:D1)(n:Int):D1:=⟨x.author,x.j9,x.y7,n⟩
def mH(b:n9)(i:Nat):n9:=⟨b.keep,b.n5,b.j8.set i (bj (b.j8.getD i p9) 4),b.next,b.log⟩
theorem uz(b:n9)(hr:b.j8.length<2^20)(i:Nat)(hi:i<b.j8.length)(h3:(b.j8.getD i p9).state=3)(xa:∀ m,m<i->¬(b.j8.getD m p9).state=3):va7 175 [.ptr 0 0 0 0] (jy b) (.bool true) (jy (mH b i)):=by
 refine vb5 Tryz.func175 ?_;refine Or.inr ⟨Nat,[11],[],[],fun k=>[i64 k],fun _=>[],fun _=>[],fun k=>b.j8.length-k,fun k=>k<=i,vb3 ?_⟩;refine⟨⟨0,?_⟩,?_⟩
 ·(conv=>whnf);exact kK ⟨zB4 _,rfl,rfl,rfl⟩
 intro k hk;conv=>whnf
 refine⟨fun h=>?_,fun h=>absurd (zA0 h) va5⟩;have L4:k<b.j8.length:=by omega
 conv=>whnf
 refine⟨⟨va5,va5⟩,vb3 ?_⟩;refine⟨L4,vb3 ?_⟩;rw[show Int.toNat (k:Int)=k from rfl];refine⟨fun q=>?_,fun q=>?_⟩
 ·have q:=zA1 q;have e:k=i:=by
   by_cases e:k=i
   ·exact e
   ·exact absurd q (xa k va5)
  subst e;conv=>whnf
  refine⟨⟨va5,va5⟩,vb3 ?_⟩;refine⟨bj (b.j8.getD k p9) 4,⟨rfl,rfl,L4⟩,?_⟩;conv=>whnf
  try exact va1
 ·have q:=zA0 q;have e:¬k=i:=fun e=>q (e ▸ h3)
  refine⟨k+1,vb3 ?_⟩;refine kK ⟨⟨?_,?_⟩,?_,rfl,rfl⟩
  ·show b.j8.length-(k+1)<b.j8.length-k;omega
  ·show k+1<=i;omega
  ·rw[z5 _ va5 va5];rfl
theorem uA(b:n9)(hr:b.j8.length<2^20)(xa:∀ m,m<b.j8.length->¬(b.j8.getD m p9).state=3):va7 175 [.ptr 0 0 0 0] (jy b) (.bool false) (jy b):=by
 refine vb5 Tryz.func175 ?_;refine Or.inr ⟨Nat,[11],[],[],fun k=>[i64 k],fun _=>[],fun _=>[],fun k=>b.j8.length-k,fun k=>k<=b.j8.length,vb3 ?_⟩;refine⟨⟨0,?_⟩,?_⟩
 ·(conv=>whnf);exact kK ⟨zB4 _,rfl,rfl,rfl⟩
 intro k hk;conv=>whnf
 refine⟨fun h=>?_,fun h=>?_⟩
 ·have L4:k<b.j8.length:=by have:=zA1 h;omega
  conv=>whnf
  refine⟨⟨va5,va5⟩,vb3 ?_⟩;refine⟨L4,vb3 ?_⟩;rw[show Int.toNat (k:Int)=k from rfl];refine⟨fun q=>absurd (zA1 q) (xa k L4),fun q=>?_⟩;refine⟨k+1,vb3 ?_⟩;refine kK ⟨⟨?_,?_⟩,?_,rfl,rfl⟩
  ·show b.j8.length-(k+1)<b.j8.length-k;omega
  ·show k+1<=b.j8.length;omega
  ·rw[z5 _ va5 va5];rfl
 conv=>whnf
 try exact va1
def K7(x:D1):Bool:=decide (x.state=3)
def C6(l:List D1):Nat:=l.findIdx K7
theorem O1{l:List D1}(h:l.any K7=true):C6 l<l.length:=by
 obtain⟨x,hx,hp⟩:=List.any_eq_true.1 h;exact List.findIdx_lt_length_of_exists ⟨x,hx,hp⟩
theorem aJ{l:List D1}(h:l.any K7=true):(l.getD (C6 l) p9).state=3:=by
 have hl:=O1 h;have:=List.findIdx_getElem (p:=K7) (xs:=l) (w:=hl);simp only[List.getD,zA6 hl,Option.getD_some];exact zA1 this
theorem pZ{l:List D1}{m:Nat}(h:m<C6 l):¬(l.getD m p9).state=3:=by
 have hl:m<l.length:=zB5 h List.findIdx_le_length;have:=List.not_of_lt_findIdx h;simp only[List.getD,zA6 hl,Option.getD_some];intro q;simp[K7,q]at this
theorem NI{l:List D1}(h:¬l.any K7=true)(m:Nat)(hm:m<l.length):¬(l.getD m p9).state=3:=fun q=>h (List.any_eq_true.2 ⟨l[m],List.getElem_mem hm,by
 simp only[List.getD,zA6 hm,Option.getD_some]at q
 exact zA4 q⟩)
def du(b:n9)(k7:Int):Int :=
 if B8 b then(if ¬(0<=k7/\k7<=(b.n5.length:Int)-1)then 6 else if D6 [3] b.n5 k7=false then 100 else if ¬b.j8.any K7=true then 102 else 0)else 8
theorem CO(b:n9)(o:C8 b)(k7:Int)(h:du b k7=0):va7 124 [R5 b,i64 k7] [] (.tup [mF (mH b (C6 b.j8)),i64 0]) (mG (mH b (C6 b.j8))):=by
 have hc:B8 b=true:=by
  unfold du at h;split at h
  ·assumption
  ·cases h
 unfold du at h;rw[if_pos hc]at h;have hu:0<=k7/\k7<=(b.n5.length:Int)-1:=Decidable.byContradiction fun q=>by rw[if_pos q]at h;cases h
 rw[if_neg (show ¬¬(0<=k7/\k7<=(b.n5.length:Int)-1) from fun q=>q hu)]at h;have eT:D6 [3] b.n5 k7=true:=by
  cases e:D6 [3] b.n5 k7 with
  | true=>rfl
  | false=>rw[if_pos e]at h;cases h
 rw[if_neg (show ¬D6 [3] b.n5 k7=false by rw[eT];decide)]at h;have hg:b.j8.any K7=true:=Decidable.byContradiction fun q=>by rw[if_pos q]at h;cases h
 clear h;have s:=B0 hc;have c1:=fun u=>U9 b.keep b.next u b.n5 b.j8 b.log 3 (P1 o.u)
 have w0:IntKind.i64.wrap ((b.n5.length:Int)-1)=(b.n5.length:Int)-1:=z5 _ va5 va5;have c2:∀ u,va6 99 [i64 0,i64 (IntKind.i64.wrap ((b.n5.length:Int)-1)),i64 u] (.bool (decide (0<=u) && decide (u<=(b.n5.length:Int)-1))):=fun u=>by rw[w0];exact O4 0 _ u
 have r:=uz b o.r (C6 b.j8) (O1 hg) (aJ hg) (fun m hm=>pZ hm);refine vb5 Tryz.func124 ?_;refine va2 [] [10,8,11,12] (vb3 ?_);refine va3 [] (K0 b o hc) (vb3 ?_);refine vc2 c2 ?_;intros;refine ve4 ?_;intros;refine va2 [] [33,31] (vb3 ?_);refine va3 [10,8,11,12,32] (dM b 3) (vb3 ?_);refine vd4 c1 ?_;intros;refine va2 [] [] (vb3 ?_);refine va3 [10,8,11,12] r (vb3 ?_);refine vc4 ?_;intros;refine⟨[8,11,12],va4,vb3 ?_⟩;exact⟨rfl,rfl⟩
theorem An(b:n9)(o:C8 b)(k7:Int)(h:¬du b k7=0):va6 124 [R5 b,i64 k7] (.tup [dL 0,i64 (du b k7)]):=by
 by_cases hc:B8 b=true
 ·unfold du at h ⊢;rw[if_pos hc]at h ⊢;have s:=B0 hc;have c1:=fun u=>U9 b.keep b.next u b.n5 b.j8 b.log 3 (P1 o.u)
  have w0:IntKind.i64.wrap ((b.n5.length:Int)-1)=(b.n5.length:Int)-1:=z5 _ va5 va5;have c2:∀ u,va6 99 [i64 0,i64 (IntKind.i64.wrap ((b.n5.length:Int)-1)),i64 u] (.bool (decide (0<=u) && decide (u<=(b.n5.length:Int)-1))):=fun u=>by rw[w0];exact O4 0 _ u
  by_cases hu:0<=k7/\k7<=(b.n5.length:Int)-1
  ·rw[if_neg (show ¬¬(0<=k7/\k7<=(b.n5.length:Int)-1) from fun q=>q hu)]at h ⊢;by_cases eT:D6 [3] b.n5 k7=true
   ·rw[if_neg (show ¬D6 [3] b.n5 k7=false by rw[eT];decide)]at h ⊢;have hg:¬b.j8.any K7=true:=fun q=>h (if_neg (fun e=>e q))
    rw[if_pos hg];have r:=uA b o.r (fun m hm=>NI hg m hm);refine vb4 Tryz.func124 ?_;refine va2 [] [10,8,11,12] (vb3 ?_);refine va3 [] (K0 b o hc) (vb3 ?_);refine vc2 c2 ?_;intros;refine ve4 ?_;intros;refine va2 [] [33,31] (vb3 ?_);refine va3 [10,8,11,12,32] (dM b 3) (vb3 ?_);refine vd4 c1 ?_;intros;refine va2 [] [] (vb3 ?_);refine va3 [10,8,11,12] r ?_;conv=>whnf
    try exact vc5
    all_goals rfl
   ·have mV:D6 [3] b.n5 k7=false:=by simpa using eT
    rw[if_pos mV];refine vb4 Tryz.func124 ?_;refine va2 [] [10,8,11,12] (vb3 ?_);refine va3 [] (K0 b o hc) (vb3 ?_);refine vc2 c2 ?_;intros;refine ve4 ?_;intros;refine va2 [] [33,31] (vb3 ?_);refine va3 [10,8,11,12,32] (dM b 3) ?_;conv=>whnf
    try exact vd5 c1
    all_goals rfl
  ·rw[if_pos hu];refine vb4 Tryz.func124 ?_;refine va2 [] [10,8,11,12] (vb3 ?_);refine va3 [] (K0 b o hc) (vb3 ?_);refine vc2 c2 ?_;intros;try exact va1
   all_goals rfl
 ·have hc:B8 b=false:=by simpa using hc
  have c:=az b o hc;unfold du;rw[if_neg (by rw[hc];decide)];refine pF Tryz.func124 ?_;conv=>whnf
  try exact vc1
  try rfl
theorem uB(x:D1):va6 211 [rcp x] (.bool (K7 x)):=by
 refine pF Tryz.func211 ?_;conv=>whnf
 try rfl
def lA(l:List D1):Int:=if l.any K7 then C6 l else -1
theorem CP{l:List D1}{k:Nat}(hk:k<l.length)(h:K7 (l.getD k p9)=true)(xa:∀ m,m<k->K7 (l.getD m p9)=false):lA l=k:=by
 have ha:l.any K7=true:=List.any_eq_true.2 ⟨l.getD k p9,by simp only[List.getD,zA6 hk,Option.getD_some];exact List.getElem_mem hk,h⟩;unfold lA;rw[if_pos ha];have e:C6 l=k:=by
  have h1:=aJ ha;rcases Nat.lt_trichotomy (C6 l) k with h2|h2|h2
  ·exact absurd h1 (zA0 (xa _ h2))
  ·exact h2
  ·exact absurd (zA1 h) (pZ h2)
 rw[e]
theorem xR{l:List D1}(xa:∀ m,m<l.length->K7 (l.getD m p9)=false):lA l = -1:=by
 unfold lA;rw[if_neg];intro h;have h1:=aJ h;exact absurd h1 (zA0 (xa _ (O1 h)))
theorem NJ(l:List D1)(hl:l.length<2^40):va6 210 [uq l,.fn (.func 211) [] []] (i64 (lA l)):=by
 refine vb4 Tryz.func210 ?_;refine Or.inr ⟨Nat,[8],[],[],fun k=>[i64 k],fun _=>[],fun _=>[],fun k=>l.length-k,fun k=>k<=l.length/\∀ m,m<k->K7 (l.getD m p9)=false,vb3 ?_⟩;refine⟨⟨0,?_⟩,?_⟩
 ·(conv=>whnf);exact kK ⟨⟨zB4 _,fun i hi=>absurd hi (zB3 i)⟩,rfl,rfl,rfl⟩
 intro k hk;conv=>whnf
 refine⟨fun h=>?_,fun h=>?_⟩
 ·have h:=zA1 h;have L4:k<l.length:=by omega
  conv=>whnf
  refine⟨⟨va5,va5⟩,vb3 ?_⟩;rw[show Int.toNat (k:Int)=k from rfl];(repeat' (first|(refine⟨_,by exact uB _,?_⟩;(conv=>whnf))|(refine Or.inl ?_;(conv=>whnf);refine⟨_,by exact uB _,?_⟩;(conv=>whnf))|(refine Or.inl ?_;(conv=>whnf);refine⟨false,?_⟩;(conv=>whnf);refine⟨_,by exact uB _,?_⟩;(conv=>whnf))|(refine⟨va4,?_⟩;(conv=>whnf))|fail));refine⟨fun q=>?_,fun q=>?_⟩
  ·(conv=>whnf);exact congrArg i64 (CP L4 q hk.2).symm
  ·refine⟨k+1,vb3 ?_⟩;refine kK ⟨⟨?_,?_,?_⟩,?_,rfl,rfl⟩
   ·show l.length-(k+1)<l.length-k;omega
   ·omega
   ·intro m hm;by_cases e:m=k
    ·subst e;exact q
    ·exact hk.2 m va5
   ·rw[z5 _ va5 va5];rfl
 ·have h:=zA0 h;conv=>whnf
  exact congrArg i64 (xR fun m hm=>hk.2 m va5).symm
def CQ(b:n9):Int:=if B8 b then(if b.j8.any K7 then 0 else 102)else 8
def JD(b:n9):Int:=if B8 b then(if b.j8.any K7 then C6 b.j8 else 0)else 0
theorem xS(b:n9)(o:C8 b):va6 167 [R5 b] (.tup [i64 (JD b),i64 (CQ b)]):=by
 have c:=hC b o;have c2:=NJ b.j8 (P1 o.r);unfold JD CQ;by_cases hc:B8 b=true
 ·rw[if_pos hc]at c;rw[if_pos hc,if_pos hc];unfold lA at c2;by_cases ha:b.j8.any K7=true
  ·rw[if_pos ha]at c2;rw[if_pos ha,if_pos ha];refine pF Tryz.func167 ?_;conv=>whnf
   try exact vc1
   all_goals rfl
  ·rw[if_neg ha]at c2;rw[if_neg ha,if_neg ha];refine pF Tryz.func167 ?_;conv=>whnf
   try exact vc1
   all_goals rfl
 ·rw[if_neg hc]at c;rw[if_neg hc,if_neg hc];refine pF Tryz.func167 ?_;conv=>whnf
  try exact vc1
  all_goals rfl
theorem P3(b:n9)(o:C8 b)(u:Int):va6 99 [i64 0,i64 (IntKind.i64.wrap ((b.n5.length:Int)-1)),i64 u] (.bool (decide (0<=u) && decide (u<=(b.n5.length:Int)-1))):=by
 have:=o.u;rw[z5 _ va5 va5];exact O4 0 _ u
theorem oq(b:n9)(o:C8 b)(u:Int):va6 99 [i64 0,i64 (IntKind.i64.wrap ((b.j8.length:Int)-1)),i64 u] (.bool (decide (0<=u) && decide (u<=(b.j8.length:Int)-1))):=by
 have:=o.r;rw[z5 _ va5 va5];exact O4 0 _ u
def aK(b:n9)(k7 a7:Int):Prop:=(0<=k7/\k7<=(b.n5.length:Int)-1)/\(0<=a7/\a7<=(b.j8.length:Int)-1)
instance (b:n9)(k7 a7:Int):Decidable (aK b k7 a7):=by unfold aK;infer_instance
theorem T9(b:n9)(o:C8 b)(hc:B8 b=true)(k7 a7:Int)(h:aK b k7 a7):va7 172 [R5 b,i64 k7,i64 a7] [] (.tup [.ptr 0 0 0 0,.ptr 2 13 a7.toNat 0,i64 0]) (jy b):=by
 obtain⟨h1,h2⟩:=h;refine vb5 Tryz.func172 ?_;refine va2 [] [13,11,12,14] (vb3 ?_);refine va3 [] (K0 b o hc) (vb3 ?_);refine vc3 (P3 b o) (oq b o) ?_;intros;refine ve1 (P3 b o) (oq b o) ?_;intros;refine⟨[13,11,12,14],va4,vb3 ?_⟩;exact⟨rfl,rfl⟩
theorem qT(b:n9)(o:C8 b)(k7 a7:Int)(h:¬(B8 b=true/\aK b k7 a7)):va6 172 [R5 b,i64 k7,i64 a7] (.tup [.nilp,.nilp,i64 (if B8 b then 6 else 8)]):=by
 by_cases hc:B8 b=true
 ·have hn:¬aK b k7 a7:=fun q=>h ⟨hc,q⟩
  unfold aK at hn;rw[if_pos hc];refine vb4 Tryz.func172 ?_;refine va2 [] [13,11,12,14] (vb3 ?_);refine va3 [] (K0 b o hc) (vb3 ?_);refine vc3 (P3 b o) (oq b o) ?_;intros;try exact ve2 (P3 b o) (oq b o)
  all_goals (first|rfl|(exfalso;omega))
 ·have sY:B8 b=false:=by simpa using hc
  rw[if_neg hc];have c:=az b o sY;refine pF Tryz.func172 ?_;conv=>whnf
  try exact vc1
  try rfl
def UY(b:n9)(i:Nat)(n:Int):n9:=⟨b.keep,b.n5,b.j8.set i (bj (b.j8.getD i p9) n),b.next,b.log⟩
def bD(b:n9):n9:=if b.j8.any K7 then mH b (C6 b.j8)else b
def fK(b:n9)(a7:Int):n9:=UY (bD b) a7.toNat 3
def Z8(b:n9)(k7 a7:Int):Int :=
 if B8 b=true/\aK b k7 a7 then(if D6 [2] b.n5 k7=false then 100 else if ¬(b.j8.getD a7.toNat p9).state=2 then 101 else 0)else(if B8 b then 6 else 8)
theorem mI{b:n9}{k7 a7:Int}(h:Z8 b k7 a7=0):B8 b=true/\aK b k7 a7/\D6 [2] b.n5 k7=true/\(b.j8.getD a7.toNat p9).state=2:=by
 unfold Z8 at h;by_cases h1:B8 b=true/\aK b k7 a7
 ·rw[if_pos h1]at h;by_cases h2:D6 [2] b.n5 k7=false
  ·rw[if_pos h2]at h;cases h
  ·rw[if_neg h2]at h;by_cases h3:(b.j8.getD a7.toNat p9).state=2
   ·exact⟨h1.1,h1.2,by simpa using h2,h3⟩
   ·rw[if_pos h3]at h;cases h
 ·rw[if_neg h1]at h;split at h<;>cases h
theorem wv(b:n9)(o:C8 b)(k7 a7:Int)(h:Z8 b k7 a7=0):va7 123 [R5 b,i64 k7,i64 a7] [] (.tup [mF (fK b a7),i64 0]) (mG (fK b a7)):=by
 obtain⟨hc,hn,eT,h2⟩:=mI h;clear h;have s:=B0 hc;have c1:=fun u=>U9 b.keep b.next u b.n5 b.j8 b.log 2 (P1 o.u)
 have z8:a7.toNat<b.j8.length:=by have:=hn.2;omega
 have hi:0<=a7/\a7<(b.j8.length:Int):=by have:=hn.2;omega
 by_cases ha:b.j8.any K7=true
 ·have r:=uz b o.r (C6 b.j8) (O1 ha) (aJ ha) (fun m hm=>pZ hm);have e:fK b a7=UY (mH b (C6 b.j8)) a7.toNat 3:=by unfold fK bD;rw[if_pos ha]
  rw[e];have Lt:a7.toNat<(mH b (C6 b.j8)).j8.length:=by show a7.toNat<(b.j8.set _ _).length;rw[List.length_set];exact z8
  refine vb5 Tryz.func123 ?_;refine va2 [] [15,12,13,14] (vb3 ?_);refine va3 [] (T9 b o hc k7 a7 hn) (vb3 ?_);refine vc4 ?_;intros;refine va2 [] [27,25] (vb3 ?_);refine va3 [15,12,13,14,26] (dM b 2) (vb3 ?_);refine vd4 c1 ?_;intros;refine⟨z8,vb3 ?_⟩;refine ve4 ?_;intros;refine va2 [] [] (vb3 ?_);refine va3 [15,12,13,14] r (vb3 ?_);refine⟨bj ((mH b (C6 b.j8)).j8.getD a7.toNat p9) 3,⟨rfl,rfl,Lt⟩,vb3 ?_⟩;refine⟨[12,13,14],va4,vb3 ?_⟩;exact⟨rfl,rfl⟩
 ·have r:=uA b o.r (fun m hm=>NI ha m hm);have e:fK b a7=UY b a7.toNat 3:=by unfold fK bD;rw[if_neg ha]
  rw[e];have Lt:=z8;refine vb5 Tryz.func123 ?_;refine va2 [] [15,12,13,14] (vb3 ?_);refine va3 [] (T9 b o hc k7 a7 hn) (vb3 ?_);refine vc4 ?_;intros;refine va2 [] [27,25] (vb3 ?_);refine va3 [15,12,13,14,26] (dM b 2) (vb3 ?_);refine vd4 c1 ?_;intros;refine⟨z8,vb3 ?_⟩;refine ve4 ?_;intros;refine va2 [] [] (vb3 ?_);refine va3 [15,12,13,14] r (vb3 ?_);refine⟨bj ((b).j8.getD a7.toNat p9) 3,⟨rfl,rfl,Lt⟩,vb3 ?_⟩;refine⟨[12,13,14],va4,vb3 ?_⟩;exact⟨rfl,rfl⟩
theorem uC(b:n9)(o:C8 b)(k7 a7:Int)(h:¬Z8 b k7 a7=0):va6 123 [R5 b,i64 k7,i64 a7] (.tup [dL 0,i64 (Z8 b k7 a7)]):=by
 by_cases h1:B8 b=true/\aK b k7 a7
 ·unfold Z8 at h ⊢;rw[if_pos h1]at h ⊢;obtain⟨hc,hn⟩:=h1;have s:=B0 hc;have c1:=fun u=>U9 b.keep b.next u b.n5 b.j8 b.log 2 (P1 o.u)
  have z8:a7.toNat<b.j8.length:=by have:=hn.2;omega
  by_cases eT:D6 [2] b.n5 k7=false
  ·rw[if_pos eT];refine vb4 Tryz.func123 ?_;refine va2 [] [15,12,13,14] (vb3 ?_);refine va3 [] (T9 b o hc k7 a7 hn) (vb3 ?_);refine vc4 ?_;intros;refine va2 [] [27,25] (vb3 ?_);refine va3 [15,12,13,14,26] (dM b 2) ?_;conv=>whnf
   try exact vd5 c1
   all_goals rfl
  ·rw[if_neg eT]at h ⊢;have hmt:D6 [2] b.n5 k7=true:=by simpa using eT
   have h2:¬(b.j8.getD a7.toNat p9).state=2:=fun q=>h (if_neg (fun e=>e q))
   rw[if_pos h2];refine vb4 Tryz.func123 ?_;refine va2 [] [15,12,13,14] (vb3 ?_);refine va3 [] (T9 b o hc k7 a7 hn) (vb3 ?_);refine vc4 ?_;intros;refine va2 [] [27,25] (vb3 ?_);refine va3 [15,12,13,14,26] (dM b 2) (vb3 ?_);refine vd4 c1 ?_;intros;refine⟨z8,?_⟩;conv=>whnf
   try exact va1
   all_goals rfl
 ·have c:=qT b o k7 a7 h1;unfold Z8;rw[if_neg h1];by_cases hc:B8 b=true
  ·rw[if_pos hc]at c ⊢;refine pF Tryz.func123 ?_;conv=>whnf
   try exact vc1
   all_goals rfl
  ·rw[if_neg hc]at c ⊢;refine pF Tryz.func123 ?_;conv=>whnf
   try exact vc1
   all_goals rfl
def Z0{α:Type}(f:α->α)(d:α)(l:List α):Nat->List α
 | 0=>l
 | k+1=>(Z0 f d l k).set k (f ((Z0 f d l k).getD k d))
theorem R0{α:Type}(f:α->α)(d:α)(l:List α):∀ k,(Z0 f d l k).length=l.length
 | 0=>rfl
 | k+1=>by
  show((Z0 f d l k).set k _).length=_
  rw[List.length_set,R0 f d l k]
theorem aM{α:Type}{d y:α}{l:List α}{j:Nat}(h:j<l.length):(l.set j y).getD j d=y:=by
 rw[List.getD,List.getElem?_set_self h];rfl
theorem kj{α:Type}(f:α->α)(d:α)(l:List α):∀ k i,k<=i->(Z0 f d l k).getD i d=l.getD i d
 | 0,_,_=>rfl
 | k+1,i,h=>by
  show((Z0 f d l k).set k _).getD i d=_
  rw[List.getD,List.getElem?_set_ne va5];exact kj f d l k i va5
def spI(l:List Int)(m:Nat):List Int:=Z0 (fun _ => -7) 0 l m
def CR(x:A2)(m:Nat):A2:=⟨x.seq,x.recipe,x.part,spI x.n7 m,x.o5,x.disputed⟩

end Go.Proofs.Tryz.My
