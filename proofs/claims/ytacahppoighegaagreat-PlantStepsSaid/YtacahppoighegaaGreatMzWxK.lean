/- Helper lemmas. -/
import Derived.Test.YtacahppoighegaaGreatMzWaA
set_option linter.unusedVariables false
set_option linter.unusedSimpArgs false
set_option maxRecDepth 100000
set_option maxHeartbeats 0
namespace Go.Proofs.Tryz.My
open Go Go.Ev
theorem Yz{p:Prop}(h:p:=by(unfold K9 rD;simp only[zA2,zA9,zA3];first|omega|(refine⟨?_,Or.inl trivial⟩;omega)|(refine⟨?_,Or.inl rfl⟩;omega)|(simp;omega)|(simp_all;done)|(simp_all;omega)|(intro h;first|omega|(refine⟨?_,Or.inl trivial⟩;omega)|(refine⟨?_,Or.inl rfl⟩;omega)|(simp;omega)|(simp_all;done)|(simp_all;omega)))):p:=h
theorem Q8(o:B5)(ht:o.o8.length<2^40)(hn:o.a8.length<2^40)(hr:0<=o.n4/\o.n4<=255):va6 11 [ord o] (i64 (if K9 o=true then 0 else 2)):=by
 by_cases h:1<=o.kind/\o.kind<=10
 ·obtain⟨kind,k7,a7,n,n4,j9,o8,a8⟩:=o;simp only at h ht hn hr;have w1:IntKind.i64.wrap ((o8.length:Int)+a8.length)=(o8.length:Int)+a8.length:=z5 _ va5 va5;have w2:IntKind.i64.wrap n4=n4:=z5 _ va5 va5;have hk:kind=1∨kind=2∨kind=3∨kind=4∨kind=5∨kind=6∨kind=7∨kind=8∨kind=9∨kind=10:=by omega
  clear h;rcases hk with e|e|e|e|e|e|e|e|e|e<;>subst e
  all_goals
   refine vb4 Tryz.func11 ?_;(repeat' ((first|refine va0 (fun hh=>?_) fun hh=>?_|refine kR ?_|fail)<;>first|exact hh.elim|conv=>whnf));all_goals
    simp only[w1,w2]at *
    clear w1 w2;first
     | (rw[if_pos Yz];done)
     | (rw[if_neg Yz];done)
    
 ·have e:K9 o=false:=by
   unfold K9;rw[zA5 (fun q=>h q.1)];rfl
  rw[e];refine pF Tryz.func11 ?_;conv=>whnf
  try exact va1
theorem iw(l m:List Int)(hl:l.length<2^40)(Lp:m.length<2^40):va6 25 [A9 l,A9 m] (.bool (decide (l=m))):=by
 by_cases he:l.length=m.length
 ·refine vb4 Tryz.func25 ?_;refine ve4 ?_;intros;refine Or.inr ⟨Nat,[5],[],[],fun k=>[i64 k],fun _=>[],fun _=>[],fun k=>l.length-k,fun k=>k<=l.length/\∀ j,j<k->l.getD j 0=m.getD j 0,vb3 ?_⟩;refine⟨⟨0,?_⟩,?_⟩
  ·(conv=>whnf);exact kK ⟨⟨zB4 _,fun j hj=>absurd hj (zB3 j)⟩,rfl,rfl,rfl⟩
  rintro k ⟨hk,hn⟩;conv=>whnf
  refine⟨fun h=>?_,fun h=>?_⟩
  ·have h:=zA1 h;have L4:k<l.length:=by omega
   by_cases hq:l.getD (Int.toNat (k:Int)) 0=m.getD (Int.toNat (k:Int)) 0
   ·(conv=>whnf);refine vf2 ?_;intros;refine⟨k+1,vb3 ?_⟩;refine kK ⟨⟨?_,?_,fun j hj=>?_⟩,?_,rfl,rfl⟩
    ·show l.length-(k+1)<l.length-k;omega
    ·show k+1<=l.length;omega
    ·by_cases z:j=k
     ·subst z;exact hq
     ·exact hn j (by have hj:j<k+1:=hj;omega)
    ·rw[z5 _ va5 va5];rfl
   ·(conv=>whnf);refine vf2 ?_;intros;have V8:¬l=m:=fun e=>hq (by rw[e])
    rw[zA5 V8];all_goals rfl
  ·have h:=zA0 h;have ek:k=l.length:=by omega
   rw[ek]at hn;conv=>whnf
   have e:l=m:=by
    apply List.ext_getElem he;intro i h1 h2;have:=hn i h1;rw[List.getD,List.getD,zA6 h1,zA6 h2]at this;exact this
   rw[zA4 e];all_goals rfl
 ·refine vb4 Tryz.func25 ?_;refine ve4 ?_;intros;have V8:¬l=m:=fun e=>he (by rw[e])
  rw[zA5 V8];all_goals rfl
theorem I0(l:List Int)(hl:l.length<2^40):va6 25 [A9 l,.nils] (.bool (decide (l=[]))) :=
 (iw l [] hl va8).sub rfl (fun i hi=>by
  match i with
  | 0=>exact .refl _
  | 1=>exact tq.nils _ _ _
  | (n+2)=>exact .refl _) (.refl _)
theorem Kb(k7 a7 n n4:Int)(j9:v7)(o8 a8:List Int):va6 45 [ord ⟨1,k7,a7,n,n4,j9,o8,a8⟩] (.agg [u8 1,i64 0,i64 0,i64 n,u8 0,i64 0,i64 0,i64 0,i64 0,i64 0,i64 0,i64 0,i64 0,i64 0,i64 0,.nils,.nils]):=by
 refine pF Tryz.func45 ?_;conv=>whnf
 try exact va1
 all_goals rfl
theorem Vp(k7 a7 n n4:Int)(j9:v7)(o8 a8:List Int)(ht:o8.length<2^40)(hn:a8.length<2^40):va6 13 [ord ⟨1,k7,a7,n,n4,j9,o8,a8⟩,.agg [u8 1,i64 0,i64 0,i64 n,u8 0,i64 0,i64 0,i64 0,i64 0,i64 0,i64 0,i64 0,i64 0,i64 0,i64 0,.nils,.nils]] (.bool (K9 ⟨1,k7,a7,n,n4,j9,o8,a8⟩)):=by
 have c1:=I0 o8 ht;have c2:=I0 a8 hn;refine vb4 Tryz.func13 ?_;refine vd1 ?_ ?_ ?_ ?_ ?_ ?_<;>intros
 all_goals
  refine congrArg AV.bool ?_;rw[Bool.eq_iff_iff];unfold K9 rD;simp only[zA2,zA9,zA3,<- List.length_eq_zero_iff,zB0,Prod.ext_iff]at *
  clear c1 c2;first|omega|(simp_all;done)|(simp_all;omega)|(constructor<;>intro h<;>first|omega|(simp_all;done)|(simp_all;omega))
theorem Vq(k7 a7 n n4:Int)(j9:v7)(o8 a8:List Int)(ht:o8.length<2^40)(hn:a8.length<2^40):va6 21 [ord ⟨1,k7,a7,n,n4,j9,o8,a8⟩] (.bool (K9 ⟨1,k7,a7,n,n4,j9,o8,a8⟩)):=by
 have c1:=Kb k7 a7 n n4 j9 o8 a8;have c2:=Vp k7 a7 n n4 j9 o8 a8 ht hn;refine pF Tryz.func21 ?_;conv=>whnf
 try exact va1
 all_goals rfl
theorem Kc(k7 a7 n n4:Int)(j9:v7)(o8 a8:List Int):va6 45 [ord ⟨2,k7,a7,n,n4,j9,o8,a8⟩] (.agg [u8 2,i64 0,i64 0,i64 n,u8 0,i64 0,i64 0,i64 0,i64 0,i64 0,i64 0,i64 0,i64 0,i64 0,i64 0,A9 o8,A9 a8]):=by
 refine pF Tryz.func45 ?_;conv=>whnf
 try exact va1
 all_goals rfl
theorem Vr(k7 a7 n n4:Int)(j9:v7)(o8 a8:List Int)(ht:o8.length<2^40)(hn:a8.length<2^40):va6 13 [ord ⟨2,k7,a7,n,n4,j9,o8,a8⟩,.agg [u8 2,i64 0,i64 0,i64 n,u8 0,i64 0,i64 0,i64 0,i64 0,i64 0,i64 0,i64 0,i64 0,i64 0,i64 0,A9 o8,A9 a8]] (.bool (K9 ⟨2,k7,a7,n,n4,j9,o8,a8⟩)):=by
 have c1:=iw o8 o8 ht ht;have c2:=iw a8 a8 hn hn;refine vb4 Tryz.func13 ?_;refine vd0 ?_ ?_ ?_ ?_ ?_<;>intros
 all_goals
  refine congrArg AV.bool ?_;rw[Bool.eq_iff_iff];unfold K9 rD;simp only[zA2,zA9,zA3,<- List.length_eq_zero_iff,zB0,Prod.ext_iff]at *
  clear c1 c2;first|omega|(simp_all;done)|(simp_all;omega)|(constructor<;>intro h<;>first|omega|(simp_all;done)|(simp_all;omega))
theorem Vs(k7 a7 n n4:Int)(j9:v7)(o8 a8:List Int)(ht:o8.length<2^40)(hn:a8.length<2^40):va6 21 [ord ⟨2,k7,a7,n,n4,j9,o8,a8⟩] (.bool (K9 ⟨2,k7,a7,n,n4,j9,o8,a8⟩)):=by
 have c1:=Kc k7 a7 n n4 j9 o8 a8;have c2:=Vr k7 a7 n n4 j9 o8 a8 ht hn;refine pF Tryz.func21 ?_;conv=>whnf
 try exact va1
 all_goals rfl
theorem Kd(k7 a7 n n4:Int)(j9:v7)(o8 a8:List Int):va6 45 [ord ⟨3,k7,a7,n,n4,j9,o8,a8⟩] (.agg [u8 3,i64 0,i64 0,i64 0,u8 n4,i64 0,i64 0,i64 0,i64 0,i64 0,i64 0,i64 0,i64 0,i64 0,i64 0,.nils,.nils]):=by
 refine pF Tryz.func45 ?_;conv=>whnf
 try exact va1
 all_goals rfl
theorem Vt(k7 a7 n n4:Int)(j9:v7)(o8 a8:List Int)(ht:o8.length<2^40)(hn:a8.length<2^40):va6 13 [ord ⟨3,k7,a7,n,n4,j9,o8,a8⟩,.agg [u8 3,i64 0,i64 0,i64 0,u8 n4,i64 0,i64 0,i64 0,i64 0,i64 0,i64 0,i64 0,i64 0,i64 0,i64 0,.nils,.nils]] (.bool (K9 ⟨3,k7,a7,n,n4,j9,o8,a8⟩)):=by
 have c1:=I0 o8 ht;have c2:=I0 a8 hn;refine vb4 Tryz.func13 ?_;refine vd1 ?_ ?_ ?_ ?_ ?_ ?_<;>intros
 all_goals
  refine congrArg AV.bool ?_;rw[Bool.eq_iff_iff];unfold K9 rD;simp only[zA2,zA9,zA3,<- List.length_eq_zero_iff,zB0,Prod.ext_iff]at *
  clear c1 c2;first|omega|(simp_all;done)|(simp_all;omega)|(constructor<;>intro h<;>first|omega|(simp_all;done)|(simp_all;omega))
theorem Vu(k7 a7 n n4:Int)(j9:v7)(o8 a8:List Int)(ht:o8.length<2^40)(hn:a8.length<2^40):va6 21 [ord ⟨3,k7,a7,n,n4,j9,o8,a8⟩] (.bool (K9 ⟨3,k7,a7,n,n4,j9,o8,a8⟩)):=by
 have c1:=Kd k7 a7 n n4 j9 o8 a8;have c2:=Vt k7 a7 n n4 j9 o8 a8 ht hn;refine pF Tryz.func21 ?_;conv=>whnf
 try exact va1
 all_goals rfl
theorem Ke(k7 a7 n n4:Int)(j9:v7)(o8 a8:List Int):va6 45 [ord ⟨4,k7,a7,n,n4,j9,o8,a8⟩] (.agg [u8 4,i64 k7,i64 0,i64 0,u8 0,i64 (G2 j9),i64 (E7 j9),i64 ((I6 j9).1.1),i64 ((I6 j9).1.2),i64 ((I6 j9).2.1),i64 ((I6 j9).2.2),i64 j9.1.2.1,i64 j9.1.2.2,i64 j9.2.1,i64 j9.2.2,.nils,.nils]):=by
 refine pF Tryz.func45 ?_;conv=>whnf
 try exact va1
 all_goals rfl
theorem Vv(k7 a7 n n4:Int)(j9:v7)(o8 a8:List Int)(ht:o8.length<2^40)(hn:a8.length<2^40):va6 13 [ord ⟨4,k7,a7,n,n4,j9,o8,a8⟩,.agg [u8 4,i64 k7,i64 0,i64 0,u8 0,i64 (G2 j9),i64 (E7 j9),i64 ((I6 j9).1.1),i64 ((I6 j9).1.2),i64 ((I6 j9).2.1),i64 ((I6 j9).2.2),i64 j9.1.2.1,i64 j9.1.2.2,i64 j9.2.1,i64 j9.2.2,.nils,.nils]] (.bool (K9 ⟨4,k7,a7,n,n4,j9,o8,a8⟩)):=by
 have c1:=I0 o8 ht;have c2:=I0 a8 hn;refine vb4 Tryz.func13 ?_;refine vd0 ?_ ?_ ?_ ?_ ?_<;>intros
 all_goals
  refine congrArg AV.bool ?_;rw[Bool.eq_iff_iff];unfold K9 rD;simp only[zA2,zA9,zA3,<- List.length_eq_zero_iff,zB0,Prod.ext_iff]at *
  clear c1 c2;first|omega|(simp_all;done)|(simp_all;omega)|(constructor<;>intro h<;>first|omega|(simp_all;done)|(simp_all;omega))
theorem Vw(k7 a7 n n4:Int)(j9:v7)(o8 a8:List Int)(ht:o8.length<2^40)(hn:a8.length<2^40):va6 21 [ord ⟨4,k7,a7,n,n4,j9,o8,a8⟩] (.bool (K9 ⟨4,k7,a7,n,n4,j9,o8,a8⟩)):=by
 have c1:=Ke k7 a7 n n4 j9 o8 a8;have c2:=Vv k7 a7 n n4 j9 o8 a8 ht hn;refine pF Tryz.func21 ?_;conv=>whnf
 try exact va1
 all_goals rfl
theorem Kf(k7 a7 n n4:Int)(j9:v7)(o8 a8:List Int):va6 45 [ord ⟨5,k7,a7,n,n4,j9,o8,a8⟩] (.agg [u8 5,i64 k7,i64 a7,i64 0,u8 0,i64 0,i64 0,i64 0,i64 0,i64 0,i64 0,i64 0,i64 0,i64 0,i64 0,.nils,.nils]):=by
 refine pF Tryz.func45 ?_;conv=>whnf
 try exact va1
 all_goals rfl
theorem Vx(k7 a7 n n4:Int)(j9:v7)(o8 a8:List Int)(ht:o8.length<2^40)(hn:a8.length<2^40):va6 13 [ord ⟨5,k7,a7,n,n4,j9,o8,a8⟩,.agg [u8 5,i64 k7,i64 a7,i64 0,u8 0,i64 0,i64 0,i64 0,i64 0,i64 0,i64 0,i64 0,i64 0,i64 0,i64 0,.nils,.nils]] (.bool (K9 ⟨5,k7,a7,n,n4,j9,o8,a8⟩)):=by
 have c1:=I0 o8 ht;have c2:=I0 a8 hn;refine vb4 Tryz.func13 ?_;refine vd0 ?_ ?_ ?_ ?_ ?_<;>intros
 all_goals
  refine congrArg AV.bool ?_;rw[Bool.eq_iff_iff];unfold K9 rD;simp only[zA2,zA9,zA3,<- List.length_eq_zero_iff,zB0,Prod.ext_iff]at *
  clear c1 c2;first|omega|(simp_all;done)|(simp_all;omega)|(constructor<;>intro h<;>first|omega|(simp_all;done)|(simp_all;omega))
theorem Vy(k7 a7 n n4:Int)(j9:v7)(o8 a8:List Int)(ht:o8.length<2^40)(hn:a8.length<2^40):va6 21 [ord ⟨5,k7,a7,n,n4,j9,o8,a8⟩] (.bool (K9 ⟨5,k7,a7,n,n4,j9,o8,a8⟩)):=by
 have c1:=Kf k7 a7 n n4 j9 o8 a8;have c2:=Vx k7 a7 n n4 j9 o8 a8 ht hn;refine pF Tryz.func21 ?_;conv=>whnf
 try exact va1
 all_goals rfl
theorem Kg(k7 a7 n n4:Int)(j9:v7)(o8 a8:List Int):va6 45 [ord ⟨6,k7,a7,n,n4,j9,o8,a8⟩] (.agg [u8 6,i64 k7,i64 a7,i64 0,u8 0,i64 0,i64 0,i64 0,i64 0,i64 0,i64 0,i64 0,i64 0,i64 0,i64 0,.nils,.nils]):=by
 refine pF Tryz.func45 ?_;conv=>whnf
 try exact va1
 all_goals rfl
theorem Vz(k7 a7 n n4:Int)(j9:v7)(o8 a8:List Int)(ht:o8.length<2^40)(hn:a8.length<2^40):va6 13 [ord ⟨6,k7,a7,n,n4,j9,o8,a8⟩,.agg [u8 6,i64 k7,i64 a7,i64 0,u8 0,i64 0,i64 0,i64 0,i64 0,i64 0,i64 0,i64 0,i64 0,i64 0,i64 0,.nils,.nils]] (.bool (K9 ⟨6,k7,a7,n,n4,j9,o8,a8⟩)):=by
 have c1:=I0 o8 ht;have c2:=I0 a8 hn;refine vb4 Tryz.func13 ?_;refine vd0 ?_ ?_ ?_ ?_ ?_<;>intros
 all_goals
  refine congrArg AV.bool ?_;rw[Bool.eq_iff_iff];unfold K9 rD;simp only[zA2,zA9,zA3,<- List.length_eq_zero_iff,zB0,Prod.ext_iff]at *
  clear c1 c2;first|omega|(simp_all;done)|(simp_all;omega)|(constructor<;>intro h<;>first|omega|(simp_all;done)|(simp_all;omega))
theorem VA(k7 a7 n n4:Int)(j9:v7)(o8 a8:List Int)(ht:o8.length<2^40)(hn:a8.length<2^40):va6 21 [ord ⟨6,k7,a7,n,n4,j9,o8,a8⟩] (.bool (K9 ⟨6,k7,a7,n,n4,j9,o8,a8⟩)):=by
 have c1:=Kg k7 a7 n n4 j9 o8 a8;have c2:=Vz k7 a7 n n4 j9 o8 a8 ht hn;refine pF Tryz.func21 ?_;conv=>whnf
 try exact va1
 all_goals rfl
theorem Kh(k7 a7 n n4:Int)(j9:v7)(o8 a8:List Int):va6 45 [ord ⟨7,k7,a7,n,n4,j9,o8,a8⟩] (.agg [u8 7,i64 k7,i64 0,i64 0,u8 0,i64 0,i64 0,i64 0,i64 0,i64 0,i64 0,i64 0,i64 0,i64 0,i64 0,.nils,.nils]):=by
 refine pF Tryz.func45 ?_;conv=>whnf
 try exact va1
 all_goals rfl
theorem VB(k7 a7 n n4:Int)(j9:v7)(o8 a8:List Int)(ht:o8.length<2^40)(hn:a8.length<2^40):va6 13 [ord ⟨7,k7,a7,n,n4,j9,o8,a8⟩,.agg [u8 7,i64 k7,i64 0,i64 0,u8 0,i64 0,i64 0,i64 0,i64 0,i64 0,i64 0,i64 0,i64 0,i64 0,i64 0,.nils,.nils]] (.bool (K9 ⟨7,k7,a7,n,n4,j9,o8,a8⟩)):=by
 have c1:=I0 o8 ht;have c2:=I0 a8 hn;refine vb4 Tryz.func13 ?_;refine vd1 ?_ ?_ ?_ ?_ ?_ ?_<;>intros
 all_goals
  refine congrArg AV.bool ?_;rw[Bool.eq_iff_iff];unfold K9 rD;simp only[zA2,zA9,zA3,<- List.length_eq_zero_iff,zB0,Prod.ext_iff]at *
  clear c1 c2;first|omega|(simp_all;done)|(simp_all;omega)|(constructor<;>intro h<;>first|omega|(simp_all;done)|(simp_all;omega))
theorem VC(k7 a7 n n4:Int)(j9:v7)(o8 a8:List Int)(ht:o8.length<2^40)(hn:a8.length<2^40):va6 21 [ord ⟨7,k7,a7,n,n4,j9,o8,a8⟩] (.bool (K9 ⟨7,k7,a7,n,n4,j9,o8,a8⟩)):=by
 have c1:=Kh k7 a7 n n4 j9 o8 a8;have c2:=VB k7 a7 n n4 j9 o8 a8 ht hn;refine pF Tryz.func21 ?_;conv=>whnf
 try exact va1
 all_goals rfl
theorem Ki(k7 a7 n n4:Int)(j9:v7)(o8 a8:List Int):va6 45 [ord ⟨8,k7,a7,n,n4,j9,o8,a8⟩] (.agg [u8 8,i64 k7,i64 a7,i64 0,u8 0,i64 0,i64 0,i64 0,i64 0,i64 0,i64 0,i64 0,i64 0,i64 0,i64 0,.nils,.nils]):=by
 refine pF Tryz.func45 ?_;conv=>whnf
 try exact va1
 all_goals rfl
theorem VD(k7 a7 n n4:Int)(j9:v7)(o8 a8:List Int)(ht:o8.length<2^40)(hn:a8.length<2^40):va6 13 [ord ⟨8,k7,a7,n,n4,j9,o8,a8⟩,.agg [u8 8,i64 k7,i64 a7,i64 0,u8 0,i64 0,i64 0,i64 0,i64 0,i64 0,i64 0,i64 0,i64 0,i64 0,i64 0,.nils,.nils]] (.bool (K9 ⟨8,k7,a7,n,n4,j9,o8,a8⟩)):=by
 have c1:=I0 o8 ht;have c2:=I0 a8 hn;refine vb4 Tryz.func13 ?_;refine vd0 ?_ ?_ ?_ ?_ ?_<;>intros
 all_goals
  refine congrArg AV.bool ?_;rw[Bool.eq_iff_iff];unfold K9 rD;simp only[zA2,zA9,zA3,<- List.length_eq_zero_iff,zB0,Prod.ext_iff]at *
  clear c1 c2;first|omega|(simp_all;done)|(simp_all;omega)|(constructor<;>intro h<;>first|omega|(simp_all;done)|(simp_all;omega))
theorem VE(k7 a7 n n4:Int)(j9:v7)(o8 a8:List Int)(ht:o8.length<2^40)(hn:a8.length<2^40):va6 21 [ord ⟨8,k7,a7,n,n4,j9,o8,a8⟩] (.bool (K9 ⟨8,k7,a7,n,n4,j9,o8,a8⟩)):=by
 have c1:=Ki k7 a7 n n4 j9 o8 a8;have c2:=VD k7 a7 n n4 j9 o8 a8 ht hn;refine pF Tryz.func21 ?_;conv=>whnf
 try exact va1
 all_goals rfl
theorem Kj(k7 a7 n n4:Int)(j9:v7)(o8 a8:List Int):va6 45 [ord ⟨9,k7,a7,n,n4,j9,o8,a8⟩] (.agg [u8 9,i64 k7,i64 a7,i64 0,u8 0,i64 0,i64 0,i64 0,i64 0,i64 0,i64 0,i64 0,i64 0,i64 0,i64 0,.nils,.nils]):=by
 refine pF Tryz.func45 ?_;conv=>whnf
 try exact va1
 all_goals rfl
theorem VF(k7 a7 n n4:Int)(j9:v7)(o8 a8:List Int)(ht:o8.length<2^40)(hn:a8.length<2^40):va6 13 [ord ⟨9,k7,a7,n,n4,j9,o8,a8⟩,.agg [u8 9,i64 k7,i64 a7,i64 0,u8 0,i64 0,i64 0,i64 0,i64 0,i64 0,i64 0,i64 0,i64 0,i64 0,i64 0,.nils,.nils]] (.bool (K9 ⟨9,k7,a7,n,n4,j9,o8,a8⟩)):=by
 have c1:=I0 o8 ht;have c2:=I0 a8 hn;refine vb4 Tryz.func13 ?_;refine vd0 ?_ ?_ ?_ ?_ ?_<;>intros
 all_goals
  refine congrArg AV.bool ?_;rw[Bool.eq_iff_iff];unfold K9 rD;simp only[zA2,zA9,zA3,<- List.length_eq_zero_iff,zB0,Prod.ext_iff]at *
  clear c1 c2;first|omega|(simp_all;done)|(simp_all;omega)|(constructor<;>intro h<;>first|omega|(simp_all;done)|(simp_all;omega))
theorem VG(k7 a7 n n4:Int)(j9:v7)(o8 a8:List Int)(ht:o8.length<2^40)(hn:a8.length<2^40):va6 21 [ord ⟨9,k7,a7,n,n4,j9,o8,a8⟩] (.bool (K9 ⟨9,k7,a7,n,n4,j9,o8,a8⟩)):=by
 have c1:=Kj k7 a7 n n4 j9 o8 a8;have c2:=VF k7 a7 n n4 j9 o8 a8 ht hn;refine pF Tryz.func21 ?_;conv=>whnf
 try exact va1
 all_goals rfl
theorem FP(k7 a7 n n4:Int)(j9:v7)(o8 a8:List Int):va6 45 [ord ⟨10,k7,a7,n,n4,j9,o8,a8⟩] (.agg [u8 10,i64 k7,i64 0,i64 0,u8 0,i64 0,i64 0,i64 0,i64 0,i64 0,i64 0,i64 0,i64 0,i64 0,i64 0,.nils,.nils]):=by
 refine pF Tryz.func45 ?_;conv=>whnf
 try exact va1
 all_goals rfl
theorem Rz(k7 a7 n n4:Int)(j9:v7)(o8 a8:List Int)(ht:o8.length<2^40)(hn:a8.length<2^40):va6 13 [ord ⟨10,k7,a7,n,n4,j9,o8,a8⟩,.agg [u8 10,i64 k7,i64 0,i64 0,u8 0,i64 0,i64 0,i64 0,i64 0,i64 0,i64 0,i64 0,i64 0,i64 0,i64 0,.nils,.nils]] (.bool (K9 ⟨10,k7,a7,n,n4,j9,o8,a8⟩)):=by
 have c1:=I0 o8 ht;have c2:=I0 a8 hn;refine vb4 Tryz.func13 ?_;refine vd1 ?_ ?_ ?_ ?_ ?_ ?_<;>intros
 all_goals
  refine congrArg AV.bool ?_;rw[Bool.eq_iff_iff];unfold K9 rD;simp only[zA2,zA9,zA3,<- List.length_eq_zero_iff,zB0,Prod.ext_iff]at *
  clear c1 c2;first|omega|(simp_all;done)|(simp_all;omega)|(constructor<;>intro h<;>first|omega|(simp_all;done)|(simp_all;omega))
theorem RA(k7 a7 n n4:Int)(j9:v7)(o8 a8:List Int)(ht:o8.length<2^40)(hn:a8.length<2^40):va6 21 [ord ⟨10,k7,a7,n,n4,j9,o8,a8⟩] (.bool (K9 ⟨10,k7,a7,n,n4,j9,o8,a8⟩)):=by
 have c1:=FP k7 a7 n n4 j9 o8 a8;have c2:=Rz k7 a7 n n4 j9 o8 a8 ht hn;refine pF Tryz.func21 ?_;conv=>whnf
 try exact va1
 all_goals rfl
theorem Kk(o:B5)(h:¬(1<=o.kind/\o.kind<=10)):va6 21 [ord o] (.bool (K9 o)):=by
 have e:K9 o=false:=by
  unfold K9;rw[zA5 (fun q=>h q.1)];rfl
 rw[e];refine pF Tryz.func21 ?_;conv=>whnf
 try exact va1
 all_goals rfl
theorem gB(o:B5)(ht:o.o8.length<2^40)(hn:o.a8.length<2^40):va6 21 [ord o] (.bool (K9 o)):=by
 by_cases h:1<=o.kind/\o.kind<=10
 ·obtain⟨kind,k7,a7,n,n4,j9,o8,a8⟩:=o;simp only at h ht hn;have hk:kind=1∨kind=2∨kind=3∨kind=4∨kind=5∨kind=6∨kind=7∨kind=8∨kind=9∨kind=10:=by omega
  rcases hk with e|e|e|e|e|e|e|e|e|e<;>subst e
  ·exact Vq k7 a7 n n4 j9 o8 a8 ht hn
  ·exact Vs k7 a7 n n4 j9 o8 a8 ht hn
  ·exact Vu k7 a7 n n4 j9 o8 a8 ht hn
  ·exact Vw k7 a7 n n4 j9 o8 a8 ht hn
  ·exact Vy k7 a7 n n4 j9 o8 a8 ht hn
  ·exact VA k7 a7 n n4 j9 o8 a8 ht hn
  ·exact VC k7 a7 n n4 j9 o8 a8 ht hn
  ·exact VE k7 a7 n n4 j9 o8 a8 ht hn
  ·exact VG k7 a7 n n4 j9 o8 a8 ht hn
  ·exact RA k7 a7 n n4 j9 o8 a8 ht hn
 ·exact Kk o h
theorem rK(o:B5)(ht:o.o8.length<2^40)(hn:o.a8.length<2^40):va6 12 [ord o] (i64 (if K9 o=true then 0 else 2)):=by
 have c:=gB o ht hn;refine vb4 Tryz.func12 ?_;cases h:K9 o
 ·rw[h]at c;try exact va1
 ·rw[h]at c;try exact va1

end Go.Proofs.Tryz.My
