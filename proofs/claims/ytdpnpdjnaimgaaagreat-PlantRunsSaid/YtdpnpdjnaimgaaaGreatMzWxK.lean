/- Helper lemmas. -/
import Derived.Test.YtdpnpdjnaimgaaaGreatMzWaA
set_option linter.unusedVariables false
set_option linter.unusedSimpArgs false
set_option maxRecDepth 100000
set_option maxHeartbeats 0
namespace Go.Proofs.Tryz.My
open Go Go.Ev
theorem oy(l m:List Int)(hl:l.length<2^40)(IF:m.length<2^40):va6 42 [C8 l,C8 m] (.bool (decide (l=m))):=by
 by_cases he:l.length=m.length
 ·refine pF Tryz.func42 ?_;conv=>whnf
  refine vb8 ?_;(repeat intro hh);refine Or.inr ⟨Nat,[5],[],[],fun k=>[i64 k],fun _=>[],fun _=>[],fun k=>l.length-k,fun k=>k<=l.length/\∀ j,j<k->l.getD j 0=m.getD j 0,?_⟩;conv=>whnf
  refine⟨⟨0,?_⟩,?_⟩
  ·(conv=>whnf);exact kK ⟨⟨zB4 _,fun j hj=>absurd hj (zB3 j)⟩,rfl,rfl,rfl⟩
  rintro k ⟨hk,hn⟩;conv=>whnf
  refine⟨fun h=>?_,fun h=>?_⟩
  ·have h:=zA1 h;have L7:k<l.length:=by omega
   by_cases hq:l.getD (Int.toNat (k:Int)) 0=m.getD (Int.toNat (k:Int)) 0
   ·(conv=>whnf);refine vc0 ?_;(repeat intro hh);refine⟨k+1,?_⟩;conv=>whnf
    refine kK ⟨⟨?_,?_,fun j hj=>?_⟩,?_,rfl,rfl⟩
    ·show l.length-(k+1)<l.length-k;omega
    ·show k+1<=l.length;omega
    ·by_cases z:j=k
     ·subst z;exact hq
     ·exact hn j (by have hj:j<k+1:=hj;omega)
    ·rw[C7 _ va5 va5];rfl
   ·(conv=>whnf);refine vc0 ?_;(repeat intro hh);have aW:¬l=m:=fun e=>hq (by rw[e])
    rw[zA5 aW];all_goals rfl
  ·have h:=zA0 h;have ek:k=l.length:=by omega
   rw[ek]at hn;conv=>whnf
   have e:l=m:=by
    apply List.ext_getElem he;intro i h1 h2;have:=hn i h1;rw[List.getD,List.getD,zA6 h1,zA6 h2]at this;exact this
   rw[zA4 e];all_goals rfl
 ·refine pF Tryz.func42 ?_;conv=>whnf
  refine vb8 ?_;(repeat intro hh);have aW:¬l=m:=fun e=>he (by rw[e])
  rw[zA5 aW];all_goals rfl
theorem H7(l:List Int)(hl:l.length<2^40):va6 42 [C8 l,.nils] (.bool (decide (l=[]))) :=
 (oy l [] hl va8).sub rfl (fun i hi=>by
  match i with
  | 0=>exact .refl _
  | 1=>exact pV.nils _ _ _
  | (n+2)=>exact .refl _) (.refl _)
theorem HA(j8 a7 n j9:Int)(gauge:x8)(tru a8:List Int):va6 133 [ord ⟨1,j8,a7,n,j9,gauge,tru,a8⟩] (.agg [u8 1,i64 0,i64 0,i64 n,u8 0,i64 0,i64 0,i64 0,i64 0,i64 0,i64 0,i64 0,i64 0,i64 0,i64 0,.nils,.nils]):=by
 refine pF Tryz.func133 ?_;conv=>whnf
 try exact va1
 all_goals rfl
theorem RI(j8 a7 n j9:Int)(gauge:x8)(tru a8:List Int)(ht:tru.length<2^40)(hn:a8.length<2^40):va6 31 [ord ⟨1,j8,a7,n,j9,gauge,tru,a8⟩,.agg [u8 1,i64 0,i64 0,i64 n,u8 0,i64 0,i64 0,i64 0,i64 0,i64 0,i64 0,i64 0,i64 0,i64 0,i64 0,.nils,.nils]] (.bool (B2 ⟨1,j8,a7,n,j9,gauge,tru,a8⟩)):=by
 have c1:=H7 tru ht;have c2:=H7 a8 hn;refine pF Tryz.func31 ?_;conv=>whnf
 (repeat' ((first|refine va0 (fun hh=>?_) fun hh=>?_|refine kR ?_|((try refine .inl ?_;conv=>whnf);(try refine⟨false,?_⟩;conv=>whnf);refine⟨_,by assumption,?_⟩)|fail)<;>first|exact hh.elim|conv=>whnf));all_goals
  refine congrArg AV.bool ?_;rw[Bool.eq_iff_iff];unfold B2 Z5;simp only[zA2,zA9,zA3,<- List.length_eq_zero_iff,zB0,Prod.ext_iff]at *
  clear c1 c2;first|omega|(simp_all;done)|(simp_all;omega)|(constructor<;>intro h<;>first|omega|(simp_all;done)|(simp_all;omega))
theorem RJ(j8 a7 n j9:Int)(gauge:x8)(tru a8:List Int)(ht:tru.length<2^40)(hn:a8.length<2^40):va6 80 [ord ⟨1,j8,a7,n,j9,gauge,tru,a8⟩] (.bool (B2 ⟨1,j8,a7,n,j9,gauge,tru,a8⟩)):=by
 have c1:=HA j8 a7 n j9 gauge tru a8;have c2:=RI j8 a7 n j9 gauge tru a8 ht hn;refine pF Tryz.func80 ?_;conv=>whnf
 try exact va1
 all_goals rfl
theorem HB(j8 a7 n j9:Int)(gauge:x8)(tru a8:List Int):va6 133 [ord ⟨2,j8,a7,n,j9,gauge,tru,a8⟩] (.agg [u8 2,i64 0,i64 0,i64 n,u8 0,i64 0,i64 0,i64 0,i64 0,i64 0,i64 0,i64 0,i64 0,i64 0,i64 0,C8 tru,C8 a8]):=by
 refine pF Tryz.func133 ?_;conv=>whnf
 try exact va1
 all_goals rfl
theorem RK(j8 a7 n j9:Int)(gauge:x8)(tru a8:List Int)(ht:tru.length<2^40)(hn:a8.length<2^40):va6 31 [ord ⟨2,j8,a7,n,j9,gauge,tru,a8⟩,.agg [u8 2,i64 0,i64 0,i64 n,u8 0,i64 0,i64 0,i64 0,i64 0,i64 0,i64 0,i64 0,i64 0,i64 0,i64 0,C8 tru,C8 a8]] (.bool (B2 ⟨2,j8,a7,n,j9,gauge,tru,a8⟩)):=by
 have c1:=oy tru tru ht ht;have c2:=oy a8 a8 hn hn;refine pF Tryz.func31 ?_;conv=>whnf
 (repeat' ((first|refine va0 (fun hh=>?_) fun hh=>?_|refine kR ?_|((try refine .inl ?_;conv=>whnf);(try refine⟨false,?_⟩;conv=>whnf);refine⟨_,by assumption,?_⟩)|fail)<;>first|exact hh.elim|conv=>whnf));all_goals
  refine congrArg AV.bool ?_;rw[Bool.eq_iff_iff];unfold B2 Z5;simp only[zA2,zA9,zA3,<- List.length_eq_zero_iff,zB0,Prod.ext_iff]at *
  clear c1 c2;first|omega|(simp_all;done)|(simp_all;omega)|(constructor<;>intro h<;>first|omega|(simp_all;done)|(simp_all;omega))
theorem RL(j8 a7 n j9:Int)(gauge:x8)(tru a8:List Int)(ht:tru.length<2^40)(hn:a8.length<2^40):va6 80 [ord ⟨2,j8,a7,n,j9,gauge,tru,a8⟩] (.bool (B2 ⟨2,j8,a7,n,j9,gauge,tru,a8⟩)):=by
 have c1:=HB j8 a7 n j9 gauge tru a8;have c2:=RK j8 a7 n j9 gauge tru a8 ht hn;refine pF Tryz.func80 ?_;conv=>whnf
 try exact va1
 all_goals rfl
theorem HC(j8 a7 n j9:Int)(gauge:x8)(tru a8:List Int):va6 133 [ord ⟨3,j8,a7,n,j9,gauge,tru,a8⟩] (.agg [u8 3,i64 0,i64 0,i64 0,u8 j9,i64 0,i64 0,i64 0,i64 0,i64 0,i64 0,i64 0,i64 0,i64 0,i64 0,.nils,.nils]):=by
 refine pF Tryz.func133 ?_;conv=>whnf
 try exact va1
 all_goals rfl
theorem RM(j8 a7 n j9:Int)(gauge:x8)(tru a8:List Int)(ht:tru.length<2^40)(hn:a8.length<2^40):va6 31 [ord ⟨3,j8,a7,n,j9,gauge,tru,a8⟩,.agg [u8 3,i64 0,i64 0,i64 0,u8 j9,i64 0,i64 0,i64 0,i64 0,i64 0,i64 0,i64 0,i64 0,i64 0,i64 0,.nils,.nils]] (.bool (B2 ⟨3,j8,a7,n,j9,gauge,tru,a8⟩)):=by
 have c1:=H7 tru ht;have c2:=H7 a8 hn;refine pF Tryz.func31 ?_;conv=>whnf
 (repeat' ((first|refine va0 (fun hh=>?_) fun hh=>?_|refine kR ?_|((try refine .inl ?_;conv=>whnf);(try refine⟨false,?_⟩;conv=>whnf);refine⟨_,by assumption,?_⟩)|fail)<;>first|exact hh.elim|conv=>whnf));all_goals
  refine congrArg AV.bool ?_;rw[Bool.eq_iff_iff];unfold B2 Z5;simp only[zA2,zA9,zA3,<- List.length_eq_zero_iff,zB0,Prod.ext_iff]at *
  clear c1 c2;first|omega|(simp_all;done)|(simp_all;omega)|(constructor<;>intro h<;>first|omega|(simp_all;done)|(simp_all;omega))
theorem RN(j8 a7 n j9:Int)(gauge:x8)(tru a8:List Int)(ht:tru.length<2^40)(hn:a8.length<2^40):va6 80 [ord ⟨3,j8,a7,n,j9,gauge,tru,a8⟩] (.bool (B2 ⟨3,j8,a7,n,j9,gauge,tru,a8⟩)):=by
 have c1:=HC j8 a7 n j9 gauge tru a8;have c2:=RM j8 a7 n j9 gauge tru a8 ht hn;refine pF Tryz.func80 ?_;conv=>whnf
 try exact va1
 all_goals rfl
theorem HD(j8 a7 n j9:Int)(gauge:x8)(tru a8:List Int):va6 133 [ord ⟨4,j8,a7,n,j9,gauge,tru,a8⟩] (.agg [u8 4,i64 j8,i64 0,i64 0,u8 0,i64 (H8 gauge),i64 (D9 gauge),i64 ((J5 gauge).1.1),i64 ((J5 gauge).1.2),i64 ((J5 gauge).2.1),i64 ((J5 gauge).2.2),i64 gauge.1.2.1,i64 gauge.1.2.2,i64 gauge.2.1,i64 gauge.2.2,.nils,.nils]):=by
 refine pF Tryz.func133 ?_;conv=>whnf
 try exact va1
 all_goals rfl
theorem RO(j8 a7 n j9:Int)(gauge:x8)(tru a8:List Int)(ht:tru.length<2^40)(hn:a8.length<2^40):va6 31 [ord ⟨4,j8,a7,n,j9,gauge,tru,a8⟩,.agg [u8 4,i64 j8,i64 0,i64 0,u8 0,i64 (H8 gauge),i64 (D9 gauge),i64 ((J5 gauge).1.1),i64 ((J5 gauge).1.2),i64 ((J5 gauge).2.1),i64 ((J5 gauge).2.2),i64 gauge.1.2.1,i64 gauge.1.2.2,i64 gauge.2.1,i64 gauge.2.2,.nils,.nils]] (.bool (B2 ⟨4,j8,a7,n,j9,gauge,tru,a8⟩)):=by
 have c1:=H7 tru ht;have c2:=H7 a8 hn;refine pF Tryz.func31 ?_;conv=>whnf
 (repeat' ((first|refine va0 (fun hh=>?_) fun hh=>?_|refine kR ?_|((try refine .inl ?_;conv=>whnf);(try refine⟨false,?_⟩;conv=>whnf);refine⟨_,by assumption,?_⟩)|fail)<;>first|exact hh.elim|conv=>whnf));all_goals
  refine congrArg AV.bool ?_;rw[Bool.eq_iff_iff];unfold B2 Z5;simp only[zA2,zA9,zA3,<- List.length_eq_zero_iff,zB0,Prod.ext_iff]at *
  clear c1 c2;first|omega|(simp_all;done)|(simp_all;omega)|(constructor<;>intro h<;>first|omega|(simp_all;done)|(simp_all;omega))
theorem RP(j8 a7 n j9:Int)(gauge:x8)(tru a8:List Int)(ht:tru.length<2^40)(hn:a8.length<2^40):va6 80 [ord ⟨4,j8,a7,n,j9,gauge,tru,a8⟩] (.bool (B2 ⟨4,j8,a7,n,j9,gauge,tru,a8⟩)):=by
 have c1:=HD j8 a7 n j9 gauge tru a8;have c2:=RO j8 a7 n j9 gauge tru a8 ht hn;refine pF Tryz.func80 ?_;conv=>whnf
 try exact va1
 all_goals rfl
theorem HE(j8 a7 n j9:Int)(gauge:x8)(tru a8:List Int):va6 133 [ord ⟨5,j8,a7,n,j9,gauge,tru,a8⟩] (.agg [u8 5,i64 j8,i64 a7,i64 0,u8 0,i64 0,i64 0,i64 0,i64 0,i64 0,i64 0,i64 0,i64 0,i64 0,i64 0,.nils,.nils]):=by
 refine pF Tryz.func133 ?_;conv=>whnf
 try exact va1
 all_goals rfl
theorem RQ(j8 a7 n j9:Int)(gauge:x8)(tru a8:List Int)(ht:tru.length<2^40)(hn:a8.length<2^40):va6 31 [ord ⟨5,j8,a7,n,j9,gauge,tru,a8⟩,.agg [u8 5,i64 j8,i64 a7,i64 0,u8 0,i64 0,i64 0,i64 0,i64 0,i64 0,i64 0,i64 0,i64 0,i64 0,i64 0,.nils,.nils]] (.bool (B2 ⟨5,j8,a7,n,j9,gauge,tru,a8⟩)):=by
 have c1:=H7 tru ht;have c2:=H7 a8 hn;refine pF Tryz.func31 ?_;conv=>whnf
 (repeat' ((first|refine va0 (fun hh=>?_) fun hh=>?_|refine kR ?_|((try refine .inl ?_;conv=>whnf);(try refine⟨false,?_⟩;conv=>whnf);refine⟨_,by assumption,?_⟩)|fail)<;>first|exact hh.elim|conv=>whnf));all_goals
  refine congrArg AV.bool ?_;rw[Bool.eq_iff_iff];unfold B2 Z5;simp only[zA2,zA9,zA3,<- List.length_eq_zero_iff,zB0,Prod.ext_iff]at *
  clear c1 c2;first|omega|(simp_all;done)|(simp_all;omega)|(constructor<;>intro h<;>first|omega|(simp_all;done)|(simp_all;omega))
theorem RR(j8 a7 n j9:Int)(gauge:x8)(tru a8:List Int)(ht:tru.length<2^40)(hn:a8.length<2^40):va6 80 [ord ⟨5,j8,a7,n,j9,gauge,tru,a8⟩] (.bool (B2 ⟨5,j8,a7,n,j9,gauge,tru,a8⟩)):=by
 have c1:=HE j8 a7 n j9 gauge tru a8;have c2:=RQ j8 a7 n j9 gauge tru a8 ht hn;refine pF Tryz.func80 ?_;conv=>whnf
 try exact va1
 all_goals rfl
theorem HF(j8 a7 n j9:Int)(gauge:x8)(tru a8:List Int):va6 133 [ord ⟨6,j8,a7,n,j9,gauge,tru,a8⟩] (.agg [u8 6,i64 j8,i64 a7,i64 0,u8 0,i64 0,i64 0,i64 0,i64 0,i64 0,i64 0,i64 0,i64 0,i64 0,i64 0,.nils,.nils]):=by
 refine pF Tryz.func133 ?_;conv=>whnf
 try exact va1
 all_goals rfl
theorem RS(j8 a7 n j9:Int)(gauge:x8)(tru a8:List Int)(ht:tru.length<2^40)(hn:a8.length<2^40):va6 31 [ord ⟨6,j8,a7,n,j9,gauge,tru,a8⟩,.agg [u8 6,i64 j8,i64 a7,i64 0,u8 0,i64 0,i64 0,i64 0,i64 0,i64 0,i64 0,i64 0,i64 0,i64 0,i64 0,.nils,.nils]] (.bool (B2 ⟨6,j8,a7,n,j9,gauge,tru,a8⟩)):=by
 have c1:=H7 tru ht;have c2:=H7 a8 hn;refine pF Tryz.func31 ?_;conv=>whnf
 (repeat' ((first|refine va0 (fun hh=>?_) fun hh=>?_|refine kR ?_|((try refine .inl ?_;conv=>whnf);(try refine⟨false,?_⟩;conv=>whnf);refine⟨_,by assumption,?_⟩)|fail)<;>first|exact hh.elim|conv=>whnf));all_goals
  refine congrArg AV.bool ?_;rw[Bool.eq_iff_iff];unfold B2 Z5;simp only[zA2,zA9,zA3,<- List.length_eq_zero_iff,zB0,Prod.ext_iff]at *
  clear c1 c2;first|omega|(simp_all;done)|(simp_all;omega)|(constructor<;>intro h<;>first|omega|(simp_all;done)|(simp_all;omega))
theorem RT(j8 a7 n j9:Int)(gauge:x8)(tru a8:List Int)(ht:tru.length<2^40)(hn:a8.length<2^40):va6 80 [ord ⟨6,j8,a7,n,j9,gauge,tru,a8⟩] (.bool (B2 ⟨6,j8,a7,n,j9,gauge,tru,a8⟩)):=by
 have c1:=HF j8 a7 n j9 gauge tru a8;have c2:=RS j8 a7 n j9 gauge tru a8 ht hn;refine pF Tryz.func80 ?_;conv=>whnf
 try exact va1
 all_goals rfl
theorem HG(j8 a7 n j9:Int)(gauge:x8)(tru a8:List Int):va6 133 [ord ⟨7,j8,a7,n,j9,gauge,tru,a8⟩] (.agg [u8 7,i64 j8,i64 0,i64 0,u8 0,i64 0,i64 0,i64 0,i64 0,i64 0,i64 0,i64 0,i64 0,i64 0,i64 0,.nils,.nils]):=by
 refine pF Tryz.func133 ?_;conv=>whnf
 try exact va1
 all_goals rfl
theorem RU(j8 a7 n j9:Int)(gauge:x8)(tru a8:List Int)(ht:tru.length<2^40)(hn:a8.length<2^40):va6 31 [ord ⟨7,j8,a7,n,j9,gauge,tru,a8⟩,.agg [u8 7,i64 j8,i64 0,i64 0,u8 0,i64 0,i64 0,i64 0,i64 0,i64 0,i64 0,i64 0,i64 0,i64 0,i64 0,.nils,.nils]] (.bool (B2 ⟨7,j8,a7,n,j9,gauge,tru,a8⟩)):=by
 have c1:=H7 tru ht;have c2:=H7 a8 hn;refine pF Tryz.func31 ?_;conv=>whnf
 (repeat' ((first|refine va0 (fun hh=>?_) fun hh=>?_|refine kR ?_|((try refine .inl ?_;conv=>whnf);(try refine⟨false,?_⟩;conv=>whnf);refine⟨_,by assumption,?_⟩)|fail)<;>first|exact hh.elim|conv=>whnf));all_goals
  refine congrArg AV.bool ?_;rw[Bool.eq_iff_iff];unfold B2 Z5;simp only[zA2,zA9,zA3,<- List.length_eq_zero_iff,zB0,Prod.ext_iff]at *
  clear c1 c2;first|omega|(simp_all;done)|(simp_all;omega)|(constructor<;>intro h<;>first|omega|(simp_all;done)|(simp_all;omega))
theorem RV(j8 a7 n j9:Int)(gauge:x8)(tru a8:List Int)(ht:tru.length<2^40)(hn:a8.length<2^40):va6 80 [ord ⟨7,j8,a7,n,j9,gauge,tru,a8⟩] (.bool (B2 ⟨7,j8,a7,n,j9,gauge,tru,a8⟩)):=by
 have c1:=HG j8 a7 n j9 gauge tru a8;have c2:=RU j8 a7 n j9 gauge tru a8 ht hn;refine pF Tryz.func80 ?_;conv=>whnf
 try exact va1
 all_goals rfl
theorem HH(j8 a7 n j9:Int)(gauge:x8)(tru a8:List Int):va6 133 [ord ⟨8,j8,a7,n,j9,gauge,tru,a8⟩] (.agg [u8 8,i64 j8,i64 a7,i64 0,u8 0,i64 0,i64 0,i64 0,i64 0,i64 0,i64 0,i64 0,i64 0,i64 0,i64 0,.nils,.nils]):=by
 refine pF Tryz.func133 ?_;conv=>whnf
 try exact va1
 all_goals rfl
theorem RW(j8 a7 n j9:Int)(gauge:x8)(tru a8:List Int)(ht:tru.length<2^40)(hn:a8.length<2^40):va6 31 [ord ⟨8,j8,a7,n,j9,gauge,tru,a8⟩,.agg [u8 8,i64 j8,i64 a7,i64 0,u8 0,i64 0,i64 0,i64 0,i64 0,i64 0,i64 0,i64 0,i64 0,i64 0,i64 0,.nils,.nils]] (.bool (B2 ⟨8,j8,a7,n,j9,gauge,tru,a8⟩)):=by
 have c1:=H7 tru ht;have c2:=H7 a8 hn;refine pF Tryz.func31 ?_;conv=>whnf
 (repeat' ((first|refine va0 (fun hh=>?_) fun hh=>?_|refine kR ?_|((try refine .inl ?_;conv=>whnf);(try refine⟨false,?_⟩;conv=>whnf);refine⟨_,by assumption,?_⟩)|fail)<;>first|exact hh.elim|conv=>whnf));all_goals
  refine congrArg AV.bool ?_;rw[Bool.eq_iff_iff];unfold B2 Z5;simp only[zA2,zA9,zA3,<- List.length_eq_zero_iff,zB0,Prod.ext_iff]at *
  clear c1 c2;first|omega|(simp_all;done)|(simp_all;omega)|(constructor<;>intro h<;>first|omega|(simp_all;done)|(simp_all;omega))
theorem RX(j8 a7 n j9:Int)(gauge:x8)(tru a8:List Int)(ht:tru.length<2^40)(hn:a8.length<2^40):va6 80 [ord ⟨8,j8,a7,n,j9,gauge,tru,a8⟩] (.bool (B2 ⟨8,j8,a7,n,j9,gauge,tru,a8⟩)):=by
 have c1:=HH j8 a7 n j9 gauge tru a8;have c2:=RW j8 a7 n j9 gauge tru a8 ht hn;refine pF Tryz.func80 ?_;conv=>whnf
 try exact va1
 all_goals rfl
theorem HI(j8 a7 n j9:Int)(gauge:x8)(tru a8:List Int):va6 133 [ord ⟨9,j8,a7,n,j9,gauge,tru,a8⟩] (.agg [u8 9,i64 j8,i64 a7,i64 0,u8 0,i64 0,i64 0,i64 0,i64 0,i64 0,i64 0,i64 0,i64 0,i64 0,i64 0,.nils,.nils]):=by
 refine pF Tryz.func133 ?_;conv=>whnf
 try exact va1
 all_goals rfl
theorem RY(j8 a7 n j9:Int)(gauge:x8)(tru a8:List Int)(ht:tru.length<2^40)(hn:a8.length<2^40):va6 31 [ord ⟨9,j8,a7,n,j9,gauge,tru,a8⟩,.agg [u8 9,i64 j8,i64 a7,i64 0,u8 0,i64 0,i64 0,i64 0,i64 0,i64 0,i64 0,i64 0,i64 0,i64 0,i64 0,.nils,.nils]] (.bool (B2 ⟨9,j8,a7,n,j9,gauge,tru,a8⟩)):=by
 have c1:=H7 tru ht;have c2:=H7 a8 hn;refine pF Tryz.func31 ?_;conv=>whnf
 (repeat' ((first|refine va0 (fun hh=>?_) fun hh=>?_|refine kR ?_|((try refine .inl ?_;conv=>whnf);(try refine⟨false,?_⟩;conv=>whnf);refine⟨_,by assumption,?_⟩)|fail)<;>first|exact hh.elim|conv=>whnf));all_goals
  refine congrArg AV.bool ?_;rw[Bool.eq_iff_iff];unfold B2 Z5;simp only[zA2,zA9,zA3,<- List.length_eq_zero_iff,zB0,Prod.ext_iff]at *
  clear c1 c2;first|omega|(simp_all;done)|(simp_all;omega)|(constructor<;>intro h<;>first|omega|(simp_all;done)|(simp_all;omega))
theorem RZ(j8 a7 n j9:Int)(gauge:x8)(tru a8:List Int)(ht:tru.length<2^40)(hn:a8.length<2^40):va6 80 [ord ⟨9,j8,a7,n,j9,gauge,tru,a8⟩] (.bool (B2 ⟨9,j8,a7,n,j9,gauge,tru,a8⟩)):=by
 have c1:=HI j8 a7 n j9 gauge tru a8;have c2:=RY j8 a7 n j9 gauge tru a8 ht hn;refine pF Tryz.func80 ?_;conv=>whnf
 try exact va1
 all_goals rfl
theorem DC(j8 a7 n j9:Int)(gauge:x8)(tru a8:List Int):va6 133 [ord ⟨10,j8,a7,n,j9,gauge,tru,a8⟩] (.agg [u8 10,i64 j8,i64 0,i64 0,u8 0,i64 0,i64 0,i64 0,i64 0,i64 0,i64 0,i64 0,i64 0,i64 0,i64 0,.nils,.nils]):=by
 refine pF Tryz.func133 ?_;conv=>whnf
 try exact va1
 all_goals rfl
theorem Ou(j8 a7 n j9:Int)(gauge:x8)(tru a8:List Int)(ht:tru.length<2^40)(hn:a8.length<2^40):va6 31 [ord ⟨10,j8,a7,n,j9,gauge,tru,a8⟩,.agg [u8 10,i64 j8,i64 0,i64 0,u8 0,i64 0,i64 0,i64 0,i64 0,i64 0,i64 0,i64 0,i64 0,i64 0,i64 0,.nils,.nils]] (.bool (B2 ⟨10,j8,a7,n,j9,gauge,tru,a8⟩)):=by
 have c1:=H7 tru ht;have c2:=H7 a8 hn;refine pF Tryz.func31 ?_;conv=>whnf
 (repeat' ((first|refine va0 (fun hh=>?_) fun hh=>?_|refine kR ?_|((try refine .inl ?_;conv=>whnf);(try refine⟨false,?_⟩;conv=>whnf);refine⟨_,by assumption,?_⟩)|fail)<;>first|exact hh.elim|conv=>whnf));all_goals
  refine congrArg AV.bool ?_;rw[Bool.eq_iff_iff];unfold B2 Z5;simp only[zA2,zA9,zA3,<- List.length_eq_zero_iff,zB0,Prod.ext_iff]at *
  clear c1 c2;first|omega|(simp_all;done)|(simp_all;omega)|(constructor<;>intro h<;>first|omega|(simp_all;done)|(simp_all;omega))
theorem Ov(j8 a7 n j9:Int)(gauge:x8)(tru a8:List Int)(ht:tru.length<2^40)(hn:a8.length<2^40):va6 80 [ord ⟨10,j8,a7,n,j9,gauge,tru,a8⟩] (.bool (B2 ⟨10,j8,a7,n,j9,gauge,tru,a8⟩)):=by
 have c1:=DC j8 a7 n j9 gauge tru a8;have c2:=Ou j8 a7 n j9 gauge tru a8 ht hn;refine pF Tryz.func80 ?_;conv=>whnf
 try exact va1
 all_goals rfl
theorem HJ(o:r8)(h:¬(1<=o.kind/\o.kind<=10)):va6 80 [ord o] (.bool (B2 o)):=by
 have e:B2 o=false:=by
  unfold B2;rw[zA5 (fun q=>h q.1)];rfl
 rw[e];refine pF Tryz.func80 ?_;conv=>whnf
 try exact va1
 all_goals rfl
theorem ug(o:r8)(ht:o.tru.length<2^40)(hn:o.a8.length<2^40):va6 80 [ord o] (.bool (B2 o)):=by
 by_cases h:1<=o.kind/\o.kind<=10
 ·obtain⟨kind,j8,a7,n,j9,gauge,tru,a8⟩:=o;simp only at h ht hn;have hk:kind=1∨kind=2∨kind=3∨kind=4∨kind=5∨kind=6∨kind=7∨kind=8∨kind=9∨kind=10:=by omega
  rcases hk with e|e|e|e|e|e|e|e|e|e<;>subst e
  ·exact RJ j8 a7 n j9 gauge tru a8 ht hn
  ·exact RL j8 a7 n j9 gauge tru a8 ht hn
  ·exact RN j8 a7 n j9 gauge tru a8 ht hn
  ·exact RP j8 a7 n j9 gauge tru a8 ht hn
  ·exact RR j8 a7 n j9 gauge tru a8 ht hn
  ·exact RT j8 a7 n j9 gauge tru a8 ht hn
  ·exact RV j8 a7 n j9 gauge tru a8 ht hn
  ·exact RX j8 a7 n j9 gauge tru a8 ht hn
  ·exact RZ j8 a7 n j9 gauge tru a8 ht hn
  ·exact Ov j8 a7 n j9 gauge tru a8 ht hn
 ·exact HJ o h
theorem Rz(j8 a7 n j9:Int)(gauge:x8)(tru a8:List Int)(ht:tru.length<2^40)(hn:a8.length<2^40)(hr:0<=j9/\j9<=255):va6 29 [ord ⟨1,j8,a7,n,j9,gauge,tru,a8⟩] (i64 (if B2 ⟨1,j8,a7,n,j9,gauge,tru,a8⟩=true then 0 else 2)):=by
 have w1:IntKind.i64.wrap ((tru.length:Int)+a8.length)=(tru.length:Int)+a8.length:=C7 _ va5 va5;have w2:IntKind.i64.wrap j9=j9:=C7 _ va5 va5;refine pF Tryz.func29 ?_;conv=>whnf
 (repeat' ((first|refine va0 (fun hh=>?_) fun hh=>?_|refine kR ?_|fail)<;>first|exact hh.elim|conv=>whnf));all_goals
  simp only[w1,w2]at *
  clear w1 w2;first
   | (rw[if_pos (by unfold B2 Z5;simp only[zA2,zA9,zA3];first|omega|(refine⟨?_,Or.inl trivial⟩;omega)|(refine⟨?_,Or.inl rfl⟩;omega)|(simp;omega)|(simp_all;done)|(simp_all;omega)|(intro h;first|omega|(refine⟨?_,Or.inl trivial⟩;omega)|(refine⟨?_,Or.inl rfl⟩;omega)|(simp;omega)|(simp_all;done)|(simp_all;omega)))];done)
   | (rw[if_neg (by unfold B2 Z5;simp only[zA2,zA9,zA3];first|omega|(refine⟨?_,Or.inl trivial⟩;omega)|(refine⟨?_,Or.inl rfl⟩;omega)|(simp;omega)|(simp_all;done)|(simp_all;omega)|(intro h;first|omega|(refine⟨?_,Or.inl trivial⟩;omega)|(refine⟨?_,Or.inl rfl⟩;omega)|(simp;omega)|(simp_all;done)|(simp_all;omega)))];done)
  
theorem RA(j8 a7 n j9:Int)(gauge:x8)(tru a8:List Int)(ht:tru.length<2^40)(hn:a8.length<2^40)(hr:0<=j9/\j9<=255):va6 29 [ord ⟨2,j8,a7,n,j9,gauge,tru,a8⟩] (i64 (if B2 ⟨2,j8,a7,n,j9,gauge,tru,a8⟩=true then 0 else 2)):=by
 have w1:IntKind.i64.wrap ((tru.length:Int)+a8.length)=(tru.length:Int)+a8.length:=C7 _ va5 va5;have w2:IntKind.i64.wrap j9=j9:=C7 _ va5 va5;refine pF Tryz.func29 ?_;conv=>whnf
 (repeat' ((first|refine va0 (fun hh=>?_) fun hh=>?_|refine kR ?_|fail)<;>first|exact hh.elim|conv=>whnf));all_goals
  simp only[w1,w2]at *
  clear w1 w2;first
   | (rw[if_pos (by unfold B2 Z5;simp only[zA2,zA9,zA3];first|omega|(refine⟨?_,Or.inl trivial⟩;omega)|(refine⟨?_,Or.inl rfl⟩;omega)|(simp;omega)|(simp_all;done)|(simp_all;omega)|(intro h;first|omega|(refine⟨?_,Or.inl trivial⟩;omega)|(refine⟨?_,Or.inl rfl⟩;omega)|(simp;omega)|(simp_all;done)|(simp_all;omega)))];done)
   | (rw[if_neg (by unfold B2 Z5;simp only[zA2,zA9,zA3];first|omega|(refine⟨?_,Or.inl trivial⟩;omega)|(refine⟨?_,Or.inl rfl⟩;omega)|(simp;omega)|(simp_all;done)|(simp_all;omega)|(intro h;first|omega|(refine⟨?_,Or.inl trivial⟩;omega)|(refine⟨?_,Or.inl rfl⟩;omega)|(simp;omega)|(simp_all;done)|(simp_all;omega)))];done)
  
theorem RB(j8 a7 n j9:Int)(gauge:x8)(tru a8:List Int)(ht:tru.length<2^40)(hn:a8.length<2^40)(hr:0<=j9/\j9<=255):va6 29 [ord ⟨3,j8,a7,n,j9,gauge,tru,a8⟩] (i64 (if B2 ⟨3,j8,a7,n,j9,gauge,tru,a8⟩=true then 0 else 2)):=by
 have w1:IntKind.i64.wrap ((tru.length:Int)+a8.length)=(tru.length:Int)+a8.length:=C7 _ va5 va5;have w2:IntKind.i64.wrap j9=j9:=C7 _ va5 va5;refine pF Tryz.func29 ?_;conv=>whnf
 (repeat' ((first|refine va0 (fun hh=>?_) fun hh=>?_|refine kR ?_|fail)<;>first|exact hh.elim|conv=>whnf));all_goals
  simp only[w1,w2]at *
  clear w1 w2;first
   | (rw[if_pos (by unfold B2 Z5;simp only[zA2,zA9,zA3];first|omega|(refine⟨?_,Or.inl trivial⟩;omega)|(refine⟨?_,Or.inl rfl⟩;omega)|(simp;omega)|(simp_all;done)|(simp_all;omega)|(intro h;first|omega|(refine⟨?_,Or.inl trivial⟩;omega)|(refine⟨?_,Or.inl rfl⟩;omega)|(simp;omega)|(simp_all;done)|(simp_all;omega)))];done)
   | (rw[if_neg (by unfold B2 Z5;simp only[zA2,zA9,zA3];first|omega|(refine⟨?_,Or.inl trivial⟩;omega)|(refine⟨?_,Or.inl rfl⟩;omega)|(simp;omega)|(simp_all;done)|(simp_all;omega)|(intro h;first|omega|(refine⟨?_,Or.inl trivial⟩;omega)|(refine⟨?_,Or.inl rfl⟩;omega)|(simp;omega)|(simp_all;done)|(simp_all;omega)))];done)
  
theorem RC(j8 a7 n j9:Int)(gauge:x8)(tru a8:List Int)(ht:tru.length<2^40)(hn:a8.length<2^40)(hr:0<=j9/\j9<=255):va6 29 [ord ⟨4,j8,a7,n,j9,gauge,tru,a8⟩] (i64 (if B2 ⟨4,j8,a7,n,j9,gauge,tru,a8⟩=true then 0 else 2)):=by
 have w1:IntKind.i64.wrap ((tru.length:Int)+a8.length)=(tru.length:Int)+a8.length:=C7 _ va5 va5;have w2:IntKind.i64.wrap j9=j9:=C7 _ va5 va5;refine pF Tryz.func29 ?_;conv=>whnf
 (repeat' ((first|refine va0 (fun hh=>?_) fun hh=>?_|refine kR ?_|fail)<;>first|exact hh.elim|conv=>whnf));all_goals
  simp only[w1,w2]at *
  clear w1 w2;first
   | (rw[if_pos (by unfold B2 Z5;simp only[zA2,zA9,zA3];first|omega|(refine⟨?_,Or.inl trivial⟩;omega)|(refine⟨?_,Or.inl rfl⟩;omega)|(simp;omega)|(simp_all;done)|(simp_all;omega)|(intro h;first|omega|(refine⟨?_,Or.inl trivial⟩;omega)|(refine⟨?_,Or.inl rfl⟩;omega)|(simp;omega)|(simp_all;done)|(simp_all;omega)))];done)
   | (rw[if_neg (by unfold B2 Z5;simp only[zA2,zA9,zA3];first|omega|(refine⟨?_,Or.inl trivial⟩;omega)|(refine⟨?_,Or.inl rfl⟩;omega)|(simp;omega)|(simp_all;done)|(simp_all;omega)|(intro h;first|omega|(refine⟨?_,Or.inl trivial⟩;omega)|(refine⟨?_,Or.inl rfl⟩;omega)|(simp;omega)|(simp_all;done)|(simp_all;omega)))];done)
  
theorem RD(j8 a7 n j9:Int)(gauge:x8)(tru a8:List Int)(ht:tru.length<2^40)(hn:a8.length<2^40)(hr:0<=j9/\j9<=255):va6 29 [ord ⟨5,j8,a7,n,j9,gauge,tru,a8⟩] (i64 (if B2 ⟨5,j8,a7,n,j9,gauge,tru,a8⟩=true then 0 else 2)):=by
 have w1:IntKind.i64.wrap ((tru.length:Int)+a8.length)=(tru.length:Int)+a8.length:=C7 _ va5 va5;have w2:IntKind.i64.wrap j9=j9:=C7 _ va5 va5;refine pF Tryz.func29 ?_;conv=>whnf
 (repeat' ((first|refine va0 (fun hh=>?_) fun hh=>?_|refine kR ?_|fail)<;>first|exact hh.elim|conv=>whnf));all_goals
  simp only[w1,w2]at *
  clear w1 w2;first
   | (rw[if_pos (by unfold B2 Z5;simp only[zA2,zA9,zA3];first|omega|(refine⟨?_,Or.inl trivial⟩;omega)|(refine⟨?_,Or.inl rfl⟩;omega)|(simp;omega)|(simp_all;done)|(simp_all;omega)|(intro h;first|omega|(refine⟨?_,Or.inl trivial⟩;omega)|(refine⟨?_,Or.inl rfl⟩;omega)|(simp;omega)|(simp_all;done)|(simp_all;omega)))];done)
   | (rw[if_neg (by unfold B2 Z5;simp only[zA2,zA9,zA3];first|omega|(refine⟨?_,Or.inl trivial⟩;omega)|(refine⟨?_,Or.inl rfl⟩;omega)|(simp;omega)|(simp_all;done)|(simp_all;omega)|(intro h;first|omega|(refine⟨?_,Or.inl trivial⟩;omega)|(refine⟨?_,Or.inl rfl⟩;omega)|(simp;omega)|(simp_all;done)|(simp_all;omega)))];done)
  
theorem RE(j8 a7 n j9:Int)(gauge:x8)(tru a8:List Int)(ht:tru.length<2^40)(hn:a8.length<2^40)(hr:0<=j9/\j9<=255):va6 29 [ord ⟨6,j8,a7,n,j9,gauge,tru,a8⟩] (i64 (if B2 ⟨6,j8,a7,n,j9,gauge,tru,a8⟩=true then 0 else 2)):=by
 have w1:IntKind.i64.wrap ((tru.length:Int)+a8.length)=(tru.length:Int)+a8.length:=C7 _ va5 va5;have w2:IntKind.i64.wrap j9=j9:=C7 _ va5 va5;refine pF Tryz.func29 ?_;conv=>whnf
 (repeat' ((first|refine va0 (fun hh=>?_) fun hh=>?_|refine kR ?_|fail)<;>first|exact hh.elim|conv=>whnf));all_goals
  simp only[w1,w2]at *
  clear w1 w2;first
   | (rw[if_pos (by unfold B2 Z5;simp only[zA2,zA9,zA3];first|omega|(refine⟨?_,Or.inl trivial⟩;omega)|(refine⟨?_,Or.inl rfl⟩;omega)|(simp;omega)|(simp_all;done)|(simp_all;omega)|(intro h;first|omega|(refine⟨?_,Or.inl trivial⟩;omega)|(refine⟨?_,Or.inl rfl⟩;omega)|(simp;omega)|(simp_all;done)|(simp_all;omega)))];done)
   | (rw[if_neg (by unfold B2 Z5;simp only[zA2,zA9,zA3];first|omega|(refine⟨?_,Or.inl trivial⟩;omega)|(refine⟨?_,Or.inl rfl⟩;omega)|(simp;omega)|(simp_all;done)|(simp_all;omega)|(intro h;first|omega|(refine⟨?_,Or.inl trivial⟩;omega)|(refine⟨?_,Or.inl rfl⟩;omega)|(simp;omega)|(simp_all;done)|(simp_all;omega)))];done)
  
theorem RF(j8 a7 n j9:Int)(gauge:x8)(tru a8:List Int)(ht:tru.length<2^40)(hn:a8.length<2^40)(hr:0<=j9/\j9<=255):va6 29 [ord ⟨7,j8,a7,n,j9,gauge,tru,a8⟩] (i64 (if B2 ⟨7,j8,a7,n,j9,gauge,tru,a8⟩=true then 0 else 2)):=by
 have w1:IntKind.i64.wrap ((tru.length:Int)+a8.length)=(tru.length:Int)+a8.length:=C7 _ va5 va5;have w2:IntKind.i64.wrap j9=j9:=C7 _ va5 va5;refine pF Tryz.func29 ?_;conv=>whnf
 (repeat' ((first|refine va0 (fun hh=>?_) fun hh=>?_|refine kR ?_|fail)<;>first|exact hh.elim|conv=>whnf));all_goals
  simp only[w1,w2]at *
  clear w1 w2;first
   | (rw[if_pos (by unfold B2 Z5;simp only[zA2,zA9,zA3];first|omega|(refine⟨?_,Or.inl trivial⟩;omega)|(refine⟨?_,Or.inl rfl⟩;omega)|(simp;omega)|(simp_all;done)|(simp_all;omega)|(intro h;first|omega|(refine⟨?_,Or.inl trivial⟩;omega)|(refine⟨?_,Or.inl rfl⟩;omega)|(simp;omega)|(simp_all;done)|(simp_all;omega)))];done)
   | (rw[if_neg (by unfold B2 Z5;simp only[zA2,zA9,zA3];first|omega|(refine⟨?_,Or.inl trivial⟩;omega)|(refine⟨?_,Or.inl rfl⟩;omega)|(simp;omega)|(simp_all;done)|(simp_all;omega)|(intro h;first|omega|(refine⟨?_,Or.inl trivial⟩;omega)|(refine⟨?_,Or.inl rfl⟩;omega)|(simp;omega)|(simp_all;done)|(simp_all;omega)))];done)
  
theorem RG(j8 a7 n j9:Int)(gauge:x8)(tru a8:List Int)(ht:tru.length<2^40)(hn:a8.length<2^40)(hr:0<=j9/\j9<=255):va6 29 [ord ⟨8,j8,a7,n,j9,gauge,tru,a8⟩] (i64 (if B2 ⟨8,j8,a7,n,j9,gauge,tru,a8⟩=true then 0 else 2)):=by
 have w1:IntKind.i64.wrap ((tru.length:Int)+a8.length)=(tru.length:Int)+a8.length:=C7 _ va5 va5;have w2:IntKind.i64.wrap j9=j9:=C7 _ va5 va5;refine pF Tryz.func29 ?_;conv=>whnf
 (repeat' ((first|refine va0 (fun hh=>?_) fun hh=>?_|refine kR ?_|fail)<;>first|exact hh.elim|conv=>whnf));all_goals
  simp only[w1,w2]at *
  clear w1 w2;first
   | (rw[if_pos (by unfold B2 Z5;simp only[zA2,zA9,zA3];first|omega|(refine⟨?_,Or.inl trivial⟩;omega)|(refine⟨?_,Or.inl rfl⟩;omega)|(simp;omega)|(simp_all;done)|(simp_all;omega)|(intro h;first|omega|(refine⟨?_,Or.inl trivial⟩;omega)|(refine⟨?_,Or.inl rfl⟩;omega)|(simp;omega)|(simp_all;done)|(simp_all;omega)))];done)
   | (rw[if_neg (by unfold B2 Z5;simp only[zA2,zA9,zA3];first|omega|(refine⟨?_,Or.inl trivial⟩;omega)|(refine⟨?_,Or.inl rfl⟩;omega)|(simp;omega)|(simp_all;done)|(simp_all;omega)|(intro h;first|omega|(refine⟨?_,Or.inl trivial⟩;omega)|(refine⟨?_,Or.inl rfl⟩;omega)|(simp;omega)|(simp_all;done)|(simp_all;omega)))];done)
  
theorem RH(j8 a7 n j9:Int)(gauge:x8)(tru a8:List Int)(ht:tru.length<2^40)(hn:a8.length<2^40)(hr:0<=j9/\j9<=255):va6 29 [ord ⟨9,j8,a7,n,j9,gauge,tru,a8⟩] (i64 (if B2 ⟨9,j8,a7,n,j9,gauge,tru,a8⟩=true then 0 else 2)):=by
 have w1:IntKind.i64.wrap ((tru.length:Int)+a8.length)=(tru.length:Int)+a8.length:=C7 _ va5 va5;have w2:IntKind.i64.wrap j9=j9:=C7 _ va5 va5;refine pF Tryz.func29 ?_;conv=>whnf
 (repeat' ((first|refine va0 (fun hh=>?_) fun hh=>?_|refine kR ?_|fail)<;>first|exact hh.elim|conv=>whnf));all_goals
  simp only[w1,w2]at *
  clear w1 w2;first
   | (rw[if_pos (by unfold B2 Z5;simp only[zA2,zA9,zA3];first|omega|(refine⟨?_,Or.inl trivial⟩;omega)|(refine⟨?_,Or.inl rfl⟩;omega)|(simp;omega)|(simp_all;done)|(simp_all;omega)|(intro h;first|omega|(refine⟨?_,Or.inl trivial⟩;omega)|(refine⟨?_,Or.inl rfl⟩;omega)|(simp;omega)|(simp_all;done)|(simp_all;omega)))];done)
   | (rw[if_neg (by unfold B2 Z5;simp only[zA2,zA9,zA3];first|omega|(refine⟨?_,Or.inl trivial⟩;omega)|(refine⟨?_,Or.inl rfl⟩;omega)|(simp;omega)|(simp_all;done)|(simp_all;omega)|(intro h;first|omega|(refine⟨?_,Or.inl trivial⟩;omega)|(refine⟨?_,Or.inl rfl⟩;omega)|(simp;omega)|(simp_all;done)|(simp_all;omega)))];done)
  
theorem Ot(j8 a7 n j9:Int)(gauge:x8)(tru a8:List Int)(ht:tru.length<2^40)(hn:a8.length<2^40)(hr:0<=j9/\j9<=255):va6 29 [ord ⟨10,j8,a7,n,j9,gauge,tru,a8⟩] (i64 (if B2 ⟨10,j8,a7,n,j9,gauge,tru,a8⟩=true then 0 else 2)):=by
 have w1:IntKind.i64.wrap ((tru.length:Int)+a8.length)=(tru.length:Int)+a8.length:=C7 _ va5 va5;have w2:IntKind.i64.wrap j9=j9:=C7 _ va5 va5;refine pF Tryz.func29 ?_;conv=>whnf
 (repeat' ((first|refine va0 (fun hh=>?_) fun hh=>?_|refine kR ?_|fail)<;>first|exact hh.elim|conv=>whnf));all_goals
  simp only[w1,w2]at *
  clear w1 w2;first
   | (rw[if_pos (by unfold B2 Z5;simp only[zA2,zA9,zA3];first|omega|(refine⟨?_,Or.inl trivial⟩;omega)|(refine⟨?_,Or.inl rfl⟩;omega)|(simp;omega)|(simp_all;done)|(simp_all;omega)|(intro h;first|omega|(refine⟨?_,Or.inl trivial⟩;omega)|(refine⟨?_,Or.inl rfl⟩;omega)|(simp;omega)|(simp_all;done)|(simp_all;omega)))];done)
   | (rw[if_neg (by unfold B2 Z5;simp only[zA2,zA9,zA3];first|omega|(refine⟨?_,Or.inl trivial⟩;omega)|(refine⟨?_,Or.inl rfl⟩;omega)|(simp;omega)|(simp_all;done)|(simp_all;omega)|(intro h;first|omega|(refine⟨?_,Or.inl trivial⟩;omega)|(refine⟨?_,Or.inl rfl⟩;omega)|(simp;omega)|(simp_all;done)|(simp_all;omega)))];done)
  
theorem Hz(o:r8)(h:¬(1<=o.kind/\o.kind<=10)):va6 29 [ord o] (i64 (if B2 o=true then 0 else 2)):=by
 have e:B2 o=false:=by
  unfold B2;rw[zA5 (fun q=>h q.1)];rfl
 rw[e];refine pF Tryz.func29 ?_;conv=>whnf
 try exact va1
theorem Y2(o:r8)(ht:o.tru.length<2^40)(hn:o.a8.length<2^40)(hr:0<=o.j9/\o.j9<=255):va6 29 [ord o] (i64 (if B2 o=true then 0 else 2)):=by
 by_cases h:1<=o.kind/\o.kind<=10
 ·obtain⟨kind,j8,a7,n,j9,gauge,tru,a8⟩:=o;simp only at h ht hn hr;have hk:kind=1∨kind=2∨kind=3∨kind=4∨kind=5∨kind=6∨kind=7∨kind=8∨kind=9∨kind=10:=by omega
  rcases hk with e|e|e|e|e|e|e|e|e|e<;>subst e
  ·exact Rz j8 a7 n j9 gauge tru a8 ht hn hr
  ·exact RA j8 a7 n j9 gauge tru a8 ht hn hr
  ·exact RB j8 a7 n j9 gauge tru a8 ht hn hr
  ·exact RC j8 a7 n j9 gauge tru a8 ht hn hr
  ·exact RD j8 a7 n j9 gauge tru a8 ht hn hr
  ·exact RE j8 a7 n j9 gauge tru a8 ht hn hr
  ·exact RF j8 a7 n j9 gauge tru a8 ht hn hr
  ·exact RG j8 a7 n j9 gauge tru a8 ht hn hr
  ·exact RH j8 a7 n j9 gauge tru a8 ht hn hr
  ·exact Ot j8 a7 n j9 gauge tru a8 ht hn hr
 ·exact Hz o h

end Go.Proofs.Tryz.My
