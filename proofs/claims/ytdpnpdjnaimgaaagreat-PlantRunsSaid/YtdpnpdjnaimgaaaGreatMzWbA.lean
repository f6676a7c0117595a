/- Helper lemmas. -/
import Derived.Test.YtdpnpdjnaimgaaaGreatMzWaA
set_option linter.unusedVariables false
set_option linter.unusedSimpArgs false
set_option maxRecDepth 100000
set_option maxHeartbeats 0
namespace Go.Proofs.Tryz.My
open Go Go.Ev
theorem aI(b:G3):va6 59 [fA b] (i64 (if O2 b=true then 0 else 90)):=by
 by_cases h:O2 b=true
 ·rw[if_pos h];have h:=G1.1 h;refine pF Tryz.func59 ?_;conv=>whnf
  try exact va1
 ·rw[if_neg h];have h:=mt G1.2 h;refine pF Tryz.func59 ?_;conv=>whnf
  try exact va1
  all_goals (exfalso;omega)
theorem l5(n lo hi:Int):va6 117 [i64 n,i64 lo,i64 hi] (.bool (decide (lo<=n) && decide (n<=hi))):=by
 refine pF Tryz.func117 ?_;conv=>whnf
 refine⟨fun h=>?_,fun h=>?_⟩<;>((conv=>whnf);simp_all [-decide_eq_true_eq,-decide_eq_false_iff_not])
theorem a0c(b:G3)(hI:G7 b.step):va6 106 [fA b] (.bool (O2 b)):=by
 unfold G7 at hI;by_cases h0:1<=b.step/\b.step<=1000
 ·have w1:IntKind.i64.wrap (b.step-1)=b.step-1:=C7 _ va5 va5;by_cases h:O2 b=true
  ·rw[h];have h:=G1.1 h;refine pF Tryz.func106 ?_;conv=>whnf
   (repeat' ((first|refine va0 (fun hh=>?_) fun hh=>?_|refine kR ?_|((try refine .inl ?_;conv=>whnf);(try refine⟨false,?_⟩;conv=>whnf);refine⟨_,by exact l5 _ _ _,?_⟩)|fail)<;>first|exact hh.elim|conv=>whnf));all_goals (refine congrArg AV.bool (Bool.eq_iff_iff.2 ?_);simp only[zA2,zA9,Bool.not_eq_true',zA3,decide_eq_false_iff_not,zB0,iff_false,iff_true,true_iff,false_iff,reduceCtorEq,not_true_eq_false,not_false_eq_true];omega)
  ·have h2:=mt G1.2 h;have h:O2 b=false:=by simpa using h
   rw[h];refine pF Tryz.func106 ?_;conv=>whnf
   (repeat' ((first|refine va0 (fun hh=>?_) fun hh=>?_|refine kR ?_|((try refine .inl ?_;conv=>whnf);(try refine⟨false,?_⟩;conv=>whnf);refine⟨_,by exact l5 _ _ _,?_⟩)|fail)<;>first|exact hh.elim|conv=>whnf));all_goals (refine congrArg AV.bool (Bool.eq_iff_iff.2 ?_);simp only[zA2,zA9,Bool.not_eq_true',zA3,decide_eq_false_iff_not,zB0,iff_false,iff_true,true_iff,false_iff,reduceCtorEq,not_true_eq_false,not_false_eq_true];omega)
 ·have h:O2 b=false:=by
   cases e:O2 b
   ·rfl
   ·exact absurd (G1.1 e).1 h0
  rw[h];refine pF Tryz.func106 ?_;conv=>whnf
  (repeat' ((first|refine va0 (fun hh=>?_) fun hh=>?_|refine kR ?_|((try refine .inl ?_;conv=>whnf);(try refine⟨false,?_⟩;conv=>whnf);refine⟨_,by exact l5 _ _ _,?_⟩)|fail)<;>first|exact hh.elim|conv=>whnf));all_goals (refine congrArg AV.bool (Bool.eq_iff_iff.2 ?_);simp only[zA2,zA9,Bool.not_eq_true',zA3,decide_eq_false_iff_not,zB0,iff_false,iff_true,true_iff,false_iff,reduceCtorEq,not_true_eq_false,not_false_eq_true];omega)
theorem jd(b:G3)(h:O2 b=true):va6 95 [fA b] (.agg [i64 b.step,i64 b.A0,i64 b.y9,i64 b.len,i64 (b.step-b.A0),i64 (b.step+b.A0)]):=by
 have h:=G1.1 h;have w1:IntKind.i64.wrap (b.step-b.A0)=b.step-b.A0:=C7 _ va5 va5;have w2:IntKind.i64.wrap (b.step+b.A0)=b.step+b.A0:=C7 _ va5 va5;refine pF Tryz.func95 ?_;conv=>whnf
 refine vb8 ?_;(repeat intro hh);all_goals (rw[w1,w2])
theorem fO(b:G3)(h:O2 b=true)(place:Int)(h1:1<=place)(h2:place<=1000000):va6 96 [.agg [i64 b.step,i64 b.A0,i64 b.y9,i64 b.len,i64 (b.step-b.A0),i64 (b.step+b.A0)],i64 place] (.tup [i64 (V4 b place),i64 (N7 b place)]):=by
 have r:=bC h h1 h2;have h:=G1.1 h;unfold V4 N7 at *
 have w1:IntKind.i64.wrap (place-1)=place-1:=C7 _ va5 va5;have w2:IntKind.i64.wrap (place+b.len)=place+b.len:=C7 _ va5 va5;have q1:(place-1).tdiv (b.step+b.A0)=(place-1).tdiv (b.step+b.A0)+1-1:=by omega
 have w3:IntKind.i64.wrap ((place-1).tdiv (b.step+b.A0))=(place-1).tdiv (b.step+b.A0):=C7 _ va5 va5;have w4:IntKind.i64.wrap ((place+b.len).tdiv (b.step-b.A0))=(place+b.len).tdiv (b.step-b.A0):=C7 _ va5 va5;have w5:IntKind.i64.wrap ((place-1).tdiv (b.step+b.A0)+1)=(place-1).tdiv (b.step+b.A0)+1:=C7 _ va5 va5;have w6:IntKind.i64.wrap ((place+b.len).tdiv (b.step-b.A0)+1)=(place+b.len).tdiv (b.step-b.A0)+1:=C7 _ va5 va5;refine pF Tryz.func96 ?_;conv=>whnf
 refine vb8 ?_;(repeat intro hh);all_goals (rw[w1,w2,w3,w4,w5,w6])
theorem a1v(b:G3)(hI:G7 b.step):va6 62 [fA b] (i64 (if O2 b=true then 0 else 90)):=by
 have c:=a0c b hI;refine pF Tryz.func62 ?_;conv=>whnf
 by_cases h:O2 b=true
 ·rw[h]at c;rw[if_pos h];try exact va1
 ·have h2:O2 b=false:=by simpa using h
  rw[h2]at c;rw[if_neg h];try exact va1
theorem a4l{place most:Int}(h1:1<=place)(h2:1<=most):Int.tdiv (place+most-1) most=Int.tdiv (place-1) most+1:=by
 rw[Int.tdiv_eq_ediv_of_nonneg va5,Int.tdiv_eq_ediv_of_nonneg va5,show place+most-1=(place-1)+1*most by omega,Int.add_mul_ediv_right _ _ va5]
theorem a1k(b:G3)(h:O2 b=true)(place:Int)(h1:1<=place)(h2:place<=1000000):va6 118 [fA b,i64 place] (.tup [i64 (V4 b place),i64 (N7 b place)]):=by
 have r:=bC h h1 h2;have h:=G1.1 h;have e:=a4l (place:=place) (most:=b.step+b.A0) h1 va5;unfold V4 N7 at *
 rw[<- e]at r ⊢;have w1:IntKind.i64.wrap (b.step-b.A0)=b.step-b.A0:=C7 _ va5 va5;have w2:IntKind.i64.wrap (b.step+b.A0)=b.step+b.A0:=C7 _ va5 va5;have w3:IntKind.i64.wrap (place+(b.step+b.A0))=place+(b.step+b.A0):=C7 _ va5 va5;have w4:IntKind.i64.wrap (place+(b.step+b.A0)-1)=place+(b.step+b.A0)-1:=C7 _ va5 va5;have w5:IntKind.i64.wrap (place+b.len)=place+b.len:=C7 _ va5 va5;have w6:IntKind.i64.wrap ((place+b.len).tdiv (b.step-b.A0))=(place+b.len).tdiv (b.step-b.A0):=C7 _ va5 va5;have w7:IntKind.i64.wrap ((place+b.len).tdiv (b.step-b.A0)+1)=(place+b.len).tdiv (b.step-b.A0)+1:=C7 _ va5 va5;have w8:IntKind.i64.wrap ((place+(b.step+b.A0)-1).tdiv (b.step+b.A0))=(place+(b.step+b.A0)-1).tdiv (b.step+b.A0):=C7 _ va5 va5;refine pF Tryz.func118 ?_;conv=>whnf
 refine vb8 ?_;(repeat intro hh);all_goals (first|(rw[w1,w2,w3,w4,w5,w6,w7,w8];done))
theorem DB(lo hi x y:Int):va6 108 [i64 lo,i64 hi,.slc 1 [[i64 x],[i64 y]]] (.bool (decide ((lo<=x/\x<=hi)/\(lo<=y/\y<=hi)))):=by
 refine pF Tryz.func108 ?_;conv=>whnf
 refine Or.inl ⟨3,?_⟩;conv=>whnf
 (repeat' ((first|refine y7 ?_|refine y8 ?_|refine dD ?_|refine dN ?_|refine dB ?_|refine va0 (fun hh=>?_) fun hh=>?_|refine kR ?_|fail)<;>first|exact hh.elim|conv=>whnf));all_goals (first|(refine congrArg AV.bool (Bool.eq_iff_iff.2 ?_);simp only[zA2,zA9,Bool.not_eq_true',zA3,decide_eq_false_iff_not,zB0,iff_false,iff_true,true_iff,false_iff,reduceCtorEq,not_true_eq_false,not_false_eq_true];omega))
theorem a01(lo hi x:Int):va6 108 [i64 lo,i64 hi,.slc 1 [[i64 x]]] (.bool (decide (lo<=x/\x<=hi))):=by
 refine pF Tryz.func108 ?_;conv=>whnf
 refine Or.inl ⟨2,?_⟩;conv=>whnf
 (repeat' ((first|refine y7 ?_|refine y8 ?_|refine dD ?_|refine dN ?_|refine dB ?_|refine va0 (fun hh=>?_) fun hh=>?_|refine kR ?_|fail)<;>first|exact hh.elim|conv=>whnf));all_goals (first|(refine congrArg AV.bool (Bool.eq_iff_iff.2 ?_);simp only[zA2,zA9,Bool.not_eq_true',zA3,decide_eq_false_iff_not,zB0,iff_false,iff_true,true_iff,false_iff,reduceCtorEq,not_true_eq_false,not_false_eq_true];omega))
theorem Lk(a:Int×Int):va6 109 [fr a] (.bool (Dr a)):=by
 have c:=JX a;obtain⟨x,y⟩:=a;unfold Dr;cases h:r7 (x,y)
 ·rw[h]at c;rw[if_neg va8]at c;refine pF Tryz.func109 ?_;conv=>whnf
  try exact va1
 ·rw[h]at c;rw[if_pos rfl]at c;refine pF Tryz.func109 ?_;conv=>whnf
  (repeat' ((first|refine va0 (fun hh=>?_) fun hh=>?_|refine kR ?_|((try refine .inl ?_;conv=>whnf);(try refine⟨false,?_⟩;conv=>whnf);refine⟨_,by assumption,?_⟩)|fail)<;>first|exact hh.elim|conv=>whnf));all_goals (rw[Bool.true_and];(refine congrArg AV.bool (Bool.eq_iff_iff.2 ?_);simp only[zA2,zA9,Bool.not_eq_true',zA3,decide_eq_false_iff_not,zB0,iff_false,iff_true,true_iff,false_iff,reduceCtorEq,not_true_eq_false,not_false_eq_true];omega))
theorem a3f(a:Int×Int)(h1:G7 a.1)(h2:G7 a.2):va6 157 [fr a] (.bool (Dr a)):=by
 have c:=a0N a h1 h2;obtain⟨x,y⟩:=a;unfold Dr;cases h:r7 (x,y)
 ·rw[h]at c;refine pF Tryz.func157 ?_;conv=>whnf
  try exact va1
 ·rw[h]at c;refine pF Tryz.func157 ?_;conv=>whnf
  (repeat' ((first|refine va0 (fun hh=>?_) fun hh=>?_|refine kR ?_|((try refine .inl ?_;conv=>whnf);(try refine⟨false,?_⟩;conv=>whnf);refine⟨_,by assumption,?_⟩)|fail)<;>first|exact hh.elim|conv=>whnf));all_goals (rw[Bool.true_and];(refine congrArg AV.bool (Bool.eq_iff_iff.2 ?_);simp only[zA2,zA9,Bool.not_eq_true',zA3,decide_eq_false_iff_not,zB0,iff_false,iff_true,true_iff,false_iff,reduceCtorEq,not_true_eq_false,not_false_eq_true];omega))
theorem mQ(l:A5):va6 61 [VC l] (i64 (if kj l=true then 0 else 81)):=by
 have c:=Lk l.al;have c2:=DB 1 255 l.p l.q;unfold kj;cases h:Dr l.al
 ·rw[h]at c;rw[Bool.and_false,if_neg va8];refine pF Tryz.func61 ?_;conv=>whnf
  try exact va1
 ·rw[h]at c;rw[Bool.and_true];by_cases h2:1<=l.p/\l.p<l.q/\l.q<=255
  ·rw[zA4 h2,if_pos rfl];refine pF Tryz.func61 ?_;conv=>whnf
   try exact va1
  ·rw[zA5 h2,if_neg va8];refine pF Tryz.func61 ?_;conv=>whnf
   try exact va1
   all_goals (exfalso;omega)
theorem a0H(l:A5)(h1:G7 l.al.1)(h2:G7 l.al.2):va6 110 [VC l] (.bool (kj l)):=by
 have c:=a3f l.al h1 h2;unfold kj;refine pF Tryz.func110 ?_;conv=>whnf
 (repeat' ((first|refine va0 (fun hh=>?_) fun hh=>?_|refine kR ?_|((try refine .inl ?_;conv=>whnf);(try refine⟨false,?_⟩;conv=>whnf);refine⟨_,by assumption,?_⟩)|fail)<;>first|exact hh.elim|conv=>whnf));all_goals first
  | (rw[zA5 va5];rfl)
  | (rw[zA4 va5];exact congrArg AV.bool (Bool.true_and _).symm)
 
theorem a1E(l:A5)(h1:G7 l.al.1)(h2:G7 l.al.2):va6 64 [VC l] (i64 (if kj l=true then 0 else 81)):=by
 have c:=a0H l h1 h2;refine pF Tryz.func64 ?_;conv=>whnf
 by_cases h:kj l=true
 ·rw[h]at c;rw[if_pos h];try exact va1
 ·have h2:kj l=false:=by simpa using h
  rw[h2]at c;rw[if_neg h];try exact va1
theorem AJ:va6 56 [] (.agg [i64 0,i64 0,.ff]):=by
 refine pF Tryz.func56 ?_;conv=>whnf
 try rfl
theorem a1F(d:P8):va6 72 [.agg (eQ d)] (.bool (Z4 d)):=by
 unfold Z4;refine pF Tryz.func72 ?_;conv=>whnf
 (repeat' ((first|refine va0 (fun hh=>?_) fun hh=>?_|refine kR ?_|fail)<;>first|exact hh.elim|conv=>whnf));all_goals (first|(refine congrArg AV.bool (Bool.eq_iff_iff.2 ?_);simp only[zA2,zA9,Bool.not_eq_true',zA3,decide_eq_false_iff_not,zB0,iff_false,iff_true,true_iff,false_iff,reduceCtorEq,not_true_eq_false,not_false_eq_true];omega))
theorem K9(t:TrackT)(hl:t.k9.length<2^40):va6 68 [sL t] (i64 (eT t)):=by
 unfold eT;by_cases hb:O2 t.n8=true
 ·rw[if_pos hb];have c1:=aI t.n8;rw[if_pos hb]at c1;have bl:=G1.1 hb;have c2:=jd t.n8 hb;have c3:=fO t.n8 hb t.n8.y9 bl.2.2.1.1 bl.2.2.1.2;have wr:=bC hb bl.2.2.1.1 bl.2.2.1.2;by_cases hs:Rp t=true
  ·have sz:=mJ.1 hs;refine pF Tryz.func68 ?_;conv=>whnf
   refine vb7 ?_;(repeat intro hh);clear c1 c2 c3;refine Or.inr ⟨Bool×Nat,[50],[6],[],fun i=>[i64 i.2],fun i=>[.cells 78 [i64 (Q5 t.k9 i.2).id,i64 (Q5 t.k9 i.2).cnt,u8 (Q5 t.k9 i.2).o6,match i.1 with|true => .ff|false => .bool (Q5 t.k9 i.2).hit]],fun _=>[],fun i=>t.k9.length-i.2,fun i=>i.2<=t.k9.length/\∀ j,j<i.2->ub t j=true,?_⟩;conv=>whnf
   refine⟨⟨(true,0),?_⟩,?_⟩
   ·(conv=>whnf);exact kK ⟨⟨zB4 _,fun j hj=>absurd hj (zB3 j)⟩,rfl,rfl,rfl⟩
   rintro⟨q,k⟩ ⟨hk,jV⟩;have hk:k<=t.k9.length:=hk;have jV:∀ j,j<k->ub t j=true:=jV;by_cases L7:k<t.k9.length
   ·have hi:=mI (t:=t) (k:=k);have hp:=Aw jV;have yw:Q5 t.k9 (k+1)=t.k9.getD k n4:=gM _ _;have all:ub t k=false->¬mK t=true:=fun e h=>by
     unfold mK at h;rw[zA2,bH]at h;rw[h.2 k L7]at e;cases e
    have next:ub t k=true->∀ j,j<k+1->ub t j=true:=fun e j hj=>by
     by_cases z:j=k
     ·subst z;exact e
     ·exact jV j va5
    have e0:t.k9.getD (Int.toNat (k:Int)) n4=t.k9.getD k n4:=rfl;cases q <;>
    ·(conv=>whnf);refine⟨fun h=>?_,fun h=>absurd (zA0 h) va5⟩;conv=>whnf
     refine⟨⟨va5,va5⟩,?_⟩;conv=>whnf
     rw[e0];generalize hx:t.k9.getD k n4=x at hi yw ⊢;obtain⟨xi,xc,xv,xh⟩:=x;have w1:xc<=t.count/\0<=xc->IntKind.i64.wrap (xc+N7 t.n8 t.n8.y9)=xc+N7 t.n8 t.n8.y9:=fun h=>C7 _ va5 va5
     have w2:xc<=t.count/\0<=xc->IntKind.i64.wrap (xc+V4 t.n8 t.n8.y9)=xc+V4 t.n8 t.n8.y9:=fun h=>C7 _ va5 va5
     simp only at hi hp;by_cases ho:ub t k=true
     ·have f:=hi.1 ho;have nx:=next ho;clear hi all next jV ho hb hs hx h;have w1:=w1 va5;have w2:=w2 va5;cases xh
      ·(repeat' ((first|refine va0 (fun hh=>?_) fun hh=>?_|refine kR ?_|fail)<;>first|exact hh.elim|conv=>whnf));refine⟨(false,k+1),?_⟩;conv=>whnf
       refine kK ⟨⟨?_,?_,nx⟩,?_,?_,rfl⟩
       ·show t.k9.length-(k+1)<t.k9.length-k;omega
       ·omega
       ·rw[C7 _ va5 va5];rfl
       ·show _=[Row.cells 78 [i64 (Q5 t.k9 (k+1)).id,i64 (Q5 t.k9 (k+1)).cnt,u8 (Q5 t.k9 (k+1)).o6,.bool (Q5 t.k9 (k+1)).hit]]
        rw[yw]
      ·have f2:=f.2.2.2.2.2.2 rfl;(repeat' ((first|refine va0 (fun hh=>?_) fun hh=>?_|refine kR ?_|fail)<;>first|exact hh.elim|conv=>whnf));refine⟨(false,k+1),?_⟩;conv=>whnf
       refine kK ⟨⟨?_,?_,nx⟩,?_,?_,rfl⟩
       ·show t.k9.length-(k+1)<t.k9.length-k;omega
       ·omega
       ·rw[C7 _ va5 va5];rfl
       ·show _=[Row.cells 78 [i64 (Q5 t.k9 (k+1)).id,i64 (Q5 t.k9 (k+1)).cnt,u8 (Q5 t.k9 (k+1)).o6,.bool (Q5 t.k9 (k+1)).hit]]
        rw[yw]
     ·have tn:ub t k=false:=by simpa using ho
      rw[if_neg (all tn)];have f:=mt hi.2 ho;clear hi all next jV ho tn hb hs hx h yw;by_cases hr:xc<=t.count/\0<=xc
      ·have w1:=w1 hr;have w2:=w2 hr;cases xh
       ·(repeat' ((first|refine va0 (fun hh=>?_) fun hh=>?_|refine kR ?_|fail)<;>first|exact hh.elim|conv=>whnf));all_goals first|(exfalso;apply f;refine⟨?_,?_,?_,?_,?_,?_,fun h=>?_⟩<;>first|omega|cases h)
       ·try exact va1
        all_goals first|(exfalso;apply f;refine⟨?_,?_,?_,?_,?_,?_,fun h=>?_⟩<;>omega)
      ·try exact va1
   ·have ek:k=t.k9.length:=by omega
    have hg:mK t=true:=by
     unfold mK;rw[hs,Bool.true_and,bH];intro j hj;exact jV j va5
    rw[if_pos hg];cases q <;>
    ·(conv=>whnf);refine⟨fun h=>absurd (zA1 h) va5,fun h=>?_⟩;conv=>whnf
     all_goals rfl
  ·have hn:¬mK t=true:=fun h=>by
    unfold mK at h;rw[zA2]at h;exact hs h.1
   rw[if_neg hn];have sz:=mt mJ.2 hs;refine pF Tryz.func68 ?_;conv=>whnf
   try exact va1
   all_goals (exfalso;omega)
 ·rw[if_neg hb];have c1:=aI t.n8;rw[if_neg hb]at c1;refine pF Tryz.func68 ?_;conv=>whnf
  try exact va1

end Go.Proofs.Tryz.My
