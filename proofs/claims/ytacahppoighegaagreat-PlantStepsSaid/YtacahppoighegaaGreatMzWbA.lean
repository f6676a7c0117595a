/- Helper lemmas. -/
import Derived.Test.YtacahppoighegaaGreatMzWaA
set_option linter.unusedVariables false
set_option linter.unusedSimpArgs false
set_option maxRecDepth 100000
set_option maxHeartbeats 0
namespace Go.Proofs.Tryz.My
open Go Go.Ev
theorem jd(b:H2):va6 52 [zF b] (i64 (if J3 b=true then 0 else 90)):=by
 by_cases h:J3 b=true
 ·rw[if_pos h];have h:=D3.1 h;refine pF Tryz.func52 ?_;conv=>whnf
  try exact va1
 ·rw[if_neg h];have h:=mt D3.2 h;refine pF Tryz.func52 ?_;conv=>whnf
  try exact va1
  all_goals (exfalso;omega)
theorem J0(n lo hi:Int):va6 76 [i64 n,i64 lo,i64 hi] (.bool (decide (lo<=n) && decide (n<=hi))):=by
 refine vb4 Tryz.func76 ?_;refine⟨fun h=>?_,fun h=>?_⟩<;>((conv=>whnf);simp_all [-decide_eq_true_eq,-decide_eq_false_iff_not])
theorem oJ(b:H2)(hI:A4 b.step):va6 75 [zF b] (.bool (J3 b)):=by
 unfold A4 at hI;by_cases h0:1<=b.step/\b.step<=1000
 ·have w1:IntKind.i64.wrap (b.step-1)=b.step-1:=z5 _ va5 va5;by_cases h:J3 b=true
  ·rw[h];have h:=D3.1 h;refine vb4 Tryz.func75 ?_;refine vd4 J0 ?_;intros;all_goals (refine congrArg AV.bool (Bool.eq_iff_iff.2 ?_);simp only[zA2,zA9,Bool.not_eq_true',zA3,decide_eq_false_iff_not,zB0,iff_false,iff_true,true_iff,false_iff,reduceCtorEq,not_true_eq_false,not_false_eq_true];omega)
  ·have h2:=mt D3.2 h;have h:J3 b=false:=by simpa using h
   rw[h];refine vb4 Tryz.func75 ?_;refine vd4 J0 ?_;intros;all_goals (refine congrArg AV.bool (Bool.eq_iff_iff.2 ?_);simp only[zA2,zA9,Bool.not_eq_true',zA3,decide_eq_false_iff_not,zB0,iff_false,iff_true,true_iff,false_iff,reduceCtorEq,not_true_eq_false,not_false_eq_true];omega)
 ·have h:J3 b=false:=by
   cases e:J3 b
   ·rfl
   ·exact absurd (D3.1 e).1 h0
  rw[h];refine pF Tryz.func75 ?_;conv=>whnf
  try exact vd5 J0
  all_goals (refine congrArg AV.bool (Bool.eq_iff_iff.2 ?_);simp only[zA2,zA9,Bool.not_eq_true',zA3,decide_eq_false_iff_not,zB0,iff_false,iff_true,true_iff,false_iff,reduceCtorEq,not_true_eq_false,not_false_eq_true];omega)
theorem oK(b:H2)(h:J3 b=true):va6 54 [zF b] (.agg [i64 b.step,i64 b.v8,i64 b.w9,i64 b.len,i64 (b.step-b.v8),i64 (b.step+b.v8)]):=by
 have h:=D3.1 h;have w1:IntKind.i64.wrap (b.step-b.v8)=b.step-b.v8:=z5 _ va5 va5;have w2:IntKind.i64.wrap (b.step+b.v8)=b.step+b.v8:=z5 _ va5 va5;refine vb4 Tryz.func54 ?_;refine ve4 ?_;intros;all_goals (rw[w1,w2])
theorem ld(b:H2)(h:J3 b=true)(place:Int)(h1:1<=place)(h2:place<=1000000):va6 55 [.agg [i64 b.step,i64 b.v8,i64 b.w9,i64 b.len,i64 (b.step-b.v8),i64 (b.step+b.v8)],i64 place] (.tup [i64 (Y1 b place),i64 (M4 b place)]):=by
 have r:=R7 h h1 h2;have h:=D3.1 h;unfold Y1 M4 at *
 have w1:IntKind.i64.wrap (place-1)=place-1:=z5 _ va5 va5;have w2:IntKind.i64.wrap (place+b.len)=place+b.len:=z5 _ va5 va5;have q1:(place-1).tdiv (b.step+b.v8)=(place-1).tdiv (b.step+b.v8)+1-1:=by omega
 have w3:IntKind.i64.wrap ((place-1).tdiv (b.step+b.v8))=(place-1).tdiv (b.step+b.v8):=z5 _ va5 va5;have w4:IntKind.i64.wrap ((place+b.len).tdiv (b.step-b.v8))=(place+b.len).tdiv (b.step-b.v8):=z5 _ va5 va5;have w5:IntKind.i64.wrap ((place-1).tdiv (b.step+b.v8)+1)=(place-1).tdiv (b.step+b.v8)+1:=z5 _ va5 va5;have w6:IntKind.i64.wrap ((place+b.len).tdiv (b.step-b.v8)+1)=(place+b.len).tdiv (b.step-b.v8)+1:=z5 _ va5 va5;refine vb4 Tryz.func55 ?_;refine ve4 ?_;intros;all_goals (rw[w1,w2,w3,w4,w5,w6])
theorem vi(b:H2)(hI:A4 b.step):va6 72 [zF b] (i64 (if J3 b=true then 0 else 90)):=by
 have c:=oJ b hI;refine vb4 Tryz.func72 ?_;by_cases h:J3 b=true
 ·rw[h]at c;rw[if_pos h];try exact va1
 ·have h2:J3 b=false:=by simpa using h
  rw[h2]at c;rw[if_neg h];try exact va1
theorem Ru{place most:Int}(h1:1<=place)(h2:1<=most):Int.tdiv (place+most-1) most=Int.tdiv (place-1) most+1:=by
 rw[Int.tdiv_eq_ediv_of_nonneg va5,Int.tdiv_eq_ediv_of_nonneg va5,show place+most-1=(place-1)+1*most by omega,Int.add_mul_ediv_right _ _ va5]
theorem sy(b:H2)(h:J3 b=true)(place:Int)(h1:1<=place)(h2:place<=1000000):va6 77 [zF b,i64 place] (.tup [i64 (Y1 b place),i64 (M4 b place)]):=by
 have r:=R7 h h1 h2;have h:=D3.1 h;have e:=Ru (place:=place) (most:=b.step+b.v8) h1 va5;unfold Y1 M4 at *
 rw[<- e]at r ⊢;have w1:IntKind.i64.wrap (b.step-b.v8)=b.step-b.v8:=z5 _ va5 va5;have w2:IntKind.i64.wrap (b.step+b.v8)=b.step+b.v8:=z5 _ va5 va5;have w3:IntKind.i64.wrap (place+(b.step+b.v8))=place+(b.step+b.v8):=z5 _ va5 va5;have w4:IntKind.i64.wrap (place+(b.step+b.v8)-1)=place+(b.step+b.v8)-1:=z5 _ va5 va5;have w5:IntKind.i64.wrap (place+b.len)=place+b.len:=z5 _ va5 va5;have w6:IntKind.i64.wrap ((place+b.len).tdiv (b.step-b.v8))=(place+b.len).tdiv (b.step-b.v8):=z5 _ va5 va5;have w7:IntKind.i64.wrap ((place+b.len).tdiv (b.step-b.v8)+1)=(place+b.len).tdiv (b.step-b.v8)+1:=z5 _ va5 va5;have w8:IntKind.i64.wrap ((place+(b.step+b.v8)-1).tdiv (b.step+b.v8))=(place+(b.step+b.v8)-1).tdiv (b.step+b.v8):=z5 _ va5 va5;refine vb4 Tryz.func77 ?_;refine ve4 ?_;intros;all_goals (first|(rw[w1,w2,w3,w4,w5,w6,w7,w8];done))
theorem FO(lo hi x y:Int):va6 97 [i64 lo,i64 hi,.slc 1 [[i64 x],[i64 y]]] (.bool (decide ((lo<=x/\x<=hi)/\(lo<=y/\y<=hi)))):=by
 refine vb4 Tryz.func97 ?_;refine Or.inl ⟨3,vb3 ?_⟩;refine vb9 ?_ ?_ ?_ ?_ ?_<;>intros
 all_goals (first|(refine congrArg AV.bool (Bool.eq_iff_iff.2 ?_);simp only[zA2,zA9,Bool.not_eq_true',zA3,decide_eq_false_iff_not,zB0,iff_false,iff_true,true_iff,false_iff,reduceCtorEq,not_true_eq_false,not_false_eq_true];omega))
theorem rb(lo hi x:Int):va6 97 [i64 lo,i64 hi,.slc 1 [[i64 x]]] (.bool (decide (lo<=x/\x<=hi))):=by
 refine vb4 Tryz.func97 ?_;refine Or.inl ⟨2,vb3 ?_⟩;refine vb8 ?_ ?_ ?_<;>intros
 all_goals (first|(refine congrArg AV.bool (Bool.eq_iff_iff.2 ?_);simp only[zA2,zA9,Bool.not_eq_true',zA3,decide_eq_false_iff_not,zB0,iff_false,iff_true,true_iff,false_iff,reduceCtorEq,not_true_eq_false,not_false_eq_true];omega))
theorem Oi(a:Int×Int):va6 98 [fr a] (.bool (AE a)):=by
 have c:=MJ a;obtain⟨x,y⟩:=a;unfold AE;cases h:o7 (x,y)
 ·rw[h]at c;rw[if_neg va8]at c;refine pF Tryz.func98 ?_;conv=>whnf
  try exact va1
 ·rw[h]at c;rw[if_pos rfl]at c;refine vb4 Tryz.func98 ?_;refine vc8 ?_ ?_ ?_<;>intros
  all_goals (rw[Bool.true_and];(refine congrArg AV.bool (Bool.eq_iff_iff.2 ?_);simp only[zA2,zA9,Bool.not_eq_true',zA3,decide_eq_false_iff_not,zB0,iff_false,iff_true,true_iff,false_iff,reduceCtorEq,not_true_eq_false,not_false_eq_true];omega))
theorem JU(a:Int×Int)(h1:A4 a.1)(h2:A4 a.2):va6 177 [fr a] (.bool (AE a)):=by
 have c:=pN a h1 h2;obtain⟨x,y⟩:=a;unfold AE;cases h:o7 (x,y)
 ·rw[h]at c;refine pF Tryz.func177 ?_;conv=>whnf
  try exact va1
 ·rw[h]at c;refine vb4 Tryz.func177 ?_;refine vc8 ?_ ?_ ?_<;>intros
  all_goals (rw[Bool.true_and];(refine congrArg AV.bool (Bool.eq_iff_iff.2 ?_);simp only[zA2,zA9,Bool.not_eq_true',zA3,decide_eq_false_iff_not,zB0,iff_false,iff_true,true_iff,false_iff,reduceCtorEq,not_true_eq_false,not_false_eq_true];omega))
theorem oL(l:K1):va6 53 [PD l] (i64 (if eY l=true then 0 else 81)):=by
 have c:=Oi l.al;have c2:=FO 1 255 l.p l.q;unfold eY;cases h:AE l.al
 ·rw[h]at c;rw[Bool.and_false,if_neg va8];refine pF Tryz.func53 ?_;conv=>whnf
  try exact va1
 ·rw[h]at c;rw[Bool.and_true];by_cases h2:1<=l.p/\l.p<l.q/\l.q<=255
  ·rw[zA4 h2,if_pos rfl];refine pF Tryz.func53 ?_;conv=>whnf
   try exact va1
  ·rw[zA5 h2,if_neg va8];refine pF Tryz.func53 ?_;conv=>whnf
   try exact va1
   all_goals (exfalso;omega)
theorem oM(l:K1)(h1:A4 l.al.1)(h2:A4 l.al.2):va6 127 [PD l] (.bool (eY l)):=by
 have c:=JU l.al h1 h2;unfold eY;refine vb4 Tryz.func127 ?_;refine vc9 ?_ ?_ ?_ ?_<;>intros
 all_goals first
  | (rw[zA5 va5];rfl)
  | (rw[zA4 va5];exact congrArg AV.bool (Bool.true_and _).symm)
 
theorem wI(l:K1)(h1:A4 l.al.1)(h2:A4 l.al.2):va6 74 [PD l] (i64 (if eY l=true then 0 else 81)):=by
 have c:=oM l h1 h2;refine vb4 Tryz.func74 ?_;by_cases h:eY l=true
 ·rw[h]at c;rw[if_pos h];try exact va1
 ·have h2:eY l=false:=by simpa using h
  rw[h2]at c;rw[if_neg h];try exact va1
theorem Oj:va6 117 [] (.agg [i64 0,i64 0,.ff]):=by
 refine pF Tryz.func117 ?_;conv=>whnf
 try rfl
theorem lV(d:Q5):va6 43 [.agg (dw d)] (.bool (bn d)):=by
 unfold bn;refine vb4 Tryz.func43 ?_;refine ve6 ?_ ?_ ?_<;>intros
 all_goals (first|(refine congrArg AV.bool (Bool.eq_iff_iff.2 ?_);simp only[zA2,zA9,Bool.not_eq_true',zA3,decide_eq_false_iff_not,zB0,iff_false,iff_true,true_iff,false_iff,reduceCtorEq,not_true_eq_false,not_false_eq_true];omega))
theorem Ok(d:Q5):va6 27 [.agg (dw d)] (.bool (bn d)):=by
 unfold bn;refine vb4 Tryz.func27 ?_;refine ve6 ?_ ?_ ?_<;>intros
 all_goals (first|(refine congrArg AV.bool (Bool.eq_iff_iff.2 ?_);simp only[zA2,zA9,Bool.not_eq_true',zA3,decide_eq_false_iff_not,zB0,iff_false,iff_true,true_iff,false_iff,reduceCtorEq,not_true_eq_false,not_false_eq_true];omega))
theorem I1(t:r9)(hl:t.k9.length<2^40):va6 28 [gp t] (i64 (V0 t)):=by
 unfold V0;by_cases hb:J3 t.m0=true
 ·rw[if_pos hb];have c1:=jd t.m0;rw[if_pos hb]at c1;have bl:=D3.1 hb;have c2:=oK t.m0 hb;have c3:=ld t.m0 hb t.m0.w9 bl.2.2.1.1 bl.2.2.1.2;have wr:=R7 hb bl.2.2.1.1 bl.2.2.1.2;by_cases hs:Rr t=true
  ·have sz:=im.1 hs;refine vb4 Tryz.func28 ?_;refine vc6 ?_;intros;clear c1 c2 c3;refine Or.inr ⟨Bool×Nat,[50],[6],[],fun i=>[i64 i.2],fun i=>[.cells 69 [i64 (P5 t.k9 i.2).id,i64 (P5 t.k9 i.2).cnt,u8 (P5 t.k9 i.2).o5,match i.1 with|true => .ff|false => .bool (P5 t.k9 i.2).hit]],fun _=>[],fun i=>t.k9.length-i.2,fun i=>i.2<=t.k9.length/\∀ j,j<i.2->jb t j=true,vb3 ?_⟩;refine⟨⟨(true,0),?_⟩,?_⟩
   ·(conv=>whnf);exact kK ⟨⟨zB4 _,fun j hj=>absurd hj (zB3 j)⟩,rfl,rfl,rfl⟩
   rintro⟨q,k⟩ ⟨hk,fX⟩;have hk:k<=t.k9.length:=hk;have fX:∀ j,j<k->jb t j=true:=fX;by_cases L4:k<t.k9.length
   ·have hi:=km (t:=t) (k:=k);have hp:=uP fX;have rC:P5 t.k9 (k+1)=t.k9.getD k l9:=eZ _ _;have all:jb t k=false->¬fc t=true:=fun e h=>by
     unfold fc at h;rw[zA2,Y4]at h;rw[h.2 k L4]at e;cases e
    have next:jb t k=true->∀ j,j<k+1->jb t j=true:=fun e j hj=>by
     by_cases z:j=k
     ·subst z;exact e
     ·exact fX j va5
    have e0:t.k9.getD (Int.toNat (k:Int)) l9=t.k9.getD k l9:=rfl;cases q <;>
    ·(conv=>whnf);refine⟨fun h=>?_,fun h=>absurd (zA0 h) va5⟩;conv=>whnf
     refine⟨⟨va5,va5⟩,vb3 ?_⟩;rw[e0];generalize hx:t.k9.getD k l9=x at hi rC ⊢;obtain⟨xi,xc,xv,xh⟩:=x;have w1:xc<=t.count/\0<=xc->IntKind.i64.wrap (xc+M4 t.m0 t.m0.w9)=xc+M4 t.m0 t.m0.w9:=fun h=>z5 _ va5 va5
     have w2:xc<=t.count/\0<=xc->IntKind.i64.wrap (xc+Y1 t.m0 t.m0.w9)=xc+Y1 t.m0 t.m0.w9:=fun h=>z5 _ va5 va5
     simp only at hi hp;by_cases ho:jb t k=true
     ·have f:=hi.1 ho;have nx:=next ho;clear hi all next fX ho hb hs hx h;have w1:=w1 va5;have w2:=w2 va5;cases xh
      ·refine ve4 ?_;intros;refine⟨(false,k+1),vb3 ?_⟩;refine kK ⟨⟨?_,?_,nx⟩,?_,?_,rfl⟩
       ·show t.k9.length-(k+1)<t.k9.length-k;omega
       ·omega
       ·rw[z5 _ va5 va5];rfl
       ·show _=[Row.cells 69 [i64 (P5 t.k9 (k+1)).id,i64 (P5 t.k9 (k+1)).cnt,u8 (P5 t.k9 (k+1)).o5,.bool (P5 t.k9 (k+1)).hit]]
        rw[rC]
      ·have f2:=f.2.2.2.2.2.2 rfl;refine ve4 ?_;intros;refine⟨(false,k+1),vb3 ?_⟩;refine kK ⟨⟨?_,?_,nx⟩,?_,?_,rfl⟩
       ·show t.k9.length-(k+1)<t.k9.length-k;omega
       ·omega
       ·rw[z5 _ va5 va5];rfl
       ·show _=[Row.cells 69 [i64 (P5 t.k9 (k+1)).id,i64 (P5 t.k9 (k+1)).cnt,u8 (P5 t.k9 (k+1)).o5,.bool (P5 t.k9 (k+1)).hit]]
        rw[rC]
     ·have kD:jb t k=false:=by simpa using ho
      rw[if_neg (all kD)];have f:=mt hi.2 ho;clear hi all next fX ho kD hb hs hx h rC;by_cases hr:xc<=t.count/\0<=xc
      ·have w1:=w1 hr;have w2:=w2 hr;cases xh
       ·refine ve4 ?_;intros;all_goals first|(exfalso;apply f;refine⟨?_,?_,?_,?_,?_,?_,fun h=>?_⟩<;>first|omega|cases h)
       ·try exact va1
        all_goals first|(exfalso;apply f;refine⟨?_,?_,?_,?_,?_,?_,fun h=>?_⟩<;>omega)
      ·try exact va1
   ·have ek:k=t.k9.length:=by omega
    have hg:fc t=true:=by
     unfold fc;rw[hs,Bool.true_and,Y4];intro j hj;exact fX j va5
    rw[if_pos hg];cases q <;>
    ·(conv=>whnf);refine⟨fun h=>absurd (zA1 h) va5,fun h=>?_⟩;conv=>whnf
     all_goals rfl
  ·have hn:¬fc t=true:=fun h=>by
    unfold fc at h;rw[zA2]at h;exact hs h.1
   rw[if_neg hn];have sz:=mt im.2 hs;refine pF Tryz.func28 ?_;conv=>whnf
   try exact va1
   all_goals (exfalso;omega)
 ·rw[if_neg hb];have c1:=jd t.m0;rw[if_neg hb]at c1;refine pF Tryz.func28 ?_;conv=>whnf
  try exact va1

end Go.Proofs.Tryz.My
