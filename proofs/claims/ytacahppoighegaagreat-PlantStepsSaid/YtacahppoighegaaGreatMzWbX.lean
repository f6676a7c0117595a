/- Helper lemmas. -/
import Derived.Test.YtacahppoighegaaGreatMzWbA
set_option linter.unusedVariables false
set_option linter.unusedSimpArgs false
set_option maxRecDepth 100000
set_option maxHeartbeats 0
namespace Go.Proofs.Tryz.My
open Go Go.Ev
theorem FQ{a b:r9}:dx a b=true↔R8 a.m0 b.m0/\(a.count=b.count/\a.next=b.next)/\rB oB l9 a.k9 b.k9=true:=by
 unfold dx;rw[zA2,zA3,and_assoc]
theorem yf{a b:Q5}:qU a b=true↔(a.hits=b.hits/\a.rounds=b.rounds)/\a.alarm=b.alarm:=by
 simp[qU]
theorem yg{a b:n8}:qV a b=true↔cT a.line b.line/\dx a.o6 b.o6=true/\ki a.n6 b.n6=true/\qU a.drift b.drift=true/\rB gv l5 a.k8 b.k8=true:=by
 unfold qV;simp only[zA2,zA3]
theorem Ow(a b:r9)(hl:a.k9.length<2^40):va6 23 [gp a,gp b] (.bool (dx a b)):=by
 by_cases hb:R8 a.m0 b.m0/\(a.count=b.count/\a.next=b.next)
 ·have es:dx a b=rB oB l9 a.k9 b.k9:=by
   unfold dx;rw[zA4 hb,Bool.true_and]
  rw[es];obtain⟨⟨b1,b2,b3,b4⟩,b5,b6⟩:=hb;clear es;refine vb4 Tryz.func23 ?_;refine ve5 ?_ ?_<;>(repeat intro hh)
  ·exact congrArg AV.bool (Ak va5)
  have h0:(a.k9.length:Int)=b.k9.length:=by omega
  refine Or.inr ⟨Nat,[5],[],[],fun k=>[i64 k],fun _=>[],fun _=>[],fun k=>a.k9.length-k,fun k=>k<=a.k9.length/\∀ i,i<k->oB (a.k9.getD i l9) (b.k9.getD i l9)=true,vb3 ?_⟩;refine⟨⟨0,?_⟩,?_⟩
  ·(conv=>whnf);exact kK ⟨⟨zB4 _,fun i hi=>absurd hi (zB3 i)⟩,rfl,rfl,rfl⟩
  ·intro k hk;conv=>whnf
   refine⟨fun h=>?_,fun h=>?_⟩
   ·have h:=zA1 h;have L4:k<a.k9.length:=by omega
    conv=>whnf
    iterate 3 (first|(refine⟨va4,?_⟩;(conv=>whnf))|(refine⟨⟨va5,va5⟩,?_⟩;(conv=>whnf)))
    iterate 2 (first|(refine⟨va4,?_⟩;(conv=>whnf))|skip)
    have e0:a.k9.getD (Int.toNat (k:Int)) l9=a.k9.getD k l9:=rfl;have e1:b.k9.getD (Int.toNat (k:Int)) l9=b.k9.getD k l9:=rfl;rw[e0,e1];refine WQ (fun hh=>?_) (fun hh=>?_)
    ·(conv=>whnf);exact congrArg AV.bool (kP (p:=oB) (d:=l9) L4 (by simp[oB]at hh ⊢; grind))
    ·refine⟨k+1,vb3 ?_⟩;refine kK ⟨⟨?_,?_,?_⟩,?_,rfl,rfl⟩
     ·show a.k9.length-(k+1)<a.k9.length-k;omega
     ·omega
     ·intro i hi;by_cases e:i=k
      ·subst e;simp[oB]at hh ⊢; grind
      ·exact hk.2 i va5
     ·rw[z5 _ va5 va5];rfl
   ·have h:=zA0 h;conv=>whnf
    exact congrArg AV.bool (mE h0 fun i hi=>hk.2 i va5)
 ·have es:dx a b=false:=Bool.eq_false_iff.2 fun q=>by
   have q:=FQ.1 q;exact hb ⟨q.1,q.2.1⟩
  rw[es];have hb:¬((a.m0.step=b.m0.step/\a.m0.v8=b.m0.v8/\a.m0.w9=b.m0.w9/\a.m0.len=b.m0.len)/\(a.count=b.count/\a.next=b.next)):=hb;refine pF Tryz.func23 ?_;conv=>whnf
  try exact va1
  all_goals first|rfl|(exfalso;simp_all;done)
theorem O2(lo hi n:Int):va6 30 [i64 lo,i64 hi,i64 n] (.bool (decide (lo<=n) && decide (n<=hi))):=uT lo hi n
theorem N6(n lo hi:Int):va6 73 [i64 n,i64 lo,i64 hi] (.bool (decide (lo<=n) && decide (n<=hi))):=kq n lo hi
theorem AM(l:K1):va6 26 [lin l] (i64 (bG l)):=by
 have c1:=jd l.m0;have c2:=oL l;unfold bG;by_cases h1:J3 l.m0=true
 ·rw[if_pos h1]at c1 ⊢;by_cases h2:(1<=l.lag/\l.lag<=100)/\(1<=l.keep/\l.keep<=32)
  ·rw[if_pos h2];refine pF Tryz.func26 ?_;conv=>whnf
   try exact vd5 O2
   all_goals rfl
  ·rw[if_neg h2];refine pF Tryz.func26 ?_;conv=>whnf
   try exact vd5 O2
   all_goals (exfalso;omega)
 ·rw[if_neg h1]at c1 ⊢;refine pF Tryz.func26 ?_;conv=>whnf
  try exact va1
def IB4(b:H2):Prop:=A4 b.step
def RB(l:K1):Prop:=A4 l.m0.step/\A4 l.al.1/\A4 l.al.2
theorem vo(l:K1)(hI:RB l):va6 40 [lin l] (i64 (bG l)):=by
 have c1:=vi l.m0 hI.1;have c2:=wI l hI.2.1 hI.2.2;unfold bG;by_cases h1:J3 l.m0=true
 ·rw[if_pos h1]at c1 ⊢;by_cases h2:(1<=l.lag/\l.lag<=100)/\(1<=l.keep/\l.keep<=32)
  ·rw[if_pos h2];refine pF Tryz.func40 ?_;conv=>whnf
   try exact vd5 N6
   all_goals rfl
  ·rw[if_neg h2];refine pF Tryz.func40 ?_;conv=>whnf
   try exact vd5 N6
   all_goals (exfalso;omega)
 ·rw[if_neg h1]at c1 ⊢;refine pF Tryz.func40 ?_;conv=>whnf
  try exact va1
abbrev Hz(l:K1):AV := .agg [i64 l.m0.step,i64 l.m0.v8,i64 l.m0.w9,i64 l.m0.len,i64 l.lag,i64 l.keep,i64 l.p,i64 l.q,i64 l.al.1,i64 l.al.2,
 i64 l.m0.step,i64 l.m0.v8,i64 l.m0.w9,i64 l.m0.len,i64 0,i64 0,.nils,i64 l.keep,.nils,.nils,i64 0,.nils,i64 0,i64 0,.ff,.nils]
abbrev Tx:K1:=⟨⟨0,0,0,0⟩,0,0,0,0,(0,0)⟩
abbrev WL:AV:=Hz Tx
structure jq (w:n8):Prop where
 b:C8 w.n6
 t:w.o6.k9.length<2^20
 h:w.k8.length<2^20
theorem Dk{n a:Int}(h1:0<=n)(h2:n<=1099511627776)(h3:0<=a)(h4:a<=2000):0<=n*a/\n*a<=2199023255552000:=by
 refine⟨Int.mul_nonneg h1 h3,?_⟩;have e1:n*a<=1099511627776*a:=Int.mul_le_mul_of_nonneg_right h2 h3;omega
structure Room (w:n8) (c:Int):Prop where
 n:IntKind.i64.wrap (w.o6.count-c)=w.o6.count-c
 l:IntKind.i64.wrap (w.line.m0.step-w.line.m0.v8)=w.line.m0.step-w.line.m0.v8
 m:IntKind.i64.wrap (w.line.m0.step+w.line.m0.v8)=w.line.m0.step+w.line.m0.v8
 nl:IntKind.i64.wrap (IntKind.i64.wrap (w.o6.count-c)*IntKind.i64.wrap (w.line.m0.step-w.line.m0.v8))=(w.o6.count-c)*(w.line.m0.step-w.line.m0.v8)
 nm:IntKind.i64.wrap (IntKind.i64.wrap (w.o6.count-c)*IntKind.i64.wrap (w.line.m0.step+w.line.m0.v8))=(w.o6.count-c)*(w.line.m0.step+w.line.m0.v8)
 b:IntKind.i64.wrap (w.n6.next-1)=w.n6.next-1
theorem HA{w:n8}(hl:J3 w.line.m0=true)(ht:0<=w.o6.count/\w.o6.count<=1099511627776)(hb:0<=w.n6.next/\w.n6.next<=1099511627776){c:Int}(h1:0<=c)(h2:c<=w.o6.count):Room w c:=by
 have bl:=D3.1 hl;have m1:=Dk (n:=w.o6.count-c) (a:=w.line.m0.step-w.line.m0.v8) va5 va5 va5 va5;have m2:=Dk (n:=w.o6.count-c) (a:=w.line.m0.step+w.line.m0.v8) va5 va5 va5 va5;have e1:IntKind.i64.wrap (w.o6.count-c)=w.o6.count-c:=z5 _ va5 va5;have e2:IntKind.i64.wrap (w.line.m0.step-w.line.m0.v8)=w.line.m0.step-w.line.m0.v8:=z5 _ va5 va5;have e3:IntKind.i64.wrap (w.line.m0.step+w.line.m0.v8)=w.line.m0.step+w.line.m0.v8:=z5 _ va5 va5;exact⟨e1,e2,e3,by rw[e1,e2];exact z5 _ va5 va5,by rw[e1,e3];exact z5 _ va5 va5,z5 _ va5 va5⟩
theorem HB{w:n8}(hl:bG w.line=0):jz w=if lF w=true then 0 else 8:=by unfold jz;rw[if_pos hl]
theorem Ox{b:n9}(h:B8 b=true):0<=b.next/\b.next<=1099511627776:=(il.1 h).nx
theorem dX{w:n8}:lF w=true↔(NY w=true/\fc w.o6=true/\B8 w.n6=true)/\∀ i,i<w.k8.length->AG w i=true:=by
 unfold lF;simp only[zA2,Y4];exact⟨fun⟨a,b,c,d⟩=>⟨⟨a,b,c⟩,d⟩,fun⟨⟨a,b,c⟩,d⟩=>⟨a,b,c,d⟩⟩
theorem cw(w:n8)(o:jq w):va6 17 [ai w] (i64 (jz w)):=by
  have c1:=AM w.line;by_cases hl:bG w.line=0
  rotate_left
  · have e:jz w=bG w.line:=by unfold jz;rw[if_neg hl]
    rw[e];generalize bG w.line=x at *
    refine pF Tryz.func17 ?_;conv=>whnf
    try exact va1
    all_goals rfl
  rw[hl]at c1;rw[HB hl];have lz:=aA hl;have bl:=D3.1 lz.1;have c2:=Ok w.drift;have c3:=I1 w.o6 (P1 o.t);have c4:=hC w.n6 o.b;have ht:=o.h;have hp:=o.t;by_cases hw:NY w=true/\fc w.o6=true/\B8 w.n6=true
  · obtain⟨h1,h2,h3⟩:=hw
    have ow:=iq.1 h1;obtain⟨sb,kp,ln,dr⟩:=ow;have eb:=kn sb;obtain⟨s1,s2,s3,s4⟩:=sb;rw[dr]at c2;have te:V0 w.o6=0:=aO.2 ⟨by rw[eb];exact lz.1,h2⟩;rw[te]at c3;rw[if_pos h3]at c4;have tg:=C7.1 te;have nx:=Ox h3;have fin:∀ i,i<w.k8.length->AG w i=false->(if lF w=true then(0:Int)else 8)=8:=fun i hi h=>if_neg fun q=>by
      rw[(dX.1 q).2 i hi]at h;cases h
    have ok:(∀ i,i<w.k8.length->AG w i=true)->(if lF w=true then(0:Int)else 8)=0:=fun h=>if_pos (dX.2 ⟨⟨h1,h2,h3⟩,h⟩)
    generalize (if lF w=true then(0:Int)else 8)=res at *
    refine vb4 Tryz.func17 ?_;refine vc6 ?_;intros;all_goals (try (exfalso;simp_all;done))
    clear c1 c2 c3 c4 h1 h2 h3;refine Or.inr ⟨Nat,[83],[],[],fun k=>[i64 k],fun _=>[],fun _=>[],fun k=>w.k8.length-k,fun k=>k<=w.k8.length/\∀ i,i<k->AG w i=true,vb3 ?_⟩;refine⟨⟨0,?_⟩,?_⟩
    · (conv=>whnf)
      exact kK ⟨⟨zB4 _,fun i hi=>absurd hi (zB3 i)⟩,rfl,rfl,rfl⟩
    rintro k ⟨hk,fX⟩;by_cases L4:k<w.k8.length
    · have TY:k<w.o6.k9.length:=by omega
      have sn:=tg.sn _ (G6 (d:=l9) TY);have rm:=HA lz.1 tg.ct nx sn.2.1.1 sn.2.1.2.1;have iff:=sr (w:=w) (k:=k);have bad:=fin k L4;have YB:AG w k=true->∀ j,j<k+1->AG w j=true:=fun e j hj=>by
        by_cases z:j=k
        · subst z;exact e
        · exact fX j va5
      conv=>whnf
      refine⟨fun h=>?_,fun h=>absurd (zA0 h) va5⟩;conv=>whnf
      iterate 3 (first|(refine⟨⟨va5,va5⟩,?_⟩;(conv=>whnf))|(refine⟨va4,?_⟩;(conv=>whnf))|skip)
      have e0:w.o6.k9.getD (Int.toNat (k:Int)) l9=w.o6.k9.getD k l9:=rfl;have e1:w.k8.getD (Int.toNat (k:Int)) l5=w.k8.getD k l5:=rfl;try rw[e0]
      try rw[e1]
      obtain⟨r1,r2,r3,r4,r5,r6⟩:=rm;clear fin ok fX tg sn lz hl dr te eb s1 s2 s3 s4 kp;by_cases ho:AG w k=true
      · have f:=iff.1 ho
        have nx2:=YB ho;clear iff bad YB ho;refine vd4 O2 ?_;intros;all_goals first
          | (refine⟨k+1,?_⟩
             conv=>whnf
             refine kK ⟨⟨?_,?_,nx2⟩,?_,rfl,rfl⟩
             · show w.k8.length-(k+1)<w.k8.length-k;omega
             · omega
             · rw[z5 _ va5 va5];rfl)
         
      · have kD:AG w k=false:=by simpa using ho
        have f:=mt iff.2 ho;rw[bad kD];clear iff bad YB ho kD;try exact vd5 O2
        all_goals (first|rfl|(exfalso;omega))
    · have ek:k=w.k8.length:=by omega
      rw[ok fun i hi=>fX i va5];conv=>whnf
      refine⟨fun h=>absurd (zA1 h) va5,fun h=>?_⟩;conv=>whnf
      all_goals rfl
  · have nb:¬lF w=true:=fun q=>hw (dX.1 q).1
    rw[if_neg nb];clear nb;rw[iq]at hw;unfold R8 at hw;by_cases LJ:J3 w.o6.m0=true
    · by_cases h2:fc w.o6=true
      · have te:V0 w.o6=0:=aO.2 ⟨LJ,h2⟩
        rw[te]at c3;by_cases h3:B8 w.n6=true
        · rw[if_pos h3]at c4
          refine vb4 Tryz.func17 ?_;refine vc6 ?_;intros;all_goals first|rfl|(exfalso;simp_all;done)
        · rw[if_neg h3]at c4
          refine pF Tryz.func17 ?_;conv=>whnf
          try exact va1
          all_goals first|rfl|(exfalso;simp_all;done)
      · have te:V0 w.o6=8:=by unfold V0;rw[if_pos LJ,if_neg h2]
        rw[te]at c3;refine pF Tryz.func17 ?_;conv=>whnf
        try exact va1
        all_goals first|rfl|(exfalso;simp_all;done)
    · have te:V0 w.o6=90:=by unfold V0;rw[if_neg LJ]
      rw[te]at c3;refine pF Tryz.func17 ?_;conv=>whnf
      try exact va1
      all_goals first|rfl|(exfalso;simp_all;done)
theorem S6(t:r9)(hl:t.k9.length<2^40)(hI:A4 t.m0.step):va6 41 [gp t] (i64 (V0 t)):=by
  have c1:=oJ t.m0 hI;unfold V0;by_cases hb:J3 t.m0=true
  · rw[if_pos hb]
    rw[hb]at c1;have bl:=D3.1 hb;have c3:=sy t.m0 hb t.m0.w9 bl.2.2.1.1 bl.2.2.1.2;have wr:=R7 hb bl.2.2.1.1 bl.2.2.1.2;by_cases hs:Rr t=true
    · have sz:=im.1 hs
      have fin:∀ i,i<t.k9.length->jb t i=false->(if fc t=true then(0:Int)else 8)=8:=fun i hi h=>if_neg fun q=>by
        unfold fc at q;rw[zA2,Y4]at q;rw[q.2 i hi]at h;cases h
      have ok:(∀ i,i<t.k9.length->jb t i=true)->(if fc t=true then(0:Int)else 8)=0:=fun h=>if_pos (by
        unfold fc
        rw[hs,Bool.true_and,Y4];exact h)
      generalize (if fc t=true then(0:Int)else 8)=res at *
      refine vb4 Tryz.func41 ?_;refine vd4 J0 ?_;intros;clear c1 c3;refine Or.inr ⟨Nat,[5],[],[],fun i=>[i64 i],fun _=>[],fun _=>[],fun i=>t.k9.length-i,fun i=>i<=t.k9.length/\∀ j,j<i->jb t j=true,vb3 ?_⟩;refine⟨⟨0,?_⟩,?_⟩
      · (conv=>whnf)
        exact kK ⟨⟨zB4 _,fun j hj=>absurd hj (zB3 j)⟩,rfl,rfl,rfl⟩
      rintro k ⟨hk,fX⟩;by_cases L4:k<t.k9.length
      · have hi:=km (t:=t) (k:=k)
        have hp:=uP fX;have all:=fin k L4;have next:jb t k=true->∀ j,j<k+1->jb t j=true:=fun e j hj=>by
          by_cases z:j=k
          · subst z;exact e
          · exact fX j va5
        have pv:0<k->t.k9.getD (Int.toNat ((k:Int)-1)) l9=P5 t.k9 k:=fun h=>by
          obtain⟨m,rfl⟩:∃ m,k=m+1:=⟨k-1,va5⟩
          rw[eZ,show((m+1:Nat):Int)-1=(m:Int)by omega];rfl
        have p0:k=0->P5 t.k9 k=⟨-1,-1,0,false⟩:=fun h=>by subst h;rfl
        have wk:IntKind.i64.wrap ((k:Int)-1)=(k:Int)-1:=z5 _ va5 va5;have wn:IntKind.i64.wrap (t.next-1)=t.next-1:=z5 _ va5 va5;have e0:t.k9.getD (Int.toNat (k:Int)) l9=t.k9.getD k l9:=rfl;conv=>whnf
        refine⟨fun h=>?_,fun h=>absurd (zA0 h) va5⟩;conv=>whnf
        refine⟨⟨va5,va5⟩,vb3 ?_⟩;rw[e0];generalize hx:t.k9.getD k l9=x at hi ⊢;obtain⟨xi,xc,xv,xh⟩:=x;have w1:xc<=t.count/\0<=xc->IntKind.i64.wrap (xc+M4 t.m0 t.m0.w9)=xc+M4 t.m0 t.m0.w9:=fun h=>z5 _ va5 va5
        have w2:xc<=t.count/\0<=xc->IntKind.i64.wrap (xc+Y1 t.m0 t.m0.w9)=xc+Y1 t.m0 t.m0.w9:=fun h=>z5 _ va5 va5
        simp only at hi;by_cases k0:k=0
        · have pz:=p0 k0
          rw[pz]at hi;simp only at hi;subst k0;clear pz p0 pv hp;by_cases ho:jb t 0=true
          · have f:=hi.1 ho
            have nx:=next ho;clear hi all next fX ho hb hs hx h fin ok;have w1:=w1 va5;have w2:=w2 va5;cases xh <;>
            · try (have f2:=f.2.2.2.2.2.2 rfl)
              refine vd4 J0 ?_;intros;all_goals first
                | (refine⟨0+1,?_⟩
                   conv=>whnf
                   refine kK ⟨⟨?_,?_,nx⟩,?_,rfl,rfl⟩
                   · show t.k9.length-(0+1)<t.k9.length-0;omega
                   · omega
                   · rw[z5 _ va5 va5];rfl)
               
          · have kD:jb t 0=false:=by simpa using ho
            rw[all kD];have f:=mt hi.2 ho;clear hi all next fX ho kD hb hs hx h fin ok;by_cases hr:xc<=t.count/\0<=xc
            · have w1:=w1 hr
              have w2:=w2 hr;cases xh <;>
              · (repeat' ((first|refine va0 (fun hh=>?_) fun hh=>?_|refine kR ?_|((try refine .inl ?_;conv=>whnf);(try refine⟨false,?_⟩;conv=>whnf);refine⟨_,by exact J0 _ _ _,?_⟩)|fail)<;>first|exact hh.elim|conv=>whnf))
                all_goals first|rfl|(exfalso;apply f;refine⟨?_,?_,?_,?_,?_,?_,fun h=>?_⟩<;>first|omega|cases h)
            · try exact vd5 J0
              all_goals rfl
        · have pw:=pv va5
          rw[<- pw,<- wk]at hi hp;clear pv p0 pw;have hp:=hp.2.2 va5;by_cases ho:jb t k=true
          · have f:=hi.1 ho
            have nx:=next ho;clear hi all next fX ho hb hs hx h fin ok;have w1:=w1 va5;have w2:=w2 va5;cases xh <;>
            · try (have f2:=f.2.2.2.2.2.2 rfl)
              refine vd4 J0 ?_;intros;all_goals first
                | (refine⟨k+1,?_⟩
                   conv=>whnf
                   refine kK ⟨⟨?_,?_,nx⟩,?_,rfl,rfl⟩
                   · show t.k9.length-(k+1)<t.k9.length-k;omega
                   · omega
                   · rw[z5 _ va5 va5];rfl)
               
          · have kD:jb t k=false:=by simpa using ho
            rw[all kD];have f:=mt hi.2 ho;clear hi all next fX ho kD hb hs hx h fin ok;by_cases hr:xc<=t.count/\0<=xc
            · have w1:=w1 hr
              have w2:=w2 hr;cases xh <;>
              · (repeat' ((first|refine va0 (fun hh=>?_) fun hh=>?_|refine kR ?_|((try refine .inl ?_;conv=>whnf);(try refine⟨false,?_⟩;conv=>whnf);refine⟨_,by exact J0 _ _ _,?_⟩)|fail)<;>first|exact hh.elim|conv=>whnf))
                all_goals first|rfl|(exfalso;apply f;refine⟨?_,?_,?_,?_,?_,?_,fun h=>?_⟩<;>first|omega|cases h)
            · try exact vd5 J0
              all_goals rfl
      · have ek:k=t.k9.length:=by omega
        rw[ok fun i hi=>fX i va5];conv=>whnf
        refine⟨fun h=>absurd (zA1 h) va5,fun h=>?_⟩;conv=>whnf
        all_goals rfl
    · have hn:¬fc t=true:=fun h=>by
        unfold fc at h;rw[zA2]at h;exact hs h.1
      rw[if_neg hn];have sz:=mt im.2 hs;refine pF Tryz.func41 ?_;conv=>whnf
      try exact vd5 J0
      all_goals (first|rfl|(exfalso;omega))
  · have cJ:J3 t.m0=false:=by simpa using hb
    rw[if_neg hb];rw[cJ]at c1;refine pF Tryz.func41 ?_;conv=>whnf
    try exact va1
theorem RC(w:n8)(k:Nat)(rm:Room w (w.o6.k9.getD k l9).cnt):va6 44 [ai w,.agg (B4 (w.k8.getD k l5)),.agg (C2 (w.o6.k9.getD k l9))] (.bool (AG w k)):=by
 have iff:=sr (w:=w) (k:=k);generalize AG w k=q at *
 generalize w.k8.getD k l5=x at *
 generalize w.o6.k9.getD k l9=s at *
 obtain⟨r1,r2,r3,r4,r5,r6⟩:=rm;refine vb4 Tryz.func44 ?_;refine ve0 N6 ?_ ?_ ?_ ?_ ?_ ?_<;>intros
 all_goals first
  | (refine congrArg AV.bool (Eq.symm ?_);rw[Bool.eq_false_iff];intro z;have f:=iff.1 z;omega)
  | (refine congrArg AV.bool ?_;rw[Bool.eq_iff_iff,iff];simp only[zA2,zA3];omega)
 
theorem mO(w:n8)(o:jq w)(hI:RB w.line)(hT:A4 w.o6.m0.step)(hG:∀ i,IG (w.n6.j8.getD i p9).j9):va6 20 [ai w] (i64 (jz w)):=by
  have c1:=vo w.line hI;by_cases hl:bG w.line=0
  rotate_left
  · have e:jz w=bG w.line:=by unfold jz;rw[if_neg hl]
    rw[e];generalize bG w.line=x at *
    refine pF Tryz.func20 ?_;conv=>whnf
    try exact va1
    all_goals rfl
  rw[hl]at c1;rw[HB hl];have lz:=aA hl;have bl:=D3.1 lz.1;have c2:=lV w.drift;have c3:=S6 w.o6 (P1 o.t) hT;have c4:=O5 w.n6 o.b hG;have ht:=o.h;have hp:=o.t;by_cases hw:NY w=true/\fc w.o6=true/\B8 w.n6=true
  · obtain⟨h1,h2,h3⟩:=hw
    have ow:=iq.1 h1;obtain⟨sb,kp,ln,dr⟩:=ow;have eb:=kn sb;obtain⟨s1,s2,s3,s4⟩:=sb;rw[dr]at c2;have te:V0 w.o6=0:=aO.2 ⟨by rw[eb];exact lz.1,h2⟩;rw[te]at c3;rw[h3]at c4;have tg:=C7.1 te;have nx:=Ox h3;have fin:∀ i,i<w.k8.length->AG w i=false->(if lF w=true then(0:Int)else 8)=8:=fun i hi h=>if_neg fun q=>by
      rw[(dX.1 q).2 i hi]at h;cases h
    have ok:(∀ i,i<w.k8.length->AG w i=true)->(if lF w=true then(0:Int)else 8)=0:=fun h=>if_pos (dX.2 ⟨⟨h1,h2,h3⟩,h⟩)
    generalize (if lF w=true then(0:Int)else 8)=res at *
    refine vb4 Tryz.func20 ?_;refine vc6 ?_;intros;all_goals (try (exfalso;simp_all;done))
    clear c1 c2 c3 c4 h1 h2 h3;refine Or.inr ⟨Nat,[4],[],[],fun k=>[i64 k],fun _=>[],fun _=>[],fun k=>w.k8.length-k,fun k=>k<=w.k8.length/\∀ i,i<k->AG w i=true,vb3 ?_⟩;refine⟨⟨0,?_⟩,?_⟩
    · (conv=>whnf)
      exact kK ⟨⟨zB4 _,fun i hi=>absurd hi (zB3 i)⟩,rfl,rfl,rfl⟩
    rintro k ⟨hk,fX⟩;by_cases L4:k<w.k8.length
    · have TY:k<w.o6.k9.length:=by omega
      have sn:=tg.sn _ (G6 (d:=l9) TY);have rm:=HA lz.1 tg.ct nx sn.2.1.1 sn.2.1.2.1;have cf:=RC w k rm;have bad:=fin k L4;have YB:AG w k=true->∀ j,j<k+1->AG w j=true:=fun e j hj=>by
        by_cases z:j=k
        · subst z;exact e
        · exact fX j va5
      conv=>whnf
      refine⟨fun h=>?_,fun h=>absurd (zA0 h) va5⟩;conv=>whnf
      iterate 3 (first|(refine⟨⟨va5,va5⟩,?_⟩;(conv=>whnf))|(refine⟨va4,?_⟩;(conv=>whnf))|skip)
      by_cases ho:AG w k=true
      · have nx2:=YB ho
        rw[ho]at cf;refine vc6 ?_;intros;all_goals first
          | (refine⟨k+1,?_⟩
             conv=>whnf
             refine kK ⟨⟨?_,?_,nx2⟩,?_,rfl,rfl⟩
             · show w.k8.length-(k+1)<w.k8.length-k;omega
             · omega
             · rw[z5 _ va5 va5];rfl)
         
      · have kD:AG w k=false:=by simpa using ho
        rw[kD]at cf;rw[bad kD];try exact va1
        all_goals rfl
    · have ek:k=w.k8.length:=by omega
      rw[ok fun i hi=>fX i va5];conv=>whnf
      refine⟨fun h=>absurd (zA1 h) va5,fun h=>?_⟩;conv=>whnf
      all_goals rfl
  · have nb:¬lF w=true:=fun q=>hw (dX.1 q).1
    rw[if_neg nb];clear nb;rw[iq]at hw;unfold R8 at hw;by_cases LJ:J3 w.o6.m0=true
    · by_cases h2:fc w.o6=true
      · have te:V0 w.o6=0:=aO.2 ⟨LJ,h2⟩
        rw[te]at c3;refine vb4 Tryz.func20 ?_;refine vc6 ?_;intros;all_goals first|rfl|(exfalso;simp_all;done)
      · have te:V0 w.o6=8:=by unfold V0;rw[if_pos LJ,if_neg h2]
        rw[te]at c3;refine pF Tryz.func20 ?_;conv=>whnf
        try exact va1
        all_goals first|rfl|(exfalso;simp_all;done)
    · have te:V0 w.o6=90:=by unfold V0;rw[if_neg LJ]
      rw[te]at c3;refine pF Tryz.func20 ?_;conv=>whnf
      try exact va1
      all_goals first|rfl|(exfalso;simp_all;done)
theorem qq(a b:n8)(o:jq a)(o':jq b):va6 9 [ai a,ai b] (.bool (qV a b)):=by
 have c1:=Ow a.o6 b.o6 (P1 o.t);have c3:=Fv a.n6 b.n6 o.b o'.b;have ht:=o.h;have no:¬(cT a.line b.line/\dx a.o6 b.o6=true/\ki a.n6 b.n6=true/\qU a.drift b.drift=true/\rB gv l5 a.k8 b.k8=true)->qV a b=false:=fun q =>
  Bool.eq_false_iff.2 fun e=>q (yg.1 e)
 by_cases hb:cT a.line b.line/\dx a.o6 b.o6=true/\ki a.n6 b.n6=true/\qU a.drift b.drift=true
 ·have es:qV a b=rB gv l5 a.k8 b.k8:=by
   rw[Bool.eq_iff_iff,yg];exact⟨fun q=>q.2.2.2.2,fun q=>⟨hb.1,hb.2.1,hb.2.2.1,hb.2.2.2,q⟩⟩
  rw[es];obtain⟨⟨⟨b1,b2,b3,b4⟩,b5,b6,b7,b8,b9,b10⟩,b11,b12,b13⟩:=hb;have b13:=yf.1 b13;rw[b11]at c1;rw[b12]at c3;clear es no;refine vb4 Tryz.func9 ?_;refine vc7 ?_ ?_<;>(repeat intro hh)
  all_goals (try (exfalso;simp_all;done))
  ·exact congrArg AV.bool (Ak va5)
  have h0:(a.k8.length:Int)=b.k8.length:=by omega
  refine Or.inr ⟨Nat,[5],[],[],fun k=>[i64 k],fun _=>[],fun _=>[],fun k=>a.k8.length-k,fun k=>k<=a.k8.length/\∀ i,i<k->gv (a.k8.getD i l5) (b.k8.getD i l5)=true,vb3 ?_⟩;refine⟨⟨0,?_⟩,?_⟩
  ·(conv=>whnf);exact kK ⟨⟨zB4 _,fun i hi=>absurd hi (zB3 i)⟩,rfl,rfl,rfl⟩
  ·intro k hk;conv=>whnf
   refine⟨fun h=>?_,fun h=>?_⟩
   ·have h:=zA1 h;have L4:k<a.k8.length:=by omega
    conv=>whnf
    iterate 3 (first|(refine⟨va4,?_⟩;(conv=>whnf))|(refine⟨⟨va5,va5⟩,?_⟩;(conv=>whnf)))
    iterate 2 (first|(refine⟨va4,?_⟩;(conv=>whnf))|skip)
    have e0:a.k8.getD (Int.toNat (k:Int)) l5=a.k8.getD k l5:=rfl;have e1:b.k8.getD (Int.toNat (k:Int)) l5=b.k8.getD k l5:=rfl;rw[e0,e1];refine WQ (fun hh=>?_) (fun hh=>?_)
    ·(conv=>whnf);exact congrArg AV.bool (kP (p:=gv) (d:=l5) L4 (by simp[gv]at hh ⊢; grind))
    ·refine⟨k+1,vb3 ?_⟩;refine kK ⟨⟨?_,?_,?_⟩,?_,rfl,rfl⟩
     ·show a.k8.length-(k+1)<a.k8.length-k;omega
     ·omega
     ·intro i hi;by_cases e:i=k
      ·subst e;simp[gv]at hh ⊢; grind
      ·exact hk.2 i va5
     ·rw[z5 _ va5 va5];rfl
   ·have h:=zA0 h;conv=>whnf
    exact congrArg AV.bool (mE h0 fun i hi=>hk.2 i va5)
 ·have es:qV a b=false:=no fun q=>hb ⟨q.1,q.2.1,q.2.2.1,q.2.2.2.1⟩
  rw[es];rw[yf]at hb;unfold cT R8 at hb;clear es no;refine vb4 Tryz.func9 ?_;refine vc6 ?_;(repeat intro hh);all_goals first|rfl|(exfalso;simp_all;done)
theorem vp(t:r9)(hl:t.k9.length<2^20):va6 15 [gp t] (gp t):=by
 obtain⟨b,c,n,l⟩:=t;simp only at hl;refine vb4 Tryz.func15 ?_;refine⟨⟨u6,4,l9,C2,[]⟩,l,rfl,⟨rfl,rfl⟩,rfl,?_,?_,fun y _=>⟨rfl,rfl,rfl⟩,?_⟩
 ·show(0+l.length)*24<=_;omega
 ·show 0+l.length<=_;omega
 conv=>whnf
 all_goals rfl
theorem Kn(w:n8)(o:jq w):va6 6 [ai w] (ai w):=by
 have c1:=vp w.o6 o.t;have c2:=eR w.n6 o.b;have hl:=o.h;obtain⟨ln,t,b,d,l⟩:=w;simp only at hl c1 c2;refine vb4 Tryz.func6 ?_;refine vc6 ?_;intros;refine⟨⟨B7,7,l5,B4,[]⟩,l,rfl,⟨rfl,rfl⟩,rfl,?_,?_,fun y _=>⟨rfl,rfl,rfl⟩,?_⟩
 ·show(0+l.length)*56<=_;omega
 ·show 0+l.length<=_;omega
 conv=>whnf
 all_goals rfl
def qs(w:n8):Bool:=gi w.n6 && (decide (w.o6.k9.length<=50) && decide (w.k8.length<=50))
theorem FR(w:n8):va6 4 [ai w] (.bool (!qs w)):=by
 have c:=ND w.n6;unfold qs;cases h:gi w.n6
 ·rw[h]at c;refine pF Tryz.func4 ?_;conv=>whnf
  try exact va1
 ·rw[h]at c;refine vb4 Tryz.func4 ?_;refine vc7 ?_ ?_<;>intros
  all_goals first
   | (refine congrArg AV.bool (Bool.eq_iff_iff.2 ?_);simp only[Bool.true_and,Bool.not_eq_true',Bool.and_eq_false_iff,zA3,decide_eq_false_iff_not,iff_true,true_iff];omega)
  

end Go.Proofs.Tryz.My
