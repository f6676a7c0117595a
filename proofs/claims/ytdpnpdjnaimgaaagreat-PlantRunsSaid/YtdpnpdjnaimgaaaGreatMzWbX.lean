/- Helper lemmas. -/
import Derived.Test.YtdpnpdjnaimgaaaGreatMzWbA
set_option linter.unusedVariables false
set_option linter.unusedSimpArgs false
set_option maxRecDepth 100000
set_option maxHeartbeats 0
namespace Go.Proofs.Tryz.My
open Go Go.Ev
theorem sS{a b:TrackT}:kX a b=true↔T4 a.n8 b.n8/\(a.count=b.count/\a.next=b.next)/\rW kl n4 a.k9 b.k9=true:=by
 unfold kX;rw[zA2,zA3,and_assoc]
theorem vz{a b:P8}:sM a b=true↔(a.hits=b.hits/\a.rounds=b.rounds)/\a.alarm=b.alarm:=by
 simp[sM]
theorem vA{a b:n9}:vw a b=true↔bW a.line b.line/\kX a.o8 b.o8=true/\pj a.l9 b.l9=true/\sM a.drift b.drift=true/\rW tg n5 a.n6 b.n6=true:=by
 unfold vw;simp only[zA2,zA3]
theorem a3N(a b:TrackT)(hl:a.k9.length<2^40):va6 65 [sL a,sL b] (.bool (kX a b)):=by
 by_cases hb:T4 a.n8 b.n8/\(a.count=b.count/\a.next=b.next)
 ·have es:kX a b=rW kl n4 a.k9 b.k9:=by
   unfold kX;rw[zA4 hb,Bool.true_and]
  rw[es];obtain⟨⟨b1,b2,b3,b4⟩,b5,b6⟩:=hb;clear es;refine pF Tryz.func65 ?_;conv=>whnf
  (repeat' ((first|refine va0 (fun hh=>?_) fun hh=>?_|refine kR ?_|fail)<;>first|exact hh.elim|conv=>whnf))
  ·exact congrArg AV.bool (jv va5)
  have h0:(a.k9.length:Int)=b.k9.length:=by omega
  refine Or.inr ⟨Nat,[5],[],[],fun k=>[i64 k],fun _=>[],fun _=>[],fun k=>a.k9.length-k,fun k=>k<=a.k9.length/\∀ i,i<k->kl (a.k9.getD i n4) (b.k9.getD i n4)=true,?_⟩;conv=>whnf
  refine⟨⟨0,?_⟩,?_⟩
  ·(conv=>whnf);exact kK ⟨⟨zB4 _,fun i hi=>absurd hi (zB3 i)⟩,rfl,rfl,rfl⟩
  ·intro k hk;conv=>whnf
   refine⟨fun h=>?_,fun h=>?_⟩
   ·have h:=zA1 h;have L7:k<a.k9.length:=by omega
    conv=>whnf
    iterate 3 (first|(refine⟨va4,?_⟩;(conv=>whnf))|(refine⟨⟨va5,va5⟩,?_⟩;(conv=>whnf)))
    iterate 2 (first|(refine⟨va4,?_⟩;(conv=>whnf))|skip)
    have e0:a.k9.getD (Int.toNat (k:Int)) n4=a.k9.getD k n4:=rfl;have e1:b.k9.getD (Int.toNat (k:Int)) n4=b.k9.getD k n4:=rfl;rw[e0,e1];refine Tk (fun hh=>?_) (fun hh=>?_)
    ·(conv=>whnf);exact congrArg AV.bool (jw (p:=kl) (d:=n4) L7 (by simp[kl]at hh ⊢; grind))
    ·refine⟨k+1,?_⟩;conv=>whnf
     refine kK ⟨⟨?_,?_,?_⟩,?_,rfl,rfl⟩
     ·show a.k9.length-(k+1)<a.k9.length-k;omega
     ·omega
     ·intro i hi;by_cases e:i=k
      ·subst e;simp[kl]at hh ⊢; grind
      ·exact hk.2 i va5
     ·rw[C7 _ va5 va5];rfl
   ·have h:=zA0 h;conv=>whnf
    exact congrArg AV.bool (kW h0 fun i hi=>hk.2 i va5)
 ·have es:kX a b=false:=Bool.eq_false_iff.2 fun q=>by
   have q:=sS.1 q;exact hb ⟨q.1,q.2.1⟩
  rw[es];have hb:¬((a.n8.step=b.n8.step/\a.n8.A0=b.n8.A0/\a.n8.y9=b.n8.y9/\a.n8.len=b.n8.len)/\(a.count=b.count/\a.next=b.next)):=hb;refine pF Tryz.func65 ?_;conv=>whnf
  try exact va1
  all_goals first|rfl|(exfalso;simp_all;done)
theorem Q8(lo hi n:Int):va6 60 [i64 lo,i64 hi,i64 n] (.bool (decide (lo<=n) && decide (n<=hi))):=sN lo hi n
theorem u5(n lo hi:Int):va6 63 [i64 n,i64 lo,i64 hi] (.bool (decide (lo<=n) && decide (n<=hi))):=a0h n lo hi
theorem aJ(l:A5):va6 18 [jP l] (i64 (J3 l)):=by
 have c1:=aI l.n8;have c2:=mQ l;unfold J3;by_cases h1:O2 l.n8=true
 ·rw[if_pos h1]at c1 ⊢;by_cases h2:(1<=l.lag/\l.lag<=100)/\(1<=l.keep/\l.keep<=32)
  ·rw[if_pos h2];refine pF Tryz.func18 ?_;conv=>whnf
   (repeat' ((first|refine va0 (fun hh=>?_) fun hh=>?_|refine kR ?_|((try refine .inl ?_;conv=>whnf);(try refine⟨false,?_⟩;conv=>whnf);refine⟨_,by first|assumption|exact Q8 _ _ _,?_⟩)|fail)<;>first|exact hh.elim|conv=>whnf));all_goals rfl
  ·rw[if_neg h2];refine pF Tryz.func18 ?_;conv=>whnf
   (repeat' ((first|refine va0 (fun hh=>?_) fun hh=>?_|refine kR ?_|((try refine .inl ?_;conv=>whnf);(try refine⟨false,?_⟩;conv=>whnf);refine⟨_,by first|assumption|exact Q8 _ _ _,?_⟩)|fail)<;>first|exact hh.elim|conv=>whnf));all_goals (exfalso;omega)
 ·rw[if_neg h1]at c1 ⊢;refine pF Tryz.func18 ?_;conv=>whnf
  try exact va1
def XI(b:G3):Prop:=G7 b.step
def BY(l:A5):Prop:=G7 l.n8.step/\G7 l.al.1/\G7 l.al.2
theorem a0i(l:A5)(hI:BY l):va6 19 [jP l] (i64 (J3 l)):=by
 have c1:=a1v l.n8 hI.1;have c2:=a1E l hI.2.1 hI.2.2;unfold J3;by_cases h1:O2 l.n8=true
 ·rw[if_pos h1]at c1 ⊢;by_cases h2:(1<=l.lag/\l.lag<=100)/\(1<=l.keep/\l.keep<=32)
  ·rw[if_pos h2];refine pF Tryz.func19 ?_;conv=>whnf
   (repeat' ((first|refine va0 (fun hh=>?_) fun hh=>?_|refine kR ?_|((try refine .inl ?_;conv=>whnf);(try refine⟨false,?_⟩;conv=>whnf);refine⟨_,by first|assumption|exact u5 _ _ _,?_⟩)|fail)<;>first|exact hh.elim|conv=>whnf));all_goals rfl
  ·rw[if_neg h2];refine pF Tryz.func19 ?_;conv=>whnf
   (repeat' ((first|refine va0 (fun hh=>?_) fun hh=>?_|refine kR ?_|((try refine .inl ?_;conv=>whnf);(try refine⟨false,?_⟩;conv=>whnf);refine⟨_,by first|assumption|exact u5 _ _ _,?_⟩)|fail)<;>first|exact hh.elim|conv=>whnf));all_goals (exfalso;omega)
 ·rw[if_neg h1]at c1 ⊢;refine pF Tryz.func19 ?_;conv=>whnf
  try exact va1
abbrev UH(b:G3):AV := .agg [i64 b.step,i64 b.A0,i64 b.y9,i64 b.len,i64 0,i64 0,.nils]
abbrev Fp(l:A5):AV := .agg [i64 l.n8.step,i64 l.n8.A0,i64 l.n8.y9,i64 l.n8.len,i64 l.lag,i64 l.keep,i64 l.p,i64 l.q,i64 l.al.1,i64 l.al.2,
 i64 l.n8.step,i64 l.n8.A0,i64 l.n8.y9,i64 l.n8.len,i64 0,i64 0,.nils,i64 l.keep,.nils,.nils,i64 0,.nils,i64 0,i64 0,.ff,.nils]
abbrev sT:A5:=⟨⟨0,0,0,0⟩,0,0,0,0,(0,0)⟩
abbrev Te:AV:=Fp sT
theorem AR(b:G3)(h:O2 b=true):va6 54 [fA b] (.tup [UH b,i64 0]):=by
 have c1:=aI b;rw[if_pos h]at c1;refine pF Tryz.func54 ?_;conv=>whnf
 try exact va1
 all_goals rfl
theorem a2d(b:G3)(h:O2 b=true)(hI:G7 b.step):va6 57 [fA b] (.tup [UH b,i64 0]):=by
 have c1:=a0c b hI;rw[h]at c1;refine pF Tryz.func57 ?_;conv=>whnf
 try exact va1
 all_goals rfl
theorem Ox{k:Int}(h:1<=k/\k<=32):KG k=k/\KH k=0:=by
 have e:D1 k 1 32=true:=by
  unfold D1;rw[zA4 h.1,zA4 h.2];rfl
 unfold KG KH;rw[if_pos e,if_pos e];exact⟨rfl,rfl⟩
theorem qg(l:A5)(h:J3 l=0):va6 16 [jP l] (.tup [Fp l,i64 0]):=by
 have c1:=aJ l;rw[h]at c1;obtain⟨h1,h2,h3⟩:=K3 h;have c2:=AR l.n8 h1;have c3:=Rj l.keep;have e:=Ox h2.2;rw[e.1,e.2]at c3;refine pF Tryz.func16 ?_;conv=>whnf
 (repeat' ((first|refine va0 (fun hh=>?_) fun hh=>?_|refine kR ?_|((try refine .inl ?_;conv=>whnf);(try refine⟨false,?_⟩;conv=>whnf);refine⟨_,by first|assumption|exact AJ,?_⟩)|fail)<;>first|exact hh.elim|conv=>whnf));all_goals rfl
theorem je(l:A5)(h:¬J3 l=0):va6 16 [jP l] (.tup [Te,i64 (J3 l)]):=by
 have c1:=aJ l;generalize J3 l=e at *
 refine pF Tryz.func16 ?_;conv=>whnf
 try exact va1
 all_goals rfl
theorem a0T(l:A5)(hI:BY l)(h:J3 l=0):va6 17 [jP l] (.tup [Fp l,i64 0]):=by
 have c1:=a0i l hI;rw[h]at c1;obtain⟨h1,h2,h3⟩:=K3 h;have c2:=a2d l.n8 h1 hI.1;have c3:=a3b l.keep;have e:=Ox h2.2;rw[e.1,e.2]at c3;refine pF Tryz.func17 ?_;conv=>whnf
 try exact va1
 all_goals rfl
theorem a1G(l:A5)(hI:BY l)(h:¬J3 l=0):va6 17 [jP l] (.tup [Te,i64 (J3 l)]):=by
 have c1:=a0i l hI;generalize J3 l=e at *
 refine pF Tryz.func17 ?_;conv=>whnf
 try exact va1
 all_goals rfl
structure px (w:n9):Prop where
 b:G8 w.l9
 t:w.o8.k9.length<2^20
 h:w.n6.length<2^20
structure Room (w:n9) (c:Int):Prop where
 n:IntKind.i64.wrap (w.o8.count-c)=w.o8.count-c
 l:IntKind.i64.wrap (w.line.n8.step-w.line.n8.A0)=w.line.n8.step-w.line.n8.A0
 m:IntKind.i64.wrap (w.line.n8.step+w.line.n8.A0)=w.line.n8.step+w.line.n8.A0
 nl:IntKind.i64.wrap (IntKind.i64.wrap (w.o8.count-c)*IntKind.i64.wrap (w.line.n8.step-w.line.n8.A0))=(w.o8.count-c)*(w.line.n8.step-w.line.n8.A0)
 nm:IntKind.i64.wrap (IntKind.i64.wrap (w.o8.count-c)*IntKind.i64.wrap (w.line.n8.step+w.line.n8.A0))=(w.o8.count-c)*(w.line.n8.step+w.line.n8.A0)
 b:IntKind.i64.wrap (w.l9.next-1)=w.l9.next-1
theorem bo(t:TrackT)(hl:t.k9.length<2^40)(hI:G7 t.n8.step):va6 70 [sL t] (i64 (eT t)):=by
  have c1:=a0c t.n8 hI;unfold eT;by_cases hb:O2 t.n8=true
  · rw[if_pos hb]
    rw[hb]at c1;have bl:=G1.1 hb;have c3:=a1k t.n8 hb t.n8.y9 bl.2.2.1.1 bl.2.2.1.2;have wr:=bC hb bl.2.2.1.1 bl.2.2.1.2;by_cases hs:Rp t=true
    · have sz:=mJ.1 hs
      have fin:∀ i,i<t.k9.length->ub t i=false->(if mK t=true then(0:Int)else 8)=8:=fun i hi h=>if_neg fun q=>by
        unfold mK at q;rw[zA2,bH]at q;rw[q.2 i hi]at h;cases h
      have ok:(∀ i,i<t.k9.length->ub t i=true)->(if mK t=true then(0:Int)else 8)=0:=fun h=>if_pos (by
        unfold mK
        rw[hs,Bool.true_and,bH];exact h)
      generalize (if mK t=true then(0:Int)else 8)=res at *
      refine pF Tryz.func70 ?_;conv=>whnf
      (repeat' ((first|refine va0 (fun hh=>?_) fun hh=>?_|refine kR ?_|((try refine .inl ?_;conv=>whnf);(try refine⟨false,?_⟩;conv=>whnf);refine⟨_,by first|assumption|exact l5 _ _ _,?_⟩)|fail)<;>first|exact hh.elim|conv=>whnf));clear c1 c3;refine Or.inr ⟨Nat,[5],[],[],fun i=>[i64 i],fun _=>[],fun _=>[],fun i=>t.k9.length-i,fun i=>i<=t.k9.length/\∀ j,j<i->ub t j=true,?_⟩;conv=>whnf
      refine⟨⟨0,?_⟩,?_⟩
      · (conv=>whnf)
        exact kK ⟨⟨zB4 _,fun j hj=>absurd hj (zB3 j)⟩,rfl,rfl,rfl⟩
      rintro k ⟨hk,jV⟩;by_cases L7:k<t.k9.length
      · have hi:=mI (t:=t) (k:=k)
        have hp:=Aw jV;have all:=fin k L7;have next:ub t k=true->∀ j,j<k+1->ub t j=true:=fun e j hj=>by
          by_cases z:j=k
          · subst z;exact e
          · exact jV j va5
        have pv:0<k->t.k9.getD (Int.toNat ((k:Int)-1)) n4=Q5 t.k9 k:=fun h=>by
          obtain⟨m,rfl⟩:∃ m,k=m+1:=⟨k-1,va5⟩
          rw[gM,show((m+1:Nat):Int)-1=(m:Int)by omega];rfl
        have p0:k=0->Q5 t.k9 k=⟨-1,-1,0,false⟩:=fun h=>by subst h;rfl
        have wk:IntKind.i64.wrap ((k:Int)-1)=(k:Int)-1:=C7 _ va5 va5;have wn:IntKind.i64.wrap (t.next-1)=t.next-1:=C7 _ va5 va5;have e0:t.k9.getD (Int.toNat (k:Int)) n4=t.k9.getD k n4:=rfl;conv=>whnf
        refine⟨fun h=>?_,fun h=>absurd (zA0 h) va5⟩;conv=>whnf
        refine⟨⟨va5,va5⟩,?_⟩;conv=>whnf
        rw[e0];generalize hx:t.k9.getD k n4=x at hi ⊢;obtain⟨xi,xc,xv,xh⟩:=x;have w1:xc<=t.count/\0<=xc->IntKind.i64.wrap (xc+N7 t.n8 t.n8.y9)=xc+N7 t.n8 t.n8.y9:=fun h=>C7 _ va5 va5
        have w2:xc<=t.count/\0<=xc->IntKind.i64.wrap (xc+V4 t.n8 t.n8.y9)=xc+V4 t.n8 t.n8.y9:=fun h=>C7 _ va5 va5
        simp only at hi;by_cases k0:k=0
        · have pz:=p0 k0
          rw[pz]at hi;simp only at hi;subst k0;clear pz p0 pv hp;by_cases ho:ub t 0=true
          · have f:=hi.1 ho
            have nx:=next ho;clear hi all next jV ho hb hs hx h fin ok;have w1:=w1 va5;have w2:=w2 va5;cases xh <;>
            · try (have f2:=f.2.2.2.2.2.2 rfl)
              (repeat' ((first|refine va0 (fun hh=>?_) fun hh=>?_|refine kR ?_|((try refine .inl ?_;conv=>whnf);(try refine⟨false,?_⟩;conv=>whnf);refine⟨_,by exact l5 _ _ _,?_⟩)|fail)<;>first|exact hh.elim|conv=>whnf));all_goals first
                | (refine⟨0+1,?_⟩
                   conv=>whnf
                   refine kK ⟨⟨?_,?_,nx⟩,?_,rfl,rfl⟩
                   · show t.k9.length-(0+1)<t.k9.length-0;omega
                   · omega
                   · rw[C7 _ va5 va5];rfl)
               
          · have tn:ub t 0=false:=by simpa using ho
            rw[all tn];have f:=mt hi.2 ho;clear hi all next jV ho tn hb hs hx h fin ok;by_cases hr:xc<=t.count/\0<=xc
            · have w1:=w1 hr
              have w2:=w2 hr;cases xh <;>
              · (repeat' ((first|refine va0 (fun hh=>?_) fun hh=>?_|refine kR ?_|((try refine .inl ?_;conv=>whnf);(try refine⟨false,?_⟩;conv=>whnf);refine⟨_,by exact l5 _ _ _,?_⟩)|fail)<;>first|exact hh.elim|conv=>whnf))
                all_goals first|rfl|(exfalso;apply f;refine⟨?_,?_,?_,?_,?_,?_,fun h=>?_⟩<;>first|omega|cases h)
            · (repeat' ((first|refine va0 (fun hh=>?_) fun hh=>?_|refine kR ?_|((try refine .inl ?_;conv=>whnf);(try refine⟨false,?_⟩;conv=>whnf);refine⟨_,by exact l5 _ _ _,?_⟩)|fail)<;>first|exact hh.elim|conv=>whnf))
              all_goals rfl
        · have pw:=pv va5
          rw[<- pw,<- wk]at hi hp;clear pv p0 pw;have hp:=hp.2.2 va5;by_cases ho:ub t k=true
          · have f:=hi.1 ho
            have nx:=next ho;clear hi all next jV ho hb hs hx h fin ok;have w1:=w1 va5;have w2:=w2 va5;cases xh <;>
            · try (have f2:=f.2.2.2.2.2.2 rfl)
              (repeat' ((first|refine va0 (fun hh=>?_) fun hh=>?_|refine kR ?_|((try refine .inl ?_;conv=>whnf);(try refine⟨false,?_⟩;conv=>whnf);refine⟨_,by exact l5 _ _ _,?_⟩)|fail)<;>first|exact hh.elim|conv=>whnf));all_goals first
                | (refine⟨k+1,?_⟩
                   conv=>whnf
                   refine kK ⟨⟨?_,?_,nx⟩,?_,rfl,rfl⟩
                   · show t.k9.length-(k+1)<t.k9.length-k;omega
                   · omega
                   · rw[C7 _ va5 va5];rfl)
               
          · have tn:ub t k=false:=by simpa using ho
            rw[all tn];have f:=mt hi.2 ho;clear hi all next jV ho tn hb hs hx h fin ok;by_cases hr:xc<=t.count/\0<=xc
            · have w1:=w1 hr
              have w2:=w2 hr;cases xh <;>
              · (repeat' ((first|refine va0 (fun hh=>?_) fun hh=>?_|refine kR ?_|((try refine .inl ?_;conv=>whnf);(try refine⟨false,?_⟩;conv=>whnf);refine⟨_,by exact l5 _ _ _,?_⟩)|fail)<;>first|exact hh.elim|conv=>whnf))
                all_goals first|rfl|(exfalso;apply f;refine⟨?_,?_,?_,?_,?_,?_,fun h=>?_⟩<;>first|omega|cases h)
            · (repeat' ((first|refine va0 (fun hh=>?_) fun hh=>?_|refine kR ?_|((try refine .inl ?_;conv=>whnf);(try refine⟨false,?_⟩;conv=>whnf);refine⟨_,by exact l5 _ _ _,?_⟩)|fail)<;>first|exact hh.elim|conv=>whnf))
              all_goals rfl
      · have ek:k=t.k9.length:=by omega
        rw[ok fun i hi=>jV i va5];conv=>whnf
        refine⟨fun h=>absurd (zA1 h) va5,fun h=>?_⟩;conv=>whnf
        all_goals rfl
    · have hn:¬mK t=true:=fun h=>by
        unfold mK at h;rw[zA2]at h;exact hs h.1
      rw[if_neg hn];have sz:=mt mJ.2 hs;refine pF Tryz.func70 ?_;conv=>whnf
      (repeat' ((first|refine va0 (fun hh=>?_) fun hh=>?_|refine kR ?_|((try refine .inl ?_;conv=>whnf);(try refine⟨false,?_⟩;conv=>whnf);refine⟨_,by first|assumption|exact l5 _ _ _,?_⟩)|fail)<;>first|exact hh.elim|conv=>whnf));all_goals (first|rfl|(exfalso;omega))
  · have dA:O2 t.n8=false:=by simpa using hb
    rw[if_neg hb];rw[dA]at c1;refine pF Tryz.func70 ?_;conv=>whnf
    try exact va1
theorem a1U(a b:n9)(o:px a)(o':px b):va6 20 [eR a,eR b] (.bool (vw a b)):=by
 have c1:=a3N a.o8 b.o8 (S7 o.t);have c3:=a2J a.l9 b.l9 o.b o'.b;have ht:=o.h;have no:¬(bW a.line b.line/\kX a.o8 b.o8=true/\pj a.l9 b.l9=true/\sM a.drift b.drift=true/\rW tg n5 a.n6 b.n6=true)->vw a b=false:=fun q =>
  Bool.eq_false_iff.2 fun e=>q (vA.1 e)
 by_cases hb:bW a.line b.line/\kX a.o8 b.o8=true/\pj a.l9 b.l9=true/\sM a.drift b.drift=true
 ·have es:vw a b=rW tg n5 a.n6 b.n6:=by
   rw[Bool.eq_iff_iff,vA];exact⟨fun q=>q.2.2.2.2,fun q=>⟨hb.1,hb.2.1,hb.2.2.1,hb.2.2.2,q⟩⟩
  rw[es];obtain⟨⟨⟨b1,b2,b3,b4⟩,b5,b6,b7,b8,b9,b10⟩,b11,b12,b13⟩:=hb;have b13:=vz.1 b13;rw[b11]at c1;rw[b12]at c3;clear es no;refine pF Tryz.func20 ?_;conv=>whnf
  (repeat' ((first|refine va0 (fun hh=>?_) fun hh=>?_|refine kR ?_|((try refine .inl ?_;conv=>whnf);(try refine⟨false,?_⟩;conv=>whnf);refine⟨_,by assumption,?_⟩)|fail)<;>first|exact hh.elim|conv=>whnf));all_goals (try (exfalso;simp_all;done))
  ·exact congrArg AV.bool (jv va5)
  have h0:(a.n6.length:Int)=b.n6.length:=by omega
  refine Or.inr ⟨Nat,[5],[],[],fun k=>[i64 k],fun _=>[],fun _=>[],fun k=>a.n6.length-k,fun k=>k<=a.n6.length/\∀ i,i<k->tg (a.n6.getD i n5) (b.n6.getD i n5)=true,?_⟩;conv=>whnf
  refine⟨⟨0,?_⟩,?_⟩
  ·(conv=>whnf);exact kK ⟨⟨zB4 _,fun i hi=>absurd hi (zB3 i)⟩,rfl,rfl,rfl⟩
  ·intro k hk;conv=>whnf
   refine⟨fun h=>?_,fun h=>?_⟩
   ·have h:=zA1 h;have L7:k<a.n6.length:=by omega
    conv=>whnf
    iterate 3 (first|(refine⟨va4,?_⟩;(conv=>whnf))|(refine⟨⟨va5,va5⟩,?_⟩;(conv=>whnf)))
    iterate 2 (first|(refine⟨va4,?_⟩;(conv=>whnf))|skip)
    have e0:a.n6.getD (Int.toNat (k:Int)) n5=a.n6.getD k n5:=rfl;have e1:b.n6.getD (Int.toNat (k:Int)) n5=b.n6.getD k n5:=rfl;rw[e0,e1];refine Tk (fun hh=>?_) (fun hh=>?_)
    ·(conv=>whnf);exact congrArg AV.bool (jw (p:=tg) (d:=n5) L7 (by simp[tg]at hh ⊢; grind))
    ·refine⟨k+1,?_⟩;conv=>whnf
     refine kK ⟨⟨?_,?_,?_⟩,?_,rfl,rfl⟩
     ·show a.n6.length-(k+1)<a.n6.length-k;omega
     ·omega
     ·intro i hi;by_cases e:i=k
      ·subst e;simp[tg]at hh ⊢; grind
      ·exact hk.2 i va5
     ·rw[C7 _ va5 va5];rfl
   ·have h:=zA0 h;conv=>whnf
    exact congrArg AV.bool (kW h0 fun i hi=>hk.2 i va5)
 ·have es:vw a b=false:=no fun q=>hb ⟨q.1,q.2.1,q.2.2.1,q.2.2.2.1⟩
  rw[es];rw[vz]at hb;unfold bW T4 at hb;clear es no;refine pF Tryz.func20 ?_;conv=>whnf
  refine vb7 ?_;(repeat intro hh);all_goals first|rfl|(exfalso;simp_all;done)
theorem a3O(t:TrackT)(hl:t.k9.length<2^20):va6 76 [sL t] (sL t):=by
 obtain⟨b,c,n,l⟩:=t;simp only at hl;refine pF Tryz.func76 ?_;conv=>whnf
 refine⟨⟨x7,4,n4,I1,[]⟩,l,rfl,⟨rfl,rfl⟩,rfl,?_,?_,fun y _=>⟨rfl,rfl,rfl⟩,?_⟩
 ·show(0+l.length)*24<=_;omega
 ·show 0+l.length<=_;omega
 conv=>whnf
 all_goals rfl

end Go.Proofs.Tryz.My
