/- Helper lemmas. -/
import Derived.Test.YtdpnpdjnaimgaaaGreatMzWaA
set_option linter.unusedVariables false
set_option linter.unusedSimpArgs false
set_option maxRecDepth 100000
set_option maxHeartbeats 0
namespace Go.Proofs.Tryz.My
open Go Go.Ev
theorem aI (b:G3):PC Tryz.prog 59 [r6 b] (i64 (if O2 b=true then 0 else 90)):=by
 by_cases h:O2 b=true
 ·rw [if_pos h]
  have h:=G1.1 h
  refine pF Tryz.func59 ?_
  conv=>whnf
  (repeat' ((first|refine aU fun hh=>?_|refine aV fun hh=>?_|refine aS (fun hh=>?_) fun hh=>?_|refine kR ?_|fail)<;>conv=>whnf))
 ·rw [if_neg h]
  have h:=mt G1.2 h
  refine pF Tryz.func59 ?_
  conv=>whnf
  (repeat' ((first|refine aU fun hh=>?_|refine aV fun hh=>?_|refine aS (fun hh=>?_) fun hh=>?_|refine kR ?_|fail)<;>conv=>whnf))
  all_goals (exfalso;omega)
theorem jd (b:G3) (h:O2 b=true):PC Tryz.prog 95 [r6 b] (.agg [i64 b.step,i64 b.A0,i64 b.y9,i64 b.len,i64 (b.step - b.A0),i64 (b.step + b.A0)]):=by
 have h:=G1.1 h
 have w1:IntKind.i64.wrap (b.step - b.A0)=b.step - b.A0:=C7 _ (by omega) (by omega)
 have w2:IntKind.i64.wrap (b.step + b.A0)=b.step + b.A0:=C7 _ (by omega) (by omega)
 refine pF Tryz.func95 ?_
 conv=>whnf
 (repeat' ((first|refine aU fun hh=>?_|refine aV fun hh=>?_|refine aS (fun hh=>?_) fun hh=>?_|refine kR ?_|fail)<;>conv=>whnf))
 all_goals (rw [w1,w2])
theorem fO (b:G3) (h:O2 b=true) (place:Int) (h1:1<=place) (h2:place<=1000000):PC Tryz.prog 96 [.agg [i64 b.step,i64 b.A0,i64 b.y9,i64 b.len,i64 (b.step - b.A0),i64 (b.step + b.A0)],i64 place] (.tup [i64 (V4 b place),i64 (N7 b place)]):=by
 have r:=bC h h1 h2
 have h:=G1.1 h
 unfold V4 N7 at *
 have w1:IntKind.i64.wrap (place - 1)=place - 1:=C7 _ (by omega) (by omega)
 have w2:IntKind.i64.wrap (place + b.len)=place + b.len:=C7 _ (by omega) (by omega)
 have q1:(place - 1).tdiv (b.step + b.A0)=(place - 1).tdiv (b.step + b.A0) + 1 - 1:=by omega
 have w3:IntKind.i64.wrap ((place - 1).tdiv (b.step + b.A0))=(place - 1).tdiv (b.step + b.A0):=C7 _ (by omega) (by omega)
 have w4:IntKind.i64.wrap ((place + b.len).tdiv (b.step - b.A0))=(place + b.len).tdiv (b.step - b.A0):=C7 _ (by omega) (by omega)
 have w5:IntKind.i64.wrap ((place - 1).tdiv (b.step + b.A0) + 1)=(place - 1).tdiv (b.step + b.A0) + 1:=C7 _ (by omega) (by omega)
 have w6:IntKind.i64.wrap ((place + b.len).tdiv (b.step - b.A0) + 1)=(place + b.len).tdiv (b.step - b.A0) + 1:=C7 _ (by omega) (by omega)
 refine pF Tryz.func96 ?_
 conv=>whnf
 (repeat' ((first|refine aU fun hh=>?_|refine aV fun hh=>?_|refine aS (fun hh=>?_) fun hh=>?_|refine kR ?_|fail)<;>conv=>whnf))
 all_goals (rw [w1,w2,w3,w4,w5,w6])
theorem DB (lo hi x y:Int):PC Tryz.prog 108 [i64 lo,i64 hi,.slc 1 [[i64 x],[i64 y]]] (.bool (decide ((lo<=x/\x<=hi)/\(lo<=y/\y<=hi)))):=by
 refine pF Tryz.func108 ?_
 conv=>whnf
 refine Or.inl ⟨3,?_⟩
 conv=>whnf
 (repeat' ((first|refine y7 ?_|refine y8 ?_|refine dD ?_|refine dN ?_|refine dB ?_|refine aU fun hh=>?_|refine aV fun hh=>?_|refine aS (fun hh=>?_) fun hh=>?_|refine kR ?_|fail)<;>conv=>whnf))
 all_goals (first|(refine congrArg AV.bool (Bool.eq_iff_iff.2 ?_);simp only [Bool.and_eq_true,Bool.or_eq_true,Bool.not_eq_true',decide_eq_true_eq,decide_eq_false_iff_not,Bool.false_eq_true,iff_false,iff_true,true_iff,false_iff,reduceCtorEq,not_true_eq_false,not_false_eq_true];omega))
theorem pw (lo hi x:Int):PC Tryz.prog 108 [i64 lo,i64 hi,.slc 1 [[i64 x]]] (.bool (decide (lo<=x/\x<=hi))):=by
 refine pF Tryz.func108 ?_
 conv=>whnf
 refine Or.inl ⟨2,?_⟩
 conv=>whnf
 (repeat' ((first|refine y7 ?_|refine y8 ?_|refine dD ?_|refine dN ?_|refine dB ?_|refine aU fun hh=>?_|refine aV fun hh=>?_|refine aS (fun hh=>?_) fun hh=>?_|refine kR ?_|fail)<;>conv=>whnf))
 all_goals (first|(refine congrArg AV.bool (Bool.eq_iff_iff.2 ?_);simp only [Bool.and_eq_true,Bool.or_eq_true,Bool.not_eq_true',decide_eq_true_eq,decide_eq_false_iff_not,Bool.false_eq_true,iff_false,iff_true,true_iff,false_iff,reduceCtorEq,not_true_eq_false,not_false_eq_true];omega))
theorem Lk (a:Int×Int):PC Tryz.prog 109 [fr a] (.bool (Dr a)):=by
 have c:=JX a
 obtain ⟨x,y⟩:=a
 unfold Dr
 cases h:r7 (x,y)
 ·rw [h] at c
  rw [if_neg (by decide)] at c
  refine pF Tryz.func109 ?_
  conv=>whnf
  (repeat' ((first|refine aU fun hh=>?_|refine aV fun hh=>?_|refine aS (fun hh=>?_) fun hh=>?_|refine kR ?_|((try refine Or.inl ?_;conv=>whnf);(try refine ⟨false,?_⟩;conv=>whnf);refine ⟨_,by exact c,?_⟩)|fail)<;>conv=>whnf))
  all_goals rfl
 ·rw [h] at c
  rw [if_pos rfl] at c
  refine pF Tryz.func109 ?_
  conv=>whnf
  (repeat' ((first|refine aU fun hh=>?_|refine aV fun hh=>?_|refine aS (fun hh=>?_) fun hh=>?_|refine kR ?_|((try refine Or.inl ?_;conv=>whnf);(try refine ⟨false,?_⟩;conv=>whnf);refine ⟨_,by exact c,?_⟩)|fail)<;>conv=>whnf))
  all_goals (rw [Bool.true_and];(refine congrArg AV.bool (Bool.eq_iff_iff.2 ?_);simp only [Bool.and_eq_true,Bool.or_eq_true,Bool.not_eq_true',decide_eq_true_eq,decide_eq_false_iff_not,Bool.false_eq_true,iff_false,iff_true,true_iff,false_iff,reduceCtorEq,not_true_eq_false,not_false_eq_true];omega))
theorem mQ (l:A5):PC Tryz.prog 61 [VC l] (i64 (if kj l=true then 0 else 81)):=by
 have c:=Lk l.al
 have c2:=DB 1 255 l.p l.q
 unfold kj
 cases h:Dr l.al
 ·rw [h] at c
  rw [Bool.and_false,if_neg (by decide)]
  refine pF Tryz.func61 ?_
  conv=>whnf
  (repeat' ((first|refine aU fun hh=>?_|refine aV fun hh=>?_|refine aS (fun hh=>?_) fun hh=>?_|refine kR ?_|((try refine Or.inl ?_;conv=>whnf);(try refine ⟨false,?_⟩;conv=>whnf);refine ⟨_,by first|exact c2|exact c,?_⟩)|fail)<;>conv=>whnf))
 ·rw [h] at c
  rw [Bool.and_true]
  by_cases h2:1<=l.p/\l.p < l.q/\l.q<=255
  ·rw [decide_eq_true h2,if_pos rfl]
   refine pF Tryz.func61 ?_
   conv=>whnf
   (repeat' ((first|refine aU fun hh=>?_|refine aV fun hh=>?_|refine aS (fun hh=>?_) fun hh=>?_|refine kR ?_|((try refine Or.inl ?_;conv=>whnf);(try refine ⟨false,?_⟩;conv=>whnf);refine ⟨_,by first|exact c2|exact c,?_⟩)|fail)<;>conv=>whnf))
  ·rw [decide_eq_false h2,if_neg (by decide)]
   refine pF Tryz.func61 ?_
   conv=>whnf
   (repeat' ((first|refine aU fun hh=>?_|refine aV fun hh=>?_|refine aS (fun hh=>?_) fun hh=>?_|refine kR ?_|((try refine Or.inl ?_;conv=>whnf);(try refine ⟨false,?_⟩;conv=>whnf);refine ⟨_,by first|exact c2|exact c,?_⟩)|fail)<;>conv=>whnf))
   all_goals (exfalso;omega)
theorem AJ:PC Tryz.prog 56 [] (.agg [i64 0,i64 0,.ff]):=by
 refine pF Tryz.func56 ?_
 conv=>whnf
 try rfl
theorem K9 (t:w8) (hl:t.k9.length < 2 ^ 40):PC Tryz.prog 68 [sL t] (i64 (eT t)):=by
 unfold eT
 by_cases hb:O2 t.n8=true
 ·rw [if_pos hb]
  have c1:=aI t.n8
  rw [if_pos hb] at c1
  have bl:=G1.1 hb
  have c2:=jd t.n8 hb
  have c3:=fO t.n8 hb t.n8.y9 bl.2.2.1.1 bl.2.2.1.2
  have wr:=bC hb bl.2.2.1.1 bl.2.2.1.2
  by_cases hs:Rp t=true
  ·have sz:=mJ.1 hs
   refine pF Tryz.func68 ?_
   conv=>whnf
   (repeat' ((first|refine aU fun hh=>?_|refine aV fun hh=>?_|refine aS (fun hh=>?_) fun hh=>?_|refine kR ?_|((try refine Or.inl ?_;conv=>whnf);(try refine ⟨false,?_⟩;conv=>whnf);refine ⟨_,by first|exact c1|exact c2|exact c3,?_⟩)|fail)<;>conv=>whnf))
   clear c1 c2 c3
   refine Or.inr ⟨Bool×Nat,[50],[6],[],fun i=>[i64 i.2],fun i=>[.cells 78 [i64 (Q5 t.k9 i.2).id,i64 (Q5 t.k9 i.2).cnt,u8 (Q5 t.k9 i.2).o6,match i.1 with|true => .ff|false => .bool (Q5 t.k9 i.2).hit]],fun _=>[],fun i=>t.k9.length - i.2,fun i=>i.2<=t.k9.length/\∀ j,j < i.2->ub t j=true,?_⟩
   conv=>whnf
   refine ⟨⟨(true,0),?_⟩,?_⟩
   ·(conv=>whnf)
    exact kK ⟨⟨Nat.zero_le _,fun j hj=>absurd hj (Nat.not_lt_zero j)⟩,rfl,rfl,rfl⟩
   rintro ⟨q,k⟩ ⟨hk,jV⟩
   have hk:k<=t.k9.length:=hk
   have jV:∀ j,j < k->ub t j=true:=jV
   by_cases L7:k < t.k9.length
   ·have hi:=mI (t:=t) (k:=k)
    have hp:=Aw jV
    have yw:Q5 t.k9 (k + 1)=t.k9.getD k n4:=gM _ _
    have all:ub t k=false->¬mK t=true:=fun e h=>by
     unfold mK at h
     rw [Bool.and_eq_true,bH] at h
     rw [h.2 k L7] at e
     cases e
    have next:ub t k=true->∀ j,j < k + 1->ub t j=true:=fun e j hj=>by
     by_cases z:j=k
     ·subst z;exact e
     ·exact jV j (by omega)
    have e0:t.k9.getD (Int.toNat (k:Int)) n4=t.k9.getD k n4:=rfl
    cases q <;>
    ·(conv=>whnf)
     refine ⟨fun h=>?_,fun h=>absurd (of_decide_eq_false h) (by omega)⟩
     conv=>whnf
     refine ⟨⟨by omega,by omega⟩,?_⟩
     conv=>whnf
     rw [e0]
     generalize hx:t.k9.getD k n4=x at hi yw ⊢
     obtain ⟨xi,xc,xv,xh⟩:=x
     have w1:xc<=t.count/\0<=xc->IntKind.i64.wrap (xc + N7 t.n8 t.n8.y9)=xc + N7 t.n8 t.n8.y9:=fun h=>C7 _ (by omega) (by omega)
     have w2:xc<=t.count/\0<=xc->IntKind.i64.wrap (xc + V4 t.n8 t.n8.y9)=xc + V4 t.n8 t.n8.y9:=fun h=>C7 _ (by omega) (by omega)
     simp only at hi hp
     by_cases ho:ub t k=true
     ·have f:=hi.1 ho
      have nx:=next ho
      clear hi all next jV ho hb hs hx h
      have w1:=w1 (by omega)
      have w2:=w2 (by omega)
      cases xh
      ·(repeat' ((first|refine aU fun hh=>?_|refine aV fun hh=>?_|refine aS (fun hh=>?_) fun hh=>?_|refine kR ?_|fail)<;>conv=>whnf))
       refine ⟨(false,k + 1),?_⟩
       conv=>whnf
       refine kK ⟨⟨?_,?_,nx⟩,?_,?_,rfl⟩
       ·show t.k9.length - (k + 1) < t.k9.length - k;omega
       ·omega
       ·rw [C7 _ (by omega) (by omega)];rfl
       ·show _=[Row.cells 78 [i64 (Q5 t.k9 (k + 1)).id,i64 (Q5 t.k9 (k + 1)).cnt,u8 (Q5 t.k9 (k + 1)).o6,.bool (Q5 t.k9 (k + 1)).hit]]
        rw [yw]
      ·have f2:=f.2.2.2.2.2.2 rfl
       (repeat' ((first|refine aU fun hh=>?_|refine aV fun hh=>?_|refine aS (fun hh=>?_) fun hh=>?_|refine kR ?_|fail)<;>conv=>whnf))
       refine ⟨(false,k + 1),?_⟩
       conv=>whnf
       refine kK ⟨⟨?_,?_,nx⟩,?_,?_,rfl⟩
       ·show t.k9.length - (k + 1) < t.k9.length - k;omega
       ·omega
       ·rw [C7 _ (by omega) (by omega)];rfl
       ·show _=[Row.cells 78 [i64 (Q5 t.k9 (k + 1)).id,i64 (Q5 t.k9 (k + 1)).cnt,u8 (Q5 t.k9 (k + 1)).o6,.bool (Q5 t.k9 (k + 1)).hit]]
        rw [yw]
     ·have tn:ub t k=false:=by simpa using ho
      rw [if_neg (all tn)]
      have f:=mt hi.2 ho
      clear hi all next jV ho tn hb hs hx h yw
      by_cases hr:xc<=t.count/\0<=xc
      ·have w1:=w1 hr
       have w2:=w2 hr
       cases xh
       ·(repeat' ((first|refine aU fun hh=>?_|refine aV fun hh=>?_|refine aS (fun hh=>?_) fun hh=>?_|refine kR ?_|fail)<;>conv=>whnf))
        all_goals first|(exfalso;apply f;refine ⟨?_,?_,?_,?_,?_,?_,fun h=>?_⟩<;>first|omega|cases h)
       ·(repeat' ((first|refine aU fun hh=>?_|refine aV fun hh=>?_|refine aS (fun hh=>?_) fun hh=>?_|refine kR ?_|fail)<;>conv=>whnf))
        all_goals first|(exfalso;apply f;refine ⟨?_,?_,?_,?_,?_,?_,fun h=>?_⟩<;>omega)
      ·(repeat' ((first|refine aU fun hh=>?_|refine aV fun hh=>?_|refine aS (fun hh=>?_) fun hh=>?_|refine kR ?_|fail)<;>conv=>whnf))
       all_goals set_option pp.maxSteps 300 in trace_state
   ·have ek:k=t.k9.length:=by omega
    have hg:mK t=true:=by
     unfold mK
     rw [hs,Bool.true_and,bH]
     intro j hj
     exact jV j (by omega)
    rw [if_pos hg]
    cases q <;>
    ·(conv=>whnf)
     refine ⟨fun h=>absurd (of_decide_eq_true h) (by omega),fun h=>?_⟩
     conv=>whnf
     all_goals rfl
  ·have hn:¬mK t=true:=fun h=>by
    unfold mK at h
    rw [Bool.and_eq_true] at h
    exact hs h.1
   rw [if_neg hn]
   have sz:=mt mJ.2 hs
   refine pF Tryz.func68 ?_
   conv=>whnf
   (repeat' ((first|refine aU fun hh=>?_|refine aV fun hh=>?_|refine aS (fun hh=>?_) fun hh=>?_|refine kR ?_|((try refine Or.inl ?_;conv=>whnf);(try refine ⟨false,?_⟩;conv=>whnf);refine ⟨_,by first|exact c1|exact c2|exact c3,?_⟩)|fail)<;>conv=>whnf))
   all_goals (exfalso;omega)
 ·rw [if_neg hb]
  have c1:=aI t.n8
  rw [if_neg hb] at c1
  refine pF Tryz.func68 ?_
  conv=>whnf
  (repeat' ((first|refine aU fun hh=>?_|refine aV fun hh=>?_|refine aS (fun hh=>?_) fun hh=>?_|refine kR ?_|((try refine Or.inl ?_;conv=>whnf);(try refine ⟨false,?_⟩;conv=>whnf);refine ⟨_,by exact c1,?_⟩)|fail)<;>conv=>whnf))

end Go.Proofs.Tryz.My
