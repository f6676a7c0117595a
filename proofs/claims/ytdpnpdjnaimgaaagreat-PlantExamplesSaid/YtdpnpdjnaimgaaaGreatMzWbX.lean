/- Helper lemmas. -/
import Derived.Test.YtdpnpdjnaimgaaaGreatMzWbA
set_option linter.unusedVariables false
set_option linter.unusedSimpArgs false
set_option maxRecDepth 100000
set_option maxHeartbeats 0
namespace Go.Proofs.Tryz.My
open Go Go.Ev
theorem HK (l m:List x7) (hl:l.length < 2 ^ 40):PC Tryz.prog 122 [U1 l,U1 m] (.bool (rW kl n4 l m)):=by
 refine pF Tryz.func122 ?_
 conv=>whnf
 refine ⟨fun h0=>?_,fun h0=>?_⟩
 ·have h0:¬(l.length:Int)=m.length:=by simpa using h0
  conv=>whnf
  exact congrArg AV.bool (jv h0)
 have h0:(l.length:Int)=m.length:=by simpa using h0
 conv=>whnf
 refine Or.inr ⟨Nat,[13],[],[],fun k=>[i64 k],fun _=>[],fun _=>[],fun k=>l.length - k,fun k=>k<=l.length/\∀ i,i < k->kl (l.getD i n4) (m.getD i n4)=true,?_⟩
 conv=>whnf
 refine ⟨⟨0,?_⟩,?_⟩
 ·(conv=>whnf)
  exact kK ⟨⟨Nat.zero_le _,fun i hi=>absurd hi (Nat.not_lt_zero i)⟩,rfl,rfl,rfl⟩
 ·intro k hk
  conv=>whnf
  refine ⟨fun h=>?_,fun h=>?_⟩
  ·have h:=of_decide_eq_true h
   have L7:k < l.length:=by omega
   conv=>whnf
   iterate 3 (first|(refine ⟨by kernel_rfl,?_⟩;(conv=>whnf))|(refine ⟨⟨by omega,by omega⟩,?_⟩;(conv=>whnf)))
   iterate 2 (first|(refine ⟨by kernel_rfl,?_⟩;(conv=>whnf))|skip)
   have e0:l.getD (Int.toNat (k:Int)) n4=l.getD k n4:=rfl
   have e1:m.getD (Int.toNat (k:Int)) n4=m.getD k n4:=rfl
   rw [e0,e1]
   refine Tk (fun hh=>?_) (fun hh=>?_)
   ·(conv=>whnf)
    exact congrArg AV.bool (jw (p:=kl) (d:=n4) L7 (by simp [kl] at hh ⊢; grind))
   ·refine ⟨k + 1,?_⟩
    conv=>whnf
    refine kK ⟨⟨?_,?_,?_⟩,?_,rfl,rfl⟩
    ·show l.length - (k + 1) < l.length - k;omega
    ·omega
    ·intro i hi
     by_cases e:i=k
     ·subst e;simp [kl] at hh ⊢; grind
     ·exact hk.2 i (by omega)
    ·rw [C7 _ (by omega) (by omega)];rfl
  ·have h:=of_decide_eq_false h
   conv=>whnf
   exact congrArg AV.bool (kW h0 fun i hi=>hk.2 i (by omega))
theorem Ow (l m:List B6) (hl:l.length < 2 ^ 40):PC Tryz.prog 123 [ua l,ua m] (.bool (rW dt n5 l m)):=by
 refine pF Tryz.func123 ?_
 conv=>whnf
 refine ⟨fun h0=>?_,fun h0=>?_⟩
 ·have h0:¬(l.length:Int)=m.length:=by simpa using h0
  conv=>whnf
  exact congrArg AV.bool (jv h0)
 have h0:(l.length:Int)=m.length:=by simpa using h0
 conv=>whnf
 refine Or.inr ⟨Nat,[13],[],[],fun k=>[i64 k],fun _=>[],fun _=>[],fun k=>l.length - k,fun k=>k<=l.length/\∀ i,i < k->dt (l.getD i n5) (m.getD i n5)=true,?_⟩
 conv=>whnf
 refine ⟨⟨0,?_⟩,?_⟩
 ·(conv=>whnf)
  exact kK ⟨⟨Nat.zero_le _,fun i hi=>absurd hi (Nat.not_lt_zero i)⟩,rfl,rfl,rfl⟩
 ·intro k hk
  conv=>whnf
  refine ⟨fun h=>?_,fun h=>?_⟩
  ·have h:=of_decide_eq_true h
   have L7:k < l.length:=by omega
   conv=>whnf
   iterate 3 (first|(refine ⟨by kernel_rfl,?_⟩;(conv=>whnf))|(refine ⟨⟨by omega,by omega⟩,?_⟩;(conv=>whnf)))
   iterate 2 (first|(refine ⟨by kernel_rfl,?_⟩;(conv=>whnf))|skip)
   have e0:l.getD (Int.toNat (k:Int)) n5=l.getD k n5:=rfl
   have e1:m.getD (Int.toNat (k:Int)) n5=m.getD k n5:=rfl
   rw [e0,e1]
   refine Tk (fun hh=>?_) (fun hh=>?_)
   ·(conv=>whnf)
    exact congrArg AV.bool (jw (p:=dt) (d:=n5) L7 (by simp [dt] at hh ⊢; grind))
   ·refine ⟨k + 1,?_⟩
    conv=>whnf
    refine kK ⟨⟨?_,?_,?_⟩,?_,rfl,rfl⟩
    ·show l.length - (k + 1) < l.length - k;omega
    ·omega
    ·intro i hi
     by_cases e:i=k
     ·subst e;simp [dt] at hh ⊢; grind
     ·exact hk.2 i (by omega)
    ·rw [C7 _ (by omega) (by omega)];rfl
  ·have h:=of_decide_eq_false h
   conv=>whnf
   exact congrArg AV.bool (kW h0 fun i hi=>hk.2 i (by omega))
theorem HL (l m:List x7) (hl:l.length < 2 ^ 40):PC Tryz.prog 74 [U1 l,U1 m] (.bool (rW kl n4 l m)):=by
 have c:=HK l m hl
 refine pF Tryz.func74 ?_
 conv=>whnf
 (repeat' ((first|refine aU fun hh=>?_|refine aV fun hh=>?_|refine aS (fun hh=>?_) fun hh=>?_|refine kR ?_|((try refine Or.inl ?_;conv=>whnf);(try refine ⟨false,?_⟩;conv=>whnf);refine ⟨_,by exact c,?_⟩)|fail)<;>conv=>whnf))
 all_goals rfl
theorem HM (l m:List B6) (hl:l.length < 2 ^ 40):PC Tryz.prog 75 [ua l,ua m] (.bool (rW dt n5 l m)):=by
 have c:=Ow l m hl
 refine pF Tryz.func75 ?_
 conv=>whnf
 (repeat' ((first|refine aU fun hh=>?_|refine aV fun hh=>?_|refine aS (fun hh=>?_) fun hh=>?_|refine kR ?_|((try refine Or.inl ?_;conv=>whnf);(try refine ⟨false,?_⟩;conv=>whnf);refine ⟨_,by exact c,?_⟩)|fail)<;>conv=>whnf))
 all_goals rfl
theorem sS {a b:w8}:kX a b=true↔T4 a.n8 b.n8/\(a.count=b.count/\a.next=b.next)/\rW kl n4 a.k9 b.k9=true:=by
 unfold kX
 rw [Bool.and_eq_true,decide_eq_true_eq,and_assoc]
theorem vz {a b:P8}:sM a b=true↔(a.hits=b.hits/\a.rounds=b.rounds)/\a.alarm=b.alarm:=by
 simp [sM]
theorem vA {a b:n9}:vw a b=true↔bW a.line b.line/\kX a.o8 b.o8=true/\pj a.l9 b.l9=true/\sM a.drift b.drift=true/\rW dt n5 a.n6 b.n6=true:=by
 unfold vw
 simp only [Bool.and_eq_true,decide_eq_true_eq]
theorem Q8 (lo hi n:Int):PC Tryz.prog 60 [i64 lo,i64 hi,i64 n] (.bool (decide (lo<=n) && decide (n<=hi))):=sN lo hi n
theorem aJ (l:A5):PC Tryz.prog 18 [jP l] (i64 (J3 l)):=by
 have c1:=aI l.n8
 have c2:=mQ l
 unfold J3
 by_cases h1:O2 l.n8=true
 ·rw [if_pos h1] at c1 ⊢
  by_cases h2:(1<=l.lag/\l.lag<=100)/\(1<=l.keep/\l.keep<=32)
  ·rw [if_pos h2]
   refine pF Tryz.func18 ?_
   conv=>whnf
   (repeat' ((first|refine aU fun hh=>?_|refine aV fun hh=>?_|refine aS (fun hh=>?_) fun hh=>?_|refine kR ?_|((try refine Or.inl ?_;conv=>whnf);(try refine ⟨false,?_⟩;conv=>whnf);refine ⟨_,by first|exact c1|exact c2|exact Q8 _ _ _,?_⟩)|fail)<;>conv=>whnf))
   all_goals rfl
  ·rw [if_neg h2]
   refine pF Tryz.func18 ?_
   conv=>whnf
   (repeat' ((first|refine aU fun hh=>?_|refine aV fun hh=>?_|refine aS (fun hh=>?_) fun hh=>?_|refine kR ?_|((try refine Or.inl ?_;conv=>whnf);(try refine ⟨false,?_⟩;conv=>whnf);refine ⟨_,by first|exact c1|exact c2|exact Q8 _ _ _,?_⟩)|fail)<;>conv=>whnf))
   all_goals (exfalso;omega)
 ·rw [if_neg h1] at c1 ⊢
  refine pF Tryz.func18 ?_
  conv=>whnf
  (repeat' ((first|refine aU fun hh=>?_|refine aV fun hh=>?_|refine aS (fun hh=>?_) fun hh=>?_|refine kR ?_|((try refine Or.inl ?_;conv=>whnf);(try refine ⟨false,?_⟩;conv=>whnf);refine ⟨_,by first|exact c1|exact c2,?_⟩)|fail)<;>conv=>whnf))
def XI (b:G3):Prop:=G7 b.step
def BY (l:A5):Prop:=G7 l.n8.step/\G7 l.al.1/\G7 l.al.2
abbrev UH (b:G3):AV := .agg [i64 b.step,i64 b.A0,i64 b.y9,i64 b.len,i64 0,i64 0,.nils]
abbrev Fp (l:A5):AV := .agg [i64 l.n8.step,i64 l.n8.A0,i64 l.n8.y9,i64 l.n8.len,i64 l.lag,i64 l.keep,i64 l.p,i64 l.q,i64 l.al.1,i64 l.al.2,
 i64 l.n8.step,i64 l.n8.A0,i64 l.n8.y9,i64 l.n8.len,i64 0,i64 0,.nils,i64 l.keep,.nils,.nils,i64 0,.nils,i64 0,i64 0,.ff,.nils]
abbrev sT:A5:=⟨⟨0,0,0,0⟩,0,0,0,0,(0,0)⟩
abbrev Te:AV:=Fp sT
theorem AR (b:G3) (h:O2 b=true):PC Tryz.prog 54 [fA b] (.tup [UH b,i64 0]):=by
 have c1:=aI b
 rw [if_pos h] at c1
 refine pF Tryz.func54 ?_
 conv=>whnf
 (repeat' ((first|refine aU fun hh=>?_|refine aV fun hh=>?_|refine aS (fun hh=>?_) fun hh=>?_|refine kR ?_|((try refine Or.inl ?_;conv=>whnf);(try refine ⟨false,?_⟩;conv=>whnf);refine ⟨_,by exact c1,?_⟩)|fail)<;>conv=>whnf))
 all_goals rfl
theorem Ox {k:Int} (h:1<=k/\k<=32):KG k=k/\KH k=0:=by
 have e:D1 k 1 32=true:=by
  unfold D1
  rw [decide_eq_true h.1,decide_eq_true h.2];rfl
 unfold KG KH
 rw [if_pos e,if_pos e]
 exact ⟨rfl,rfl⟩
theorem qg (l:A5) (h:J3 l=0):PC Tryz.prog 16 [jP l] (.tup [Fp l,i64 0]):=by
 have c1:=aJ l
 rw [h] at c1
 obtain ⟨h1,h2,h3⟩:=K3 h
 have c2:=AR l.n8 h1
 have c3:=Rj l.keep
 have e:=Ox h2.2
 rw [e.1,e.2] at c3
 refine pF Tryz.func16 ?_
 conv=>whnf
 (repeat' ((first|refine aU fun hh=>?_|refine aV fun hh=>?_|refine aS (fun hh=>?_) fun hh=>?_|refine kR ?_|((try refine Or.inl ?_;conv=>whnf);(try refine ⟨false,?_⟩;conv=>whnf);refine ⟨_,by first|exact c1|exact c2|exact c3|exact AJ,?_⟩)|fail)<;>conv=>whnf))
 all_goals rfl
theorem je (l:A5) (h:¬J3 l=0):PC Tryz.prog 16 [jP l] (.tup [Te,i64 (J3 l)]):=by
 have c1:=aJ l
 generalize J3 l=e at *
 refine pF Tryz.func16 ?_
 conv=>whnf
 (repeat' ((first|refine aU fun hh=>?_|refine aV fun hh=>?_|refine aS (fun hh=>?_) fun hh=>?_|refine kR ?_|((try refine Or.inl ?_;conv=>whnf);(try refine ⟨false,?_⟩;conv=>whnf);refine ⟨_,by exact c1,?_⟩)|fail)<;>conv=>whnf))
 all_goals rfl
structure px (w:n9):Prop where
 b:G8 w.l9
 t:w.o8.k9.length < 2 ^ 20
 h:w.n6.length < 2 ^ 20
theorem mR (a b:n9) (o:px a) (o':px b):PC Tryz.prog 23 [eR a,eR b] (.bool (vw a b)):=by
 have c1:=HL a.o8.k9 b.o8.k9 (S7 o.t)
 have c2:=HM a.n6 b.n6 (S7 o.h)
 have c3:=Ad a.l9 b.l9 o.b o'.b
 have no:¬(bW a.line b.line/\kX a.o8 b.o8=true/\pj a.l9 b.l9=true/\sM a.drift b.drift=true/\rW dt n5 a.n6 b.n6=true)->AV.bool false=AV.bool (vw a b):=fun q =>
  congrArg AV.bool (Eq.symm (Bool.eq_false_iff.2 fun e=>q (vA.1 e)))
 simp only [sS,vz,bW,T4] at no
 refine pF Tryz.func23 ?_
 conv=>whnf
 (repeat' ((first|refine aU fun hh=>?_|refine aV fun hh=>?_|refine aS (fun hh=>?_) fun hh=>?_|refine kR ?_|((try refine Or.inl ?_;conv=>whnf);(try refine ⟨false,?_⟩;conv=>whnf);refine ⟨_,by first|exact c1|exact c2|exact c3,?_⟩)|fail)<;>conv=>whnf))
 all_goals first
  | (refine no fun q=>?_;simp_all;done)
  | (refine congrArg AV.bool ?_;rw [Bool.eq_iff_iff,vA];simp only [sS,vz,bW,T4];simp_all;done)
 
theorem AS {n a:Int} (h1:0<=n) (h2:n<=1099511627776) (h3:0<=a) (h4:a<=2000):0<=n * a/\n * a<=2199023255552000:=by
 refine ⟨Int.mul_nonneg h1 h3,?_⟩
 have e1:n * a<=1099511627776 * a:=Int.mul_le_mul_of_nonneg_right h2 h3
 omega
structure Room (w:n9) (c:Int):Prop where
 n:IntKind.i64.wrap (w.o8.count - c)=w.o8.count - c
 l:IntKind.i64.wrap (w.line.n8.step - w.line.n8.A0)=w.line.n8.step - w.line.n8.A0
 m:IntKind.i64.wrap (w.line.n8.step + w.line.n8.A0)=w.line.n8.step + w.line.n8.A0
 nl:IntKind.i64.wrap (IntKind.i64.wrap (w.o8.count - c) * IntKind.i64.wrap (w.line.n8.step - w.line.n8.A0))=(w.o8.count - c) * (w.line.n8.step - w.line.n8.A0)
 nm:IntKind.i64.wrap (IntKind.i64.wrap (w.o8.count - c) * IntKind.i64.wrap (w.line.n8.step + w.line.n8.A0))=(w.o8.count - c) * (w.line.n8.step + w.line.n8.A0)
 b:IntKind.i64.wrap (w.l9.next - 1)=w.l9.next - 1
theorem Oy {w:n9} (hl:O2 w.line.n8=true) (ht:0<=w.o8.count/\w.o8.count<=1099511627776) (hb:0<=w.l9.next/\w.l9.next<=1099511627776) {c:Int} (h1:0<=c) (h2:c<=w.o8.count):Room w c:=by
 have bl:=G1.1 hl
 have m1:=AS (n:=w.o8.count - c) (a:=w.line.n8.step - w.line.n8.A0) (by omega) (by omega) (by omega) (by omega)
 have m2:=AS (n:=w.o8.count - c) (a:=w.line.n8.step + w.line.n8.A0) (by omega) (by omega) (by omega) (by omega)
 have e1:IntKind.i64.wrap (w.o8.count - c)=w.o8.count - c:=C7 _ (by omega) (by omega)
 have e2:IntKind.i64.wrap (w.line.n8.step - w.line.n8.A0)=w.line.n8.step - w.line.n8.A0:=C7 _ (by omega) (by omega)
 have e3:IntKind.i64.wrap (w.line.n8.step + w.line.n8.A0)=w.line.n8.step + w.line.n8.A0:=C7 _ (by omega) (by omega)
 exact ⟨e1,e2,e3,by rw [e1,e2];exact C7 _ (by omega) (by omega),by rw [e1,e3];exact C7 _ (by omega) (by omega),C7 _ (by omega) (by omega)⟩
theorem Oz {w:n9} (hl:J3 w.line=0):pO w=if pN w=true then 0 else 8:=by unfold pO;rw [if_pos hl]
theorem Sa {b:o7} (h:E1 b=true):0<=b.next/\b.next<=1099511627776:=(fI.1 h).nx
theorem oz {w:n9}:pN w=true↔(Ol w=true/\mK w.o8=true/\E1 w.l9=true)/\∀ i,i < w.n6.length->MA w i=true:=by
 unfold pN
 simp only [Bool.and_eq_true,bH]
 exact ⟨fun ⟨a,b,c,d⟩=>⟨⟨a,b,c⟩,d⟩,fun ⟨⟨a,b,c⟩,d⟩=>⟨a,b,c,d⟩⟩
theorem jD (w:n9) (o:px w):PC Tryz.prog 21 [eR w] (i64 (pO w)):=by
  have c1:=aJ w.line
  by_cases hl:J3 w.line=0
  rotate_left
  · have e:pO w=J3 w.line:=by unfold pO;rw [if_neg hl]
    rw [e]
    generalize J3 w.line=x at *
    refine pF Tryz.func21 ?_
    conv=>whnf
    (repeat' ((first|refine aU fun hh=>?_|refine aV fun hh=>?_|refine aS (fun hh=>?_) fun hh=>?_|refine kR ?_|((try refine Or.inl ?_;conv=>whnf);(try refine ⟨false,?_⟩;conv=>whnf);refine ⟨_,by exact c1,?_⟩)|fail)<;>conv=>whnf))
    all_goals rfl
  rw [hl] at c1
  rw [Oz hl]
  have lz:=K3 hl
  have bl:=G1.1 lz.1
  have c2:=Ll w.drift
  have c3:=K9 w.o8 (S7 o.t)
  have c4:=fD w.l9 o.b
  have ht:=o.h
  have hp:=o.t
  by_cases hw:Ol w=true/\mK w.o8=true/\E1 w.l9=true
  · obtain ⟨h1,h2,h3⟩:=hw
    have ow:=mL.1 h1
    obtain ⟨sb,kp,ln,dr⟩:=ow
    have eb:=pq sb
    obtain ⟨s1,s2,s3,s4⟩:=sb
    rw [dr] at c2
    have te:eT w.o8=0:=cU.2 ⟨by rw [eb];exact lz.1,h2⟩
    rw [te] at c3
    rw [if_pos h3] at c4
    have tg:=L3.1 te
    have nx:=Sa h3
    have fin:∀ i,i < w.n6.length->MA w i=false->(if pN w=true then (0:Int) else 8)=8:=fun i hi h=>if_neg fun q=>by
      rw [(oz.1 q).2 i hi] at h;cases h
    have ok:(∀ i,i < w.n6.length->MA w i=true)->(if pN w=true then (0:Int) else 8)=0:=fun h=>if_pos (oz.2 ⟨⟨h1,h2,h3⟩,h⟩)
    generalize (if pN w=true then (0:Int) else 8)=res at *
    refine pF Tryz.func21 ?_
    conv=>whnf
    (repeat' ((first|refine aU fun hh=>?_|refine aV fun hh=>?_|refine aS (fun hh=>?_) fun hh=>?_|refine kR ?_|((try refine Or.inl ?_;conv=>whnf);(try refine ⟨false,?_⟩;conv=>whnf);refine ⟨_,by first|exact c1|exact c2|exact c3|exact c4,?_⟩)|fail)<;>conv=>whnf))
    all_goals (try (exfalso;simp_all;done))
    clear c1 c2 c3 c4 h1 h2 h3
    refine Or.inr ⟨Nat,[83],[],[],fun k=>[i64 k],fun _=>[],fun _=>[],fun k=>w.n6.length - k,fun k=>k<=w.n6.length/\∀ i,i < k->MA w i=true,?_⟩
    conv=>whnf
    refine ⟨⟨0,?_⟩,?_⟩
    · (conv=>whnf)
      exact kK ⟨⟨Nat.zero_le _,fun i hi=>absurd hi (Nat.not_lt_zero i)⟩,rfl,rfl,rfl⟩
    rintro k ⟨hk,jV⟩
    by_cases L7:k < w.n6.length
    · have Mv:k < w.o8.k9.length:=by omega
      have sn:=tg.sn _ (I2 (d:=n4) Mv)
      have rm:=Oy lz.1 tg.ct nx sn.2.1.1 sn.2.1.2.1
      have iff:=xU (w:=w) (k:=k)
      have bad:=fin k L7
      have XJ:MA w k=true->∀ j,j < k + 1->MA w j=true:=fun e j hj=>by
        by_cases z:j=k
        · subst z;exact e
        · exact jV j (by omega)
      conv=>whnf
      refine ⟨fun h=>?_,fun h=>absurd (of_decide_eq_false h) (by omega)⟩
      conv=>whnf
      iterate 3 (first|(refine ⟨⟨by omega,by omega⟩,?_⟩;(conv=>whnf))|(refine ⟨by kernel_rfl,?_⟩;(conv=>whnf))|skip)
      have e0:w.o8.k9.getD (Int.toNat (k:Int)) n4=w.o8.k9.getD k n4:=rfl
      have e1:w.n6.getD (Int.toNat (k:Int)) n5=w.n6.getD k n5:=rfl
      try rw [e0]
      try rw [e1]
      obtain ⟨r1,r2,r3,r4,r5,r6⟩:=rm
      clear fin ok jV tg sn lz hl dr te eb s1 s2 s3 s4 kp
      by_cases ho:MA w k=true
      · have f:=iff.1 ho
        have nx2:=XJ ho
        clear iff bad XJ ho
        (repeat' ((first|refine aU fun hh=>?_|refine aV fun hh=>?_|refine aS (fun hh=>?_) fun hh=>?_|refine kR ?_|((try refine Or.inl ?_;conv=>whnf);(try refine ⟨false,?_⟩;conv=>whnf);refine ⟨_,by exact Q8 _ _ _,?_⟩)|fail)<;>conv=>whnf))
        all_goals first
          | (refine ⟨k + 1,?_⟩
             conv=>whnf
             refine kK ⟨⟨?_,?_,nx2⟩,?_,rfl,rfl⟩
             · show w.n6.length - (k + 1) < w.n6.length - k;omega
             · omega
             · rw [C7 _ (by omega) (by omega)];rfl)
         
      · have tn:MA w k=false:=by simpa using ho
        have f:=mt iff.2 ho
        rw [bad tn]
        clear iff bad XJ ho tn
        (repeat' ((first|refine aU fun hh=>?_|refine aV fun hh=>?_|refine aS (fun hh=>?_) fun hh=>?_|refine kR ?_|((try refine Or.inl ?_;conv=>whnf);(try refine ⟨false,?_⟩;conv=>whnf);refine ⟨_,by exact Q8 _ _ _,?_⟩)|fail)<;>conv=>whnf))
        all_goals (first|rfl|(exfalso;omega))
    · have ek:k=w.n6.length:=by omega
      rw [ok fun i hi=>jV i (by omega)]
      conv=>whnf
      refine ⟨fun h=>absurd (of_decide_eq_true h) (by omega),fun h=>?_⟩
      conv=>whnf
      all_goals rfl
  · have nb:¬pN w=true:=fun q=>hw (oz.1 q).1
    rw [if_neg nb]
    clear nb
    rw [mL] at hw
    unfold T4 at hw
    by_cases Ql:O2 w.o8.n8=true
    · by_cases h2:mK w.o8=true
      · have te:eT w.o8=0:=cU.2 ⟨Ql,h2⟩
        rw [te] at c3
        by_cases h3:E1 w.l9=true
        · rw [if_pos h3] at c4
          refine pF Tryz.func21 ?_
          conv=>whnf
          (repeat' ((first|refine aU fun hh=>?_|refine aV fun hh=>?_|refine aS (fun hh=>?_) fun hh=>?_|refine kR ?_|((try refine Or.inl ?_;conv=>whnf);(try refine ⟨false,?_⟩;conv=>whnf);refine ⟨_,by first|exact c1|exact c2|exact c3|exact c4,?_⟩)|fail)<;>conv=>whnf))
          all_goals first|rfl|(exfalso;simp_all;done)
        · rw [if_neg h3] at c4
          refine pF Tryz.func21 ?_
          conv=>whnf
          (repeat' ((first|refine aU fun hh=>?_|refine aV fun hh=>?_|refine aS (fun hh=>?_) fun hh=>?_|refine kR ?_|((try refine Or.inl ?_;conv=>whnf);(try refine ⟨false,?_⟩;conv=>whnf);refine ⟨_,by first|exact c1|exact c2|exact c3|exact c4,?_⟩)|fail)<;>conv=>whnf))
          all_goals first|rfl|(exfalso;simp_all;done)
      · have te:eT w.o8=8:=by unfold eT;rw [if_pos Ql,if_neg h2]
        rw [te] at c3
        refine pF Tryz.func21 ?_
        conv=>whnf
        (repeat' ((first|refine aU fun hh=>?_|refine aV fun hh=>?_|refine aS (fun hh=>?_) fun hh=>?_|refine kR ?_|((try refine Or.inl ?_;conv=>whnf);(try refine ⟨false,?_⟩;conv=>whnf);refine ⟨_,by first|exact c1|exact c2|exact c3|exact c4,?_⟩)|fail)<;>conv=>whnf))
        all_goals first|rfl|(exfalso;simp_all;done)
    · have te:eT w.o8=90:=by unfold eT;rw [if_neg Ql]
      rw [te] at c3
      refine pF Tryz.func21 ?_
      conv=>whnf
      (repeat' ((first|refine aU fun hh=>?_|refine aV fun hh=>?_|refine aS (fun hh=>?_) fun hh=>?_|refine kR ?_|((try refine Or.inl ?_;conv=>whnf);(try refine ⟨false,?_⟩;conv=>whnf);refine ⟨_,by first|exact c1|exact c2|exact c3|exact c4,?_⟩)|fail)<;>conv=>whnf))
      all_goals first|rfl|(exfalso;simp_all;done)

end Go.Proofs.Tryz.My
