/- Helper lemmas. -/
import Derived.Test.YtdpnpdjnaimgaaaGreatMzBkA
set_option linter.unusedVariables false
set_option linter.unusedSimpArgs false
set_option maxRecDepth 100000
set_option maxHeartbeats 0
namespace Go.Proofs.Tryz.My
open Go Go.Ev
abbrev Tc (x:A9):AV := .agg (eJ x)
abbrev Iz (s:B8):AV := .agg (V9 s)
def rW {α:Type} (p:α->α->Bool) (d:α) (l m:List α):Bool:=decide ((l.length:Int)=m.length) && (List.range l.length).all fun i=>p (l.getD i d) (m.getD i d)
theorem jv {α:Type} {p:α->α->Bool} {d:α} {l m:List α} (h:¬(l.length:Int)=m.length):false=rW p d l m:=by
 unfold rW
 rw [decide_eq_false h,Bool.false_and]
theorem jw {α:Type} {p:α->α->Bool} {d:α} {l m:List α} {i:Nat} (hi:i < l.length) (h:p (l.getD i d) (m.getD i d)=false):false=rW p d l m:=by
 unfold rW
 rw [eL hi h,Bool.and_false]
theorem kW {α:Type} {p:α->α->Bool} {d:α} {l m:List α} (hl:(l.length:Int)=m.length) (h:∀ i,i < l.length->p (l.getD i d) (m.getD i d)=true):true=rW p d l m:=by
 unfold rW
 rw [decide_eq_true hl,ah.2 h,Bool.true_and]
theorem dm {α:Type} {p:α->α->Bool} {d:α} (h:∀ x,p x x=true) (l:List α):rW p d l l=true:=(kW rfl fun i _=>h _).symm
def KA (l m:List Int):Bool:=rW (fun a b=>decide (a=b)) 0 l m
theorem Ac (l m:List Int) (hl:l.length < 2 ^ 40) (IF:m.length < 2 ^ 40):PC Tryz.prog 100 [C8 l,C8 m] (.bool (KA l m)):=by
 unfold KA
 refine pF Tryz.func100 ?_
 conv=>whnf
 refine ⟨fun h0=>?_,fun h0=>?_⟩
 ·have h0:¬(l.length:Int)=m.length:=by simpa using h0
  conv=>whnf
  exact congrArg AV.bool (jv h0)
 have h0:(l.length:Int)=m.length:=by simpa using h0
 conv=>whnf
 refine Or.inr ⟨Nat,[13],[],[],fun k=>[i64 k],fun _=>[],fun _=>[],fun k=>l.length - k,fun k=>k<=l.length/\∀ i,i < k->(fun a b=>decide (a=b)) (l.getD i 0) (m.getD i 0)=true,?_⟩
 conv=>whnf
 refine ⟨⟨0,?_⟩,?_⟩
 ·(conv=>whnf)
  exact kK ⟨⟨Nat.zero_le _,fun i hi=>absurd hi (Nat.not_lt_zero i)⟩,rfl,rfl,rfl⟩
 ·intro k hk
  conv=>whnf
  refine ⟨fun h=>?_,fun h=>?_⟩
  ·have h:=of_decide_eq_true h
   have L7:k < l.length:=by omega
   (repeat' ((first|refine aU fun hh=>?_|refine aV fun hh=>?_|refine aS (fun hh=>?_) fun hh=>?_|refine kR ?_|fail)<;>conv=>whnf))
   ·exact congrArg AV.bool (jw (p:=fun a b=>decide (a=b)) (d:=0) L7 (decide_eq_false (by assumption)))
   ·refine ⟨k + 1,?_⟩
    conv=>whnf
    refine kK ⟨⟨?_,?_,?_⟩,?_,rfl,rfl⟩
    ·show l.length - (k + 1) < l.length - k;omega
    ·omega
    ·intro i hi
     by_cases e:i=k
     ·subst e;exact decide_eq_true (by assumption)
     ·exact hk.2 i (by omega)
    ·rw [C7 _ (by omega) (by omega)];rfl
  ·have h:=of_decide_eq_false h
   conv=>whnf
   exact congrArg AV.bool (kW h0 fun i hi=>hk.2 i (by omega))
theorem NV (l m:List Int) (hl:l.length < 2 ^ 40) (IF:m.length < 2 ^ 40):PC Tryz.prog 102 [Iy l,Iy m] (.bool (KA l m)):=by
 unfold KA
 refine pF Tryz.func102 ?_
 conv=>whnf
 refine ⟨fun h0=>?_,fun h0=>?_⟩
 ·have h0:¬(l.length:Int)=m.length:=by simpa using h0
  conv=>whnf
  exact congrArg AV.bool (jv h0)
 have h0:(l.length:Int)=m.length:=by simpa using h0
 conv=>whnf
 refine Or.inr ⟨Nat,[13],[],[],fun k=>[i64 k],fun _=>[],fun _=>[],fun k=>l.length - k,fun k=>k<=l.length/\∀ i,i < k->(fun a b=>decide (a=b)) (l.getD i 0) (m.getD i 0)=true,?_⟩
 conv=>whnf
 refine ⟨⟨0,?_⟩,?_⟩
 ·(conv=>whnf)
  exact kK ⟨⟨Nat.zero_le _,fun i hi=>absurd hi (Nat.not_lt_zero i)⟩,rfl,rfl,rfl⟩
 ·intro k hk
  conv=>whnf
  refine ⟨fun h=>?_,fun h=>?_⟩
  ·have h:=of_decide_eq_true h
   have L7:k < l.length:=by omega
   (repeat' ((first|refine aU fun hh=>?_|refine aV fun hh=>?_|refine aS (fun hh=>?_) fun hh=>?_|refine kR ?_|fail)<;>conv=>whnf))
   ·exact congrArg AV.bool (jw (p:=fun a b=>decide (a=b)) (d:=0) L7 (decide_eq_false (by assumption)))
   ·refine ⟨k + 1,?_⟩
    conv=>whnf
    refine kK ⟨⟨?_,?_,?_⟩,?_,rfl,rfl⟩
    ·show l.length - (k + 1) < l.length - k;omega
    ·omega
    ·intro i hi
     by_cases e:i=k
     ·subst e;exact decide_eq_true (by assumption)
     ·exact hk.2 i (by omega)
    ·rw [C7 _ (by omega) (by omega)];rfl
  ·have h:=of_decide_eq_false h
   conv=>whnf
   exact congrArg AV.bool (kW h0 fun i hi=>hk.2 i (by omega))
def rX (g h:x8):Prop:=H8 g=H8 h/\D9 g=D9 h/\(J5 g).1.1=(J5 h).1.1/\(J5 g).1.2=(J5 h).1.2/\(J5 g).2.1=(J5 h).2.1/\(J5 g).2.2=(J5 h).2.2/\g.1.2.1=h.1.2.1/\g.1.2.2=h.1.2.2/\g.2.1=h.2.1/\g.2.2=h.2.2
instance (g h:x8):Decidable (rX g h):=by unfold rX;infer_instance
def rY (x y:A9):Bool:=decide (x.author=y.author) && (decide (rX x.b9 y.b9) && (decide (x.state=y.state) && KA x.B0 y.B0))
def rZ (x y:B8):Bool:=decide (x.seq=y.seq) && (decide (x.recipe=y.recipe) && (decide (x.part=y.part) && (decide (x.o6=y.o6) && ((x.disputed == y.disputed) && KA x.o9 y.o9))))
theorem nL {x y:A9}:rY x y=true↔x.author=y.author/\rX x.b9 y.b9/\x.state=y.state/\KA x.B0 y.B0=true:=by
 simp only [rY,Bool.and_eq_true,decide_eq_true_eq]
theorem nM {x y:B8}:rZ x y=true↔x.seq=y.seq/\x.recipe=y.recipe/\x.part=y.part/\x.o6=y.o6/\(x.disputed == y.disputed)=true/\KA x.o9 y.o9=true:=by
 simp only [rZ,Bool.and_eq_true,decide_eq_true_eq]
theorem Dk (x:A9):rY x x=true:=nL.2 ⟨rfl,by unfold rX;simp,rfl,dm (p:=fun a b=>decide (a=b)) (d:=(0:Int)) (fun _=>decide_eq_true rfl) _⟩
theorem Dl (x:B8):rZ x x=true:=nM.2 ⟨rfl,rfl,rfl,rfl,by simp,dm (p:=fun a b=>decide (a=b)) (d:=(0:Int)) (fun _=>decide_eq_true rfl) _⟩
theorem KB (x y:A9) (hx:x.B0.length < 2 ^ 40) (hy:y.B0.length < 2 ^ 40):PC Tryz.prog 99 [Tc x,Tc y] (.bool (rY x y)):=by
 refine pF Tryz.func99 ?_
 conv=>whnf
 (repeat' ((first|refine aU fun hh=>?_|refine aV fun hh=>?_|refine aS (fun hh=>?_) fun hh=>?_|refine kR ?_|((try refine Or.inl ?_;conv=>whnf);(try refine ⟨false,?_⟩;conv=>whnf);refine ⟨_,by exact Ac _ _ hx hy,?_⟩)|fail)<;>conv=>whnf))
 all_goals first
  | (refine congrArg AV.bool (Eq.symm (Bool.eq_false_iff.2 fun q=>?_));have q:=nL.1 q;unfold rX at q;(try simp only [reduceCtorEq,or_false,and_true,Bool.true_eq_false] at *);omega)
  | (refine congrArg AV.bool ?_;rw [Bool.eq_iff_iff,nL];unfold rX;exact ⟨fun q=>⟨by omega,by omega,by omega,q⟩,fun q=>q.2.2.2⟩)
 
theorem KC (x y:B8) (hx:x.o9.length < 2 ^ 40) (hy:y.o9.length < 2 ^ 40):PC Tryz.prog 101 [Iz x,Iz y] (.bool (rZ x y)):=by
 refine pF Tryz.func101 ?_
 conv=>whnf
 (repeat' ((first|refine aU fun hh=>?_|refine aV fun hh=>?_|refine aS (fun hh=>?_) fun hh=>?_|refine kR ?_|((try refine Or.inl ?_;conv=>whnf);(try refine ⟨false,?_⟩;conv=>whnf);refine ⟨_,by exact Ac _ _ hx hy,?_⟩)|fail)<;>conv=>whnf))
 all_goals first
  | (refine congrArg AV.bool (Eq.symm (Bool.eq_false_iff.2 fun q=>?_));have q:=nM.1 q;first|omega|exact Bool.noConfusion (q.2.2.2.2.1.symm.trans (by assumption))|exact Bool.noConfusion (q.2.2.2.2.2.symm.trans (by assumption)))
  | (refine congrArg AV.bool ?_;rw [Bool.eq_iff_iff,nM];exact ⟨fun q=>⟨by omega,by omega,by omega,by omega,by assumption,by assumption⟩,fun q=>by first|exact q.2.2.2.2.2|exact q.2.2.2.2.1⟩)
 
theorem KD (fX:Nat) (p:A9->A9->Bool) (l m:List A9) (hl:l.length < 2 ^ 40) (hp:∀ i,PC Tryz.prog fX [Tc (l.getD i r9),Tc (m.getD i r9)] (.bool (p (l.getD i r9) (m.getD i r9)))) :
  PC Tryz.prog 103 [pJ l,pJ m,.fn (.func fX) [] []] (.bool (rW p r9 l m)):=by
 refine pF Tryz.func103 ?_
 conv=>whnf
 refine ⟨fun h0=>?_,fun h0=>?_⟩
 ·have h0:¬(l.length:Int)=m.length:=by simpa using h0
  conv=>whnf
  exact congrArg AV.bool (jv h0)
 have h0:(l.length:Int)=m.length:=by simpa using h0
 conv=>whnf
 refine Or.inr ⟨Nat,[17],[],[],fun k=>[i64 k],fun _=>[],fun _=>[],fun k=>l.length - k,fun k=>k<=l.length/\∀ i,i < k->p (l.getD i r9) (m.getD i r9)=true,?_⟩
 conv=>whnf
 refine ⟨⟨0,?_⟩,?_⟩
 ·(conv=>whnf)
  exact kK ⟨⟨Nat.zero_le _,fun i hi=>absurd hi (Nat.not_lt_zero i)⟩,rfl,rfl,rfl⟩
 ·intro k hk
  conv=>whnf
  refine ⟨fun h=>?_,fun h=>?_⟩
  ·have h:=of_decide_eq_true h
   have L7:k < l.length:=by omega
   (repeat' ((first|refine aU fun hh=>?_|refine aV fun hh=>?_|refine aS (fun hh=>?_) fun hh=>?_|refine kR ?_|((try refine Or.inl ?_;conv=>whnf);(try refine ⟨false,?_⟩;conv=>whnf);refine ⟨_,by exact hp _,?_⟩)|fail)<;>conv=>whnf))
   ·exact congrArg AV.bool (jw L7 (by assumption))
   ·refine ⟨k + 1,?_⟩
    conv=>whnf
    refine kK ⟨⟨?_,?_,?_⟩,?_,rfl,rfl⟩
    ·show l.length - (k + 1) < l.length - k;omega
    ·omega
    ·intro i hi
     by_cases e:i=k
     ·subst e;assumption
     ·exact hk.2 i (by omega)
    ·rw [C7 _ (by omega) (by omega)];rfl
  ·have h:=of_decide_eq_false h
   conv=>whnf
   exact congrArg AV.bool (kW h0 fun i hi=>hk.2 i (by omega))
theorem KE (fX:Nat) (p:B8->B8->Bool) (l m:List B8) (hl:l.length < 2 ^ 40) (hp:∀ i,PC Tryz.prog fX [Iz (l.getD i w9),Iz (m.getD i w9)] (.bool (p (l.getD i w9) (m.getD i w9)))) :
  PC Tryz.prog 104 [mw l,mw m,.fn (.func fX) [] []] (.bool (rW p w9 l m)):=by
 refine pF Tryz.func104 ?_
 conv=>whnf
 refine ⟨fun h0=>?_,fun h0=>?_⟩
 ·have h0:¬(l.length:Int)=m.length:=by simpa using h0
  conv=>whnf
  exact congrArg AV.bool (jv h0)
 have h0:(l.length:Int)=m.length:=by simpa using h0
 conv=>whnf
 refine Or.inr ⟨Nat,[17],[],[],fun k=>[i64 k],fun _=>[],fun _=>[],fun k=>l.length - k,fun k=>k<=l.length/\∀ i,i < k->p (l.getD i w9) (m.getD i w9)=true,?_⟩
 conv=>whnf
 refine ⟨⟨0,?_⟩,?_⟩
 ·(conv=>whnf)
  exact kK ⟨⟨Nat.zero_le _,fun i hi=>absurd hi (Nat.not_lt_zero i)⟩,rfl,rfl,rfl⟩
 ·intro k hk
  conv=>whnf
  refine ⟨fun h=>?_,fun h=>?_⟩
  ·have h:=of_decide_eq_true h
   have L7:k < l.length:=by omega
   (repeat' ((first|refine aU fun hh=>?_|refine aV fun hh=>?_|refine aS (fun hh=>?_) fun hh=>?_|refine kR ?_|((try refine Or.inl ?_;conv=>whnf);(try refine ⟨false,?_⟩;conv=>whnf);refine ⟨_,by exact hp _,?_⟩)|fail)<;>conv=>whnf))
   ·exact congrArg AV.bool (jw L7 (by assumption))
   ·refine ⟨k + 1,?_⟩
    conv=>whnf
    refine kK ⟨⟨?_,?_,?_⟩,?_,rfl,rfl⟩
    ·show l.length - (k + 1) < l.length - k;omega
    ·omega
    ·intro i hi
     by_cases e:i=k
     ·subst e;assumption
     ·exact hk.2 i (by omega)
    ·rw [C7 _ (by omega) (by omega)];rfl
  ·have h:=of_decide_eq_false h
   conv=>whnf
   exact congrArg AV.bool (kW h0 fun i hi=>hk.2 i (by omega))
def pj (b c:o7):Bool:=decide (b.keep=c.keep) && (decide (b.next=c.next) && (KA b.p9 c.p9 && (rW rY r9 b.b8 c.b8 && rW rZ w9 b.log c.log)))
theorem sc (b:o7):pj b b=true:=by
 unfold pj KA
 rw [dm (p:=fun a b=>decide (a=b)) (d:=(0:Int)) (fun _=>decide_eq_true rfl),dm Dk,dm Dl,decide_eq_true rfl,decide_eq_true rfl];rfl
theorem vi {b c:o7}:pj b c=true↔b.keep=c.keep/\b.next=c.next/\KA b.p9 c.p9=true/\rW rY r9 b.b8 c.b8=true/\rW rZ w9 b.log c.log=true:=by
 simp only [pj,Bool.and_eq_true,decide_eq_true_eq]
theorem Ad (b c:o7) (o:G8 b) (o':G8 c):PC Tryz.prog 52 [au b,au c] (.bool (pj b c)):=by
 have c1:=NV b.p9 c.p9 (S7 o.u) (S7 o'.u)
 have c2:=KD 99 rY b.b8 c.b8 (S7 o.r) fun i=>KB _ _ (S7 (o.a i)) (S7 (o'.a i))
 have c3:=KE 101 rZ b.log c.log (S7 o.l) fun i=>KC _ _ (S7 (o.p i)) (S7 (o'.p i))
 refine pF Tryz.func52 ?_
 conv=>whnf
 (repeat' ((first|refine aU fun hh=>?_|refine aV fun hh=>?_|refine aS (fun hh=>?_) fun hh=>?_|refine kR ?_|((try refine Or.inl ?_;conv=>whnf);(try refine ⟨false,?_⟩;conv=>whnf);refine ⟨_,by first|exact c1|exact c2|exact c3,?_⟩)|fail)<;>conv=>whnf))
 all_goals first
  | (refine congrArg AV.bool (Eq.symm (Bool.eq_false_iff.2 fun q=>?_));have q:=vi.1 q;first|omega|exact Bool.noConfusion (q.2.2.1.symm.trans (by assumption))|exact Bool.noConfusion (q.2.2.2.1.symm.trans (by assumption)))
  | (refine congrArg AV.bool ?_;rw [Bool.eq_iff_iff,vi];exact ⟨fun q=>⟨by omega,by omega,by assumption,by assumption,q⟩,fun q=>q.2.2.2.2⟩)
 
theorem KF (b:o7):PC Tryz.prog 53 [au b] (.bool (!eK b)):=by
 have Uz:¬(b.p9.length<=30/\b.b8.length<=30/\b.log.length<=50/\(∀ i,(b.b8.getD i r9).B0.length<=30)/\∀ i,(b.log.getD i w9).o9.length<=100)->AV.bool true=AV.bool (!eK b):=fun q=>by
  have:eK b=false:=Bool.eq_false_iff.2 fun e=>q (ph e)
  rw [this];rfl
 refine pF Tryz.func53 ?_
 conv=>whnf
 (repeat' ((first|refine aU fun hh=>?_|refine aV fun hh=>?_|refine aS (fun hh=>?_) fun hh=>?_|refine kR ?_|fail)<;>conv=>whnf))
 ·exact Uz fun q=>by omega
 ·exact Uz fun q=>by omega
 ·exact Uz fun q=>by omega
 have h1:b.p9.length<=30:=by omega
 have h2:b.b8.length<=30:=by omega
 have h3:b.log.length<=50:=by omega
 refine Or.inr ⟨Nat,[3],[],[],fun k=>[i64 k],fun _=>[],fun _=>[],fun k=>b.b8.length - k,fun k=>k<=b.b8.length/\∀ i,i < k->xn (b.b8.getD i r9)=true,?_⟩
 conv=>whnf
 refine ⟨⟨0,?_⟩,?_⟩
 ·(conv=>whnf)
  exact kK ⟨⟨Nat.zero_le _,fun i hi=>absurd hi (Nat.not_lt_zero i)⟩,rfl,rfl,rfl⟩
 ·intro k hk
  conv=>whnf
  refine ⟨fun h=>?_,fun h=>?_⟩
  ·have h:=of_decide_eq_true h
   conv=>whnf
   refine ⟨⟨by omega,by omega⟩,?_⟩
   conv=>whnf
   refine ⟨fun h4=>?_,fun h4=>?_⟩
   ·have h4:=of_decide_eq_true h4
    conv=>whnf
    refine Uz fun q=>?_
    have q:=q.2.2.2.1 k
    exact absurd h4 (by show ¬ (((b.b8.getD k r9).B0.length:Int) > 30);omega)
   ·have h4:=of_decide_eq_false h4
    refine ⟨k + 1,?_⟩
    conv=>whnf
    refine kK ⟨⟨?_,?_,?_⟩,?_,rfl,rfl⟩
    ·show b.b8.length - (k + 1) < b.b8.length - k;omega
    ·omega
    ·intro i hi
     by_cases e:i=k
     ·subst e
      have h4:¬ (((b.b8.getD i r9).B0.length:Int) > 30):=h4
      exact decide_eq_true (by omega)
     ·exact hk.2 i (by omega)
    ·rw [C7 _ (by omega) (by omega)];rfl
  ·have h:=of_decide_eq_false h
   have hR:b.b8.all xn=true:=mA.2 fun i hi=>hk.2 i (by omega)
   conv=>whnf
   refine Or.inr ⟨Nat,[4],[],[],fun k=>[i64 k],fun _=>[],fun _=>[],fun k=>b.log.length - k,fun k=>k<=b.log.length/\∀ i,i < k->xp (b.log.getD i w9)=true,?_⟩
   conv=>whnf
   refine ⟨⟨0,?_⟩,?_⟩
   ·(conv=>whnf)
    exact kK ⟨⟨Nat.zero_le _,fun i hi=>absurd hi (Nat.not_lt_zero i)⟩,rfl,rfl,rfl⟩
   ·intro k hk
    conv=>whnf
    refine ⟨fun h=>?_,fun h=>?_⟩
    ·have h:=of_decide_eq_true h
     conv=>whnf
     refine ⟨⟨by omega,by omega⟩,?_⟩
     conv=>whnf
     refine ⟨fun h4=>?_,fun h4=>?_⟩
     ·have h4:=of_decide_eq_true h4
      conv=>whnf
      refine Uz fun q=>?_
      have q:=q.2.2.2.2 k
      exact absurd h4 (by show ¬ (((b.log.getD k w9).o9.length:Int) > 100);omega)
     ·have h4:=of_decide_eq_false h4
      refine ⟨k + 1,?_⟩
      conv=>whnf
      refine kK ⟨⟨?_,?_,?_⟩,?_,rfl,rfl⟩
      ·show b.log.length - (k + 1) < b.log.length - k;omega
      ·omega
      ·intro i hi
       by_cases e:i=k
       ·subst e
        have h4:¬ (((b.log.getD i w9).o9.length:Int) > 100):=h4
        exact decide_eq_true (by omega)
       ·exact hk.2 i (by omega)
      ·rw [C7 _ (by omega) (by omega)];rfl
    ·have h:=of_decide_eq_false h
     have hE:b.log.all xp=true:=mA.2 fun i hi=>hk.2 i (by omega)
     conv=>whnf
     have:eK b=true:=by
      unfold eK
      rw [decide_eq_true h1,decide_eq_true h2,decide_eq_true h3,hR,hE];rfl
     rw [this];rfl
abbrev mB (k:Int):AV := .agg [i64 k,.nils,.nils,i64 0,.nils]
def KG (keep:Int):Int:=if D1 keep 1 32 then keep else 0
def KH (keep:Int):Int:=if D1 keep 1 32 then 0 else 2
theorem Rj (keep:Int):PC Tryz.prog 55 [i64 keep] (.tup [mB (KG keep),i64 (KH keep)]):=by
  refine pF Tryz.func55 ?_
  conv=>whnf
  have c1:PC Tryz.prog 105 [i64 1,i64 32,i64 keep] (.bool (decide (1<=keep) && decide (keep<=32))):=M1 _ _ _
  (repeat' ((first|refine aU fun hh=>?_|refine aV fun hh=>?_|refine aS (fun hh=>?_) fun hh=>?_|refine kR ?_|((try refine Or.inl ?_;conv=>whnf);(try refine ⟨false,?_⟩;conv=>whnf);refine ⟨_,by exact c1,?_⟩)|fail)<;>conv=>whnf))
  all_goals first
    | (have hw:D1 keep 1 32=true:=by simp only [D1,Bool.and_eq_true,decide_eq_true_eq];omega
       unfold KG KH
       rw [if_pos hw,if_pos hw])
    | (have hw:¬D1 keep 1 32=true:=by simp only [D1,Bool.and_eq_true,decide_eq_true_eq];omega
       unfold KG KH
       rw [if_neg hw,if_neg hw])
   
theorem eN {α:Type} {d:α}:∀ (l:List α) (i:Nat),l.set i (l.getD i d)=l
 | [],_=>rfl
 | a :: l,0=>rfl
 | a :: l,i + 1=>by
  show a :: l.set i (l.getD i d)=_
  rw [eN l i]

end Go.Proofs.Tryz.My
