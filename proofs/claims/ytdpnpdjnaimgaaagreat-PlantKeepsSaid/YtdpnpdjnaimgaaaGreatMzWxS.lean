/- Helper lemmas. -/
import Derived.Test.YtdpnpdjnaimgaaaGreatMzWtB
set_option linter.unusedVariables false
set_option linter.unusedSimpArgs false
set_option maxRecDepth 100000
set_option maxHeartbeats 0
namespace Go.Proofs.Tryz.My
open Go Go.Ev
def Z6 (o:r8):Bool:=decide (100 < o.tru.length∨100 < o.a8.length)
theorem oB (o:r8):PC Tryz.prog 25 [ord o] (.bool (Z6 o)):=by
 unfold Z6
 refine pF Tryz.func25 ?_
 conv=>whnf
 (repeat' ((first|refine aU fun hh=>?_|refine aV fun hh=>?_|refine aS (fun hh=>?_) fun hh=>?_|refine kR ?_|fail)<;>conv=>whnf))
 all_goals (first|(refine congrArg AV.bool (Bool.eq_iff_iff.2 ?_);simp only [Bool.and_eq_true,Bool.or_eq_true,Bool.not_eq_true',decide_eq_true_eq,decide_eq_false_iff_not,Bool.false_eq_true,iff_false,iff_true,true_iff,false_iff,reduceCtorEq,not_true_eq_false,not_false_eq_true];omega))
def O3 (l:List r8):Bool:=(l.take 600).any Z6 || decide ((200 < l.length/\l.length<=500)∨600 < l.length)
theorem HU {l:List r8} {n:Nat} {p:r8->Bool} (h:∀ j,j < l.length->j < n->p (l.getD j B7)=false):(l.take n).any p=false:=by
 rw [<- Bool.not_eq_true,List.any_eq_true]
 rintro ⟨x,hx,e⟩
 obtain ⟨m,hm,e2⟩:=List.getElem_of_mem hx
 rw [List.length_take] at hm
 have:=h m (by omega) (by omega)
 rw [x9 (by omega),<- List.getElem_take (h:=by rw [List.length_take];omega),e2,e] at this
 cases this
theorem jE (l:List r8):PC Tryz.prog 43 [cG l] (.bool (O3 l)):=by
 refine pF Tryz.func43 ?_
 conv=>whnf
 refine Or.inr ⟨Nat,[3],[],[],fun k=>[i64 k],fun _=>[],fun _=>[],fun k=>l.length - k,fun k=>(k<=l.length/\k<=600)/\∀ j,j < k->Z6 (l.getD j B7)=false,?_⟩
 conv=>whnf
 refine ⟨⟨0,?_⟩,?_⟩
 ·(conv=>whnf)
  exact kK ⟨⟨⟨Nat.zero_le _,Nat.zero_le _⟩,fun j hj=>absurd hj (Nat.not_lt_zero j)⟩,rfl,rfl,rfl⟩
 rintro k ⟨⟨hk,hk6⟩,hn⟩
 have cg:=oB (l.getD k B7)
 conv=>whnf
 by_cases L7:k < l.length/\k < 600
 ·have h1:=L7.1
  have h2:=L7.2
  cases hg:Z6 (l.getD k B7)
  ·rw [hg] at cg
   (repeat' ((first|refine aU fun hh=>?_|refine aV fun hh=>?_|refine aS (fun hh=>?_) fun hh=>?_|refine kT ?_|((try refine Or.inl ?_;conv=>whnf);(try refine ⟨false,?_⟩;conv=>whnf);refine ⟨_,by exact cg,?_⟩)|fail)<;>conv=>whnf))
   refine ⟨k + 1,?_⟩
   conv=>whnf
   refine kK ⟨⟨?_,?_,fun j hj=>?_⟩,?_,rfl,rfl⟩
   ·show l.length - (k + 1) < l.length - k;omega
   ·show k + 1<=l.length/\k + 1<=600;omega
   ·by_cases z:j=k
    ·subst z;exact hg
    ·exact hn j (by have hj:j < k + 1:=hj;omega)
   ·rw [C7 _ (by omega) (by omega)];rfl
  ·rw [hg] at cg
   have e:O3 l=true:=by
    unfold O3
    have:(l.take 600).any Z6=true:=List.any_eq_true.2 ⟨l.getD k B7,by rw [x9 h1];exact List.mem_take_iff_getElem.2 ⟨k,by omega,rfl⟩,hg⟩
    rw [this];rfl
   rw [e]
   (repeat' ((first|refine aU fun hh=>?_|refine aV fun hh=>?_|refine aS (fun hh=>?_) fun hh=>?_|refine kT ?_|((try refine Or.inl ?_;conv=>whnf);(try refine ⟨false,?_⟩;conv=>whnf);refine ⟨_,by exact cg,?_⟩)|fail)<;>conv=>whnf))
   all_goals rfl
 ·have e:(l.take 600).any Z6=false:=HU fun j h1 h2=>hn j (by omega)
  unfold O3
  rw [e,Bool.false_or]
  (repeat' ((first|refine aU fun hh=>?_|refine aV fun hh=>?_|refine aS (fun hh=>?_) fun hh=>?_|refine kT ?_|fail)<;>conv=>whnf))
  all_goals (first|(refine congrArg AV.bool (Bool.eq_iff_iff.2 ?_);simp only [Bool.and_eq_true,Bool.or_eq_true,Bool.not_eq_true',decide_eq_true_eq,decide_eq_false_iff_not,Bool.false_eq_true,iff_false,iff_true,true_iff,false_iff,reduceCtorEq,not_true_eq_false,not_false_eq_true];omega))
def oC (x y:V5):Prop:=x.id=y.id/\x.seq=y.seq/\x.o6=y.o6/\x.hit=y.hit/\x.out=y.out
instance (x y:V5):Decidable (oC x y):=by unfold oC;infer_instance
def eX (a b:bX):Bool:=decide (a.e=b.e/\a.n=b.n/\a.n7.length=b.n7.length) && (List.range a.n7.length).all fun i=>decide (oC (a.n7.getD i K4) (b.n7.getD i K4))
theorem uh (a b:bX) (hl:a.n7.length < 2 ^ 20) (IF:b.n7.length < 2 ^ 20):PC Tryz.prog 28 [jB a,jB b] (.bool (eX a b)):=by
 by_cases h0:a.e=b.e/\a.n=b.n/\a.n7.length=b.n7.length
 ·obtain ⟨h1,h2,h3⟩:=h0
  refine pF Tryz.func28 ?_
  conv=>whnf
  (repeat' ((first|refine aU fun hh=>?_|refine aV fun hh=>?_|refine aS (fun hh=>?_) fun hh=>?_|refine kR ?_|fail)<;>conv=>whnf))
  refine Or.inr ⟨Nat,[5],[],[],fun k=>[i64 k],fun _=>[],fun _=>[],fun k=>a.n7.length - k,fun k=>k<=a.n7.length/\∀ j,j < k->oC (a.n7.getD j K4) (b.n7.getD j K4),?_⟩
  conv=>whnf
  refine ⟨⟨0,?_⟩,?_⟩
  ·(conv=>whnf)
   exact kK ⟨⟨Nat.zero_le _,fun j hj=>absurd hj (Nat.not_lt_zero j)⟩,rfl,rfl,rfl⟩
  rintro k ⟨hk,hn⟩
  conv=>whnf
  refine ⟨fun h=>?_,fun h=>?_⟩
  ·have h:=of_decide_eq_true h
   have L7:k < a.n7.length:=by omega
   conv=>whnf
   (repeat' ((first|refine aU fun hh=>?_|refine aV fun hh=>?_|refine aS (fun hh=>?_) fun hh=>?_|refine kT ?_|fail)<;>conv=>whnf))
   ·have aW:¬oC (a.n7.getD k K4) (b.n7.getD k K4):=fun q=>by
     obtain ⟨q1,q2,q3,q4,q5⟩:=q
     rcases hh with z|z|z|z|z|z
     ·exact z q1
     ·exact z q2
     ·exact z q3
     ·rw [beq_eq_false_iff_ne] at z;exact z q4
     ·rw [beq_eq_false_iff_ne] at z;exact z q5
     ·cases z
    have e:eX a b=false:=by
     unfold eX
     rw [Bool.and_eq_false_iff]
     right
     rw [<- Bool.not_eq_true,List.all_eq_true]
     intro q
     exact aW (of_decide_eq_true (q k (List.mem_range.2 L7)))
    rw [e]
   ·have hy:oC (a.n7.getD k K4) (b.n7.getD k K4):=by
     obtain ⟨q1,q2,q3,q4,q5,_⟩:=hh
     exact ⟨q1,q2,q3,eq_of_beq q4,eq_of_beq q5⟩
    refine ⟨k + 1,?_⟩
    conv=>whnf
    refine kK ⟨⟨?_,?_,fun j hj=>?_⟩,?_,rfl,rfl⟩
    ·show a.n7.length - (k + 1) < a.n7.length - k;omega
    ·show k + 1<=a.n7.length;omega
    ·by_cases z:j=k
     ·subst z;exact hy
     ·exact hn j (by have hj:j < k + 1:=hj;omega)
    ·rw [C7 _ (by omega) (by omega)];rfl
  ·have h:=of_decide_eq_false h
   have ek:k=a.n7.length:=by omega
   rw [ek] at hn
   conv=>whnf
   have e:eX a b=true:=by
    unfold eX
    rw [decide_eq_true ⟨h1,h2,h3⟩,Bool.true_and,List.all_eq_true]
    exact fun i hi=>decide_eq_true (hn i (List.mem_range.1 hi))
   rw [e]
   all_goals rfl
 ·have e:eX a b=false:=by unfold eX;rw [decide_eq_false h0];rfl
  rw [e]
  refine pF Tryz.func28 ?_
  conv=>whnf
  (repeat' ((first|refine aU fun hh=>?_|refine aV fun hh=>?_|refine aS (fun hh=>?_) fun hh=>?_|refine kR ?_|fail)<;>conv=>whnf))
  all_goals rfl

end Go.Proofs.Tryz.My
