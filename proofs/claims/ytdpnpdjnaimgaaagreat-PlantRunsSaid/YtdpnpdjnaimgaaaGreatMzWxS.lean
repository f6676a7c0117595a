/- Helper lemmas. -/
import Derived.Test.YtdpnpdjnaimgaaaGreatMzWtD
set_option linter.unusedVariables false
set_option linter.unusedSimpArgs false
set_option maxRecDepth 100000
set_option maxHeartbeats 0
namespace Go.Proofs.Tryz.My
open Go Go.Ev
def Z6(o:r8):Bool:=decide (100<o.tru.length∨100<o.a8.length)
theorem oB(o:r8):va6 25 [ord o] (.bool (Z6 o)):=by
 unfold Z6;refine pF Tryz.func25 ?_;conv=>whnf
 (repeat' ((first|refine va0 (fun hh=>?_) fun hh=>?_|refine kR ?_|fail)<;>first|exact hh.elim|conv=>whnf));all_goals (first|(refine congrArg AV.bool (Bool.eq_iff_iff.2 ?_);simp only[zA2,zA9,Bool.not_eq_true',zA3,decide_eq_false_iff_not,zB0,iff_false,iff_true,true_iff,false_iff,reduceCtorEq,not_true_eq_false,not_false_eq_true];omega))
def O3(l:List r8):Bool:=(l.take 600).any Z6 || decide ((200<l.length/\l.length<=500)∨600<l.length)
theorem HU{l:List r8}{n:Nat}{p:r8->Bool}(h:∀ j,j<l.length->j<n->p (l.getD j B7)=false):(l.take n).any p=false:=by
 rw[<- Bool.not_eq_true,List.any_eq_true];rintro⟨x,hx,e⟩;obtain⟨m,hm,e2⟩:=List.getElem_of_mem hx;rw[zB1]at hm;have:=h m va5 va5;rw[x9 va5,<- List.getElem_take (h:=by rw[zB1];omega),e2,e]at this;cases this
theorem jE(l:List r8):va6 43 [cG l] (.bool (O3 l)):=by
 refine pF Tryz.func43 ?_;conv=>whnf
 refine Or.inr ⟨Nat,[3],[],[],fun k=>[i64 k],fun _=>[],fun _=>[],fun k=>l.length-k,fun k=>(k<=l.length/\k<=600)/\∀ j,j<k->Z6 (l.getD j B7)=false,?_⟩;conv=>whnf
 refine⟨⟨0,?_⟩,?_⟩
 ·(conv=>whnf);exact kK ⟨⟨⟨zB4 _,zB4 _⟩,fun j hj=>absurd hj (zB3 j)⟩,rfl,rfl,rfl⟩
 rintro k ⟨⟨hk,hk6⟩,hn⟩;have cg:=oB (l.getD k B7);conv=>whnf
 by_cases L7:k<l.length/\k<600
 ·have h1:=L7.1;have h2:=L7.2;cases hg:Z6 (l.getD k B7)
  ·rw[hg]at cg;refine vb9 ?_;(repeat intro hh);refine⟨k+1,?_⟩;conv=>whnf
   refine kK ⟨⟨?_,?_,fun j hj=>?_⟩,?_,rfl,rfl⟩
   ·show l.length-(k+1)<l.length-k;omega
   ·show k+1<=l.length/\k+1<=600;omega
   ·by_cases z:j=k
    ·subst z;exact hg
    ·exact hn j (by have hj:j<k+1:=hj;omega)
   ·rw[C7 _ va5 va5];rfl
  ·rw[hg]at cg;have e:O3 l=true:=by
    unfold O3;have:(l.take 600).any Z6=true:=List.any_eq_true.2 ⟨l.getD k B7,by rw[x9 h1];exact List.mem_take_iff_getElem.2 ⟨k,va5,rfl⟩,hg⟩;rw[this];rfl
   rw[e];try exact rt
   all_goals rfl
 ·have e:(l.take 600).any Z6=false:=HU fun j h1 h2=>hn j va5
  unfold O3;rw[e,Bool.false_or];(repeat' ((first|refine va0 (fun hh=>?_) fun hh=>?_|refine kT ?_|fail)<;>first|exact hh.elim|conv=>whnf));all_goals (first|(refine congrArg AV.bool (Bool.eq_iff_iff.2 ?_);simp only[zA2,zA9,Bool.not_eq_true',zA3,decide_eq_false_iff_not,zB0,iff_false,iff_true,true_iff,false_iff,reduceCtorEq,not_true_eq_false,not_false_eq_true];omega))
def oC(x y:V5):Prop:=x.id=y.id/\x.seq=y.seq/\x.o6=y.o6/\x.hit=y.hit/\x.out=y.out
instance (x y:V5):Decidable (oC x y):=by unfold oC;infer_instance
def eX(a b:bX):Bool:=decide (a.e=b.e/\a.n=b.n/\a.n7.length=b.n7.length) && (List.range a.n7.length).all fun i=>decide (oC (a.n7.getD i K4) (b.n7.getD i K4))
theorem uh(a b:bX)(hl:a.n7.length<2^20)(IF:b.n7.length<2^20):va6 28 [jB a,jB b] (.bool (eX a b)):=by
 by_cases h0:a.e=b.e/\a.n=b.n/\a.n7.length=b.n7.length
 ·obtain⟨h1,h2,h3⟩:=h0;refine pF Tryz.func28 ?_;conv=>whnf
  refine vb8 ?_;(repeat intro hh);refine Or.inr ⟨Nat,[5],[],[],fun k=>[i64 k],fun _=>[],fun _=>[],fun k=>a.n7.length-k,fun k=>k<=a.n7.length/\∀ j,j<k->oC (a.n7.getD j K4) (b.n7.getD j K4),?_⟩;conv=>whnf
  refine⟨⟨0,?_⟩,?_⟩
  ·(conv=>whnf);exact kK ⟨⟨zB4 _,fun j hj=>absurd hj (zB3 j)⟩,rfl,rfl,rfl⟩
  rintro k ⟨hk,hn⟩;conv=>whnf
  refine⟨fun h=>?_,fun h=>?_⟩
  ·have h:=zA1 h;have L7:k<a.n7.length:=by omega
   conv=>whnf
   (repeat' ((first|refine va0 (fun hh=>?_) fun hh=>?_|refine kT ?_|fail)<;>first|exact hh.elim|conv=>whnf))
   ·have aW:¬oC (a.n7.getD k K4) (b.n7.getD k K4):=fun q=>by
     obtain⟨q1,q2,q3,q4,q5⟩:=q;rcases hh with z|z|z|z|z|z
     ·exact z q1
     ·exact z q2
     ·exact z q3
     ·rw[beq_eq_false_iff_ne]at z;exact z q4
     ·rw[beq_eq_false_iff_ne]at z;exact z q5
     ·cases z
    have e:eX a b=false:=by
     unfold eX;rw[Bool.and_eq_false_iff]
     right
     rw[<- Bool.not_eq_true,List.all_eq_true];intro q;exact aW (zA1 (q k (List.mem_range.2 L7)))
    rw[e]
   ·have hy:oC (a.n7.getD k K4) (b.n7.getD k K4):=by
     obtain⟨q1,q2,q3,q4,q5,_⟩:=hh;exact⟨q1,q2,q3,eq_of_beq q4,eq_of_beq q5⟩
    refine⟨k+1,?_⟩;conv=>whnf
    refine kK ⟨⟨?_,?_,fun j hj=>?_⟩,?_,rfl,rfl⟩
    ·show a.n7.length-(k+1)<a.n7.length-k;omega
    ·show k+1<=a.n7.length;omega
    ·by_cases z:j=k
     ·subst z;exact hy
     ·exact hn j (by have hj:j<k+1:=hj;omega)
    ·rw[C7 _ va5 va5];rfl
  ·have h:=zA0 h;have ek:k=a.n7.length:=by omega
   rw[ek]at hn;conv=>whnf
   have e:eX a b=true:=by
    unfold eX;rw[zA4 ⟨h1,h2,h3⟩,Bool.true_and,List.all_eq_true];exact fun i hi=>zA4 (hn i (List.mem_range.1 hi))
   rw[e];all_goals rfl
 ·have e:eX a b=false:=by unfold eX;rw[zA5 h0];rfl
  rw[e];refine pF Tryz.func28 ?_;conv=>whnf
  try exact va1
  all_goals rfl
def a0f(l m:List bX):Bool:=decide (l.length=m.length) && (List.range l.length).all fun i=>eX (l.getD i Y1) (m.getD i Y1)
theorem a0k(l m:List bX)(hl:l.length<2^20)(wK:m.length<2^20)(ho:∀ i,(l.getD i Y1).n7.length<2^20)(tn:∀ i,(m.getD i Y1).n7.length<2^20):va6 45 [XE l,XE m] (.bool (a0f l m)):=by
 by_cases h0:l.length=m.length
 ·refine pF Tryz.func45 ?_;conv=>whnf
  refine vb8 ?_;(repeat intro hh);refine Or.inr ⟨Nat,[5],[],[],fun k=>[i64 k],fun _=>[],fun _=>[],fun k=>l.length-k,fun k=>k<=l.length/\∀ j,j<k->eX (l.getD j Y1) (m.getD j Y1)=true,?_⟩;conv=>whnf
  refine⟨⟨0,?_⟩,?_⟩
  ·(conv=>whnf);exact kK ⟨⟨zB4 _,fun j hj=>absurd hj (zB3 j)⟩,rfl,rfl,rfl⟩
  rintro k ⟨hk,hn⟩;have ca:=uh (l.getD k Y1) (m.getD k Y1) (ho k) (tn k);conv=>whnf
  refine⟨fun h=>?_,fun h=>?_⟩
  ·have h:=zA1 h;have L7:k<l.length:=by omega
   cases hq:eX (l.getD k Y1) (m.getD k Y1)
   ·rw[hq]at ca;have e:a0f l m=false:=by
     unfold a0f;rw[Bool.and_eq_false_iff]
     right
     rw[<- Bool.not_eq_true,List.all_eq_true];intro q;have:=q k (List.mem_range.2 L7);rw[hq]at this;cases this
    rw[e];conv=>whnf
    try exact rt
    all_goals rfl
   ·rw[hq]at ca;conv=>whnf
    refine vb9 ?_;(repeat intro hh);refine⟨k+1,?_⟩;conv=>whnf
    refine kK ⟨⟨?_,?_,fun j hj=>?_⟩,?_,rfl,rfl⟩
    ·show l.length-(k+1)<l.length-k;omega
    ·show k+1<=l.length;omega
    ·by_cases z:j=k
     ·subst z;exact hq
     ·exact hn j (by have hj:j<k+1:=hj;omega)
    ·rw[C7 _ va5 va5];rfl
  ·have h:=zA0 h;have ek:k=l.length:=by omega
   rw[ek]at hn;conv=>whnf
   have e:a0f l m=true:=by
    unfold a0f;rw[zA4 h0,Bool.true_and,List.all_eq_true];exact fun i hi=>hn i (List.mem_range.1 hi)
   rw[e];all_goals rfl
 ·have e:a0f l m=false:=by unfold a0f;rw[zA5 h0];rfl
  rw[e];refine pF Tryz.func45 ?_;conv=>whnf
  try exact va1
  all_goals rfl

end Go.Proofs.Tryz.My
