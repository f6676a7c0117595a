/- Helper lemmas. -/
import Derived.Test.YtdpnpdjnaimgaaaGreatMzBkX
set_option linter.unusedVariables false
set_option linter.unusedSimpArgs false
set_option maxRecDepth 100000
set_option maxHeartbeats 0
namespace Go.Proofs.Tryz.My
open Go Go.Ev
abbrev Tc(x:A9):AV := .agg (eJ x)
abbrev Iz(s:B8):AV := .agg (V9 s)
def rW{α:Type}(p:α->α->Bool)(d:α)(l m:List α):Bool:=decide ((l.length:Int)=m.length) && (List.range l.length).all fun i=>p (l.getD i d) (m.getD i d)
theorem jv{α:Type}{p:α->α->Bool}{d:α}{l m:List α}(h:¬(l.length:Int)=m.length):false=rW p d l m:=by
 unfold rW;rw[zA5 h,Bool.false_and]
theorem jw{α:Type}{p:α->α->Bool}{d:α}{l m:List α}{i:Nat}(hi:i<l.length)(h:p (l.getD i d) (m.getD i d)=false):false=rW p d l m:=by
 unfold rW;rw[kO hi h,Bool.and_false]
theorem kW{α:Type}{p:α->α->Bool}{d:α}{l m:List α}(hl:(l.length:Int)=m.length)(h:∀ i,i<l.length->p (l.getD i d) (m.getD i d)=true):true=rW p d l m:=by
 unfold rW;rw[zA4 hl,ah.2 h,Bool.true_and]
theorem dm{α:Type}{p:α->α->Bool}{d:α}(h:∀ x,p x x=true)(l:List α):rW p d l l=true:=(kW rfl fun i _=>h _).symm
def KA(l m:List Int):Bool:=rW (fun a b=>decide (a=b)) 0 l m
theorem a0X(l m:List Int)(hl:l.length<2^40)(IF:m.length<2^40):va6 111 [C8 l,C8 m] (.bool (KA l m)):=by
 unfold KA;refine pF Tryz.func111 ?_;conv=>whnf
 refine⟨fun h0=>?_,fun h0=>?_⟩
 ·have h0:¬(l.length:Int)=m.length:=by simpa using h0
  conv=>whnf
  exact congrArg AV.bool (jv h0)
 have h0:(l.length:Int)=m.length:=by simpa using h0
 conv=>whnf
 refine Or.inr ⟨Nat,[5],[],[],fun k=>[i64 k],fun _=>[],fun _=>[],fun k=>l.length-k,fun k=>k<=l.length/\∀ i,i<k->(fun a b=>decide (a=b)) (l.getD i 0) (m.getD i 0)=true,?_⟩;conv=>whnf
 refine⟨⟨0,?_⟩,?_⟩
 ·(conv=>whnf);exact kK ⟨⟨zB4 _,fun i hi=>absurd hi (zB3 i)⟩,rfl,rfl,rfl⟩
 ·intro k hk;conv=>whnf
  refine⟨fun h=>?_,fun h=>?_⟩
  ·have h:=zA1 h;have L7:k<l.length:=by omega
   (repeat' ((first|refine va0 (fun hh=>?_) fun hh=>?_|refine kR ?_|fail)<;>first|exact hh.elim|conv=>whnf))
   ·exact congrArg AV.bool (jw (p:=fun a b=>decide (a=b)) (d:=0) L7 (zA5 (by assumption)))
   ·refine⟨k+1,?_⟩;conv=>whnf
    refine kK ⟨⟨?_,?_,?_⟩,?_,rfl,rfl⟩
    ·show l.length-(k+1)<l.length-k;omega
    ·omega
    ·intro i hi;by_cases e:i=k
     ·subst e;exact zA4 (by assumption)
     ·exact hk.2 i va5
    ·rw[C7 _ va5 va5];rfl
  ·have h:=zA0 h;conv=>whnf
   exact congrArg AV.bool (kW h0 fun i hi=>hk.2 i va5)
def rX(g h:x8):Prop:=H8 g=H8 h/\D9 g=D9 h/\(J5 g).1.1=(J5 h).1.1/\(J5 g).1.2=(J5 h).1.2/\(J5 g).2.1=(J5 h).2.1/\(J5 g).2.2=(J5 h).2.2/\g.1.2.1=h.1.2.1/\g.1.2.2=h.1.2.2/\g.2.1=h.2.1/\g.2.2=h.2.2
instance (g h:x8):Decidable (rX g h):=by unfold rX;infer_instance
def rY(x y:A9):Bool:=decide (x.author=y.author) && (decide (rX x.gauge y.gauge) && (decide (x.state=y.state) && KA x.B0 y.B0))
def rZ(x y:B8):Bool:=decide (x.seq=y.seq) && (decide (x.recipe=y.recipe) && (decide (x.part=y.part) && (decide (x.o6=y.o6) && ((x.disputed == y.disputed) && KA x.o9 y.o9))))
theorem nL{x y:A9}:rY x y=true↔x.author=y.author/\rX x.gauge y.gauge/\x.state=y.state/\KA x.B0 y.B0=true:=by
 simp only[rY,zA2,zA3]
theorem nM{x y:B8}:rZ x y=true↔x.seq=y.seq/\x.recipe=y.recipe/\x.part=y.part/\x.o6=y.o6/\(x.disputed == y.disputed)=true/\KA x.o9 y.o9=true:=by
 simp only[rZ,zA2,zA3]
theorem Dk(x:A9):rY x x=true:=nL.2 ⟨rfl,by unfold rX;simp,rfl,dm (p:=fun a b=>decide (a=b)) (d:=(0:Int)) (fun _=>zA4 rfl) _⟩
theorem Dl(x:B8):rZ x x=true:=nM.2 ⟨rfl,rfl,rfl,rfl,by simp,dm (p:=fun a b=>decide (a=b)) (d:=(0:Int)) (fun _=>zA4 rfl) _⟩
theorem a2a(x y:B8)(hx:x.o9.length<2^40)(hy:y.o9.length<2^40):va6 112 [Iz x,Iz y] (.bool (rZ x y)):=by
 refine pF Tryz.func112 ?_;conv=>whnf
 (repeat' ((first|refine va0 (fun hh=>?_) fun hh=>?_|refine kR ?_|((try refine .inl ?_;conv=>whnf);(try refine⟨false,?_⟩;conv=>whnf);refine⟨_,by exact a0X _ _ hx hy,?_⟩)|fail)<;>first|exact hh.elim|conv=>whnf));all_goals first
  | (refine congrArg AV.bool (Eq.symm (Bool.eq_false_iff.2 fun q=>?_));have q:=nM.1 q;first|omega|exact Bool.noConfusion (q.2.2.2.2.1.symm.trans (by assumption))|exact Bool.noConfusion (q.2.2.2.2.2.symm.trans (by assumption)))
  | (refine congrArg AV.bool ?_;rw[Bool.eq_iff_iff,nM];exact⟨fun q=>⟨va5,va5,va5,va5,by assumption,by assumption⟩,fun q=>by first|exact q.2.2.2.2.2|exact q.2.2.2.2.1⟩)
 
def pj(b c:o7):Bool:=decide (b.keep=c.keep) && (decide (b.next=c.next) && (KA b.p9 c.p9 && (rW rY r9 b.recipes c.recipes && rW rZ w9 b.log c.log)))
theorem a2I(b:o7):pj b b=true:=by
 unfold pj KA;rw[dm (p:=fun a b=>decide (a=b)) (d:=(0:Int)) (fun _=>zA4 rfl),dm Dk,dm Dl,zA4 rfl,zA4 rfl];rfl
theorem vi{b c:o7}:pj b c=true↔b.keep=c.keep/\b.next=c.next/\KA b.p9 c.p9=true/\rW rY r9 b.recipes c.recipes=true/\rW rZ w9 b.log c.log=true:=by
 simp only[pj,zA2,zA3]
theorem a2J(b c:o7)(o:G8 b)(o':G8 c):va6 66 [au b,au c] (.bool (pj b c)):=by
  have no:¬(b.keep=c.keep/\b.next=c.next/\KA b.p9 c.p9=true/\rW rY r9 b.recipes c.recipes=true/\rW rZ w9 b.log c.log=true)->AV.bool false=AV.bool (pj b c):=fun q =>
    congrArg AV.bool (Eq.symm (Bool.eq_false_iff.2 fun e=>q (vi.1 e)))
  have hu:=o.u;have hr:=o.r;have hl:=o.l;have lenF:∀ {α:Type} {p:α->α->Bool} {d:α} {l m:List α},rW p d l m=true->(l.length:Int)=m.length:=fun h=>by
    simp only[rW,zA2,zA3]at h;exact h.1
  refine pF Tryz.func66 ?_;conv=>whnf
  (repeat' ((first|refine va0 (fun hh=>?_) fun hh=>?_|refine kR ?_|fail)<;>first|exact hh.elim|conv=>whnf))
  iterate 5 (refine no fun q=>?_;first|omega|(have:=lenF q.2.2.1;omega)|(have:=lenF q.2.2.2.1;omega)|(have:=lenF q.2.2.2.2;omega))
  have k1:b.keep=c.keep:=by omega
  have k2:b.next=c.next:=by omega
  have k3:(b.p9.length:Int)=c.p9.length:=by omega
  have k4:(b.recipes.length:Int)=c.recipes.length:=by omega
  have k5:(b.log.length:Int)=c.log.length:=by omega
  refine Or.inr ⟨Nat,[5],[],[],fun k=>[i64 k],fun _=>[],fun _=>[],fun k=>b.p9.length-k,fun k=>k<=b.p9.length/\∀ i,i<k->(fun a b=>decide (a=b)) (b.p9.getD i 0) (c.p9.getD i 0)=true,?_⟩;conv=>whnf
  refine⟨⟨0,?_⟩,?_⟩
  · (conv=>whnf)
    exact kK ⟨⟨zB4 _,fun i hi=>absurd hi (zB3 i)⟩,rfl,rfl,rfl⟩
  intro k hk;conv=>whnf
  refine⟨fun h=>?_,fun h=>?_⟩
  · have h:=zA1 h
    have L7:k<b.p9.length:=by omega
    (repeat' ((first|refine va0 (fun hh=>?_) fun hh=>?_|refine kR ?_|fail)<;>first|exact hh.elim|conv=>whnf))
    · exact no fun q=>Bool.noConfusion ((jw (p:=fun a b=>decide (a=b)) (d:=(0:Int)) L7 (zA5 (by assumption))).trans q.2.2.1)
    have ok:(fun a b=>decide (a=b)) (b.p9.getD k 0) (c.p9.getD k 0)=true:=zA4 (by assumption)
    · refine⟨k+1,?_⟩
      conv=>whnf
      refine kK ⟨⟨?_,?_,?_⟩,?_,rfl,rfl⟩
      · show b.p9.length-(k+1)<b.p9.length-k;omega
      · omega
      · intro i hi
        by_cases e:i=k
        · subst e;exact ok
        · exact hk.2 i va5
      · rw[C7 _ va5 va5];rfl
  have h:=zA0 h;have u1:KA b.p9 c.p9=true:=(kW k3 fun i hi=>hk.2 i va5).symm;clear hk h;conv=>whnf
  refine Or.inr ⟨Nat,[6],[],[],fun k=>[i64 k],fun _=>[],fun _=>[],fun k=>b.recipes.length-k,fun k=>k<=b.recipes.length/\∀ i,i<k->rY (b.recipes.getD i r9) (c.recipes.getD i r9)=true,?_⟩;conv=>whnf
  refine⟨⟨0,?_⟩,?_⟩
  · (conv=>whnf)
    exact kK ⟨⟨zB4 _,fun i hi=>absurd hi (zB3 i)⟩,rfl,rfl,rfl⟩
  intro k hk;conv=>whnf
  refine⟨fun h=>?_,fun h=>?_⟩
  · have h:=zA1 h
    have L7:k<b.recipes.length:=by omega
    have a1:=S7 (o.a k);have a2:=S7 (o'.a k);have bad:¬rY (b.recipes.getD k r9) (c.recipes.getD k r9)=true->AV.bool false=AV.bool (pj b c):=fun r=>no fun q=>Bool.noConfusion ((jw L7 (Bool.eq_false_iff.2 r)).trans q.2.2.2.1)
    have tk:Int.toNat (k:Int)=k:=rfl;(repeat' ((first|refine va0 (fun hh=>?_) fun hh=>?_|refine kR ?_|((try refine .inl ?_;conv=>whnf);(try refine⟨false,?_⟩;conv=>whnf);refine⟨_,by exact a0X _ _ a1 a2,?_⟩)|fail)<;>first|exact hh.elim|conv=>whnf));all_goals (try simp only[tk]at *)
    all_goals first
      | (refine bad fun q=>?_
         have q:=nL.1 q;unfold rX at q
         (try simp only[reduceCtorEq,or_false,and_true,Bool.true_eq_false]at *)
         first|omega|exact Bool.noConfusion (q.2.2.2.symm.trans (by assumption:KA _ _=false)))
      | (have ok:rY (b.recipes.getD k r9) (c.recipes.getD k r9)=true:=nL.2 ⟨by assumption,by unfold rX;first|omega|simp_all,by assumption,by assumption⟩
         refine⟨k+1,?_⟩;conv=>whnf
         refine kK ⟨⟨?_,?_,?_⟩,?_,rfl,rfl⟩
         · show b.recipes.length-(k+1)<b.recipes.length-k;omega
         · omega
         · intro i hi
           by_cases e:i=k
           · subst e;exact ok
           · exact hk.2 i va5
         · rw[C7 _ va5 va5];rfl)
     
  have h:=zA0 h;have u2:rW rY r9 b.recipes c.recipes=true:=(kW k4 fun i hi=>hk.2 i va5).symm;clear hk h;conv=>whnf
  refine Or.inr ⟨Nat,[9],[],[],fun k=>[i64 k],fun _=>[],fun _=>[],fun k=>b.log.length-k,fun k=>k<=b.log.length/\∀ i,i<k->rZ (b.log.getD i w9) (c.log.getD i w9)=true,?_⟩;conv=>whnf
  refine⟨⟨0,?_⟩,?_⟩
  · (conv=>whnf)
    exact kK ⟨⟨zB4 _,fun i hi=>absurd hi (zB3 i)⟩,rfl,rfl,rfl⟩
  intro k hk;conv=>whnf
  refine⟨fun h=>?_,fun h=>?_⟩
  · have h:=zA1 h
    have L7:k<b.log.length:=by omega
    have a1:=S7 (o.p k);have a2:=S7 (o'.p k);(repeat' ((first|refine va0 (fun hh=>?_) fun hh=>?_|refine kR ?_|((try refine .inl ?_;conv=>whnf);(try refine⟨false,?_⟩;conv=>whnf);refine⟨_,by exact a2a _ _ a1 a2,?_⟩)|fail)<;>first|exact hh.elim|conv=>whnf))
    · refine no fun q=>Bool.noConfusion ((jw L7 (by assumption:rZ (b.log.getD k w9) (c.log.getD k w9)=false)).trans q.2.2.2.2)
    · have ok:rZ (b.log.getD k w9) (c.log.getD k w9)=true:=by assumption
      refine⟨k+1,?_⟩;conv=>whnf
      refine kK ⟨⟨?_,?_,?_⟩,?_,rfl,rfl⟩
      · show b.log.length-(k+1)<b.log.length-k;omega
      · omega
      · intro i hi
        by_cases e:i=k
        · subst e;exact ok
        · exact hk.2 i va5
      · rw[C7 _ va5 va5];rfl
  have h:=zA0 h;have u3:rW rZ w9 b.log c.log=true:=(kW k5 fun i hi=>hk.2 i va5).symm;conv=>whnf
  rw[vi.2 ⟨k1,k2,u1,u2,u3⟩]
theorem r5(n lo hi:Int):va6 107 [i64 n,i64 lo,i64 hi] (.bool (decide (lo<=n) && decide (n<=hi))):=by
 refine pF Tryz.func107 ?_;conv=>whnf
 (repeat' (first|(refine⟨va4,?_⟩;(conv=>whnf))|(refine⟨fun _=>?_,fun h=>absurd h (by first|decide|(simp;done)|fail)⟩;(conv=>whnf))|(refine⟨fun h=>absurd h (by first|decide|(simp;done)|fail),fun _=>?_⟩;(conv=>whnf))|((with_reducible refine And.intro (a:=_=true->_) (b:=_=false->_) (fun hh=>?_) (fun hh=>?_))<;>(try simp only[yC]at hh)<;>(first|(exfalso;omega)|(conv=>whnf)))|fail));all_goals (first|rfl|(simp[*];done))
def a2l(us l:List Int):Nat:=(l.filter (I7 [3] us)).length
theorem a3a{us l:List Int}{j:Nat}(hj:j<l.length):a2l us (l.take (j+1))=a2l us (l.take j)+if I7 [3] us (l.getD j 0)=true then 1 else 0:=by
 unfold a2l;rw[List.take_add_one,List.filter_append,List.length_append,zA6 hj];simp only[List.getD,zA6 hj,Option.getD_some,Option.toList_some,List.filter_cons,List.filter_nil];by_cases h:I7 [3] us l[j]=true<;>simp[h]
theorem a4k(us l:List Int):a2l us l<=l.length:=List.length_filter_le _ _
theorem a2K(us l:List Int):K8 us l=(decide (2<=(l.length:Int)) && decide (1<=(a2l us l:Int))):=by
 unfold K8 a2l;have e1:decide ((l.length:Int) > 1)=decide (2<=(l.length:Int)):=decide_eq_decide.2 va5;have e2:l.any (I7 [3] us)=decide (1<=((l.filter (I7 [3] us)).length:Int)):=by
  rw[Bool.eq_iff_iff,zA3,List.any_eq_true]
  constructor
  ·rintro⟨x,h1,h2⟩;have:=List.length_pos_of_mem (List.mem_filter.2 ⟨h1,h2⟩);omega
  ·intro h;obtain⟨x,hx⟩:=List.exists_mem_of_length_pos (l:=l.filter (I7 [3] us)) va5;exact⟨x,(List.mem_filter.1 hx).1,(List.mem_filter.1 hx).2⟩
 rw[e1,e2]
theorem a1h{us:List Int}{u:Int}(h1:0<=u)(h2:u<us.length):I7 [3] us u=decide (us.getD u.toNat 0=3):=by
 unfold I7 D1;rw[zA4 h1,zA4 (show u<=(us.length:Int)-1 by omega),Bool.true_and,Bool.true_and];generalize us.getD u.toNat 0=a;by_cases h:a=3<;>simp[h]
theorem a0C(b:o7)(l:List Int)(hl:l.length<2^40)(oJ:∀ i,i<l.length->0<=l.getD i 0/\l.getD i 0<b.p9.length):va6 164 [au b,C8 l] (.bool (K8 b.p9 l)):=by
 refine pF Tryz.func164 ?_;conv=>whnf
 refine Or.inr ⟨Nat,[5,6],[],[],fun k=>[i64 (a2l b.p9 (l.take k)),i64 k],fun _=>[],fun _=>[],fun k=>l.length-k,fun k=>k<=l.length,?_⟩;conv=>whnf
 refine⟨⟨0,?_⟩,?_⟩
 ·(conv=>whnf);exact kK ⟨zB4 _,rfl,rfl,rfl⟩
 ·intro j hj;have hn:=a4k b.p9 (l.take j);rw[zB1]at hn;conv=>whnf
  refine⟨fun h=>?_,fun h=>?_⟩
  ·have h:=zA1 h;have BX:j<l.length:=by omega
   have hi:=oJ j BX;have hm:=a1h hi.1 hi.2;have ht:=a3a (us:=b.p9) BX;have e0:Int.toNat (j:Int)=j:=rfl;refine vb8 ?_;(repeat intro hh);refine⟨hi,?_⟩;conv=>whnf
   (repeat' ((first|refine va0 (fun hh=>?_) fun hh=>?_|refine kR ?_|fail)<;>first|exact hh.elim|conv=>whnf));all_goals (
    refine⟨j+1,?_⟩;conv=>whnf
    refine kK ⟨⟨?_,?_⟩,?_,rfl,rfl⟩
    ·show l.length-(j+1)<l.length-j;omega
    ·show j+1<=l.length;omega
    ·show _=[i64 (a2l b.p9 (l.take (j+1)):Nat),i64 ((j+1:Nat):Int)]
     first
      | (rw[C7 _ va5 va5,C7 _ va5 va5,ht,if_pos (by rw[hm];exact zA4 (by assumption))];first|rfl|(simp;done))
      | (rw[C7 _ va5 va5,ht,if_neg (by rw[hm];simpa using (by assumption:¬ _=(3:Int)))];first|rfl|(simp;done)))
  ·have h:=zA0 h;have ej:l.take j=l:=List.take_of_length_le va5;rw[ej]at hn ⊢;(repeat' ((first|refine va0 (fun hh=>?_) fun hh=>?_|refine kR ?_|fail)<;>first|exact hh.elim|conv=>whnf));all_goals (first|(exact congrArg AV.bool (by rw[a2K];simp;omega)))
abbrev mB(k:Int):AV := .agg [i64 k,.nils,.nils,i64 0,.nils]
def KG(keep:Int):Int:=if D1 keep 1 32 then keep else 0
def KH(keep:Int):Int:=if D1 keep 1 32 then 0 else 2
theorem Rj(keep:Int):va6 55 [i64 keep] (.tup [mB (KG keep),i64 (KH keep)]):=by
  refine pF Tryz.func55 ?_;conv=>whnf
  have c1:va6 105 [i64 1,i64 32,i64 keep] (.bool (decide (1<=keep) && decide (keep<=32))):=M1 _ _ _;(repeat' ((first|refine va0 (fun hh=>?_) fun hh=>?_|refine kR ?_|((try refine .inl ?_;conv=>whnf);(try refine⟨false,?_⟩;conv=>whnf);refine⟨_,by assumption,?_⟩)|fail)<;>first|exact hh.elim|conv=>whnf));all_goals first
    | (have hw:D1 keep 1 32=true:=by simp only[D1,zA2,zA3];omega
       unfold KG KH
       rw[if_pos hw,if_pos hw])
    | (have hw:¬D1 keep 1 32=true:=by simp only[D1,zA2,zA3];omega
       unfold KG KH
       rw[if_neg hw,if_neg hw])
   
theorem a3b(keep:Int):va6 58 [i64 keep] (.tup [mB (KG keep),i64 (KH keep)]):=by
  refine pF Tryz.func58 ?_;conv=>whnf
  (repeat' ((first|refine va0 (fun hh=>?_) fun hh=>?_|refine kR ?_|((try refine .inl ?_;conv=>whnf);(try refine⟨false,?_⟩;conv=>whnf);refine⟨_,by exact r5 _ _ _,?_⟩)|fail)<;>first|exact hh.elim|conv=>whnf));all_goals first
    | (have hw:D1 keep 1 32=true:=by simp only[D1,zA2,zA3];omega
       unfold KG KH
       rw[if_pos hw,if_pos hw])
    | (have hw:¬D1 keep 1 32=true:=by simp only[D1,zA2,zA3];omega
       unfold KG KH
       rw[if_neg hw,if_neg hw])
   
theorem eN{α:Type}{d:α}:∀ (l:List α) (i:Nat),l.set i (l.getD i d)=l
 | [],_=>rfl
 | a :: l,0=>rfl
 | a :: l,i+1=>by
  show a :: l.set i (l.getD i d)=_
  rw[eN l i]
theorem a0u(b:o7)(o:G8 b):va6 77 [au b] (au b):=by
 have hu:=o.u;have hr:=o.r;have hl:=o.l;have ha:=o.a;have hp:=o.p;obtain⟨k,us,rs,n,lg⟩:=b;simp only at hu hr hl ha hp;refine pF Tryz.func77 ?_;conv=>whnf
 refine⟨⟨Int,1,0,e8,[]⟩,us,rfl,⟨rfl,rfl⟩,rfl,?_,?_,fun y _=>⟨rfl,rfl,rfl⟩,?_⟩
 ·show(0+us.length)*1<=_;omega
 ·show 0+us.length<=_;omega
 conv=>whnf
 refine⟨⟨A9,13,r9,eJ,[]⟩,rs,rfl,⟨rfl,rfl⟩,rfl,?_,?_,fun y _=>⟨rfl,rfl,rfl⟩,?_⟩
 ·show(0+rs.length)*120<=_;omega
 ·show 0+rs.length<=_;omega
 conv=>whnf
 refine Or.inr ⟨Nat,[3],[13],[],fun k=>[i64 k],fun _=>[.vec 122 13 r9 eJ rs],fun _=>[],fun k=>rs.length-k,fun k=>k<=rs.length,?_⟩;conv=>whnf
 refine⟨⟨0,?_⟩,?_⟩
 ·(conv=>whnf);exact kK ⟨zB4 _,rfl,rfl,rfl⟩
 ·intro j hj;conv=>whnf
  refine⟨fun h=>?_,fun h=>?_⟩
  ·have h:=zA1 h;have BX:j<rs.length:=by omega
   have Xt:=ha j;refine vb8 ?_;(repeat intro hh);refine⟨BX,?_⟩;conv=>whnf
   rw[show Int.toNat (j:Int)=j from rfl];refine⟨⟨Int,1,0,eI,[]⟩,(rs.getD j r9).B0,rfl,⟨rfl,rfl⟩,rfl,?_,?_,fun y _=>⟨rfl,rfl,rfl⟩,?_⟩
   ·show(0+(rs.getD j r9).B0.length)*8<=_;omega
   ·show 0+(rs.getD j r9).B0.length<=_;omega
   conv=>whnf
   refine⟨⟨va5,va5⟩,?_⟩;conv=>whnf
   refine⟨rs.getD j r9,⟨rfl,BX⟩,?_⟩;conv=>whnf
   refine⟨va4,?_⟩;conv=>whnf
   refine⟨j+1,?_⟩;conv=>whnf
   refine kK ⟨⟨?_,?_⟩,?_,?_,rfl⟩
   ·show rs.length-(j+1)<rs.length-j;omega
   ·show j+1<=rs.length;omega
   ·rw[C7 _ va5 va5];rfl
   ·rw[show Int.toNat (j:Int)=j from rfl,eN]
  ·have h:=zA0 h;conv=>whnf
   refine⟨⟨B8,6,w9,V9,[]⟩,lg,rfl,⟨rfl,rfl⟩,rfl,?_,?_,fun y _=>⟨rfl,rfl,rfl⟩,?_⟩
   ·show(0+lg.length)*56<=_;omega
   ·show 0+lg.length<=_;omega
   conv=>whnf
   refine Or.inr ⟨Nat,[4],[38],[],fun k=>[i64 k],fun _=>[.vec 80 6 w9 V9 lg],fun _=>[],fun k=>lg.length-k,fun k=>k<=lg.length,?_⟩;conv=>whnf
   refine⟨⟨0,?_⟩,?_⟩
   ·(conv=>whnf);exact kK ⟨zB4 _,rfl,rfl,rfl⟩
   ·intro j hj;conv=>whnf
    refine⟨fun h=>?_,fun h=>?_⟩
    ·have h:=zA1 h;have BX:j<lg.length:=by omega
     have Xt:=hp j;refine vb8 ?_;(repeat intro hh);refine⟨BX,?_⟩;conv=>whnf
     rw[show Int.toNat (j:Int)=j from rfl];refine⟨⟨Int,1,0,eI,[]⟩,(lg.getD j w9).o9,rfl,⟨rfl,rfl⟩,rfl,?_,?_,fun y _=>⟨rfl,rfl,rfl⟩,?_⟩
     ·show(0+(lg.getD j w9).o9.length)*8<=_;omega
     ·show 0+(lg.getD j w9).o9.length<=_;omega
     conv=>whnf
     refine⟨⟨va5,va5⟩,?_⟩;conv=>whnf
     refine⟨lg.getD j w9,⟨rfl,BX⟩,?_⟩;conv=>whnf
     refine⟨va4,?_⟩;conv=>whnf
     refine⟨j+1,?_⟩;conv=>whnf
     refine kK ⟨⟨?_,?_⟩,?_,?_,rfl⟩
     ·show lg.length-(j+1)<lg.length-j;omega
     ·show j+1<=lg.length;omega
     ·rw[C7 _ va5 va5];rfl
     ·rw[show Int.toNat (j:Int)=j from rfl,eN]
    ·have h:=zA0 h;conv=>whnf
     rfl
theorem a2L{r us:List Int}{u:Int}(h:I7 r us u=true):0<=u/\u<us.length:=by
 simp only[I7,D1,zA2,zA3]at h;omega
def a1p(us:List Int):Prop:=∀ i,i<us.length->1<=us.getD i 0/\us.getD i 0<=3
theorem a0D{us:List Int}{u:Int}(h1:0<=u)(h2:u<us.length)(hs:a1p us):I7 [2,3] us u=true↔¬us.getD u.toNat 0<2:=by
 have:=hs u.toNat va5;unfold I7 D1;rw[zA4 h1,zA4 (show u<=(us.length:Int)-1 by omega),Bool.true_and,Bool.true_and];generalize us.getD u.toNat 0=a at this;simp only[List.contains,List.elem_eq_mem,zA3,List.mem_cons,List.not_mem_nil,or_false];omega
theorem a0n{us:List Int}{u:Int}(h1:0<=u)(h2:u<us.length):I7 [2] us u=true↔us.getD u.toNat 0=2:=by
 unfold I7 D1;rw[zA4 h1,zA4 (show u<=(us.length:Int)-1 by omega),Bool.true_and,Bool.true_and];simp only[List.contains,List.elem_eq_mem,zA3,List.mem_cons,List.not_mem_nil,or_false]
theorem a2m{b:o7}(h:iT b=true):a1p b.p9:=fun i hi=>by
 unfold iT at h;rw[Bool.not_eq_true']at h;have:tN (b.p9.getD i 0)=false:=by
  have:=List.any_eq_false.1 h (b.p9.getD i 0) (by simp only[List.getD,zA6 hi,Option.getD_some];exact List.getElem_mem hi);simpa using this
 simp only[tN,Bool.or_eq_false_iff,decide_eq_false_iff_not]at this;omega
theorem a3L{b:o7}(h:a1p b.p9):iT b=true:=by
 unfold iT;rw[Bool.not_eq_true',List.any_eq_false];intro x hx;obtain⟨i,hi,rfl⟩:=List.getElem_of_mem hx;have:=h i hi;simp only[List.getD,zA6 hi,Option.getD_some]at this;rw[Bool.not_eq_true];simp only[tN,Bool.or_eq_false_iff,decide_eq_false_iff_not];omega
theorem a1B(b:o7)(x:A9)(hu:b.p9.length<=16)(hs:a1p b.p9)(hx:x.B0.length<2^40):va6 163 [au b,Tc x] (.bool (pg b.p9 x)):=by
  have bad:∀ i,i<x.B0.length->¬(my x.B0 i<x.B0.getD i 0/\¬x.B0.getD i 0=x.author/\I7 [2,3] b.p9 (x.B0.getD i 0)=true)->AV.bool false=AV.bool (pg b.p9 x):=fun i hi q=>by
    unfold pg;rw[kO hi (Bool.eq_false_iff.2 fun e=>q (xy.1 e))]
  have w1:IntKind.i64.wrap ((b.p9.length:Int)-1)=(b.p9.length:Int)-1:=C7 _ va5 va5;refine pF Tryz.func163 ?_;conv=>whnf
  refine⟨fun h0=>?_,fun h0=>?_⟩
  · have h0:=zA1 h0
    conv=>whnf
    exact congrArg AV.bool (Eq.symm (Bool.eq_false_iff.2 fun q=>by have:=zY q;omega))
  have h0:=zA0 h0;conv=>whnf
  refine Or.inr ⟨Nat,[5],[],[],fun i=>[i64 i],fun _=>[],fun _=>[],fun i=>x.B0.length-i,fun i=>i<=x.B0.length/\∀ m,m<i->Kx b.p9 x m=true,?_⟩;conv=>whnf
  refine⟨⟨0,?_⟩,?_⟩
  · (conv=>whnf)
    exact kK ⟨⟨zB4 _,fun i hi=>absurd hi (zB3 i)⟩,rfl,rfl,rfl⟩
  · intro i hi
    have hw:IntKind.i64.wrap ((i:Int)-1)=(i:Int)-1:=C7 _ va5 va5;have e1:Int.toNat (IntKind.i64.wrap ((i:Int)-1))=i-1:=by rw[hw];omega
    have e3:0<i->my x.B0 i=x.B0.getD (i-1) 0:=fun h=>by unfold my;rw[if_neg va5]
    have e4:i=0->my x.B0 i = -1:=fun h=>by unfold my;rw[if_pos h]
    conv=>whnf
    refine⟨fun h=>?_,fun h=>?_⟩
    · have h:=zA1 h
      have hii:i<x.B0.length:=by omega
      conv=>whnf
      refine⟨⟨va5,va5⟩,?_⟩;conv=>whnf
      rw[show Int.toNat (i:Int)=i from rfl];have bad:=bad i hii;(repeat' ((first|refine va0 (fun hh=>?_) fun hh=>?_|refine kR ?_|((try refine .inl ?_;conv=>whnf);(try refine⟨false,?_⟩;conv=>whnf);refine⟨_,by exact r5 _ _ _,?_⟩)|fail)<;>first|exact hh.elim|conv=>whnf));all_goals simp only[e1,w1]at *
      all_goals first
        | (refine bad fun q=>?_
           obtain⟨q1,q2,q3⟩:=q;have r:=a2L q3;have s:=(a0D r.1 r.2 hs).1 q3
           first|omega|exact absurd (by assumption) q2)
        | (have ok:Kx b.p9 x i=true:=xy.2 ⟨va5,by assumption,(a0D va5 va5 hs).2 (by assumption)⟩
           refine⟨i+1,?_⟩;conv=>whnf
           refine kK ⟨⟨?_,?_,?_⟩,?_,rfl,rfl⟩
           · show x.B0.length-(i+1)<x.B0.length-i;omega
           · omega
           · intro m hm
             by_cases e:m=i
             · subst e;exact ok
             · exact hi.2 m va5
           · rw[C7 _ va5 va5];rfl)
       
    · have h:=zA0 h
      conv=>whnf
      have e:pg b.p9 x=true:=ah.2 fun m hm=>hi.2 m va5
      rw[e]
def a1C(b:o7):Bool:=decide ((b.p9.length:Int)<=16) && decide ((b.recipes.length:Int)<=16) && (iT b && T8 b)
theorem a1i{b:o7}:a1C b=true↔(b.p9.length:Int)<=16/\(b.recipes.length:Int)<=16/\iT b=true/\(∀ i,i<b.recipes.length->pg b.p9 (b.recipes.getD i r9)=true/\nH b.p9 (b.recipes.getD i r9)=true)/\C4 b.recipes<=1:=by
 simp only[a1C,T8,mz,zA2,zA3,and_assoc];rw[mA (d:=r9)];simp only[mz,zA2]
theorem a1j{b:o7}(h:¬((b.p9.length:Int)<=16/\(b.recipes.length:Int)<=16/\iT b=true/\(∀ i,i<b.recipes.length->pg b.p9 (b.recipes.getD i r9)=true/\nH b.p9 (b.recipes.getD i r9)=true)/\C4 b.recipes<=1)):AV.bool false=AV.bool (a1C b) :=
 congrArg AV.bool (Eq.symm (Bool.eq_false_iff.2 fun q=>h (a1i.1 q)))
theorem a1O{b:o7}{x:A9}(h:pg b.p9 x=true):∀ i,i<x.B0.length->0<=x.B0.getD i 0/\x.B0.getD i 0<b.p9.length:=fun i hi=>a2L (xy.1 (ah.1 h i hi)).2.2
theorem a2n{a:Int}(h1:1<=a):decide (a=1) = !decide (1<a):=by
 by_cases h:1<a
 ·rw[zA4 h,zA5 va5];rfl
 ·rw[zA5 h,zA4 va5];rfl
theorem a4G:∀ {A E:Bool},((!A) == E)=true->(A != E)=false->False:=by decide
theorem a4B:∀ {A E:Bool},((!A) == E)=false->(A != E)=false:=by decide
theorem a2M(b:o7)(hu0:b.p9.length<2^40)(BT:b.recipes.length<2^40)(hI:∀ i,IG (b.recipes.getD i r9).gauge)(ha:∀ i,(b.recipes.getD i r9).B0.length<2^40):va6 119 [au b] (.bool (a1C b)):=by
  have w1:IntKind.i64.wrap ((b.p9.length:Int)-1)=(b.p9.length:Int)-1:=C7 _ va5 va5;refine pF Tryz.func119 ?_;conv=>whnf
  (repeat' ((first|refine va0 (fun hh=>?_) fun hh=>?_|refine kR ?_|fail)<;>first|exact hh.elim|conv=>whnf))
  · exact a1j fun q=>by omega
  · exact a1j fun q=>by omega
  have hu:b.p9.length<=16:=by omega
  have hr:b.recipes.length<=16:=by omega
  refine Or.inr ⟨Nat,[3],[],[],fun k=>[i64 k],fun _=>[],fun _=>[],fun k=>b.p9.length-k,fun k=>k<=b.p9.length/\∀ i,i<k->1<=b.p9.getD i 0/\b.p9.getD i 0<=3,?_⟩;conv=>whnf
  refine⟨⟨0,?_⟩,?_⟩
  · (conv=>whnf)
    exact kK ⟨⟨zB4 _,fun i hi=>absurd hi (zB3 i)⟩,rfl,rfl,rfl⟩
  intro k hk;conv=>whnf
  refine⟨fun h=>?_,fun h=>?_⟩
  · have h:=zA1 h
    have L7:k<b.p9.length:=by omega
    have bad:¬(1<=b.p9.getD k 0/\b.p9.getD k 0<=3)->AV.bool false=AV.bool (a1C b):=fun q=>a1j fun r=>q (a2m r.2.2.1 k L7)
    conv=>whnf
    refine⟨⟨va5,va5⟩,?_⟩;conv=>whnf
    rw[show Int.toNat (k:Int)=k from rfl];(repeat' ((first|refine va0 (fun hh=>?_) fun hh=>?_|refine kR ?_|fail)<;>first|exact hh.elim|conv=>whnf))
    · exact bad fun q=>by omega
    · exact bad fun q=>by
        have hh:¬ (b.p9.getD k 0<=3):=(by(have hh:3<b.p9.getD k 0:=by assumption);omega);exact hh q.2
    · refine⟨k+1,?_⟩
      conv=>whnf
      refine kK ⟨⟨?_,?_,?_⟩,?_,rfl,rfl⟩
      · show b.p9.length-(k+1)<b.p9.length-k;omega
      · omega
      · intro i hi
        by_cases e:i=k
        · subst e
          have hh:¬ (3<b.p9.getD i 0):=by assumption
          exact⟨va5,va5⟩
        · exact hk.2 i va5
      · rw[C7 _ va5 va5];rfl
  have h:=zA0 h;have yH:a1p b.p9:=fun i hi=>hk.2 i va5
  have hsB:=a3L yH;conv=>whnf
  refine Or.inr ⟨Nat,[4,5],[],[],fun k=>[i64 (C4 (b.recipes.take k)),i64 k],fun _=>[],fun _=>[],fun k=>b.recipes.length-k,fun k=>k<=b.recipes.length/\∀ i,i<k->pg b.p9 (b.recipes.getD i r9)=true/\nH b.p9 (b.recipes.getD i r9)=true,?_⟩;conv=>whnf
  refine⟨⟨0,?_⟩,?_⟩
  · (conv=>whnf)
    exact kK ⟨⟨zB4 _,fun i hi=>absurd hi (zB3 i)⟩,rfl,rfl,rfl⟩
  intro j hj;conv=>whnf
  refine⟨fun h=>?_,fun h=>?_⟩
  · have h:=zA1 h
    have BX:j<b.recipes.length:=by omega
    conv=>whnf
    refine⟨⟨va5,va5⟩,?_⟩;conv=>whnf
    have Xt:=ha j;have hI1:=hI j;have bad:∀ x,b.recipes.getD j r9=x->¬(pg b.p9 x=true/\nH b.p9 x=true)->AV.bool false=AV.bool (a1C b):=fun x hx q=>a1j fun r=>q (hx ▸ r.2.2.2.1 j BX)
    rw[show Int.toNat (j:Int)=j from rfl];generalize hx:b.recipes.getD j r9=x at Xt hI1;have bad:=bad x hx;(repeat' ((first|refine va0 (fun hh=>?_) fun hh=>?_|refine kR ?_|((try refine .inl ?_;conv=>whnf);(try refine⟨false,?_⟩;conv=>whnf);refine⟨_,by first|exact r5 _ _ _|exact te _ hI1|exact a1B b x hu yH Xt|exact a0C b x.B0 Xt (a1O (by assumption)),?_⟩)|fail)<;>first|exact hh.elim|conv=>whnf));all_goals try simp only[w1]at *
    all_goals first
      | (refine bad fun q=>?_
         obtain⟨q1,q2⟩:=q;have s:=vh.1 q2;have r:=a2L s.1;have m:=(a0n r.1 r.2).1 s.1
         first|omega|exact Bool.noConfusion (s.2.1.symm.trans (by assumption:S6 x.gauge=false))|exact Bool.noConfusion (q1.symm.trans (by assumption:pg b.p9 x=false))|exact a4G (by rw[<- a2n s.2.2.1];assumption:((!decide (1<x.state)) == K8 b.p9 x.B0)=true) s.2.2.2.2)
      | (have d:=a2n (show 1<=x.state by omega)
         have ok:pg b.p9 x=true/\nH b.p9 x=true:=⟨by assumption,vh.2 ⟨(a0n va5 va5).2 va5,by assumption,va5,va5,a4B (by rw[<- d];assumption)⟩⟩
         have hn:=Aa BX;have hm:C4 (b.recipes.take j)<=b.recipes.length:=Nat.le_trans (GY _) (by rw[zB1];omega);rw[hx]at hn;refine⟨j+1,?_⟩;conv=>whnf
         refine kK ⟨⟨?_,?_,?_⟩,?_,rfl,rfl⟩
         · show b.recipes.length-(j+1)<b.recipes.length-j;omega
         · omega
         · intro m hm
           by_cases e:m=j
           · rw[e,hx];exact ok
           · exact hj.2 m va5
         · show _=[i64 (C4 (b.recipes.take (j+1)):Nat),i64 ((j+1:Nat):Int)]
           first
             | (rw[if_pos (by assumption)]at hn;rw[C7 _ va5 va5,C7 _ va5 va5,hn];first|rfl|(simp;done))
             | (rw[if_neg (by assumption)]at hn;rw[C7 _ va5 va5,hn];first|rfl|(simp;done)))
     
  · have h:=zA0 h
    have ej:b.recipes.take j=b.recipes:=List.take_of_length_le va5;have e:a1C b=decide ((C4 b.recipes:Int)<=1):=by
      rw[Bool.eq_iff_iff,a1i,zA3];exact⟨fun r=>by have:=r.2.2.2.2;omega,fun r=>⟨va5,va5,hsB,fun i hi=>hj.2 i va5,va5⟩⟩
    conv=>whnf
    rw[ej,e]
theorem a1P(g:x8)(p:List Int)(hI:IG g)(hl:p.length<2^40):va6 121 [Ta g,C8 p] (u8 (F8 g p).2.1):=by
 refine pF Tryz.func121 ?_;conv=>whnf
 (repeat' (first|(refine⟨_,by exact a0b g p hI hl,?_⟩;(conv=>whnf))|(refine Or.inl ?_;(conv=>whnf);refine⟨_,by exact a0b g p hI hl,?_⟩;(conv=>whnf))|(refine Or.inl ?_;(conv=>whnf);refine⟨false,?_⟩;(conv=>whnf);refine⟨_,by exact a0b g p hI hl,?_⟩;(conv=>whnf))|(refine⟨va4,?_⟩;(conv=>whnf))|fail));try rfl
theorem a2T{b:o7}:E1 b=true↔(1<=b.keep/\b.keep<=32)/\(0<=b.next/\b.next<=1099511627776)/\(b.log.length:Int)<=b.keep/\a1C b=true/\∀ i,i<b.log.length->rS b i=true:=by
 rw[a1i];simp only[E1,gG,T8,bM,mz,D1,zA2,zA3];rw[mA (d:=r9),ah];simp only[mz,zA2]
 constructor
 ·rintro⟨⟨⟨⟨⟨⟨⟨h1,h2⟩,h3⟩,h4⟩,h5⟩,h6⟩,h7,h8⟩,h9⟩;exact⟨h1,h2,h5,⟨h3,h4,h6,h7,h8⟩,h9⟩
 ·rintro⟨h1,h2,h5,⟨h3,h4,h6,h7,h8⟩,h9⟩;exact⟨⟨⟨⟨⟨⟨⟨h1,h2⟩,h3⟩,h4⟩,h5⟩,h6⟩,h7,h8⟩,h9⟩
theorem a2o{b:o7}:∀ (k:Nat),(∀ i,i<k->rS b i=true) -> -1<=hH b.log k
 | 0,_=>by show(-1:Int) <= -1;omega
 | k+1,h=>by
  have a:=a2o k fun i hi=>h i va5
  have c:=(EZ (b:=b) (i:=k) rfl rfl).1 (h k va5);have e:hH b.log (k+1)=(b.log.getD k w9).seq:=by
   unfold hH;rw[if_neg (Nat.succ_ne_zero k),Nat.add_sub_cancel]
  omega
theorem u4(b:o7)(o:G8 b)(hI:∀ i,IG (b.recipes.getD i r9).gauge):va6 71 [au b] (.bool (E1 b)):=by
  have hu:=S7 o.u;have hr:=S7 o.r;have hl:=S7 o.l;have cr:=a2M b hu hr hI fun i=>S7 (o.a i)
  have w1:IntKind.i64.wrap ((b.recipes.length:Int)-1)=(b.recipes.length:Int)-1:=C7 _ va5 va5;have no:¬((1<=b.keep/\b.keep<=32)/\(0<=b.next/\b.next<=1099511627776)/\(b.log.length:Int)<=b.keep/\a1C b=true/\∀ i,i<b.log.length->rS b i=true)->AV.bool false=AV.bool (E1 b):=fun q =>
    congrArg AV.bool (Eq.symm (Bool.eq_false_iff.2 fun e=>q (a2T.1 e)))
  refine pF Tryz.func71 ?_;conv=>whnf
  (repeat' ((first|refine va0 (fun hh=>?_) fun hh=>?_|refine kR ?_|((try refine .inl ?_;conv=>whnf);(try refine⟨false,?_⟩;conv=>whnf);refine⟨_,by first|assumption|exact r5 _ _ _,?_⟩)|fail)<;>first|exact hh.elim|conv=>whnf))
  iterate 4 (refine no fun q=>?_;first|omega|exact Bool.noConfusion (q.2.2.2.1.symm.trans (by assumption)))
  have k1:1<=b.keep/\b.keep<=32:=by omega
  have k2:0<=b.next/\b.next<=1099511627776:=by omega
  have k3:(b.log.length:Int)<=b.keep:=by omega
  have k4:a1C b=true:=by assumption
  have gg:∀ i,i<b.recipes.length->S6 (b.recipes.getD i r9).gauge=true:=fun i hi=>(vh.1 ((a1i.1 k4).2.2.2.1 i hi).2).2.1
  have w2:IntKind.i64.wrap (b.next-1)=b.next-1:=C7 _ va5 va5;refine Or.inr ⟨Nat,[3],[],[],fun k=>[i64 k],fun _=>[],fun _=>[],fun k=>b.log.length-k,fun k=>k<=b.log.length/\∀ i,i<k->rS b i=true,?_⟩;conv=>whnf
  refine⟨⟨0,?_⟩,?_⟩
  · (conv=>whnf)
    exact kK ⟨⟨zB4 _,fun i hi=>absurd hi (zB3 i)⟩,rfl,rfl,rfl⟩
  intro k hk;have hw:IntKind.i64.wrap ((k:Int)-1)=(k:Int)-1:=C7 _ va5 va5;have e1:Int.toNat (IntKind.i64.wrap ((k:Int)-1))=k-1:=by rw[hw];omega
  have e3:0<k->hH b.log k=(b.log.getD (k-1) w9).seq:=fun h=>by unfold hH;rw[if_neg va5]
  have e4:k=0->hH b.log k = -1:=fun h=>by unfold hH;rw[if_pos h]
  have e5:=a2o k hk.2;conv=>whnf
  refine⟨fun h=>?_,fun h=>?_⟩
  · have h:=zA1 h
    have L7:k<b.log.length:=by omega
    conv=>whnf
    refine⟨⟨va5,va5⟩,?_⟩;conv=>whnf
    have hp1:=S7 (o.p k);rw[show Int.toNat (k:Int)=k from rfl];generalize hs:b.log.getD k w9=s at hp1;have bad:¬(hH b.log k<s.seq/\s.seq<b.next/\D1 s.recipe 0 (b.recipes.length-1)=true/\D1 s.part 0 1099511627776=true /\
        (F8 (b.recipes.getD s.recipe.toNat r9).gauge s.o9).2.2=0/\(F8 (b.recipes.getD s.recipe.toNat r9).gauge s.o9).2.1=s.o6/\¬(b.recipes.getD s.recipe.toNat r9).state=1)->AV.bool false=AV.bool (E1 b):=fun q=>no fun r=>q ((EZ hs rfl).1 (r.2.2.2.2 k L7))
    (repeat' ((first|refine va0 (fun hh=>?_) fun hh=>?_|refine kR ?_|((try refine .inl ?_;conv=>whnf);(try refine⟨false,?_⟩;conv=>whnf);refine⟨_,by first|exact r5 _ _ _|exact r6 _ hp1|exact a1P _ _ (hI _) hp1,?_⟩)|fail)<;>first|exact hh.elim|conv=>whnf));all_goals simp only[e1,w1,w2]at *
    all_goals first
      | (refine bad fun q=>?_
         obtain⟨q1,q2,q3,q4,q5,q6,q7⟩:=q;simp only[D1,zA2,zA3]at q3 q4
         first|omega|exact a4j (Or.inr (by assumption)) q5)
      | (have hg:=gg s.recipe.toNat va5
         have hm:=a3K hg (by assumption);have ok:rS b k=true:=(EZ hs rfl).2 ⟨va5,va5,by simp only[D1,zA2,zA3];omega,by simp only[D1,zA2,zA3];omega,hm.1,va5,by assumption⟩;refine⟨k+1,?_⟩;conv=>whnf
         refine kK ⟨⟨?_,?_,?_⟩,?_,rfl,rfl⟩
         · show b.log.length-(k+1)<b.log.length-k;omega
         · omega
         · intro i hi
           by_cases e:i=k
           · subst e;exact ok
           · exact hk.2 i va5
         · rw[C7 _ va5 va5];rfl)
     
  · have h:=zA0 h
    conv=>whnf
    have e:E1 b=true:=a2T.2 ⟨k1,k2,k3,k4,fun i hi=>hk.2 i va5⟩;rw[e]

end Go.Proofs.Tryz.My
