/- Helper lemmas. -/
import Derived.Test.YtacahppoighegaaGreatMzBkB
set_option linter.unusedVariables false
set_option linter.unusedSimpArgs false
set_option maxRecDepth 100000
set_option maxHeartbeats 0
namespace Go.Proofs.Tryz.My
open Go Go.Ev
abbrev rcp(x:D1):AV := .agg (bX x)
abbrev UW(s:A2):AV := .agg (K6 s)
def rB{α:Type}(p:α->α->Bool)(d:α)(l m:List α):Bool:=decide ((l.length:Int)=m.length) && (List.range l.length).all fun i=>p (l.getD i d) (m.getD i d)
theorem Ak{α:Type}{p:α->α->Bool}{d:α}{l m:List α}(h:¬(l.length:Int)=m.length):false=rB p d l m:=by
 unfold rB;rw[zA5 h,Bool.false_and]
theorem kP{α:Type}{p:α->α->Bool}{d:α}{l m:List α}{i:Nat}(hi:i<l.length)(h:p (l.getD i d) (m.getD i d)=false):false=rB p d l m:=by
 unfold rB;rw[cF hi h,Bool.and_false]
theorem mE{α:Type}{p:α->α->Bool}{d:α}{l m:List α}(hl:(l.length:Int)=m.length)(h:∀ i,i<l.length->p (l.getD i d) (m.getD i d)=true):true=rB p d l m:=by
 unfold rB;rw[zA4 hl,V4.2 h,Bool.true_and]
theorem eQ{α:Type}{p:α->α->Bool}{d:α}(h:∀ x,p x x=true)(l:List α):rB p d l l=true:=(mE rfl fun i _=>h _).symm
def Li(l m:List Int):Bool:=rB (fun a b=>decide (a=b)) 0 l m
theorem qS(l m:List Int)(hl:l.length<2^40)(Lp:m.length<2^40):va6 50 [A9 l,A9 m] (.bool (Li l m)):=by
 unfold Li;refine vb4 Tryz.func50 ?_;refine⟨fun h0=>?_,fun h0=>?_⟩
 ·have h0:¬(l.length:Int)=m.length:=by simpa using h0
  conv=>whnf
  exact congrArg AV.bool (Ak h0)
 have h0:(l.length:Int)=m.length:=by simpa using h0
 conv=>whnf
 refine Or.inr ⟨Nat,[5],[],[],fun k=>[i64 k],fun _=>[],fun _=>[],fun k=>l.length-k,fun k=>k<=l.length/\∀ i,i<k->(fun a b=>decide (a=b)) (l.getD i 0) (m.getD i 0)=true,vb3 ?_⟩;refine⟨⟨0,?_⟩,?_⟩
 ·(conv=>whnf);exact kK ⟨⟨zB4 _,fun i hi=>absurd hi (zB3 i)⟩,rfl,rfl,rfl⟩
 ·intro k hk;conv=>whnf
  refine⟨fun h=>?_,fun h=>?_⟩
  ·have h:=zA1 h;have L4:k<l.length:=by omega
   refine ve5 ?_ ?_<;>intros
   ·exact congrArg AV.bool (kP (p:=fun a b=>decide (a=b)) (d:=0) L4 (zA5 (by assumption)))
   ·refine⟨k+1,vb3 ?_⟩;refine kK ⟨⟨?_,?_,?_⟩,?_,rfl,rfl⟩
    ·show l.length-(k+1)<l.length-k;omega
    ·omega
    ·intro i hi;by_cases e:i=k
     ·subst e;exact zA4 (by assumption)
     ·exact hk.2 i va5
    ·rw[z5 _ va5 va5];rfl
  ·have h:=zA0 h;conv=>whnf
   exact congrArg AV.bool (mE h0 fun i hi=>hk.2 i va5)
def ux(g h:v7):Prop:=G2 g=G2 h/\E7 g=E7 h/\(I6 g).1.1=(I6 h).1.1/\(I6 g).1.2=(I6 h).1.2/\(I6 g).2.1=(I6 h).2.1/\(I6 g).2.2=(I6 h).2.2/\g.1.2.1=h.1.2.1/\g.1.2.2=h.1.2.2/\g.2.1=h.2.1/\g.2.2=h.2.2
instance (g h:v7):Decidable (ux g h):=by unfold ux;infer_instance
def lT(x y:D1):Bool:=decide (x.author=y.author) && (decide (ux x.j9 y.j9) && (decide (x.state=y.state) && Li x.y7 y.y7))
def kh(x y:A2):Bool:=decide (x.seq=y.seq) && (decide (x.recipe=y.recipe) && (decide (x.part=y.part) && (decide (x.o5=y.o5) && ((x.disputed == y.disputed) && Li x.n7 y.n7))))
theorem pV{x y:D1}:lT x y=true↔x.author=y.author/\ux x.j9 y.j9/\x.state=y.state/\Li x.y7 y.y7=true:=by
 simp only[lT,zA2,zA3]
theorem pX{x y:A2}:kh x y=true↔x.seq=y.seq/\x.recipe=y.recipe/\x.part=y.part/\x.o5=y.o5/\(x.disputed == y.disputed)=true/\Li x.n7 y.n7=true:=by
 simp only[kh,zA2,zA3]
theorem Fs(x:D1):lT x x=true:=pV.2 ⟨rfl,by unfold ux;simp,rfl,eQ (p:=fun a b=>decide (a=b)) (d:=(0:Int)) (fun _=>zA4 rfl) _⟩
theorem Ft(x:A2):kh x x=true:=pX.2 ⟨rfl,rfl,rfl,rfl,by simp,eQ (p:=fun a b=>decide (a=b)) (d:=(0:Int)) (fun _=>zA4 rfl) _⟩
theorem Al(x y:A2)(hx:x.n7.length<2^40)(hy:y.n7.length<2^40):va6 51 [UW x,UW y] (.bool (kh x y)):=by
 refine vb4 Tryz.func51 ?_;(repeat' ((first|refine va0 (fun hh=>?_) fun hh=>?_|refine kR ?_|((try refine .inl ?_;conv=>whnf);(try refine⟨false,?_⟩;conv=>whnf);refine⟨_,by exact qS _ _ hx hy,?_⟩)|fail)<;>first|exact hh.elim|conv=>whnf));all_goals first
  | (refine congrArg AV.bool (Eq.symm (Bool.eq_false_iff.2 fun q=>?_));have q:=pX.1 q;first|omega|exact Bool.noConfusion (q.2.2.2.2.1.symm.trans (by assumption))|exact Bool.noConfusion (q.2.2.2.2.2.symm.trans (by assumption)))
  | (refine congrArg AV.bool ?_;rw[Bool.eq_iff_iff,pX];exact⟨fun q=>⟨va5,va5,va5,va5,by assumption,by assumption⟩,fun q=>by first|exact q.2.2.2.2.2|exact q.2.2.2.2.1⟩)
 
def ki(b c:n9):Bool:=decide (b.keep=c.keep) && (decide (b.next=c.next) && (Li b.n5 c.n5 && (rB lT p9 b.j8 c.j8 && rB kh s9 b.log c.log)))
theorem Fu(b:n9):ki b b=true:=by
 unfold ki Li;rw[eQ (p:=fun a b=>decide (a=b)) (d:=(0:Int)) (fun _=>zA4 rfl),eQ Fs,eQ Ft,zA4 rfl,zA4 rfl];rfl
theorem xO{b c:n9}:ki b c=true↔b.keep=c.keep/\b.next=c.next/\Li b.n5 c.n5=true/\rB lT p9 b.j8 c.j8=true/\rB kh s9 b.log c.log=true:=by
 simp only[ki,zA2,zA3]
theorem Fv(b c:n9)(o:C8 b)(o':C8 c):va6 24 [R5 b,R5 c] (.bool (ki b c)):=by
  have no:¬(b.keep=c.keep/\b.next=c.next/\Li b.n5 c.n5=true/\rB lT p9 b.j8 c.j8=true/\rB kh s9 b.log c.log=true)->AV.bool false=AV.bool (ki b c):=fun q =>
    congrArg AV.bool (Eq.symm (Bool.eq_false_iff.2 fun e=>q (xO.1 e)))
  have hu:=o.u;have hr:=o.r;have hl:=o.l;have UX:∀ {α:Type} {p:α->α->Bool} {d:α} {l m:List α},rB p d l m=true->(l.length:Int)=m.length:=fun h=>by
    simp only[rB,zA2,zA3]at h;exact h.1
  refine vb4 Tryz.func24 ?_;refine ve8 ?_ ?_ ?_ ?_ ?_ ?_<;>intros
  iterate 5 (refine no fun q=>?_;first|omega|(have:=UX q.2.2.1;omega)|(have:=UX q.2.2.2.1;omega)|(have:=UX q.2.2.2.2;omega))
  have k1:b.keep=c.keep:=by omega
  have k2:b.next=c.next:=by omega
  have k3:(b.n5.length:Int)=c.n5.length:=by omega
  have k4:(b.j8.length:Int)=c.j8.length:=by omega
  have k5:(b.log.length:Int)=c.log.length:=by omega
  refine Or.inr ⟨Nat,[5],[],[],fun k=>[i64 k],fun _=>[],fun _=>[],fun k=>b.n5.length-k,fun k=>k<=b.n5.length/\∀ i,i<k->(fun a b=>decide (a=b)) (b.n5.getD i 0) (c.n5.getD i 0)=true,vb3 ?_⟩;refine⟨⟨0,?_⟩,?_⟩
  · (conv=>whnf)
    exact kK ⟨⟨zB4 _,fun i hi=>absurd hi (zB3 i)⟩,rfl,rfl,rfl⟩
  intro k hk;conv=>whnf
  refine⟨fun h=>?_,fun h=>?_⟩
  · have h:=zA1 h
    have L4:k<b.n5.length:=by omega
    refine ve5 ?_ ?_<;>intros
    · exact no fun q=>Bool.noConfusion ((kP (p:=fun a b=>decide (a=b)) (d:=(0:Int)) L4 (zA5 (by assumption))).trans q.2.2.1)
    have ok:(fun a b=>decide (a=b)) (b.n5.getD k 0) (c.n5.getD k 0)=true:=zA4 (by assumption)
    · refine⟨k+1,?_⟩
      conv=>whnf
      refine kK ⟨⟨?_,?_,?_⟩,?_,rfl,rfl⟩
      · show b.n5.length-(k+1)<b.n5.length-k;omega
      · omega
      · intro i hi
        by_cases e:i=k
        · subst e;exact ok
        · exact hk.2 i va5
      · rw[z5 _ va5 va5];rfl
  have h:=zA0 h;have u1:Li b.n5 c.n5=true:=(mE k3 fun i hi=>hk.2 i va5).symm;clear hk h;conv=>whnf
  refine Or.inr ⟨Nat,[6],[],[],fun k=>[i64 k],fun _=>[],fun _=>[],fun k=>b.j8.length-k,fun k=>k<=b.j8.length/\∀ i,i<k->lT (b.j8.getD i p9) (c.j8.getD i p9)=true,vb3 ?_⟩;refine⟨⟨0,?_⟩,?_⟩
  · (conv=>whnf)
    exact kK ⟨⟨zB4 _,fun i hi=>absurd hi (zB3 i)⟩,rfl,rfl,rfl⟩
  intro k hk;conv=>whnf
  refine⟨fun h=>?_,fun h=>?_⟩
  · have h:=zA1 h
    have L4:k<b.j8.length:=by omega
    have a1:=P1 (o.a k);have a2:=P1 (o'.a k);have bad:¬lT (b.j8.getD k p9) (c.j8.getD k p9)=true->AV.bool false=AV.bool (ki b c):=fun r=>no fun q=>Bool.noConfusion ((kP L4 (Bool.eq_false_iff.2 r)).trans q.2.2.2.1)
    have tk:Int.toNat (k:Int)=k:=rfl;(repeat' ((first|refine va0 (fun hh=>?_) fun hh=>?_|refine kR ?_|((try refine .inl ?_;conv=>whnf);(try refine⟨false,?_⟩;conv=>whnf);refine⟨_,by exact qS _ _ a1 a2,?_⟩)|fail)<;>first|exact hh.elim|conv=>whnf));all_goals (try simp only[tk]at *)
    all_goals first
      | (refine bad fun q=>?_
         have q:=pV.1 q;unfold ux at q
         (try simp only[reduceCtorEq,or_false,and_true,Bool.true_eq_false]at *)
         first|omega|exact Bool.noConfusion (q.2.2.2.symm.trans (by assumption:Li _ _=false)))
      | (have ok:lT (b.j8.getD k p9) (c.j8.getD k p9)=true:=pV.2 ⟨by assumption,by unfold ux;first|omega|simp_all,by assumption,by assumption⟩
         refine⟨k+1,vb3 ?_⟩;refine kK ⟨⟨?_,?_,?_⟩,?_,rfl,rfl⟩
         · show b.j8.length-(k+1)<b.j8.length-k;omega
         · omega
         · intro i hi
           by_cases e:i=k
           · subst e;exact ok
           · exact hk.2 i va5
         · rw[z5 _ va5 va5];rfl)
     
  have h:=zA0 h;have u2:rB lT p9 b.j8 c.j8=true:=(mE k4 fun i hi=>hk.2 i va5).symm;clear hk h;conv=>whnf
  refine Or.inr ⟨Nat,[9],[],[],fun k=>[i64 k],fun _=>[],fun _=>[],fun k=>b.log.length-k,fun k=>k<=b.log.length/\∀ i,i<k->kh (b.log.getD i s9) (c.log.getD i s9)=true,vb3 ?_⟩;refine⟨⟨0,?_⟩,?_⟩
  · (conv=>whnf)
    exact kK ⟨⟨zB4 _,fun i hi=>absurd hi (zB3 i)⟩,rfl,rfl,rfl⟩
  intro k hk;conv=>whnf
  refine⟨fun h=>?_,fun h=>?_⟩
  · have h:=zA1 h
    have L4:k<b.log.length:=by omega
    have a1:=P1 (o.p k);have a2:=P1 (o'.p k);(repeat' ((first|refine va0 (fun hh=>?_) fun hh=>?_|refine kR ?_|((try refine .inl ?_;conv=>whnf);(try refine⟨false,?_⟩;conv=>whnf);refine⟨_,by exact Al _ _ a1 a2,?_⟩)|fail)<;>first|exact hh.elim|conv=>whnf))
    · refine no fun q=>Bool.noConfusion ((kP L4 (by assumption:kh (b.log.getD k s9) (c.log.getD k s9)=false)).trans q.2.2.2.2)
    · have ok:kh (b.log.getD k s9) (c.log.getD k s9)=true:=by assumption
      refine⟨k+1,vb3 ?_⟩;refine kK ⟨⟨?_,?_,?_⟩,?_,rfl,rfl⟩
      · show b.log.length-(k+1)<b.log.length-k;omega
      · omega
      · intro i hi
        by_cases e:i=k
        · subst e;exact ok
        · exact hk.2 i va5
      · rw[z5 _ va5 va5];rfl
  have h:=zA0 h;have u3:rB kh s9 b.log c.log=true:=(mE k5 fun i hi=>hk.2 i va5).symm;conv=>whnf
  rw[xO.2 ⟨k1,k2,u1,u2,u3⟩]
theorem P2(n lo hi:Int):va6 78 [i64 n,i64 lo,i64 hi] (.bool (decide (lo<=n) && decide (n<=hi))):=by
 refine vb4 Tryz.func78 ?_;(repeat' (first|(refine⟨va4,?_⟩;(conv=>whnf))|(refine⟨fun _=>?_,fun h=>absurd h (by first|decide|(simp;done)|fail)⟩;(conv=>whnf))|(refine⟨fun h=>absurd h (by first|decide|(simp;done)|fail),fun _=>?_⟩;(conv=>whnf))|((with_reducible refine And.intro (a:=_=true->_) (b:=_=false->_) (fun hh=>?_) (fun hh=>?_))<;>(try simp only[yC]at hh)<;>(first|(exfalso;omega)|(conv=>whnf)))|fail));all_goals (first|rfl|(simp[*];done))
def CH(us l:List Int):Nat:=(l.filter (D6 [3] us)).length
theorem JC{us l:List Int}{j:Nat}(hj:j<l.length):CH us (l.take (j+1))=CH us (l.take j)+if D6 [3] us (l.getD j 0)=true then 1 else 0:=by
 unfold CH;rw[List.take_add_one,List.filter_append,List.length_append,zA6 hj];simp only[List.getD,zA6 hj,Option.getD_some,Option.toList_some,List.filter_cons,List.filter_nil];by_cases h:D6 [3] us l[j]=true<;>simp[h]
theorem Rf(us l:List Int):CH us l<=l.length:=List.length_filter_le _ _
theorem Fw(us l:List Int):H9 us l=(decide (2<=(l.length:Int)) && decide (1<=(CH us l:Int))):=by
 unfold H9 CH;have e1:decide ((l.length:Int) > 1)=decide (2<=(l.length:Int)):=decide_eq_decide.2 va5;have e2:l.any (D6 [3] us)=decide (1<=((l.filter (D6 [3] us)).length:Int)):=by
  rw[Bool.eq_iff_iff,zA3,List.any_eq_true]
  constructor
  ·rintro⟨x,h1,h2⟩;have:=List.length_pos_of_mem (List.mem_filter.2 ⟨h1,h2⟩);omega
  ·intro h;obtain⟨x,hx⟩:=List.exists_mem_of_length_pos (l:=l.filter (D6 [3] us)) va5;exact⟨x,(List.mem_filter.1 hx).1,(List.mem_filter.1 hx).2⟩
 rw[e1,e2]
theorem rX{us:List Int}{u:Int}(h1:0<=u)(h2:u<us.length):D6 [3] us u=decide (us.getD u.toNat 0=3):=by
 unfold D6 B6;rw[zA4 h1,zA4 (show u<=(us.length:Int)-1 by omega),Bool.true_and,Bool.true_and];generalize us.getD u.toNat 0=a;by_cases h:a=3<;>simp[h]
theorem og(b:n9)(l:List Int)(hl:l.length<2^40)(mT:∀ i,i<l.length->0<=l.getD i 0/\l.getD i 0<b.n5.length):va6 130 [R5 b,A9 l] (.bool (H9 b.n5 l)):=by
 refine vb4 Tryz.func130 ?_;refine Or.inr ⟨Nat,[5,6],[],[],fun k=>[i64 (CH b.n5 (l.take k)),i64 k],fun _=>[],fun _=>[],fun k=>l.length-k,fun k=>k<=l.length,vb3 ?_⟩;refine⟨⟨0,?_⟩,?_⟩
 ·(conv=>whnf);exact kK ⟨zB4 _,rfl,rfl,rfl⟩
 ·intro j hj;have hn:=Rf b.n5 (l.take j);rw[zB1]at hn;conv=>whnf
  refine⟨fun h=>?_,fun h=>?_⟩
  ·have h:=zA1 h;have kO:j<l.length:=by omega
   have hi:=mT j kO;have hm:=rX hi.1 hi.2;have ht:=JC (us:=b.n5) kO;have e0:Int.toNat (j:Int)=j:=rfl;refine ve4 ?_;intros;refine⟨hi,vb3 ?_⟩;refine ve5 ?_ ?_<;>intros
   all_goals (
    refine⟨j+1,vb3 ?_⟩;refine kK ⟨⟨?_,?_⟩,?_,rfl,rfl⟩
    ·show l.length-(j+1)<l.length-j;omega
    ·show j+1<=l.length;omega
    ·show _=[i64 (CH b.n5 (l.take (j+1)):Nat),i64 ((j+1:Nat):Int)]
     first
      | (rw[z5 _ va5 va5,z5 _ va5 va5,ht,if_pos (by rw[hm];exact zA4 (by assumption))];first|rfl|(simp;done))
      | (rw[z5 _ va5 va5,ht,if_neg (by rw[hm];simpa using (by assumption:¬ _=(3:Int)))];first|rfl|(simp;done)))
  ·have h:=zA0 h;have ej:l.take j=l:=List.take_of_length_le va5;rw[ej]at hn ⊢;refine ve5 ?_ ?_<;>intros
   all_goals (first|(exact congrArg AV.bool (by rw[Fw];simp;omega)))
theorem ND(b:n9):va6 14 [R5 b] (.bool (!gi b)):=by
 have Yk:¬(b.n5.length<=30/\b.j8.length<=30/\b.log.length<=50/\(∀ i,(b.j8.getD i p9).y7.length<=30)/\∀ i,(b.log.getD i s9).n7.length<=100)->AV.bool true=AV.bool (!gi b):=fun q=>by
  have:gi b=false:=Bool.eq_false_iff.2 fun e=>q (qQ e)
  rw[this];rfl
 refine vb4 Tryz.func14 ?_;refine ve7 ?_ ?_ ?_ ?_<;>intros
 ·exact Yk fun q=>by omega
 ·exact Yk fun q=>by omega
 ·exact Yk fun q=>by omega
 have h1:b.n5.length<=30:=by omega
 have h2:b.j8.length<=30:=by omega
 have h3:b.log.length<=50:=by omega
 refine Or.inr ⟨Nat,[3],[],[],fun k=>[i64 k],fun _=>[],fun _=>[],fun k=>b.j8.length-k,fun k=>k<=b.j8.length/\∀ i,i<k->Ac (b.j8.getD i p9)=true,vb3 ?_⟩;refine⟨⟨0,?_⟩,?_⟩
 ·(conv=>whnf);exact kK ⟨⟨zB4 _,fun i hi=>absurd hi (zB3 i)⟩,rfl,rfl,rfl⟩
 ·intro k hk;conv=>whnf
  refine⟨fun h=>?_,fun h=>?_⟩
  ·have h:=zA1 h;conv=>whnf
   refine⟨⟨va5,va5⟩,vb3 ?_⟩;refine⟨fun h4=>?_,fun h4=>?_⟩
   ·have h4:=zA1 h4;conv=>whnf
    refine Yk fun q=>?_
    have q:=q.2.2.2.1 k;exact absurd h4 (by show ¬ (((b.j8.getD k p9).y7.length:Int) > 30);omega)
   ·have h4:=zA0 h4;refine⟨k+1,vb3 ?_⟩;refine kK ⟨⟨?_,?_,?_⟩,?_,rfl,rfl⟩
    ·show b.j8.length-(k+1)<b.j8.length-k;omega
    ·omega
    ·intro i hi;by_cases e:i=k
     ·subst e;have h4:¬ (((b.j8.getD i p9).y7.length:Int) > 30):=h4;exact zA4 va5
     ·exact hk.2 i va5
    ·rw[z5 _ va5 va5];rfl
  ·have h:=zA0 h;have hR:b.j8.all Ac=true:=gZ.2 fun i hi=>hk.2 i va5
   conv=>whnf
   refine Or.inr ⟨Nat,[4],[],[],fun k=>[i64 k],fun _=>[],fun _=>[],fun k=>b.log.length-k,fun k=>k<=b.log.length/\∀ i,i<k->Ad (b.log.getD i s9)=true,vb3 ?_⟩;refine⟨⟨0,?_⟩,?_⟩
   ·(conv=>whnf);exact kK ⟨⟨zB4 _,fun i hi=>absurd hi (zB3 i)⟩,rfl,rfl,rfl⟩
   ·intro k hk;conv=>whnf
    refine⟨fun h=>?_,fun h=>?_⟩
    ·have h:=zA1 h;conv=>whnf
     refine⟨⟨va5,va5⟩,vb3 ?_⟩;refine⟨fun h4=>?_,fun h4=>?_⟩
     ·have h4:=zA1 h4;conv=>whnf
      refine Yk fun q=>?_
      have q:=q.2.2.2.2 k;exact absurd h4 (by show ¬ (((b.log.getD k s9).n7.length:Int) > 100);omega)
     ·have h4:=zA0 h4;refine⟨k+1,vb3 ?_⟩;refine kK ⟨⟨?_,?_,?_⟩,?_,rfl,rfl⟩
      ·show b.log.length-(k+1)<b.log.length-k;omega
      ·omega
      ·intro i hi;by_cases e:i=k
       ·subst e;have h4:¬ (((b.log.getD i s9).n7.length:Int) > 100):=h4;exact zA4 va5
       ·exact hk.2 i va5
      ·rw[z5 _ va5 va5];rfl
    ·have h:=zA0 h;have hE:b.log.all Ad=true:=gZ.2 fun i hi=>hk.2 i va5
     conv=>whnf
     have:gi b=true:=by
      unfold gi;rw[zA4 h1,zA4 h2,zA4 h3,hR,hE];rfl
     rw[this];rfl
abbrev dL(k:Int):AV := .agg [i64 k,.nils,.nils,i64 0,.nils]
theorem N7{α:Type}{d:α}:∀ (l:List α) (i:Nat),l.set i (l.getD i d)=l
 | [],_=>rfl
 | a :: l,0=>rfl
 | a :: l,i+1=>by
  show a :: l.set i (l.getD i d)=_
  rw[N7 l i]
theorem eR(b:n9)(o:C8 b):va6 16 [R5 b] (R5 b):=by
 have hu:=o.u;have hr:=o.r;have hl:=o.l;have ha:=o.a;have hp:=o.p;obtain⟨k,us,rs,n,lg⟩:=b;simp only at hu hr hl ha hp;refine vb4 Tryz.func16 ?_;refine⟨⟨Int,1,0,e8,[]⟩,us,rfl,⟨rfl,rfl⟩,rfl,?_,?_,fun y _=>⟨rfl,rfl,rfl⟩,?_⟩
 ·show(0+us.length)*1<=_;omega
 ·show 0+us.length<=_;omega
 conv=>whnf
 refine⟨⟨D1,13,p9,bX,[]⟩,rs,rfl,⟨rfl,rfl⟩,rfl,?_,?_,fun y _=>⟨rfl,rfl,rfl⟩,?_⟩
 ·show(0+rs.length)*120<=_;omega
 ·show 0+rs.length<=_;omega
 conv=>whnf
 refine Or.inr ⟨Nat,[3],[13],[],fun k=>[i64 k],fun _=>[.vec 92 13 p9 bX rs],fun _=>[],fun k=>rs.length-k,fun k=>k<=rs.length,vb3 ?_⟩;refine⟨⟨0,?_⟩,?_⟩
 ·(conv=>whnf);exact kK ⟨zB4 _,rfl,rfl,rfl⟩
 ·intro j hj;conv=>whnf
  refine⟨fun h=>?_,fun h=>?_⟩
  ·have h:=zA1 h;have kO:j<rs.length:=by omega
   have vO:=ha j;refine ve4 ?_;intros;refine⟨kO,vb3 ?_⟩;rw[show Int.toNat (j:Int)=j from rfl];refine⟨⟨Int,1,0,eI,[]⟩,(rs.getD j p9).y7,rfl,⟨rfl,rfl⟩,rfl,?_,?_,fun y _=>⟨rfl,rfl,rfl⟩,?_⟩
   ·show(0+(rs.getD j p9).y7.length)*8<=_;omega
   ·show 0+(rs.getD j p9).y7.length<=_;omega
   conv=>whnf
   refine⟨⟨va5,va5⟩,vb3 ?_⟩;refine⟨rs.getD j p9,⟨rfl,kO⟩,vb3 ?_⟩;refine⟨va4,vb3 ?_⟩;refine⟨j+1,vb3 ?_⟩;refine kK ⟨⟨?_,?_⟩,?_,?_,rfl⟩
   ·show rs.length-(j+1)<rs.length-j;omega
   ·show j+1<=rs.length;omega
   ·rw[z5 _ va5 va5];rfl
   ·rw[show Int.toNat (j:Int)=j from rfl,N7]
  ·have h:=zA0 h;conv=>whnf
   refine⟨⟨A2,6,s9,K6,[]⟩,lg,rfl,⟨rfl,rfl⟩,rfl,?_,?_,fun y _=>⟨rfl,rfl,rfl⟩,?_⟩
   ·show(0+lg.length)*56<=_;omega
   ·show 0+lg.length<=_;omega
   conv=>whnf
   refine Or.inr ⟨Nat,[4],[38],[],fun k=>[i64 k],fun _=>[.vec 71 6 s9 K6 lg],fun _=>[],fun k=>lg.length-k,fun k=>k<=lg.length,vb3 ?_⟩;refine⟨⟨0,?_⟩,?_⟩
   ·(conv=>whnf);exact kK ⟨zB4 _,rfl,rfl,rfl⟩
   ·intro j hj;conv=>whnf
    refine⟨fun h=>?_,fun h=>?_⟩
    ·have h:=zA1 h;have kO:j<lg.length:=by omega
     have vO:=hp j;refine ve4 ?_;intros;refine⟨kO,vb3 ?_⟩;rw[show Int.toNat (j:Int)=j from rfl];refine⟨⟨Int,1,0,eI,[]⟩,(lg.getD j s9).n7,rfl,⟨rfl,rfl⟩,rfl,?_,?_,fun y _=>⟨rfl,rfl,rfl⟩,?_⟩
     ·show(0+(lg.getD j s9).n7.length)*8<=_;omega
     ·show 0+(lg.getD j s9).n7.length<=_;omega
     conv=>whnf
     refine⟨⟨va5,va5⟩,vb3 ?_⟩;refine⟨lg.getD j s9,⟨rfl,kO⟩,vb3 ?_⟩;refine⟨va4,vb3 ?_⟩;refine⟨j+1,vb3 ?_⟩;refine kK ⟨⟨?_,?_⟩,?_,?_,rfl⟩
     ·show lg.length-(j+1)<lg.length-j;omega
     ·show j+1<=lg.length;omega
     ·rw[z5 _ va5 va5];rfl
     ·rw[show Int.toNat (j:Int)=j from rfl,N7]
    ·have h:=zA0 h;conv=>whnf
     rfl
theorem Fx{r us:List Int}{u:Int}(h:D6 r us u=true):0<=u/\u<us.length:=by
 simp only[D6,B6,zA2,zA3]at h;omega
def uy(us:List Int):Prop:=∀ i,i<us.length->1<=us.getD i 0/\us.getD i 0<=3
theorem oo{us:List Int}{u:Int}(h1:0<=u)(h2:u<us.length)(hs:uy us):D6 [2,3] us u=true↔¬us.getD u.toNat 0<2:=by
 have:=hs u.toNat va5;unfold D6 B6;rw[zA4 h1,zA4 (show u<=(us.length:Int)-1 by omega),Bool.true_and,Bool.true_and];generalize us.getD u.toNat 0=a at this;simp only[List.contains,List.elem_eq_mem,zA3,List.mem_cons,List.not_mem_nil,or_false];omega
theorem kQ{us:List Int}{u:Int}(h1:0<=u)(h2:u<us.length):D6 [2] us u=true↔us.getD u.toNat 0=2:=by
 unfold D6 B6;rw[zA4 h1,zA4 (show u<=(us.length:Int)-1 by omega),Bool.true_and,Bool.true_and];simp only[List.contains,List.elem_eq_mem,zA3,List.mem_cons,List.not_mem_nil,or_false]
theorem CI{b:n9}(h:U8 b=true):uy b.n5:=fun i hi=>by
 unfold U8 at h;rw[Bool.not_eq_true']at h;have:pR (b.n5.getD i 0)=false:=by
  have:=List.any_eq_false.1 h (b.n5.getD i 0) (by simp only[List.getD,zA6 hi,Option.getD_some];exact List.getElem_mem hi);simpa using this
 simp only[pR,Bool.or_eq_false_iff,decide_eq_false_iff_not]at this;omega
theorem NF{b:n9}(h:uy b.n5):U8 b=true:=by
 unfold U8;rw[Bool.not_eq_true',List.any_eq_false];intro x hx;obtain⟨i,hi,rfl⟩:=List.getElem_of_mem hx;have:=h i hi;simp only[List.getD,zA6 hi,Option.getD_some]at this;rw[Bool.not_eq_true];simp only[pR,Bool.or_eq_false_iff,decide_eq_false_iff_not];omega
theorem vZ(b:n9)(x:D1)(hu:b.n5.length<=16)(hs:uy b.n5)(hx:x.y7.length<2^40):va6 129 [R5 b,rcp x] (.bool (aG b.n5 x)):=by
  have bad:∀ i,i<x.y7.length->¬(fJ x.y7 i<x.y7.getD i 0/\¬x.y7.getD i 0=x.author/\D6 [2,3] b.n5 (x.y7.getD i 0)=true)->AV.bool false=AV.bool (aG b.n5 x):=fun i hi q=>by
    unfold aG;rw[cF hi (Bool.eq_false_iff.2 fun e=>q (mD.1 e))]
  have w1:IntKind.i64.wrap ((b.n5.length:Int)-1)=(b.n5.length:Int)-1:=z5 _ va5 va5;refine vb4 Tryz.func129 ?_;refine⟨fun h0=>?_,fun h0=>?_⟩
  · have h0:=zA1 h0
    conv=>whnf
    exact congrArg AV.bool (Eq.symm (Bool.eq_false_iff.2 fun q=>by have:=ur q;omega))
  have h0:=zA0 h0;conv=>whnf
  refine Or.inr ⟨Nat,[5],[],[],fun i=>[i64 i],fun _=>[],fun _=>[],fun i=>x.y7.length-i,fun i=>i<=x.y7.length/\∀ m,m<i->Jz b.n5 x m=true,vb3 ?_⟩;refine⟨⟨0,?_⟩,?_⟩
  · (conv=>whnf)
    exact kK ⟨⟨zB4 _,fun i hi=>absurd hi (zB3 i)⟩,rfl,rfl,rfl⟩
  · intro i hi
    have hw:IntKind.i64.wrap ((i:Int)-1)=(i:Int)-1:=z5 _ va5 va5;have e1:Int.toNat (IntKind.i64.wrap ((i:Int)-1))=i-1:=by rw[hw];omega
    have e3:0<i->fJ x.y7 i=x.y7.getD (i-1) 0:=fun h=>by unfold fJ;rw[if_neg va5]
    have e4:i=0->fJ x.y7 i = -1:=fun h=>by unfold fJ;rw[if_pos h]
    conv=>whnf
    refine⟨fun h=>?_,fun h=>?_⟩
    · have h:=zA1 h
      have hii:i<x.y7.length:=by omega
      conv=>whnf
      refine⟨⟨va5,va5⟩,vb3 ?_⟩;rw[show Int.toNat (i:Int)=i from rfl];have bad:=bad i hii;refine ve0 P2 ?_ ?_ ?_ ?_ ?_ ?_<;>intros
      all_goals simp only[e1,w1]at *
      all_goals first
        | (refine bad fun q=>?_
           obtain⟨q1,q2,q3⟩:=q;have r:=Fx q3;have s:=(oo r.1 r.2 hs).1 q3
           first|omega|exact absurd (by assumption) q2)
        | (have ok:Jz b.n5 x i=true:=mD.2 ⟨va5,by assumption,(oo va5 va5 hs).2 (by assumption)⟩
           refine⟨i+1,vb3 ?_⟩;refine kK ⟨⟨?_,?_,?_⟩,?_,rfl,rfl⟩
           · show x.y7.length-(i+1)<x.y7.length-i;omega
           · omega
           · intro m hm
             by_cases e:m=i
             · subst e;exact ok
             · exact hi.2 m va5
           · rw[z5 _ va5 va5];rfl)
       
    · have h:=zA0 h
      conv=>whnf
      have e:aG b.n5 x=true:=V4.2 fun m hm=>hi.2 m va5
      rw[e]
def wc(b:n9):Bool:=decide ((b.n5.length:Int)<=16) && decide ((b.j8.length:Int)<=16) && (U8 b && O0 b)
theorem rY{b:n9}:wc b=true↔(b.n5.length:Int)<=16/\(b.j8.length:Int)<=16/\U8 b=true/\(∀ i,i<b.j8.length->aG b.n5 (b.j8.getD i p9)=true/\eP b.n5 (b.j8.getD i p9)=true)/\D0 b.j8<=1:=by
 simp only[wc,O0,jx,zA2,zA3,and_assoc];rw[gZ (d:=p9)];simp only[jx,zA2]
theorem rZ{b:n9}(h:¬((b.n5.length:Int)<=16/\(b.j8.length:Int)<=16/\U8 b=true/\(∀ i,i<b.j8.length->aG b.n5 (b.j8.getD i p9)=true/\eP b.n5 (b.j8.getD i p9)=true)/\D0 b.j8<=1)):AV.bool false=AV.bool (wc b) :=
 congrArg AV.bool (Eq.symm (Bool.eq_false_iff.2 fun q=>h (rY.1 q)))
theorem xP{b:n9}{x:D1}(h:aG b.n5 x=true):∀ i,i<x.y7.length->0<=x.y7.getD i 0/\x.y7.getD i 0<b.n5.length:=fun i hi=>Fx (mD.1 (V4.1 h i hi)).2.2
theorem CJ{a:Int}(h1:1<=a):decide (a=1) = !decide (1<a):=by
 by_cases h:1<a
 ·rw[zA4 h,zA5 va5];rfl
 ·rw[zA5 h,zA4 va5];rfl
theorem a1j:∀ {A E:Bool},((!A) == E)=true->(A != E)=false->False:=by decide
theorem Ym:∀ {A E:Bool},((!A) == E)=false->(A != E)=false:=by decide
theorem Fy(b:n9)(hu0:b.n5.length<2^40)(By:b.j8.length<2^40)(hI:∀ i,IG (b.j8.getD i p9).j9)(ha:∀ i,(b.j8.getD i p9).y7.length<2^40):va6 79 [R5 b] (.bool (wc b)):=by
  have w1:IntKind.i64.wrap ((b.n5.length:Int)-1)=(b.n5.length:Int)-1:=z5 _ va5 va5;refine vb4 Tryz.func79 ?_;refine ve6 ?_ ?_ ?_<;>(repeat intro hh)
  · exact rZ fun q=>by omega
  · exact rZ fun q=>by omega
  have hu:b.n5.length<=16:=by omega
  have hr:b.j8.length<=16:=by omega
  refine Or.inr ⟨Nat,[3],[],[],fun k=>[i64 k],fun _=>[],fun _=>[],fun k=>b.n5.length-k,fun k=>k<=b.n5.length/\∀ i,i<k->1<=b.n5.getD i 0/\b.n5.getD i 0<=3,vb3 ?_⟩;refine⟨⟨0,?_⟩,?_⟩
  · (conv=>whnf)
    exact kK ⟨⟨zB4 _,fun i hi=>absurd hi (zB3 i)⟩,rfl,rfl,rfl⟩
  intro k hk;conv=>whnf
  refine⟨fun h=>?_,fun h=>?_⟩
  · have h:=zA1 h
    have L4:k<b.n5.length:=by omega
    have bad:¬(1<=b.n5.getD k 0/\b.n5.getD k 0<=3)->AV.bool false=AV.bool (wc b):=fun q=>rZ fun r=>q (CI r.2.2.1 k L4)
    conv=>whnf
    refine⟨⟨va5,va5⟩,vb3 ?_⟩;rw[show Int.toNat (k:Int)=k from rfl];refine ve6 ?_ ?_ ?_<;>(repeat intro hh)
    · exact bad fun q=>by omega
    · exact bad fun q=>by
        have hh:¬ (b.n5.getD k 0<=3):=(by(have hh:3<b.n5.getD k 0:=by assumption);omega);exact hh q.2
    · refine⟨k+1,?_⟩
      conv=>whnf
      refine kK ⟨⟨?_,?_,?_⟩,?_,rfl,rfl⟩
      · show b.n5.length-(k+1)<b.n5.length-k;omega
      · omega
      · intro i hi
        by_cases e:i=k
        · subst e
          have hh:¬ (3<b.n5.getD i 0):=by assumption
          exact⟨va5,va5⟩
        · exact hk.2 i va5
      · rw[z5 _ va5 va5];rfl
  have h:=zA0 h;have rP:uy b.n5:=fun i hi=>hk.2 i va5
  have hsB:=NF rP;conv=>whnf
  refine Or.inr ⟨Nat,[4,5],[],[],fun k=>[i64 (D0 (b.j8.take k)),i64 k],fun _=>[],fun _=>[],fun k=>b.j8.length-k,fun k=>k<=b.j8.length/\∀ i,i<k->aG b.n5 (b.j8.getD i p9)=true/\eP b.n5 (b.j8.getD i p9)=true,vb3 ?_⟩;refine⟨⟨0,?_⟩,?_⟩
  · (conv=>whnf)
    exact kK ⟨⟨zB4 _,fun i hi=>absurd hi (zB3 i)⟩,rfl,rfl,rfl⟩
  intro j hj;conv=>whnf
  refine⟨fun h=>?_,fun h=>?_⟩
  · have h:=zA1 h
    have kO:j<b.j8.length:=by omega
    conv=>whnf
    refine⟨⟨va5,va5⟩,vb3 ?_⟩;have vO:=ha j;have hI1:=hI j;have bad:∀ x,b.j8.getD j p9=x->¬(aG b.n5 x=true/\eP b.n5 x=true)->AV.bool false=AV.bool (wc b):=fun x hx q=>rZ fun r=>q (hx ▸ r.2.2.2.1 j kO)
    rw[show Int.toNat (j:Int)=j from rfl];generalize hx:b.j8.getD j p9=x at vO hI1;have bad:=bad x hx;(repeat' ((first|refine va0 (fun hh=>?_) fun hh=>?_|refine kR ?_|((try refine .inl ?_;conv=>whnf);(try refine⟨false,?_⟩;conv=>whnf);refine⟨_,by first|exact P2 _ _ _|exact gd _ hI1|exact vZ b x hu rP vO|exact og b x.y7 vO (xP (by assumption)),?_⟩)|fail)<;>first|exact hh.elim|conv=>whnf));all_goals try simp only[w1]at *
    all_goals first
      | (refine bad fun q=>?_
         obtain⟨q1,q2⟩:=q;have s:=bY.1 q2;have r:=Fx s.1;have m:=(kQ r.1 r.2).1 s.1
         first|omega|exact Bool.noConfusion (s.2.1.symm.trans (by assumption:N0 x.j9=false))|exact Bool.noConfusion (q1.symm.trans (by assumption:aG b.n5 x=false))|exact a1j (by rw[<- CJ s.2.2.1];assumption:((!decide (1<x.state)) == H9 b.n5 x.y7)=true) s.2.2.2.2)
      | (have d:=CJ (show 1<=x.state by omega)
         have ok:aG b.n5 x=true/\eP b.n5 x=true:=⟨by assumption,bY.2 ⟨(kQ va5 va5).2 va5,by assumption,va5,va5,Ym (by rw[<- d];assumption)⟩⟩
         have hn:=qR kO;have hm:D0 (b.j8.take j)<=b.j8.length:=Nat.le_trans (xN _) (by rw[zB1];omega);rw[hx]at hn;refine⟨j+1,vb3 ?_⟩;refine kK ⟨⟨?_,?_,?_⟩,?_,rfl,rfl⟩
         · show b.j8.length-(j+1)<b.j8.length-j;omega
         · omega
         · intro m hm
           by_cases e:m=j
           · rw[e,hx];exact ok
           · exact hj.2 m va5
         · show _=[i64 (D0 (b.j8.take (j+1)):Nat),i64 ((j+1:Nat):Int)]
           first
             | (rw[if_pos (by assumption)]at hn;rw[z5 _ va5 va5,z5 _ va5 va5,hn];first|rfl|(simp;done))
             | (rw[if_neg (by assumption)]at hn;rw[z5 _ va5 va5,hn];first|rfl|(simp;done)))
     
  · have h:=zA0 h
    have ej:b.j8.take j=b.j8:=List.take_of_length_le va5;have e:wc b=decide ((D0 b.j8:Int)<=1):=by
      rw[Bool.eq_iff_iff,rY,zA3];exact⟨fun r=>by have:=r.2.2.2.2;omega,fun r=>⟨va5,va5,hsB,fun i hi=>hj.2 i va5,va5⟩⟩
    conv=>whnf
    rw[ej,e]
theorem xQ(g:v7)(p:List Int)(hI:IG g)(hl:p.length<2^40):va6 81 [PA g,A9 p] (u8 (E8 g p).2.1):=by
 refine vb4 Tryz.func81 ?_;(repeat' (first|(refine⟨_,by exact iZ g p hI hl,?_⟩;(conv=>whnf))|(refine Or.inl ?_;(conv=>whnf);refine⟨_,by exact iZ g p hI hl,?_⟩;(conv=>whnf))|(refine Or.inl ?_;(conv=>whnf);refine⟨false,?_⟩;(conv=>whnf);refine⟨_,by exact iZ g p hI hl,?_⟩;(conv=>whnf))|(refine⟨va4,?_⟩;(conv=>whnf))|fail));try rfl
theorem Hq{b:n9}:B8 b=true↔(1<=b.keep/\b.keep<=32)/\(0<=b.next/\b.next<=1099511627776)/\(b.log.length:Int)<=b.keep/\wc b=true/\∀ i,i<b.log.length->mC b i=true:=by
 rw[rY];simp only[B8,gh,O0,bh,jx,B6,zA2,zA3];rw[gZ (d:=p9),V4];simp only[jx,zA2]
 constructor
 ·rintro⟨⟨⟨⟨⟨⟨⟨h1,h2⟩,h3⟩,h4⟩,h5⟩,h6⟩,h7,h8⟩,h9⟩;exact⟨h1,h2,h5,⟨h3,h4,h6,h7,h8⟩,h9⟩
 ·rintro⟨h1,h2,h5,⟨h3,h4,h6,h7,h8⟩,h9⟩;exact⟨⟨⟨⟨⟨⟨⟨h1,h2⟩,h3⟩,h4⟩,h5⟩,h6⟩,h7,h8⟩,h9⟩
theorem CK{b:n9}:∀ (k:Nat),(∀ i,i<k->mC b i=true) -> -1<=aH b.log k
 | 0,_=>by show(-1:Int) <= -1;omega
 | k+1,h=>by
  have a:=CK k fun i hi=>h i va5
  have c:=(oe (b:=b) (i:=k) rfl rfl).1 (h k va5);have e:aH b.log (k+1)=(b.log.getD k s9).seq:=by
   unfold aH;rw[if_neg (Nat.succ_ne_zero k),Nat.add_sub_cancel]
  omega
theorem O5(b:n9)(o:C8 b)(hI:∀ i,IG (b.j8.getD i p9).j9):va6 42 [R5 b] (.bool (B8 b)):=by
  have hu:=P1 o.u;have hr:=P1 o.r;have hl:=P1 o.l;have cr:=Fy b hu hr hI fun i=>P1 (o.a i)
  have w1:IntKind.i64.wrap ((b.j8.length:Int)-1)=(b.j8.length:Int)-1:=z5 _ va5 va5;have no:¬((1<=b.keep/\b.keep<=32)/\(0<=b.next/\b.next<=1099511627776)/\(b.log.length:Int)<=b.keep/\wc b=true/\∀ i,i<b.log.length->mC b i=true)->AV.bool false=AV.bool (B8 b):=fun q =>
    congrArg AV.bool (Eq.symm (Bool.eq_false_iff.2 fun e=>q (Hq.1 e)))
  refine vb4 Tryz.func42 ?_;refine vd9 P2 ?_ ?_ ?_ ?_ ?_<;>intros
  iterate 4 (refine no fun q=>?_;first|omega|exact Bool.noConfusion (q.2.2.2.1.symm.trans (by assumption)))
  have k1:1<=b.keep/\b.keep<=32:=by omega
  have k2:0<=b.next/\b.next<=1099511627776:=by omega
  have k3:(b.log.length:Int)<=b.keep:=by omega
  have k4:wc b=true:=by assumption
  have gg:∀ i,i<b.j8.length->N0 (b.j8.getD i p9).j9=true:=fun i hi=>(bY.1 ((rY.1 k4).2.2.2.1 i hi).2).2.1
  have w2:IntKind.i64.wrap (b.next-1)=b.next-1:=z5 _ va5 va5;refine Or.inr ⟨Nat,[3],[],[],fun k=>[i64 k],fun _=>[],fun _=>[],fun k=>b.log.length-k,fun k=>k<=b.log.length/\∀ i,i<k->mC b i=true,vb3 ?_⟩;refine⟨⟨0,?_⟩,?_⟩
  · (conv=>whnf)
    exact kK ⟨⟨zB4 _,fun i hi=>absurd hi (zB3 i)⟩,rfl,rfl,rfl⟩
  intro k hk;have hw:IntKind.i64.wrap ((k:Int)-1)=(k:Int)-1:=z5 _ va5 va5;have e1:Int.toNat (IntKind.i64.wrap ((k:Int)-1))=k-1:=by rw[hw];omega
  have e3:0<k->aH b.log k=(b.log.getD (k-1) s9).seq:=fun h=>by unfold aH;rw[if_neg va5]
  have e4:k=0->aH b.log k = -1:=fun h=>by unfold aH;rw[if_pos h]
  have e5:=CK k hk.2;conv=>whnf
  refine⟨fun h=>?_,fun h=>?_⟩
  · have h:=zA1 h
    have L4:k<b.log.length:=by omega
    conv=>whnf
    refine⟨⟨va5,va5⟩,vb3 ?_⟩;have hp1:=P1 (o.p k);rw[show Int.toNat (k:Int)=k from rfl];generalize hs:b.log.getD k s9=s at hp1;have bad:¬(aH b.log k<s.seq/\s.seq<b.next/\B6 s.recipe 0 (b.j8.length-1)=true/\B6 s.part 0 1099511627776=true /\
        (E8 (b.j8.getD s.recipe.toNat p9).j9 s.n7).2.2=0/\(E8 (b.j8.getD s.recipe.toNat p9).j9 s.n7).2.1=s.o5/\¬(b.j8.getD s.recipe.toNat p9).state=1)->AV.bool false=AV.bool (B8 b):=fun q=>no fun r=>q ((oe hs rfl).1 (r.2.2.2.2 k L4))
    (repeat' ((first|refine va0 (fun hh=>?_) fun hh=>?_|refine kR ?_|((try refine .inl ?_;conv=>whnf);(try refine⟨false,?_⟩;conv=>whnf);refine⟨_,by first|exact P2 _ _ _|exact N9 _ hp1|exact xQ _ _ (hI _) hp1,?_⟩)|fail)<;>first|exact hh.elim|conv=>whnf));all_goals simp only[e1,w1,w2]at *
    all_goals first
      | (refine bad fun q=>?_
         obtain⟨q1,q2,q3,q4,q5,q6,q7⟩:=q;simp only[B6,zA2,zA3]at q3 q4
         first|omega|exact Rc (Or.inr (by assumption)) q5)
      | (have hg:=gg s.recipe.toNat va5
         have hm:=Ny hg (by assumption);have ok:mC b k=true:=(oe hs rfl).2 ⟨va5,va5,by simp only[B6,zA2,zA3];omega,by simp only[B6,zA2,zA3];omega,hm.1,va5,by assumption⟩;refine⟨k+1,vb3 ?_⟩;refine kK ⟨⟨?_,?_,?_⟩,?_,rfl,rfl⟩
         · show b.log.length-(k+1)<b.log.length-k;omega
         · omega
         · intro i hi
           by_cases e:i=k
           · subst e;exact ok
           · exact hk.2 i va5
         · rw[z5 _ va5 va5];rfl)
     
  · have h:=zA0 h
    conv=>whnf
    have e:B8 b=true:=Hq.2 ⟨k1,k2,k3,k4,fun i hi=>hk.2 i va5⟩;rw[e]

end Go.Proofs.Tryz.My
