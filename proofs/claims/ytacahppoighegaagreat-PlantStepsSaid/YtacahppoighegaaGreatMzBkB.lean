/- Helper lemmas. -/
import Derived.Test.YtacahppoighegaaGreatMzGdB
set_option linter.unusedVariables false
set_option linter.unusedSimpArgs false
set_option maxRecDepth 100000
set_option maxHeartbeats 0
namespace Go.Proofs.Tryz.My
open Go Go.Ev
theorem gY{a b A B:Int}(h1 : -A<=a)(h2:a<=A)(h3:0<=b)(h4:b<=B) : -(A*B)<=a*b/\a*b<=A*B:=by
 have k1:a*b<=A*b:=Int.mul_le_mul_of_nonneg_right h2 h3;have k2:(-A)*b<=a*b:=Int.mul_le_mul_of_nonneg_right h1 h3;have k3:A*b<=A*B:=Int.mul_le_mul_of_nonneg_left h4 va5;have k4:(-A)*b = -(A*b):=by grind
 omega
theorem Jw{g:v7}{p:List Int}(h:(E8 g p).2.2=0) :
    N0 g=true/\H8 p=true /\
    ((J9 p (G2 g) (E7 g)=(zS,6)/\E8 g p=(WK,if G2 g<=uk p (p.length-1)+E7 g then 3 else 2,0)) ∨
     ((J9 p (G2 g) (E7 g)).2=0/\y9 (J9 p (G2 g) (E7 g)).1=true/\y9 (W7 (J9 p (G2 g) (E7 g)).1 (I6 g)).1=true/\(W7 (J9 p (G2 g) (E7 g)).1 (I6 g)).2=0 /\
        E8 g p=((W7 (J9 p (G2 g) (E7 g)).1 (I6 g)).1,mA (W7 (J9 p (G2 g) (E7 g)).1 (I6 g)).1 (pQ g),0))):=by
  unfold E8 at h ⊢;cases hg:N0 g
  · rw[hg]at h;simp at h
  obtain⟨t,n,_,_,_,_⟩:=X8 hg;rw[hg]at h;simp only[if_true]at h ⊢;rcases nZ (p:=p) t.1 t.2 n.1 n.2 with ⟨h1,h2⟩|⟨h1,h2|h2⟩
  · exfalso
    rw[h2]at h;simp[um]at h
  · refine⟨trivial,h1,.inl ⟨h2,?_⟩⟩
    rw[h2];simp[um]
  · refine⟨trivial,h1,.inr ?_⟩
    have h6:(J9 p (G2 g) (E7 g)).2≠6:=by omega
    unfold um at h ⊢;rw[if_neg h6,if_pos h2]at h ⊢;by_cases hm:(W7 (J9 p (G2 g) (E7 g)).1 (I6 g)).2=0
    · rw[if_pos hm]
      obtain⟨m1,m2,m3⟩:=zP hm;exact⟨h2,m1,m3,hm,rfl⟩
    · rw[if_neg hm]at h
      exact absurd h hm
theorem uo{op:Int×Int->Int×Int->(Int×Int)×Int}:∀ (l:List V3) (acc:V3),(∀ p ∈ l,(op p.1 p.2).2=0)->(O3 op acc l).2=0
 | [],_,_=>rfl
 | p :: l,acc,h=>by
  have h0:=h p va9;unfold O3;rw[if_neg (by rw[h0];simp)];exact uo l _ (fun q hq=>h q (by simp[hq]))
theorem Fo{op:Int×Int->Int×Int->(Int×Int)×Int}(l:List V3)(h:∀ p ∈ l,(op p.1 p.2).2=0):(O6 op l).2=0:=by
 cases l with
 | nil=>rfl
 | cons p l =>
  have h0:=h p va9;show(if (op p.1 p.2).2≠0 then(zS,(op p.1 p.2).2)else O3 op ((op p.1 p.2).1,(op p.1 p.2).1) l).2=0
  rw[if_neg (by rw[h0];simp)];exact uo l _ (fun q hq=>h q (by simp[hq]))
def Lh(A B:Int)(x:Rat):Prop:=∃ n d:Int,x=(n:Rat) / (d:Rat) /\ -A<=n/\n<=A/\0<d/\d<=B
theorem Hm{x y:Rat}(hx:Lh 17000 255 x)(hy:Lh 17000 255 y):Lh 10000000 65025 (x-y):=by
 obtain⟨n,e,rfl,n1,n2,e1,e2⟩:=hx;obtain⟨m,f,rfl,m1,m2,f1,f2⟩:=hy;have k1:=gY n1 n2 (show 0<=f by omega) f2;have k2:=gY m1 m2 (show 0<=e by omega) e2;have k3:=gY (show -255<=e by omega) e2 (show 0<=f by omega) f2;refine⟨n*f-m*e,e*f,?_,va5,va5,Int.mul_pos e1 f1,va5⟩;have hE:=K5 e1;have hF:=K5 f1;rw[Rat.intCast_sub,Rat.intCast_mul,Rat.intCast_mul,Rat.intCast_mul]
 grind
theorem xL{p:List Int}{thr a a8 d:Int}(hd:lR d)(h:(W8 p thr a a8 d).2=0):Lh 17000 255 (qv (W8 p thr a a8 d).1.1)/\Lh 17000 255 (qv (W8 p thr a a8 d).1.2):=by
 obtain⟨hp,hq,_,s,k,j,hk,hj,e,q1,q2⟩:=Jt hd h;obtain⟨t1,t2,a1,a2,n1,n2⟩:=dW hq;have hl:=M3 hp;have z1:=T8 (N8 p (-a8)) (by rw[x9];exact hl.2) a1 (by rw[x9];exact a2) hd t1 t2 hk;have z2:=T8 (N8 p a8) (by rw[x9];exact hl.2) a1 (by rw[x9];exact a2) hd t1 t2 hj;have y1:=(ay (G4.1 hk).2.1 (G4.1 hk).2.2).2;have y2:=(ay (G4.1 hj).2.1 (G4.1 hj).2.2).2;have w1:Lh 17000 255 (qv (D5 (D8 p (-a8)) thr a d k)):=⟨_,_,q1.trans y1.symm,z1.1,z1.2.1,z1.2.2.1,z1.2.2.2⟩
 have w2:Lh 17000 255 (qv (D5 (D8 p a8) thr a d j)):=⟨_,_,q2.trans y2.symm,z2.1,z2.2.1,z2.2.2.1,z2.2.2.2⟩
 rw[e];split
 ·exact⟨w1,w2⟩
 ·exact⟨w2,w1⟩
theorem Jx{p:List Int}{thr a8:Int}(h:(J9 p thr a8).2=0):Lh 10000000 65025 (qv (J9 p thr a8).1.1)/\Lh 10000000 65025 (qv (J9 p thr a8).1.2):=by
 obtain⟨_,_,r1,f1,_,x1,y1⟩:=pP h;have hr:=xL (.inl rfl) r1;have hf:=xL (.inr rfl) f1;rw[x1,y1];exact⟨Hm hf.1 hr.2,Hm hf.2 hr.1⟩
theorem oa{a b:Int×Int}(ha:o7 a=true)(hb:o7 b=true)(sa:Lh 300000000 1040400 (qv a))(sb:Be b=true):(Z4 a b).2=0/\o7 (Z4 a b).1=true/\qv (Z4 a b).1=qv a*qv b:=by
 obtain⟨n,d,e,n1,n2,d1,d2⟩:=sa;simp only[Be,zA2,zA3]at sb;have wZ:=((A7 b).1 hb).1;have k1 : -(300000000*1000000)<=n*b.1/\n*b.1<=300000000*1000000:=by
  by_cases h:0<=b.1
  ·exact gY n1 n2 h sb.1.2
  ·have k:=gY (a:=n) (b := -b.1) n1 n2 (B:=1000000) va5 va5;rw[Int.mul_neg]at k;omega
 have k2:=gY (show -1040400<=d by omega) d2 (show 0<=b.2 by omega) sb.2;have h:=ua (dT ha hb) (n:=n*b.1) (d:=d*b.2) ?_ va5 va5 (Int.mul_pos d1 va5) va5
 ·exact⟨h.2.1,h.1,h.2.2⟩
 ·rw[e];unfold qv;have c1:=K5 d1;have c2:=K5 (show 0<b.2 by omega);rw[Rat.intCast_mul,Rat.intCast_mul]
  grind
theorem CE{A B C D:Int}{x:Rat}(h:Lh A B x)(h1:A<=C)(h2:B<=D):Lh C D x:=by
 obtain⟨n,d,e,n1,n2,d1,d2⟩:=h;exact⟨n,d,e,va5,va5,d1,va5⟩
theorem Jy{p:List Int}{thr a8:Int}(h:(J9 p thr a8).2=0){s:V3}(hs:y9 s=true)(s1:Be s.1=true)(s2:Be s.2=true):(W7 (J9 p thr a8).1 s).2=0:=by
 obtain⟨_,_,_,_,sw,_⟩:=pP h;obtain⟨q1,q2⟩:=Jx h;obtain⟨a1,a2,_⟩:=L3.1 sw;obtain⟨b1,b2,_⟩:=L3.1 hs;have e:W7 (J9 p thr a8).1 s=O6 Z4 (tY (J9 p thr a8).1 s):=by unfold W7;rw[sw,hs];rfl
 rw[e];refine Fo _ fun p hp=>?_
 simp only[tY,List.mem_cons,List.not_mem_nil,or_false]at hp;have q1:=CE q1 (C:=300000000) (D:=1040400) va8 va8;have q2:=CE q2 (C:=300000000) (D:=1040400) va8 va8;rcases hp with rfl|rfl|rfl|rfl
 ·exact(oa a1 b1 q1 s1).1
 ·exact(oa a1 b2 q1 s2).1
 ·exact(oa a2 b1 q2 s1).1
 ·exact(oa a2 b2 q2 s2).1
theorem Fp(s t:V3):mA s t=1∨mA s t=2∨mA s t=3:=by
 unfold mA;split
 ·split<;>simp
 ·simp
theorem Ny{g:v7}{p:List Int}(hg:N0 g=true)(hp:H8 p=true):(E8 g p).2.2=0/\((E8 g p).2.1=1∨(E8 g p).2.1=2∨(E8 g p).2.1=3):=by
 obtain⟨t,n,s1,_,_,m1,m2,_⟩:=X8 hg;unfold E8;rw[hg];simp only[if_true];rcases nZ (p:=p) t.1 t.2 n.1 n.2 with ⟨h1,h2⟩|⟨h1,h2|h2⟩
 ·rw[hp]at h1;simp at h1
 ·rw[h2];show(0:Int)=0/\((if G2 g<=uk p (p.length-1)+E7 g then(3:Int)else 2)=1∨(if G2 g<=uk p (p.length-1)+E7 g then(3:Int)else 2)=2∨(if G2 g<=uk p (p.length-1)+E7 g then(3:Int)else 2)=3)
  refine⟨rfl,?_⟩;split<;>simp
 ·have h6:(J9 p (G2 g) (E7 g)).2≠6:=by omega
  unfold um;rw[if_neg h6,if_pos h2,if_pos (Jy h2 s1 m1 m2)];exact⟨rfl,Fp _ _⟩
theorem Rc{g:v7}{p:List Int}(h:N0 g=false∨H8 p=false):(E8 g p).2.2≠0:=fun h0=>by
 obtain⟨h1,h2,_⟩:=Jw h0;rw[h1,h2]at h;simp at h
structure D1 where
 author:Int
 j9:v7
 y7:List Int
 state:Int
structure A2 where
 seq:Int
 recipe:Int
 part:Int
 n7:List Int
 o5:Int
 disputed:Bool
structure n9 where
 keep:Int
 n5:List Int
 j8:List D1
 next:Int
 log:List A2
abbrev e8(n:Int):List AV:=[u8 n]
abbrev Nz(l:List Int):AV := .sl 1 0 e8 l
def NA:v7:=((((0,0),((0,0),(0,0))),(0,0)),(0,0))
def p9:D1:=⟨0,NA,[],0⟩
def s9:A2:=⟨0,0,0,[],0,false⟩
def bX(r:D1):List AV:=[i64 r.author,i64 (G2 r.j9),i64 (E7 r.j9),i64 (I6 r.j9).1.1,i64 (I6 r.j9).1.2,i64 (I6 r.j9).2.1,i64 (I6 r.j9).2.2,i64 r.j9.1.2.1,i64 r.j9.1.2.2,i64 r.j9.2.1,i64 r.j9.2.2,A9 r.y7,u8 r.state]
def K6(s:A2):List AV:=[i64 s.seq,i64 s.recipe,i64 s.part,A9 s.n7,u8 s.o5,.bool s.disputed]
abbrev uq(l:List D1):AV := .sl 13 p9 bX l
abbrev od(l:List A2):AV := .sl 6 s9 K6 l
def eB(b:n9):List AV:=[i64 b.keep,Nz b.n5,uq b.j8,i64 b.next,od b.log]
abbrev R5(b:n9):AV := .agg (eB b)
def D6(Yj:List Int)(us:List Int)(u:Int):Bool:=B6 u 0 (us.length-1) && Yj.contains (us.getD u.toNat 0)
def gh(b:n9):Bool:=B6 b.keep 1 32 && B6 b.next 0 1099511627776 && decide ((b.n5.length:Int)<=16) && decide ((b.j8.length:Int)<=16) && decide ((b.log.length:Int)<=b.keep)
def pR(r:Int):Bool:=decide (r<1) || decide (r > 3)
def U8(b:n9):Bool := !b.n5.any pR
def H9(us:List Int)(l:List Int):Bool:=decide ((l.length:Int) > 1) && l.any (D6 [3] us)
def fJ(l:List Int)(i:Nat):Int:=if i=0 then -1 else l.getD (i-1) 0
def Jz(us:List Int)(x:D1)(i:Nat):Bool:=decide (fJ x.y7 i<x.y7.getD i 0) && !decide (x.y7.getD i 0=x.author) && D6 [2,3] us (x.y7.getD i 0)
def aG(us:List Int)(x:D1):Bool:=(List.range x.y7.length).all (Jz us x)
def eP(us:List Int)(x:D1):Bool:=D6 [2] us x.author && N0 x.j9 && B6 x.state 1 4 && (decide (x.state > 1) == H9 us x.y7)
def jx(us:List Int)(x:D1):Bool:=aG us x && eP us x
def D0(l:List D1):Nat:=(l.filter fun x=>decide (x.state=3)).length
def O0(b:n9):Bool:=b.j8.all (jx b.n5) && decide (D0 b.j8<=1)
def aH(l:List A2)(i:Nat):Int:=if i=0 then -1 else(l.getD (i-1) s9).seq
def mC(b:n9)(i:Nat):Bool :=
 decide (aH b.log i<(b.log.getD i s9).seq) && decide ((b.log.getD i s9).seq<b.next) && B6 (b.log.getD i s9).recipe 0 (b.j8.length-1) && B6 (b.log.getD i s9).part 0 1099511627776 &&
  (decide ((E8 (b.j8.getD (b.log.getD i s9).recipe.toNat p9).j9 (b.log.getD i s9).n7).2.2=0) && decide ((E8 (b.j8.getD (b.log.getD i s9).recipe.toNat p9).j9 (b.log.getD i s9).n7).2.1=(b.log.getD i s9).o5) &&
   !decide ((b.j8.getD (b.log.getD i s9).recipe.toNat p9).state=1))
def bh(b:n9):Bool:=(List.range b.log.length).all (mC b)
def B8(b:n9):Bool:=gh b && U8 b && O0 b && bh b
def Ac(x:D1):Bool:=decide (x.y7.length<=30)
def Ad(s:A2):Bool:=decide (s.n7.length<=100)
def gi(b:n9):Bool:=decide (b.n5.length<=30) && decide (b.j8.length<=30) && decide (b.log.length<=50) && b.j8.all Ac && b.log.all Ad
theorem qQ{b:n9}(h:gi b=true):b.n5.length<=30/\b.j8.length<=30/\b.log.length<=50/\(∀ i,(b.j8.getD i p9).y7.length<=30)/\∀ i,(b.log.getD i s9).n7.length<=100:=by
 simp only[gi,zA2,zA3,List.all_eq_true,Ac,Ad]at h;obtain⟨⟨⟨⟨h1,h2⟩,h3⟩,h4⟩,h5⟩:=h;refine⟨h1,h2,h3,fun i=>?_,fun i=>?_⟩
 ·by_cases hi:i<b.j8.length
  ·simp only[List.getD,zA6 hi,Option.getD_some];exact h4 _ (List.getElem_mem hi)
  ·rw[List.getD,zA7 va5];exact zB4 _
 ·by_cases hi:i<b.log.length
  ·simp only[List.getD,zA6 hi,Option.getD_some];exact h5 _ (List.getElem_mem hi)
  ·rw[List.getD,zA7 va5];exact zB4 _
theorem V4{p:Nat->Bool}{n:Nat}:(List.range n).all p=true↔∀ i,i<n->p i=true:=by
 rw[List.all_eq_true];exact⟨fun h i hi=>h i (List.mem_range.2 hi),fun h i hi=>h i (List.mem_range.1 hi)⟩
theorem cF{p:Nat->Bool}{n i:Nat}(hi:i<n)(h:p i=false):(List.range n).all p=false:=by
 rw[List.all_eq_false];exact⟨i,List.mem_range.2 hi,by rw[h];decide⟩
theorem gZ{α:Type}{p:α->Bool}{l:List α}{d:α}:l.all p=true↔∀ i,i<l.length->p (l.getD i d)=true:=by
 rw[List.all_eq_true];refine⟨fun h i hi=>?_,fun h x hx=>?_⟩
 ·simp only[List.getD,zA6 hi,Option.getD_some];exact h _ (List.getElem_mem hi)
 ·obtain⟨i,hi,rfl⟩:=List.getElem_of_mem hx;have:=h i hi;simpa[List.getD,zA6 hi]using this
theorem Rd{α:Type}{p:α->Bool}{l:List α}{d:α}{i:Nat}(hi:i<l.length)(h:p (l.getD i d)=false):l.all p=false:=by
 rw[List.all_eq_false];refine⟨l.getD i d,?_,by rw[h];decide⟩;simp only[List.getD,zA6 hi,Option.getD_some];exact List.getElem_mem hi
theorem ur{us:List Int}{x:D1}(h:aG us x=true):x.y7.length<=us.length:=by
 have h:=V4.1 h;have k:∀ i,i<x.y7.length->(i:Int)<=x.y7.getD i 0/\x.y7.getD i 0<us.length:=by
  intro i
  induction i with
  | zero =>
   intro hi;have:=h 0 hi;simp only[Jz,D6,B6,zA2,zA3,fJ]at this;omega
  | succ i ih =>
   intro hi;have a:=ih va5;have:=h (i+1) hi;have ep:fJ x.y7 (i+1)=x.y7.getD i 0:=by simp[fJ]
   unfold Jz at this;rw[ep]at this;simp only[D6,B6,zA2,zA3]at this;omega
 rcases Nat.eq_zero_or_pos x.y7.length with h0|h0
 ·omega
 ·have:=k (x.y7.length-1) va5;omega
theorem O4(lo hi n:Int):va6 99 [i64 lo,i64 hi,i64 n] (.bool (B6 n lo hi)):=by
 refine vb4 Tryz.func99 ?_;(repeat' (first|(refine⟨va4,?_⟩;(conv=>whnf))|(refine⟨fun _=>?_,fun h=>absurd h (by first|decide|(simp;done)|fail)⟩;(conv=>whnf))|(refine⟨fun h=>absurd h (by first|decide|(simp;done)|fail),fun _=>?_⟩;(conv=>whnf))|((with_reducible refine And.intro (a:=_=true->_) (b:=_=false->_) (fun hh=>?_) (fun hh=>?_))<;>(try simp only[yC]at hh)<;>(first|(exfalso;omega)|(conv=>whnf)))|fail));all_goals (first|rfl|(simp[B6, *];done))
abbrev Hn(k:Int)(us:List Int)(rs:List D1)(nx:Int)(lg:List A2):List AV:=[i64 k,Nz us,uq rs,i64 nx,od lg]
theorem pS(a x:Int):va6 190 [.slc 1 [[u8 a]],u8 x] (i64 (if x=a then 0 else -1)):=by
 refine vb4 Tryz.func190 ?_;refine Or.inl ⟨2,vb3 ?_⟩;refine vc4 ?_;intros;refine⟨fun h=>?_,fun h=>?_⟩
 ·(conv=>whnf);rw[if_pos (zA1 h)]
 ·(conv=>whnf);refine vc4 ?_;intros;rw[if_neg (zA0 h)]
theorem pT(a b x:Int):va6 190 [.slc 1 [[u8 a],[u8 b]],u8 x] (i64 (if x=a then 0 else if x=b then 1 else -1)):=by
 refine vb4 Tryz.func190 ?_;refine Or.inl ⟨3,vb3 ?_⟩;refine vc4 ?_;intros;refine⟨fun h=>?_,fun h=>?_⟩
 ·(conv=>whnf);rw[if_pos (zA1 h)]
 ·(conv=>whnf);refine vc4 ?_;intros;refine⟨fun h2=>?_,fun h2=>?_⟩
  ·(conv=>whnf);rw[if_neg (zA0 h),if_pos (zA1 h2)];try rfl
  ·(conv=>whnf);refine vc4 ?_;intros;rw[if_neg (zA0 h),if_neg (zA0 h2)]
theorem pU(a b c x:Int):va6 190 [.slc 1 [[u8 a],[u8 b],[u8 c]],u8 x] (i64 (if x=a then 0 else if x=b then 1 else if x=c then 2 else -1)):=by
 refine vb4 Tryz.func190 ?_;refine Or.inl ⟨4,vb3 ?_⟩;refine vc4 ?_;intros;refine⟨fun h=>?_,fun h=>?_⟩
 ·(conv=>whnf);rw[if_pos (zA1 h)]
 ·(conv=>whnf);refine vc4 ?_;intros;refine⟨fun h2=>?_,fun h2=>?_⟩
  ·(conv=>whnf);rw[if_neg (zA0 h),if_pos (zA1 h2)];try rfl
  ·(conv=>whnf);refine vc4 ?_;intros;refine⟨fun h3=>?_,fun h3=>?_⟩
   ·(conv=>whnf);rw[if_neg (zA0 h),if_neg (zA0 h2),if_pos (zA1 h3)];try rfl
   ·(conv=>whnf);refine vc4 ?_;intros;rw[if_neg (zA0 h),if_neg (zA0 h2),if_neg (zA0 h3)]
theorem Ae(a x:Int):va6 148 [.slc 1 [[u8 a]],u8 x] (.bool ([a].contains x)):=by
 refine vb4 Tryz.func148 ?_;(repeat' (first|(refine⟨_,by exact pS a x,?_⟩;(conv=>whnf))|(refine Or.inl ?_;(conv=>whnf);refine⟨_,by exact pS a x,?_⟩;(conv=>whnf))|(refine Or.inl ?_;(conv=>whnf);refine⟨false,?_⟩;(conv=>whnf);refine⟨_,by exact pS a x,?_⟩;(conv=>whnf))|(refine⟨va4,?_⟩;(conv=>whnf))|fail))
 congr 1
 by_cases h:x=a<;>simp[h]
theorem Af(a b x:Int):va6 148 [.slc 1 [[u8 a],[u8 b]],u8 x] (.bool ([a,b].contains x)):=by
 refine vb4 Tryz.func148 ?_;(repeat' (first|(refine⟨_,by exact pT a b x,?_⟩;(conv=>whnf))|(refine Or.inl ?_;(conv=>whnf);refine⟨_,by exact pT a b x,?_⟩;(conv=>whnf))|(refine Or.inl ?_;(conv=>whnf);refine⟨false,?_⟩;(conv=>whnf);refine⟨_,by exact pT a b x,?_⟩;(conv=>whnf))|(refine⟨va4,?_⟩;(conv=>whnf))|fail))
 congr 1
 by_cases h:x=a
 ·simp[h]
 ·by_cases h2:x=b
  ·subst h2;simp[h]
  ·simp[h,h2]
theorem Ag(a b c x:Int):va6 148 [.slc 1 [[u8 a],[u8 b],[u8 c]],u8 x] (.bool ([a,b,c].contains x)):=by
 refine vb4 Tryz.func148 ?_;(repeat' (first|(refine⟨_,by exact pU a b c x,?_⟩;(conv=>whnf))|(refine Or.inl ?_;(conv=>whnf);refine⟨_,by exact pU a b c x,?_⟩;(conv=>whnf))|(refine Or.inl ?_;(conv=>whnf);refine⟨false,?_⟩;(conv=>whnf);refine⟨_,by exact pU a b c x,?_⟩;(conv=>whnf))|(refine⟨va4,?_⟩;(conv=>whnf))|fail))
 congr 1
 by_cases h:x=a
 ·simp[h]
 ·by_cases h2:x=b
  ·subst h2;simp[h]
  ·by_cases h3:x=c
   ·subst h3;simp[h,h2]
   ·simp[h,h2,h3]
theorem U9(k n u:Int)(us:List Int)(rs:List D1)(lg:List A2)(a:Int)(hl:us.length<2^40):va6 147 [i64 u,.pt [.pt (Hn k us rs n lg) 0] 0,.pt [.slc 1 [[u8 a]]] 0] (.bool (D6 [a] us u)):=by
 have w1:IntKind.i64.wrap ((us.length:Int)-1)=(us.length:Int)-1:=z5 _ va5 va5;have c1:=O4 0 (us.length-1) u;have c2:=Ae a (us.getD u.toNat 0);refine vb4 Tryz.func147 ?_;refine⟨va4,vb3 ?_⟩;rw[w1];(repeat' (first|(refine⟨_,by exact c1,?_⟩;(conv=>whnf))|(refine Or.inl ?_;(conv=>whnf);refine⟨_,by exact c1,?_⟩;(conv=>whnf))|(refine Or.inl ?_;(conv=>whnf);refine⟨false,?_⟩;(conv=>whnf);refine⟨_,by exact c1,?_⟩;(conv=>whnf))|(refine⟨va4,?_⟩;(conv=>whnf))|fail));refine⟨fun h=>?_,fun h=>?_⟩
 ·have hb:0<=u/\u<us.length:=by simp only[B6,zA2,zA3]at h;omega
  conv=>whnf
  refine⟨hb,vb3 ?_⟩;(repeat' (first|(refine⟨_,by exact c2,?_⟩;(conv=>whnf))|(refine Or.inl ?_;(conv=>whnf);refine⟨_,by exact c2,?_⟩;(conv=>whnf))|(refine Or.inl ?_;(conv=>whnf);refine⟨false,?_⟩;(conv=>whnf);refine⟨_,by exact c2,?_⟩;(conv=>whnf))|(refine⟨va4,?_⟩;(conv=>whnf))|fail));unfold D6;rw[h,Bool.true_and]
 ·(conv=>whnf);refine⟨va4,vb3 ?_⟩;unfold D6;rw[h,Bool.false_and]
theorem Ho(k n:Int)(us:List Int)(rs:List D1)(lg:List A2)(a:Int):va6 102 [.pt (Hn k us rs n lg) 0,.slc 1 [[u8 a]]] (.fn (.func 147) [] [.pt [.pt (Hn k us rs n lg) 0] 0,.pt [.slc 1 [[u8 a]]] 0]):=by
 refine pF Tryz.func102 ?_;conv=>whnf
 try rfl
theorem uu(k n u:Int)(us:List Int)(rs:List D1)(lg:List A2)(a b:Int)(hl:us.length<2^40):va6 147 [i64 u,.pt [.pt (Hn k us rs n lg) 0] 0,.pt [.slc 1 [[u8 a],[u8 b]]] 0] (.bool (D6 [a,b] us u)):=by
 have w1:IntKind.i64.wrap ((us.length:Int)-1)=(us.length:Int)-1:=z5 _ va5 va5;have c1:=O4 0 (us.length-1) u;have c2:=Af a b (us.getD u.toNat 0);refine vb4 Tryz.func147 ?_;refine⟨va4,vb3 ?_⟩;rw[w1];(repeat' (first|(refine⟨_,by exact c1,?_⟩;(conv=>whnf))|(refine Or.inl ?_;(conv=>whnf);refine⟨_,by exact c1,?_⟩;(conv=>whnf))|(refine Or.inl ?_;(conv=>whnf);refine⟨false,?_⟩;(conv=>whnf);refine⟨_,by exact c1,?_⟩;(conv=>whnf))|(refine⟨va4,?_⟩;(conv=>whnf))|fail));refine⟨fun h=>?_,fun h=>?_⟩
 ·have hb:0<=u/\u<us.length:=by simp only[B6,zA2,zA3]at h;omega
  conv=>whnf
  refine⟨hb,vb3 ?_⟩;(repeat' (first|(refine⟨_,by exact c2,?_⟩;(conv=>whnf))|(refine Or.inl ?_;(conv=>whnf);refine⟨_,by exact c2,?_⟩;(conv=>whnf))|(refine Or.inl ?_;(conv=>whnf);refine⟨false,?_⟩;(conv=>whnf);refine⟨_,by exact c2,?_⟩;(conv=>whnf))|(refine⟨va4,?_⟩;(conv=>whnf))|fail));unfold D6;rw[h,Bool.true_and]
 ·(conv=>whnf);refine⟨va4,vb3 ?_⟩;unfold D6;rw[h,Bool.false_and]
theorem Re(k n:Int)(us:List Int)(rs:List D1)(lg:List A2)(a b:Int):va6 102 [.pt (Hn k us rs n lg) 0,.slc 1 [[u8 a],[u8 b]]] (.fn (.func 147) [] [.pt [.pt (Hn k us rs n lg) 0] 0,.pt [.slc 1 [[u8 a],[u8 b]]] 0]):=by
 refine pF Tryz.func102 ?_;conv=>whnf
 try rfl
theorem CF(k n u:Int)(us:List Int)(rs:List D1)(lg:List A2)(a b c:Int)(hl:us.length<2^40):va6 147 [i64 u,.pt [.pt (Hn k us rs n lg) 0] 0,.pt [.slc 1 [[u8 a],[u8 b],[u8 c]]] 0] (.bool (D6 [a,b,c] us u)):=by
 have w1:IntKind.i64.wrap ((us.length:Int)-1)=(us.length:Int)-1:=z5 _ va5 va5;have c1:=O4 0 (us.length-1) u;have c2:=Ag a b c (us.getD u.toNat 0);refine vb4 Tryz.func147 ?_;refine⟨va4,vb3 ?_⟩;rw[w1];(repeat' (first|(refine⟨_,by exact c1,?_⟩;(conv=>whnf))|(refine Or.inl ?_;(conv=>whnf);refine⟨_,by exact c1,?_⟩;(conv=>whnf))|(refine Or.inl ?_;(conv=>whnf);refine⟨false,?_⟩;(conv=>whnf);refine⟨_,by exact c1,?_⟩;(conv=>whnf))|(refine⟨va4,?_⟩;(conv=>whnf))|fail));refine⟨fun h=>?_,fun h=>?_⟩
 ·have hb:0<=u/\u<us.length:=by simp only[B6,zA2,zA3]at h;omega
  conv=>whnf
  refine⟨hb,vb3 ?_⟩;(repeat' (first|(refine⟨_,by exact c2,?_⟩;(conv=>whnf))|(refine Or.inl ?_;(conv=>whnf);refine⟨_,by exact c2,?_⟩;(conv=>whnf))|(refine Or.inl ?_;(conv=>whnf);refine⟨false,?_⟩;(conv=>whnf);refine⟨_,by exact c2,?_⟩;(conv=>whnf))|(refine⟨va4,?_⟩;(conv=>whnf))|fail));unfold D6;rw[h,Bool.true_and]
 ·(conv=>whnf);refine⟨va4,vb3 ?_⟩;unfold D6;rw[h,Bool.false_and]
theorem uv(k n:Int)(us:List Int)(rs:List D1)(lg:List A2)(a:Int)(hu:us.length<2^40)(l:List Int)(hl:l.length<2^40) :
  va6 192 [A9 l,.fn (.func 147) [] [.pt [.pt (Hn k us rs n lg) 0] 0,.pt [.slc 1 [[u8 a]]] 0]] (i64 (xl (D6 [a] us) l)):=by
 refine vb4 Tryz.func192 ?_;refine Or.inr ⟨Nat,[8],[],[],fun k=>[i64 k],fun _=>[],fun _=>[],fun k=>l.length-k,fun k=>k<=l.length/\∀ i,i<k->D6 [a] us (l.getD i 0)=false,vb3 ?_⟩;refine⟨⟨0,?_⟩,?_⟩
 ·(conv=>whnf);exact kK ⟨⟨zB4 _,fun i hi=>absurd hi (zB3 i)⟩,rfl,rfl,rfl⟩
 ·intro j hj;conv=>whnf
  refine⟨fun h=>?_,fun h=>?_⟩
  ·have h:=zA1 h;conv=>whnf
   refine⟨⟨va5,va5⟩,vb3 ?_⟩;(repeat' (first|(refine⟨_,by exact U9 k n _ us rs lg a hu,?_⟩;(conv=>whnf))|(refine Or.inl ?_;(conv=>whnf);refine⟨_,by exact U9 k n _ us rs lg a hu,?_⟩;(conv=>whnf))|(refine Or.inl ?_;(conv=>whnf);refine⟨false,?_⟩;(conv=>whnf);refine⟨_,by exact U9 k n _ us rs lg a hu,?_⟩;(conv=>whnf))|(refine⟨va4,?_⟩;(conv=>whnf))|fail));refine⟨fun h2=>?_,fun h2=>?_⟩
   ·(conv=>whnf);exact congrArg i64 (rS _ 0 l j va5 h2 hj.2).symm
   ·refine⟨j+1,vb3 ?_⟩;refine kK ⟨⟨?_,?_,?_⟩,?_,rfl,rfl⟩
    ·show l.length-(j+1)<l.length-j;omega
    ·omega
    ·intro i hi;by_cases e:i=j
     ·subst e;exact h2
     ·exact hj.2 i va5
    ·rw[z5 _ va5 va5];rfl
  ·have h:=zA0 h;conv=>whnf
   exact congrArg i64 (nE _ 0 l fun i hi=>hj.2 i va5).symm
theorem NB(k n:Int)(us:List Int)(rs:List D1)(lg:List A2)(a:Int)(hu:us.length<2^40)(l:List Int)(hl:l.length<2^40) :
  va6 151 [A9 l,.fn (.func 147) [] [.pt [.pt (Hn k us rs n lg) 0] 0,.pt [.slc 1 [[u8 a]]] 0]] (.bool (l.any (D6 [a] us))):=by
 refine vb4 Tryz.func151 ?_;(repeat' (first|(refine⟨_,by exact uv k n us rs lg a hu l hl,?_⟩;(conv=>whnf))|(refine Or.inl ?_;(conv=>whnf);refine⟨_,by exact uv k n us rs lg a hu l hl,?_⟩;(conv=>whnf))|(refine Or.inl ?_;(conv=>whnf);refine⟨false,?_⟩;(conv=>whnf);refine⟨_,by exact uv k n us rs lg a hu l hl,?_⟩;(conv=>whnf))|(refine⟨va4,?_⟩;(conv=>whnf))|fail));rw[rT]
theorem xM(k n:Int)(us:List Int)(rs:List D1)(lg:List A2)(hu:us.length<2^40)(l:List Int)(hl:l.length<2^40):va6 104 [.pt (Hn k us rs n lg) 0,A9 l] (.bool (H9 us l)):=by
 have c1:=Ho k n us rs lg 3;have c2:=NB k n us rs lg 3 hu l hl;refine vb4 Tryz.func104 ?_;refine⟨fun h=>?_,fun h=>?_⟩
 ·(conv=>whnf);refine Or.inl (vb3 ?_);refine⟨true,vb3 ?_⟩;refine⟨_,c1,?_⟩;(repeat' (first|(refine⟨_,by exact c2,?_⟩;(conv=>whnf))|(refine Or.inl ?_;(conv=>whnf);refine⟨_,by exact c2,?_⟩;(conv=>whnf))|(refine Or.inl ?_;(conv=>whnf);refine⟨false,?_⟩;(conv=>whnf);refine⟨_,by exact c2,?_⟩;(conv=>whnf))|(refine⟨va4,?_⟩;(conv=>whnf))|fail));unfold H9;rw[h,Bool.true_and]
 ·(conv=>whnf);unfold H9;rw[h,Bool.false_and]
theorem Ah(x:Int):va6 101 [u8 x] (.bool (pR x)):=by
 refine vb4 Tryz.func101 ?_;refine⟨fun h=>?_,fun h=>?_⟩
 ·(conv=>whnf);unfold pR;rw[h,Bool.true_or]
 ·(conv=>whnf);unfold pR;rw[h,Bool.false_or];try rfl
theorem Ai(gC:Nat)(p:Int->Bool)(hp:∀ n,va6 gC [u8 n] (.bool (p n)))(l:List Int)(hl:l.length<2^40):va6 146 [Nz l,.fn (.func gC) [] []] (i64 (xl p l)):=by
 refine vb4 Tryz.func146 ?_;refine Or.inr ⟨Nat,[8],[],[],fun k=>[i64 k],fun _=>[],fun _=>[],fun k=>l.length-k,fun k=>k<=l.length/\∀ i,i<k->p (l.getD i 0)=false,vb3 ?_⟩;refine⟨⟨0,?_⟩,?_⟩
 ·(conv=>whnf);exact kK ⟨by simp,rfl,rfl,rfl⟩
 ·intro k hk;conv=>whnf
  refine⟨fun h=>?_,fun h=>?_⟩
  ·have h:=zA1 h;conv=>whnf
   refine⟨⟨va5,va5⟩,vb3 ?_⟩;(repeat' (first|(refine⟨_,by exact hp _,?_⟩;(conv=>whnf))|(refine Or.inl ?_;(conv=>whnf);refine⟨_,by exact hp _,?_⟩;(conv=>whnf))|(refine Or.inl ?_;(conv=>whnf);refine⟨false,?_⟩;(conv=>whnf);refine⟨_,by exact hp _,?_⟩;(conv=>whnf))|(refine⟨va4,?_⟩;(conv=>whnf))|fail));refine⟨fun h2=>?_,fun h2=>?_⟩
   ·(conv=>whnf);exact congrArg i64 (rS _ 0 l k va5 h2 hk.2).symm
   ·refine⟨k+1,vb3 ?_⟩;refine kK ⟨⟨?_,?_,?_⟩,?_,rfl,rfl⟩
    ·show l.length-(k+1)<l.length-k;omega
    ·omega
    ·intro i hi;by_cases e:i=k
     ·subst e;exact h2
     ·exact hk.2 i va5
    ·rw[z5 _ va5 va5];rfl
  ·have h:=zA0 h;conv=>whnf
   exact congrArg i64 (nE _ 0 l fun i hi=>hk.2 i va5).symm
theorem Aj(gC:Nat)(p:Int->Bool)(hp:∀ n,va6 gC [u8 n] (.bool (p n)))(l:List Int)(hl:l.length<2^40):va6 100 [Nz l,.fn (.func gC) [] []] (.bool (l.any p)):=by
 refine vb4 Tryz.func100 ?_;(repeat' (first|(refine⟨_,by exact Ai gC p hp l hl,?_⟩;(conv=>whnf))|(refine Or.inl ?_;(conv=>whnf);refine⟨_,by exact Ai gC p hp l hl,?_⟩;(conv=>whnf))|(refine Or.inl ?_;(conv=>whnf);refine⟨false,?_⟩;(conv=>whnf);refine⟨_,by exact Ai gC p hp l hl,?_⟩;(conv=>whnf))|(refine⟨va4,?_⟩;(conv=>whnf))|fail));rw[rT]
theorem Fq(k n:Int)(us:List Int)(rs:List D1)(lg:List A2)(hu:us.length<2^40):va6 57 [.pt (Hn k us rs n lg) 0] (.bool (!us.any pR)):=by
 refine vb4 Tryz.func57 ?_;(repeat' (first|(refine⟨_,by exact Aj _ pR Ah us hu,?_⟩;(conv=>whnf))|(refine Or.inl ?_;(conv=>whnf);refine⟨_,by exact Aj _ pR Ah us hu,?_⟩;(conv=>whnf))|(refine Or.inl ?_;(conv=>whnf);refine⟨false,?_⟩;(conv=>whnf);refine⟨_,by exact Aj _ pR Ah us hu,?_⟩;(conv=>whnf))|(refine⟨va4,?_⟩;(conv=>whnf))|fail));try rfl
theorem NC(k n:Int)(us:List Int)(rs:List D1)(lg:List A2):va6 56 [.pt (Hn k us rs n lg) 0] (.bool (gh ⟨k,us,rs,n,lg⟩)):=by
 have c1:=O4 1 32 k;have c2:=O4 0 1099511627776 n;refine vb4 Tryz.func56 ?_;(repeat' (first|(refine⟨_,by first|exact c1|exact c2,?_⟩;(conv=>whnf))|(refine Or.inl ?_;(conv=>whnf);refine⟨_,by first|exact c1|exact c2,?_⟩;(conv=>whnf))|(refine Or.inl ?_;(conv=>whnf);refine⟨false,?_⟩;(conv=>whnf);refine⟨_,by first|exact c1|exact c2,?_⟩;(conv=>whnf))|(refine⟨va4,?_⟩;(conv=>whnf))|(refine⟨fun _=>?_,fun h=>absurd h (by first|decide|(simp;done)|fail)⟩;(conv=>whnf))|(refine⟨fun h=>absurd h (by first|decide|(simp;done)|fail),fun _=>?_⟩;(conv=>whnf))|((with_reducible refine And.intro (a:=_=true->_) (b:=_=false->_) (fun hh=>?_) (fun hh=>?_))<;>(try simp only[yC]at hh)<;>(first|(exfalso;omega)|(conv=>whnf)))|fail));all_goals first|(simp[gh, *];done)
theorem qR{l:List D1}{j:Nat}(hj:j<l.length):D0 (l.take (j+1))=D0 (l.take j)+if (l.getD j p9).state=3 then 1 else 0:=by
 unfold D0;rw[List.take_add_one,List.filter_append,List.length_append,zA6 hj];simp only[List.getD,zA6 hj,Option.getD_some,Option.toList_some,List.filter_cons,List.filter_nil];by_cases h:l[j].state=3<;>simp[h]
theorem xN(l:List D1):D0 l<=l.length:=by
 unfold D0;exact List.length_filter_le _ _
theorem rW{k n:Int}{us:List Int}{rs:List D1}{lg:List A2}{j:Nat}{x:D1}(hj:j<rs.length)(hx:rs.getD j p9=x)(h:jx us x=false):AV.bool false=AV.bool (O0 ⟨k,us,rs,n,lg⟩):=by
 subst hx;unfold O0;rw[Rd hj h,Bool.false_and]
theorem uw{us:List Int}{x:D1}{i:Nat}(hi:i<x.y7.length)(h:Jz us x i=false):jx us x=false:=by
 unfold jx aG;rw[cF hi h,Bool.false_and]
theorem JA{us:List Int}{x:D1}(h:eP us x=false):jx us x=false:=by
 unfold jx;rw[h,Bool.and_false]
theorem mD{us:List Int}{x:D1}{i:Nat}:Jz us x i=true↔fJ x.y7 i<x.y7.getD i 0/\¬x.y7.getD i 0=x.author/\D6 [2,3] us (x.y7.getD i 0)=true:=by
 simp only[Jz,zA2,zA3,Bool.not_eq_true',decide_eq_false_iff_not,and_assoc]
theorem bY{us:List Int}{x:D1}:eP us x=true↔D6 [2] us x.author=true/\N0 x.j9=true/\1<=x.state/\x.state<=4/\(decide (1<x.state) != H9 us x.y7)=false:=by
 simp only[eP,B6,zA2,zA3,and_assoc,bne,Bool.not_eq_false',gt_iff_lt]
theorem Hp{g:v7}:(if N0 g then(0:Int)else 8)=0↔N0 g=true:=by
 by_cases h:N0 g=true<;>simp[h]
theorem CG(k n:Int)(us:List Int)(rs:List D1)(lg:List A2)(hu:us.length<2^40)(hr:rs.length<2^40)(ha:∀ i,(rs.getD i p9).y7.length<2^40) :
  va6 58 [.pt (Hn k us rs n lg) 0] (.bool (O0 ⟨k,us,rs,n,lg⟩)):=by
 have c1:=Ho k n us rs lg 2;have c2:=Re k n us rs lg 2 3;have e1:=fun u=>U9 k n u us rs lg 2 hu
 have e2:=fun u=>uu k n u us rs lg 2 3 hu
 refine vb4 Tryz.func58 ?_
 ((first|refine Or.inl ?_|skip);(conv=>whnf);refine⟨true,?_⟩;(conv=>whnf);refine⟨_,c1,?_⟩;(conv=>whnf))
 ((first|refine Or.inl ?_|skip);(conv=>whnf);refine⟨true,?_⟩;(conv=>whnf);refine⟨_,c2,?_⟩;(conv=>whnf))
 refine Or.inr ⟨Nat,[3,23],[],[],fun k=>[i64 (D0 (rs.take k)),i64 k],fun _=>[],fun _=>[],fun k=>rs.length-k,fun k=>k<=rs.length/\∀ i,i<k->jx us (rs.getD i p9)=true,vb3 ?_⟩;refine⟨⟨0,?_⟩,?_⟩
 ·(conv=>whnf);exact kK ⟨⟨zB4 _,fun i hi=>absurd hi (zB3 i)⟩,rfl,rfl,rfl⟩
 ·intro j hj;conv=>whnf
  refine⟨fun h=>?_,fun h=>?_⟩
  ·have h:=zA1 h;conv=>whnf
   refine⟨⟨va5,va5⟩,vb3 ?_⟩;have kO:j<rs.length:=by omega
   have vO:=ha j;rw[show Int.toNat (j:Int)=j from rfl];generalize hx:rs.getD j p9=x at vO;refine Or.inr ⟨Nat,[8,30],[],[],fun i=>[i64 (fJ x.y7 i),i64 i],fun _=>[],fun _=>[],fun i=>x.y7.length-i,fun i=>i<=x.y7.length/\∀ m,m<i->Jz us x m=true,vb3 ?_⟩;refine⟨⟨0,?_⟩,?_⟩
   ·(conv=>whnf);exact kK ⟨⟨zB4 _,fun i hi=>absurd hi (zB3 i)⟩,rfl,rfl,rfl⟩
   ·intro i hi;conv=>whnf
    refine⟨fun h2=>?_,fun h2=>?_⟩
    ·have h2:=zA1 h2;conv=>whnf
     refine⟨⟨va5,va5⟩,vb3 ?_⟩;rw[show Int.toNat (i:Int)=i from rfl];refine vd8 e2 ?_ ?_ ?_ ?_<;>intros
     ·exact rW kO hx (uw (i:=i) va5 (Bool.eq_false_iff.2 fun q=>by have q:=mD.1 q;omega))
     ·exact rW kO hx (uw (i:=i) va5 (Bool.eq_false_iff.2 fun q=>(mD.1 q).2.1 (by assumption)))
     ·exact rW kO hx (uw (i:=i) va5 (Bool.eq_false_iff.2 fun q=>Bool.noConfusion ((mD.1 q).2.2.symm.trans (by assumption))))
     ·have ok:Jz us x i=true:=mD.2 ⟨va5,by assumption,by assumption⟩;refine⟨i+1,vb3 ?_⟩;refine kK ⟨⟨?_,?_,?_⟩,?_,rfl,rfl⟩
      ·show x.y7.length-(i+1)<x.y7.length-i;omega
      ·omega
      ·intro m hm;by_cases e:m=i
       ·subst e;exact ok
       ·exact hi.2 m va5
      ·rw[z5 _ va5 va5];simp[fJ]
    ·have h2:=zA0 h2;have ha1:aG us x=true:=V4.2 fun m hm=>hi.2 m va5
     (repeat' ((first|refine va0 (fun hh=>?_) fun hh=>?_|refine kR ?_|((try refine .inl ?_;conv=>whnf);(try refine⟨false,?_⟩;conv=>whnf);refine⟨_,by first|exact e1 _|exact Z7 _|exact xM k n us rs lg hu _ vO,?_⟩)|fail)<;>first|exact hh.elim|conv=>whnf))
     iterate 5 (refine rW kO hx (JA (Bool.eq_false_iff.2 fun q=>?_));have q:=bY.1 q;first|(exact absurd (Hp.2 q.2.1) (by assumption))|omega|exact Bool.noConfusion (q.1.symm.trans (by assumption))|exact Bool.noConfusion (q.2.2.2.2.symm.trans (by assumption)))
     all_goals (
      have ok:jx us x=true:=by
       unfold jx;rw[ha1,Bool.true_and];exact bY.2 ⟨by assumption,Hp.1 (by assumption),va5,va5,by assumption⟩
      have hn:=qR kO;have hm:D0 (rs.take j)<=rs.length:=Nat.le_trans (xN _) (by rw[zB1];omega);rw[hx]at hn;refine⟨j+1,vb3 ?_⟩;refine kK ⟨⟨?_,?_,?_⟩,?_,rfl,rfl⟩
      ·show rs.length-(j+1)<rs.length-j;omega
      ·omega
      ·intro m hm;by_cases e:m=j
       ·rw[e,hx];exact ok
       ·exact hj.2 m va5
      ·first
        | (rw[if_pos (by assumption)]at hn;rw[z5 _ va5 va5,z5 _ va5 va5];show _=[i64 (D0 (rs.take (j+1)):Nat),i64 ((j+1:Nat):Int)];rw[hn];first|rfl|(simp;done))
        | (rw[if_neg (by assumption)]at hn;rw[z5 _ va5 va5];show _=[i64 (D0 (rs.take (j+1)):Nat),i64 ((j+1:Nat):Int)];rw[hn];first|rfl|(simp;done)))
  ·have h:=zA0 h;conv=>whnf
   have e:O0 ⟨k,us,rs,n,lg⟩=decide ((D0 (rs.take j):Int)<=1):=by
    have ej:rs.take j=rs:=List.take_of_length_le va5;unfold O0;rw[gZ.2 fun i hi=>hj.2 i va5,ej,Bool.true_and];exact decide_eq_decide.2 (show D0 rs<=1↔_ by omega)
   rw[e]
theorem oe{b:n9}{i:Nat}{s:A2}{x:D1}(hs:b.log.getD i s9=s)(hx:b.j8.getD s.recipe.toNat p9=x):mC b i=true↔aH b.log i<s.seq/\s.seq<b.next/\B6 s.recipe 0 (b.j8.length-1)=true/\B6 s.part 0 1099511627776=true /\
  (E8 x.j9 s.n7).2.2=0/\(E8 x.j9 s.n7).2.1=s.o5/\¬x.state=1:=by
 simp only[mC,hs,hx,zA2,zA3,Bool.not_eq_true',decide_eq_false_iff_not,and_assoc]
theorem JB(k n:Int)(us:List Int)(rs:List D1)(lg:List A2)(hr:rs.length<2^40)(hl:lg.length<2^40)(ha:∀ i,(lg.getD i s9).n7.length<2^40) :
  va6 59 [.pt (Hn k us rs n lg) 0] (.bool (bh ⟨k,us,rs,n,lg⟩)):=by
 have w1:IntKind.i64.wrap ((rs.length:Int)-1)=(rs.length:Int)-1:=z5 _ va5 va5;have c1:∀ u,va6 99 [i64 0,i64 (IntKind.i64.wrap ((rs.length:Int)-1)),i64 u] (.bool (decide (0<=u) && decide (u<=(rs.length:Int)-1))):=fun u=>by rw[w1];exact O4 0 _ u
 have c2:∀ u,va6 99 [i64 0,i64 1099511627776,i64 u] (.bool (decide (0<=u) && decide (u<=1099511627776))):=fun u=>O4 0 _ u
 refine vb4 Tryz.func59 ?_;refine Or.inr ⟨Nat,[3,16],[],[],fun j=>[i64 (aH lg j),i64 j],fun _=>[],fun _=>[],fun j=>lg.length-j,fun j=>j<=lg.length/\∀ i,i<j->mC ⟨k,us,rs,n,lg⟩ i=true,vb3 ?_⟩;refine⟨⟨0,?_⟩,?_⟩
 ·(conv=>whnf);exact kK ⟨⟨zB4 _,fun i hi=>absurd hi (zB3 i)⟩,rfl,rfl,rfl⟩
 ·intro j hj;conv=>whnf
  refine⟨fun h=>?_,fun h=>?_⟩
  ·have h:=zA1 h;have kO:j<lg.length:=by omega
   conv=>whnf
   refine⟨⟨va5,va5⟩,vb3 ?_⟩;have Le:=ha j;rw[show Int.toNat (j:Int)=j from rfl];generalize hs:lg.getD j s9=s at Le;have bad:¬(aH lg j<s.seq/\s.seq<n/\B6 s.recipe 0 (rs.length-1)=true/\B6 s.part 0 1099511627776=true /\
     (E8 (rs.getD s.recipe.toNat p9).j9 s.n7).2.2=0/\(E8 (rs.getD s.recipe.toNat p9).j9 s.n7).2.1=s.o5/\¬(rs.getD s.recipe.toNat p9).state=1)->AV.bool false=AV.bool (bh ⟨k,us,rs,n,lg⟩):=fun q=>by
    unfold bh;rw[cF kO (Bool.eq_false_iff.2 fun e=>q ((oe hs rfl).1 e))]
   conv=>whnf
   (repeat' ((first|refine va0 (fun hh=>?_) fun hh=>?_|refine kR ?_|((try refine .inl ?_;conv=>whnf);(try refine⟨false,?_⟩;conv=>whnf);refine⟨_,by first|exact c1 _|exact c2 _|exact mB _ _ Le,?_⟩)|fail)<;>first|exact hh.elim|conv=>whnf))
   iterate 7 (refine bad fun q=>?_;obtain⟨q1,q2,q3,q4,q5,q6,q7⟩:=q;simp only[B6,zA2,zA3]at q3 q4;omega)
   have ok:mC ⟨k,us,rs,n,lg⟩ j=true:=(oe hs rfl).2 ⟨show aH lg j<s.seq by omega,show s.seq<n by omega,by simp only[B6,zA2,zA3];assumption,by simp only[B6,zA2,zA3];assumption,by assumption,by assumption,by assumption⟩;refine⟨j+1,vb3 ?_⟩;refine kK ⟨⟨?_,?_,?_⟩,?_,rfl,rfl⟩
   ·show lg.length-(j+1)<lg.length-j;omega
   ·omega
   ·intro m hm;by_cases e:m=j
    ·rw[e];exact ok
    ·exact hj.2 m va5
   ·rw[z5 _ va5 va5];show _=[i64 (aH lg (j+1)),i64 ((j+1:Nat):Int)]
    unfold aH;rw[if_neg (Nat.succ_ne_zero j),Nat.add_sub_cancel,hs];rfl
  ·have h:=zA0 h;conv=>whnf
   have e:bh ⟨k,us,rs,n,lg⟩=true:=V4.2 fun i hi=>hj.2 i (by have:i<lg.length:=hi;omega)
   rw[e]
structure C8 (b:n9):Prop where
 u:b.n5.length<2^20
 r:b.j8.length<2^20
 l:b.log.length<2^20
 a:∀ i,(b.j8.getD i p9).y7.length<2^20
 p:∀ i,(b.log.getD i s9).n7.length<2^20
theorem P1{n:Nat}(h:n<2^20):n<2^40:=Nat.lt_trans h va8
theorem hC(b:n9)(o:C8 b):va6 29 [R5 b] (i64 (if B8 b then 0 else 8)):=by
 have c1:=NC b.keep b.next b.n5 b.j8 b.log;have c2:=Fq b.keep b.next b.n5 b.j8 b.log (P1 o.u);have c3:=CG b.keep b.next b.n5 b.j8 b.log (P1 o.u) (P1 o.r) fun i=>P1 (o.a i)
 have c4:=JB b.keep b.next b.n5 b.j8 b.log (P1 o.r) (P1 o.l) fun i=>P1 (o.p i)
 refine vb4 Tryz.func29 ?_;refine Or.inl ⟨5,vb3 ?_⟩;refine vc0 ?_;intros;refine⟨fun h=>?_,fun h=>?_⟩<;>(conv=>whnf)
 ·have h1:gh b=false:=(by rw[Bool.not_eq_true']at h;exact h)
  exact congrArg i64 (if_neg (by unfold B8;rw[h1];simp)).symm
 have h1:gh b=true:=(by rw[Bool.not_eq_false']at h;exact h)
 clear h;refine vc0 ?_;intros;refine⟨fun h=>?_,fun h=>?_⟩<;>(conv=>whnf)
 ·have h2:U8 b=false:=(by rw[Bool.not_eq_true']at h;exact h)
  exact congrArg i64 (if_neg (by unfold B8;rw[h1,h2];simp)).symm
 have h2:U8 b=true:=(by rw[Bool.not_eq_false']at h;exact h)
 clear h;refine vc0 ?_;intros;refine⟨fun h=>?_,fun h=>?_⟩<;>(conv=>whnf)
 ·have h3:O0 b=false:=(by rw[Bool.not_eq_true']at h;exact h)
  exact congrArg i64 (if_neg (by unfold B8;rw[h1,h2,h3];simp)).symm
 have h3:O0 b=true:=(by rw[Bool.not_eq_false']at h;exact h)
 clear h;refine vc0 ?_;intros;refine⟨fun h=>?_,fun h=>?_⟩<;>(conv=>whnf)
 ·have h4:bh b=false:=(by rw[Bool.not_eq_true']at h;exact h)
  exact congrArg i64 (if_neg (by unfold B8;rw[h1,h2,h3,h4];simp)).symm
 have h4:bh b=true:=(by rw[Bool.not_eq_false']at h;exact h)
 clear h;refine vc0 ?_;intros;exact congrArg i64 (if_pos (by unfold B8;rw[h1,h2,h3,h4];rfl)).symm

end Go.Proofs.Tryz.My
