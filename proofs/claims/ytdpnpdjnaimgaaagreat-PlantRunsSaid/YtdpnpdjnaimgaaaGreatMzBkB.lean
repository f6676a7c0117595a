/- Helper lemmas. -/
import Derived.Test.YtdpnpdjnaimgaaaGreatMzGdE
set_option linter.unusedVariables false
set_option linter.unusedSimpArgs false
set_option maxRecDepth 100000
set_option maxHeartbeats 0
namespace Go.Proofs.Tryz.My
open Go Go.Ev
theorem fC{a b A B:Int}(h1 : -A<=a)(h2:a<=A)(h3:0<=b)(h4:b<=B) : -(A*B)<=a*b/\a*b<=A*B:=by
 have k1:a*b<=A*b:=Int.mul_le_mul_of_nonneg_right h2 h3;have k2:(-A)*b<=a*b:=Int.mul_le_mul_of_nonneg_right h1 h3;have k3:A*b<=A*B:=Int.mul_le_mul_of_nonneg_left h4 va5;have k4:(-A)*b = -(A*b):=by grind
 omega
theorem GS{g:x8}{p:List Int}(h:(F8 g p).2.2=0) :
    S6 g=true/\L2 p=true /\
    ((H6 p (H8 g) (D9 g)=(zS,6)/\F8 g p=(Tb,if H8 g<=ES p (p.length-1)+D9 g then 3 else 2,0)) ∨
     ((H6 p (H8 g) (D9 g)).2=0/\z7 (H6 p (H8 g) (D9 g)).1=true/\z7 (P0 (H6 p (H8 g) (D9 g)).1 (J5 g)).1=true/\(P0 (H6 p (H8 g) (D9 g)).1 (J5 g)).2=0 /\
        F8 g p=((P0 (H6 p (H8 g) (D9 g)).1 (J5 g)).1,mr (P0 (H6 p (H8 g) (D9 g)).1 (J5 g)).1 (kV g),0))):=by
  unfold F8 at h ⊢;cases hg:S6 g
  · rw[hg]at h;simp at h
  obtain⟨t,n,_,_,_,_⟩:=bz hg;rw[hg]at h;simp only[if_true]at h ⊢;rcases EU (p:=p) t.1 t.2 n.1 n.2 with ⟨h1,h2⟩|⟨h1,h2|h2⟩
  · exfalso
    rw[h2]at h;simp[xm]at h
  · refine⟨trivial,h1,.inl ⟨h2,?_⟩⟩
    rw[h2];simp[xm]
  · refine⟨trivial,h1,.inr ?_⟩
    have h6:(H6 p (H8 g) (D9 g)).2≠6:=by omega
    unfold xm at h ⊢;rw[if_neg h6,if_pos h2]at h ⊢;by_cases hm:(P0 (H6 p (H8 g) (D9 g)).1 (J5 g)).2=0
    · rw[if_pos hm]
      obtain⟨m1,m2,m3⟩:=mq hm;exact⟨h2,m1,m3,hm,rfl⟩
    · rw[if_neg hm]at h
      exact absurd h hm
theorem rR{op:Int×Int->Int×Int->(Int×Int)×Int}:∀ (l:List X2) (acc:X2),(∀ p ∈ l,(op p.1 p.2).2=0)->(O1 op acc l).2=0
 | [],_,_=>rfl
 | p :: l,acc,h=>by
  have h0:=h p va9;unfold O1;rw[if_neg (by rw[h0];simp)];exact rR l _ (fun q hq=>h q (by simp[hq]))
theorem Di{op:Int×Int->Int×Int->(Int×Int)×Int}(l:List X2)(h:∀ p ∈ l,(op p.1 p.2).2=0):(N1 op l).2=0:=by
 cases l with
 | nil=>rfl
 | cons p l =>
  have h0:=h p va9;show(if (op p.1 p.2).2≠0 then(zS,(op p.1 p.2).2)else O1 op ((op p.1 p.2).1,(op p.1 p.2).1) l).2=0
  rw[if_neg (by rw[h0];simp)];exact rR l _ (fun q hq=>h q (by simp[hq]))
def Ix(A B:Int)(x:Rat):Prop:=∃ n d:Int,x=(n:Rat) / (d:Rat) /\ -A<=n/\n<=A/\0<d/\d<=B
theorem EV{x y:Rat}(hx:Ix 17000 255 x)(hy:Ix 17000 255 y):Ix 10000000 65025 (x-y):=by
 obtain⟨n,e,rfl,n1,n2,e1,e2⟩:=hx;obtain⟨m,f,rfl,m1,m2,f1,f2⟩:=hy;have k1:=fC n1 n2 (show 0<=f by omega) f2;have k2:=fC m1 m2 (show 0<=e by omega) e2;have k3:=fC (show -255<=e by omega) e2 (show 0<=f by omega) f2;refine⟨n*f-m*e,e*f,?_,va5,va5,Int.mul_pos e1 f1,va5⟩;have hE:=J9 e1;have hF:=J9 f1;rw[Rat.intCast_sub,Rat.intCast_mul,Rat.intCast_mul,Rat.intCast_mul]
 grind
theorem vf{p:List Int}{thr a a8 d:Int}(hd:hC d)(h:(N6 p thr a a8 d).2=0):Ix 17000 255 (qv (N6 p thr a a8 d).1.1)/\Ix 17000 255 (qv (N6 p thr a a8 d).1.2):=by
 obtain⟨hp,hq,_,s,k,j,hk,hj,e,q1,q2⟩:=js hd h;obtain⟨t1,t2,a1,a2,n1,n2⟩:=ag hq;have hl:=M0 hp;have z1:=S5 (T7 p (-a8)) (by rw[z8];exact hl.2) a1 (by rw[z8];exact a2) hd t1 t2 hk;have z2:=S5 (T7 p a8) (by rw[z8];exact hl.2) a1 (by rw[z8];exact a2) hd t1 t2 hj;have y1:=(Z3 (J1.1 hk).2.1 (J1.1 hk).2.2).2;have y2:=(Z3 (J1.1 hj).2.1 (J1.1 hj).2.2).2;have w1:Ix 17000 255 (qv (E7 (C6 p (-a8)) thr a d k)):=⟨_,_,q1.trans y1.symm,z1.1,z1.2.1,z1.2.2.1,z1.2.2.2⟩
 have w2:Ix 17000 255 (qv (E7 (C6 p a8) thr a d j)):=⟨_,_,q2.trans y2.symm,z2.1,z2.2.1,z2.2.2.1,z2.2.2.2⟩
 rw[e];split
 ·exact⟨w1,w2⟩
 ·exact⟨w2,w1⟩
theorem GV{p:List Int}{thr a8:Int}(h:(H6 p thr a8).2=0):Ix 10000000 65025 (qv (H6 p thr a8).1.1)/\Ix 10000000 65025 (qv (H6 p thr a8).1.2):=by
 obtain⟨_,_,r1,f1,_,x1,y1⟩:=jt h;have hr:=vf (.inl rfl) r1;have hf:=vf (.inr rfl) f1;rw[x1,y1];exact⟨EV hf.1 hr.2,EV hf.2 hr.1⟩
theorem mu{a b:Int×Int}(ha:r7 a=true)(hb:r7 b=true)(sa:Ix 300000000 1040400 (qv a))(sb:Iw b=true):(gC a b).2=0/\r7 (gC a b).1=true/\qv (gC a b).1=qv a*qv b:=by
 obtain⟨n,d,e,n1,n2,d1,d2⟩:=sa;simp only[Iw,zA2,zA3]at sb;have BS:=((F6 b).1 hb).1;have k1 : -(300000000*1000000)<=n*b.1/\n*b.1<=300000000*1000000:=by
  by_cases h:0<=b.1
  ·exact fC n1 n2 h sb.1.2
  ·have k:=fC (a:=n) (b := -b.1) n1 n2 (B:=1000000) va5 va5;rw[Int.mul_neg]at k;omega
 have k2:=fC (show -1040400<=d by omega) d2 (show 0<=b.2 by omega) sb.2;have h:=rJ (nb ha hb) (n:=n*b.1) (d:=d*b.2) ?_ va5 va5 (Int.mul_pos d1 va5) va5
 ·exact⟨h.2.1,h.1,h.2.2⟩
 ·rw[e];unfold qv;have c1:=J9 d1;have c2:=J9 (show 0<b.2 by omega);rw[Rat.intCast_mul,Rat.intCast_mul]
  grind
theorem zX{A B C D:Int}{x:Rat}(h:Ix A B x)(h1:A<=C)(h2:B<=D):Ix C D x:=by
 obtain⟨n,d,e,n1,n2,d1,d2⟩:=h;exact⟨n,d,e,va5,va5,d1,va5⟩
theorem GW{p:List Int}{thr a8:Int}(h:(H6 p thr a8).2=0){s:X2}(hs:z7 s=true)(s1:Iw s.1=true)(s2:Iw s.2=true):(P0 (H6 p thr a8).1 s).2=0:=by
 obtain⟨_,_,_,_,sw,_⟩:=jt h;obtain⟨q1,q2⟩:=GV h;obtain⟨a1,a2,_⟩:=T6.1 sw;obtain⟨b1,b2,_⟩:=T6.1 hs;have e:P0 (H6 p thr a8).1 s=N1 gC (dk (H6 p thr a8).1 s):=by unfold P0;rw[sw,hs];rfl
 rw[e];refine Di _ fun p hp=>?_
 simp only[dk,List.mem_cons,List.not_mem_nil,or_false]at hp;have q1:=zX q1 (C:=300000000) (D:=1040400) va8 va8;have q2:=zX q2 (C:=300000000) (D:=1040400) va8 va8;rcases hp with rfl|rfl|rfl|rfl
 ·exact(mu a1 b1 q1 s1).1
 ·exact(mu a1 b2 q1 s2).1
 ·exact(mu a2 b1 q2 s1).1
 ·exact(mu a2 b2 q2 s2).1
theorem a2H(s t:X2):mr s t=1∨mr s t=2∨mr s t=3:=by
 unfold mr;split
 ·split<;>simp
 ·simp
theorem a3K{g:x8}{p:List Int}(hg:S6 g=true)(hp:L2 p=true):(F8 g p).2.2=0/\((F8 g p).2.1=1∨(F8 g p).2.1=2∨(F8 g p).2.1=3):=by
 obtain⟨t,n,s1,_,_,m1,m2,_⟩:=bz hg;unfold F8;rw[hg];simp only[if_true];rcases EU (p:=p) t.1 t.2 n.1 n.2 with ⟨h1,h2⟩|⟨h1,h2|h2⟩
 ·rw[hp]at h1;simp at h1
 ·rw[h2];show(0:Int)=0/\((if H8 g<=ES p (p.length-1)+D9 g then(3:Int)else 2)=1∨(if H8 g<=ES p (p.length-1)+D9 g then(3:Int)else 2)=2∨(if H8 g<=ES p (p.length-1)+D9 g then(3:Int)else 2)=3)
  refine⟨rfl,?_⟩;split<;>simp
 ·have h6:(H6 p (H8 g) (D9 g)).2≠6:=by omega
  unfold xm;rw[if_neg h6,if_pos h2,if_pos (GW h2 s1 m1 m2)];exact⟨rfl,a2H _ _⟩
theorem a4j{g:x8}{p:List Int}(h:S6 g=false∨L2 p=false):(F8 g p).2.2≠0:=fun h0=>by
 obtain⟨h1,h2,_⟩:=GS h0;rw[h1,h2]at h;simp at h
structure A9 where
 author:Int
 gauge:x8
 B0:List Int
 state:Int
structure B8 where
 seq:Int
 recipe:Int
 part:Int
 o9:List Int
 o6:Int
 disputed:Bool
structure o7 where
 keep:Int
 p9:List Int
 recipes:List A9
 next:Int
 log:List B8
abbrev e8(n:Int):List AV:=[u8 n]
abbrev Iy(l:List Int):AV := .sl 1 0 e8 l
def ao:x8:=((((0,0),((0,0),(0,0))),(0,0)),(0,0))
def r9:A9:=⟨0,ao,[],0⟩
def w9:B8:=⟨0,0,0,[],0,false⟩
def eJ(r:A9):List AV:=[i64 r.author,i64 (H8 r.gauge),i64 (D9 r.gauge),i64 (J5 r.gauge).1.1,i64 (J5 r.gauge).1.2,i64 (J5 r.gauge).2.1,i64 (J5 r.gauge).2.2,i64 r.gauge.1.2.1,i64 r.gauge.1.2.2,i64 r.gauge.2.1,i64 r.gauge.2.2,C8 r.B0,u8 r.state]
def V9(s:B8):List AV:=[i64 s.seq,i64 s.recipe,i64 s.part,C8 s.o9,u8 s.o6,.bool s.disputed]
abbrev pJ(l:List A9):AV := .sl 13 r9 eJ l
abbrev mw(l:List B8):AV := .sl 6 w9 V9 l
def eB(b:o7):List AV:=[i64 b.keep,Iy b.p9,pJ b.recipes,i64 b.next,mw b.log]
abbrev au(b:o7):AV := .agg (eB b)
def I7(Uy:List Int)(us:List Int)(u:Int):Bool:=D1 u 0 (us.length-1) && Uy.contains (us.getD u.toNat 0)
def gG(b:o7):Bool:=D1 b.keep 1 32 && D1 b.next 0 1099511627776 && decide ((b.p9.length:Int)<=16) && decide ((b.recipes.length:Int)<=16) && decide ((b.log.length:Int)<=b.keep)
def tN(r:Int):Bool:=decide (r<1) || decide (r > 3)
def iT(b:o7):Bool := !b.p9.any tN
def K8(us:List Int)(l:List Int):Bool:=decide ((l.length:Int) > 1) && l.any (I7 [3] us)
def my(l:List Int)(i:Nat):Int:=if i=0 then -1 else l.getD (i-1) 0
def Kx(us:List Int)(x:A9)(i:Nat):Bool:=decide (my x.B0 i<x.B0.getD i 0) && !decide (x.B0.getD i 0=x.author) && I7 [2,3] us (x.B0.getD i 0)
def pg(us:List Int)(x:A9):Bool:=(List.range x.B0.length).all (Kx us x)
def nH(us:List Int)(x:A9):Bool:=I7 [2] us x.author && S6 x.gauge && D1 x.state 1 4 && (decide (x.state > 1) == K8 us x.B0)
def mz(us:List Int)(x:A9):Bool:=pg us x && nH us x
def C4(l:List A9):Nat:=(l.filter fun x=>decide (x.state=3)).length
def T8(b:o7):Bool:=b.recipes.all (mz b.p9) && decide (C4 b.recipes<=1)
def hH(l:List B8)(i:Nat):Int:=if i=0 then -1 else(l.getD (i-1) w9).seq
def rS(b:o7)(i:Nat):Bool :=
 decide (hH b.log i<(b.log.getD i w9).seq) && decide ((b.log.getD i w9).seq<b.next) && D1 (b.log.getD i w9).recipe 0 (b.recipes.length-1) && D1 (b.log.getD i w9).part 0 1099511627776 &&
  (decide ((F8 (b.recipes.getD (b.log.getD i w9).recipe.toNat r9).gauge (b.log.getD i w9).o9).2.2=0) && decide ((F8 (b.recipes.getD (b.log.getD i w9).recipe.toNat r9).gauge (b.log.getD i w9).o9).2.1=(b.log.getD i w9).o6) &&
   !decide ((b.recipes.getD (b.log.getD i w9).recipe.toNat r9).state=1))
def bM(b:o7):Bool:=(List.range b.log.length).all (rS b)
def E1(b:o7):Bool:=gG b && iT b && T8 b && bM b
theorem ah{p:Nat->Bool}{n:Nat}:(List.range n).all p=true↔∀ i,i<n->p i=true:=by
 rw[List.all_eq_true];exact⟨fun h i hi=>h i (List.mem_range.2 hi),fun h i hi=>h i (List.mem_range.1 hi)⟩
theorem kO{p:Nat->Bool}{n i:Nat}(hi:i<n)(h:p i=false):(List.range n).all p=false:=by
 rw[List.all_eq_false];exact⟨i,List.mem_range.2 hi,by rw[h];decide⟩
theorem mA{α:Type}{p:α->Bool}{l:List α}{d:α}:l.all p=true↔∀ i,i<l.length->p (l.getD i d)=true:=by
 rw[List.all_eq_true];refine⟨fun h i hi=>?_,fun h x hx=>?_⟩
 ·simp only[List.getD,zA6 hi,Option.getD_some];exact h _ (List.getElem_mem hi)
 ·obtain⟨i,hi,rfl⟩:=List.getElem_of_mem hx;have:=h i hi;simpa[List.getD,zA6 hi]using this
theorem NT{α:Type}{p:α->Bool}{l:List α}{d:α}{i:Nat}(hi:i<l.length)(h:p (l.getD i d)=false):l.all p=false:=by
 rw[List.all_eq_false];refine⟨l.getD i d,?_,by rw[h];decide⟩;simp only[List.getD,zA6 hi,Option.getD_some];exact List.getElem_mem hi
theorem zY{us:List Int}{x:A9}(h:pg us x=true):x.B0.length<=us.length:=by
 have h:=ah.1 h;have k:∀ i,i<x.B0.length->(i:Int)<=x.B0.getD i 0/\x.B0.getD i 0<us.length:=by
  intro i
  induction i with
  | zero =>
   intro hi;have:=h 0 hi;simp only[Kx,I7,D1,zA2,zA3,my]at this;omega
  | succ i ih =>
   intro hi;have a:=ih va5;have:=h (i+1) hi;have ep:my x.B0 (i+1)=x.B0.getD i 0:=by simp[my]
   unfold Kx at this;rw[ep]at this;simp only[I7,D1,zA2,zA3]at this;omega
 rcases Nat.eq_zero_or_pos x.B0.length with h0|h0
 ·omega
 ·have:=k (x.B0.length-1) va5;omega

end Go.Proofs.Tryz.My
