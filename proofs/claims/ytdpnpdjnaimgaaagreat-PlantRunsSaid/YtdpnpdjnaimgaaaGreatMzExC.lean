/- Helper lemmas. -/
import Derived.Test.YtdpnpdjnaimgaaaGreatMzRf1
set_option linter.unusedVariables false
set_option linter.unusedSimpArgs false
set_option maxRecDepth 100000
set_option maxHeartbeats 0
namespace Go.Proofs.Tryz.My
open Go Go.Ev
def lZ(a b:Int×Int):(Int×Int)×Int:=M9 (a.1*b.2+b.1*a.2) (a.2*b.2)
def gC(a b:Int×Int):(Int×Int)×Int:=M9 (a.1*b.1) (a.2*b.2)
theorem nC{N D:Nat}{b c:Bool}(h:N≠0->b=c):ab b N D=ab c N D:=by
 by_cases e:N=0
 ·subst e;cases b<;>cases c<;>simp[ab]
 ·rw[h e]
theorem bm{n d:Int}(hd:0<d):M9 n d=ab (decide (n<0)) (n.natAbs / Nat.gcd n.natAbs d.natAbs) (d.natAbs / Nat.gcd n.natAbs d.natAbs):=by
 unfold M9;rw[if_neg va5];have:decide (d<0)=false:=zA5 va5;rw[this];simp
theorem iO(k:Nat)(n:Int):((k:Int)*n).natAbs=k*n.natAbs:=by rw[Int.natAbs_mul];simp
theorem oW{k:Nat}(hk:0<k)(n d:Int)(hd:0<d):M9 (k*n) (k*d)=M9 n d:=by
 have Ur:0<(k:Int)*d:=Int.mul_pos va5 hd;rw[bm Ur,bm hd,iO,iO,Nat.gcd_mul_left,Nat.mul_div_mul_left _ _ hk,Nat.mul_div_mul_left _ _ hk]
 congr 1
 refine decide_eq_decide.2 ⟨fun h=>?_,fun h=>Int.mul_neg_of_pos_of_neg va5 h⟩;by_cases h0:n<0
 ·exact h0
 ·have:0<=(k:Int)*n:=Int.mul_nonneg va5 va5;omega
theorem NA{n m:Int}{g p q:Nat}(h1:Nat.gcd n.natAbs (g*p)=1)(h2:Nat.gcd m.natAbs (g*q)=1)(h3:Nat.gcd p q=1):Nat.gcd (n*q+m*p).natAbs (g*p*q)=Nat.gcd (n*q+m*p).natAbs g:=by
 have cp:Nat.Coprime n.natAbs p:=Nat.Coprime.coprime_mul_left_right h1;have cq:Nat.Coprime m.natAbs q:=Nat.Coprime.coprime_mul_left_right h2;have k1:Nat.Coprime p (n*q+m*p).natAbs:=by
  have h:∀ d:Nat,d ∣ p->d ∣ (n*q+m*p).natAbs->d ∣ n.natAbs*q:=fun d kC qD=>by
   have e1:(d:Int) ∣ n*q+m*p:=Int.ofNat_dvd_left.2 qD;have e2:(d:Int) ∣ m*p:=Int.dvd_trans (Int.natCast_dvd_natCast.2 kC) (Int.dvd_mul_left _ _);have e3:(d:Int) ∣ n*q:=by
    have:=Int.dvd_sub e1 e2;rwa[Int.add_sub_cancel]at this
   have:=Int.ofNat_dvd_left.1 e3;rwa[Int.natAbs_mul,Int.natAbs_natCast]at this
  have d1:=Nat.gcd_dvd_left p (n*q+m*p).natAbs;have d2:=Nat.gcd_dvd_right p (n*q+m*p).natAbs;have d3:=h _ d1 d2;have c:Nat.Coprime p (n.natAbs*q):=Nat.Coprime.mul_right cp.symm h3;exact Nat.dvd_one.1 (c ▸ Nat.dvd_gcd d1 d3)
 have k2:Nat.Coprime q (n*q+m*p).natAbs:=by
  have h:∀ d:Nat,d ∣ q->d ∣ (n*q+m*p).natAbs->d ∣ m.natAbs*p:=fun d kC qD=>by
   have e1:(d:Int) ∣ n*q+m*p:=Int.ofNat_dvd_left.2 qD;have e2:(d:Int) ∣ n*q:=Int.dvd_trans (Int.natCast_dvd_natCast.2 kC) (Int.dvd_mul_left _ _);have e3:(d:Int) ∣ m*p:=by
    have:=Int.dvd_sub e1 e2;rwa[Int.add_comm,Int.add_sub_cancel]at this
   have:=Int.ofNat_dvd_left.1 e3;rwa[Int.natAbs_mul,Int.natAbs_natCast]at this
  have d1:=Nat.gcd_dvd_left q (n*q+m*p).natAbs;have d2:=Nat.gcd_dvd_right q (n*q+m*p).natAbs;have d3:=h _ d1 d2;have c:Nat.Coprime q (m.natAbs*p):=Nat.Coprime.mul_right cq.symm (Nat.Coprime.symm h3);exact Nat.dvd_one.1 (c ▸ Nat.dvd_gcd d1 d3)
 generalize (n*q+m*p).natAbs=t at *
 have e:g*p*q=(p*q)*g:=by rw[Nat.mul_assoc,Nat.mul_comm]
 rw[e];exact Nat.Coprime.gcd_mul_left_cancel_right g (Nat.Coprime.mul_left k1 k2)
theorem NB{a b:Int×Int}(ha:r7 a=true)(hb:r7 b=true)(neg:Bool)(g p q T h:Nat)(hg:g=Nat.gcd a.2.natAbs b.2.natAbs)(hp:p=a.2.natAbs / g)(hq:q=b.2.natAbs / g)(hT:T=(a.1*q+b.1*p).natAbs)(hh:h=Nat.gcd g (T % g))
  (IS:T≠0->neg=decide (a.1*q+b.1*p<0)):lZ a b=ab neg (T / h) (p*(b.2.natAbs / h)):=by
 rw[F6]at ha hb;obtain⟨n,d⟩:=a;obtain⟨m,e⟩:=b;simp only[]at *
 have nf:0<g:=by rw[hg];exact Nat.gcd_pos_of_pos_left _ va5
 have d1:g*p=d.natAbs:=by rw[hp];exact Nat.mul_div_cancel' (hg ▸ Nat.gcd_dvd_left _ _)
 have d2:g*q=e.natAbs:=by rw[hq];exact Nat.mul_div_cancel' (hg ▸ Nat.gcd_dvd_right _ _)
 have Us:0<p:=by
  rcases Nat.eq_zero_or_pos p with e0|e0
  ·subst e0;omega
  ·exact e0
 have oM:0<q:=by
  rcases Nat.eq_zero_or_pos q with e0|e0
  ·subst e0;omega
  ·exact e0
 have dd:d=(g:Int)*p:=by have:=congrArg (Int.ofNat) d1;simp at this;omega
 have de:e=(g:Int)*q:=by have:=congrArg (Int.ofNat) d2;simp at this;omega
 have cpq:Nat.gcd p q=1:=by
  have:g*Nat.gcd p q=g*1:=by rw[<- Nat.gcd_mul_left,d1,d2,Nat.mul_one];exact hg.symm
  exact Nat.eq_of_mul_eq_mul_left nf this
 have e1:n*e+m*d=(g:Int)*(n*q+m*p):=by rw[dd,de,Int.mul_add,Int.mul_left_comm,Int.mul_left_comm m]
 have e2:d*e=(g:Int)*((g*p*q:Nat):Int):=by
  rw[dd,de];simp only[Int.natCast_mul];rw[Int.mul_assoc,Int.mul_left_comm (p:Int),Int.mul_assoc]
 have hD:0<g*p*q:=Nat.mul_pos (Nat.mul_pos nf Us) oM;unfold lZ;simp only[];rw[e1,e2,oW nf _ _ va5,bm va5,Int.natAbs_natCast,NA (by rw[d1];exact ha.2.2.2.2) (by rw[d2];exact hb.2.2.2.2) cpq,<- hT];have NC:Nat.gcd T g=h:=by rw[hh,Nat.gcd_comm T g,Nat.gcd_rec g T,Nat.gcd_comm]
 rw[NC];have hdiv:h ∣ g:=hh ▸ Nat.gcd_dvd_left _ _;have e3:g*p*q / h=p*(e.natAbs / h):=by
  rw[<- d2,<- Nat.mul_div_assoc _ (Nat.dvd_trans hdiv (Nat.dvd_mul_right _ _)),Nat.mul_comm g p,Nat.mul_assoc]
 rw[e3];refine nC fun hN=>(IS fun e0=>hN ?_).symm
 rw[e0,Nat.zero_div]
theorem ND{a b:Int×Int}(ha:r7 a=true)(hb:r7 b=true):gC a b=ab (decide (a.1<0) != decide (b.1<0)) (a.1.natAbs / Nat.gcd a.1.natAbs b.2.natAbs*(b.1.natAbs / Nat.gcd b.1.natAbs a.2.natAbs)) (a.2.natAbs / Nat.gcd b.1.natAbs a.2.natAbs*(b.2.natAbs / Nat.gcd a.1.natAbs b.2.natAbs)):=by
 rw[F6]at ha hb;obtain⟨n,d⟩:=a;obtain⟨m,e⟩:=b;simp only[]at *
 have nf:0<Nat.gcd n.natAbs e.natAbs:=Nat.gcd_pos_of_pos_right _ va5;have NF:0<Nat.gcd m.natAbs d.natAbs:=Nat.gcd_pos_of_pos_right _ va5;have n1:=Nat.mul_div_cancel' (Nat.gcd_dvd_left n.natAbs e.natAbs);have e1:=Nat.mul_div_cancel' (Nat.gcd_dvd_right n.natAbs e.natAbs);have m1:=Nat.mul_div_cancel' (Nat.gcd_dvd_left m.natAbs d.natAbs);have d1:=Nat.mul_div_cancel' (Nat.gcd_dvd_right m.natAbs d.natAbs);have c1:Nat.Coprime (n.natAbs / Nat.gcd n.natAbs e.natAbs) (e.natAbs / Nat.gcd n.natAbs e.natAbs):=Nat.coprime_div_gcd_div_gcd nf;have c2:Nat.Coprime (m.natAbs / Nat.gcd m.natAbs d.natAbs) (d.natAbs / Nat.gcd m.natAbs d.natAbs):=Nat.coprime_div_gcd_div_gcd NF;have a3:Nat.Coprime n.natAbs d.natAbs:=ha.2.2.2.2;have b3:Nat.Coprime m.natAbs e.natAbs:=hb.2.2.2.2;unfold gC;simp only[];rw[bm (Int.mul_pos va5 va5),Int.natAbs_mul,Int.natAbs_mul];generalize Nat.gcd n.natAbs e.natAbs=g at *
 generalize Nat.gcd m.natAbs d.natAbs=h at *
 generalize n.natAbs / g=n' at *
 generalize e.natAbs / g=e' at *
 generalize m.natAbs / h=m' at *
 generalize d.natAbs / h=d' at *
 have c3:Nat.Coprime n' d':=by
  rw[<- n1,<- d1]at a3;exact Nat.Coprime.coprime_mul_left (Nat.Coprime.coprime_mul_left_right a3)
 have c4:Nat.Coprime m' e':=by
  rw[<- m1,<- e1]at b3;exact Nat.Coprime.coprime_mul_left (Nat.Coprime.coprime_mul_left_right b3)
 have cc:Nat.gcd (n' * m') (d' * e')=1:=Nat.Coprime.mul_left (Nat.Coprime.mul_right c3 c1) (Nat.Coprime.mul_right c2 c4);have x1:n.natAbs*m.natAbs=g*h*(n' * m'):=by rw[<- n1,<- m1];simp only[Nat.mul_assoc,Nat.mul_left_comm,Nat.mul_comm]
 have x2:d.natAbs*e.natAbs=g*h*(d' * e'):=by rw[<- d1,<- e1];simp only[Nat.mul_assoc,Nat.mul_left_comm,Nat.mul_comm]
 rw[x1,x2,Nat.gcd_mul_left,cc,Nat.mul_one,Nat.mul_div_cancel_left _ (Nat.mul_pos nf NF),Nat.mul_div_cancel_left _ (Nat.mul_pos nf NF)];refine nC fun hN=>?_
 have hn:n≠0:=fun e0=>by
  subst e0;have:n'=0:=by
   rcases Nat.mul_eq_zero.1 (show g*n'=0 from n1)with e|e
   ·omega
   ·exact e
  exact hN (by rw[this,Nat.zero_mul])
 have Yc:m≠0:=fun e0=>by
  subst e0;have:m'=0:=by
   rcases Nat.mul_eq_zero.1 (show h*m'=0 from m1)with e|e
   ·omega
   ·exact e
  exact hN (by rw[this,Nat.mul_zero])
 by_cases s1:n<0<;>by_cases s2:m<0
 ·have:=Int.mul_pos_of_neg_of_neg s1 s2;simp[s1,s2];omega
 ·have:=Int.mul_neg_of_neg_of_pos s1 (show 0<m by omega);simp[s1,s2,this]
 ·have:=Int.mul_neg_of_pos_of_neg (show 0<n by omega) s2;simp[s1,s2,this]
 ·have:=Int.mul_pos (show 0<n by omega) (show 0<m by omega);simp[s1,s2];omega
theorem NG(x y:Nat)(h:x+y<340282366920938463463374607431768211456):va6 290 [pr x,pr y] (pr (x+y)):=by
 refine pF Tryz.func290 ?_;conv=>whnf
 (repeat' ((first|refine va0 (fun hh=>?_) fun hh=>?_|refine kR ?_|((try refine .inl ?_;conv=>whnf);(try refine⟨false,?_⟩;conv=>whnf);refine⟨_,by exact zI (x % 18446744073709551616) (y % 18446744073709551616) 0 va5,?_⟩)|fail)<;>first|exact hh.elim|conv=>whnf));rw[a0x,a0x];have e1:(x % 18446744073709551616+y % 18446744073709551616+0) % 18446744073709551616=(x+y) % 18446744073709551616:=by omega
 have e2:((x / 18446744073709551616+y / 18446744073709551616) % 18446744073709551616+(x % 18446744073709551616+y % 18446744073709551616+0) / 18446744073709551616) % 18446744073709551616=(x+y) / 18446744073709551616:=by omega
 rw[e1,e2]
theorem EI(x y:Nat)(hx:x<340282366920938463463374607431768211456)(h:y<=x):va6 291 [pr x,pr y] (pr (x-y)):=by
 refine pF Tryz.func291 ?_;conv=>whnf
 (repeat' ((first|refine va0 (fun hh=>?_) fun hh=>?_|refine kR ?_|((try refine .inl ?_;conv=>whnf);(try refine⟨false,?_⟩;conv=>whnf);refine⟨_,by exact Ke (x % 18446744073709551616) (y % 18446744073709551616) 0 va5,?_⟩)|fail)<;>first|exact hh.elim|conv=>whnf));rw[Ew _ _ va5,Ew _ _ (by split<;>omega)];have e1:(x % 18446744073709551616+18446744073709551616-y % 18446744073709551616-0) % 18446744073709551616=(x-y) % 18446744073709551616:=by omega
 have e2:((x / 18446744073709551616+(18446744073709551616-y / 18446744073709551616)) % 18446744073709551616+(18446744073709551616-(if x % 18446744073709551616<y % 18446744073709551616+0 then 1 else 0))) % 18446744073709551616=(x-y) / 18446744073709551616:=by split<;>omega
 rw[e1,e2]
theorem Kh(a:Int×Int)(h:r7 a=true):va6 251 [fr a] (fr (-a.1,a.2)):=by
 have:=(F6 a).1 h;refine pF Tryz.func251 ?_;conv=>whnf
 refine vb8 ?_;(repeat intro hh);rw[wi _ va5 va5,show 0-a.1 = -a.1 by omega]
theorem Ki(a b:Int×Int)(ha:r7 a=true)(hb:r7 b=true):va6 147 [fr a,fr b] (.tup [fr (gC a b).1,i64 (gC a b).2]):=by
 rw[ND ha hb];have va:=(F6 a).1 ha;have vb:=(F6 b).1 hb;obtain⟨n,d⟩:=a;obtain⟨m,e⟩:=b;simp only[]at *
 have i1:G7 n:=by unfold G7;omega
 have i2:G7 d:=by unfold G7;omega
 have i3:G7 m:=by unfold G7;omega
 have i4:G7 e:=by unfold G7;omega
 have c1:=ny n.natAbs e.natAbs va5 va5;have c2:=ny m.natAbs d.natAbs va5 va5;have nf:0<Nat.gcd n.natAbs e.natAbs:=Nat.gcd_pos_of_pos_right _ va5;have NF:0<Nat.gcd m.natAbs d.natAbs:=Nat.gcd_pos_of_pos_right _ va5;generalize Nat.gcd n.natAbs e.natAbs=g at *
 generalize Nat.gcd m.natAbs d.natAbs=h at *
 have l1:n.natAbs / g<=4611686018427387903:=Nat.le_trans (Nat.div_le_self _ _) va5;have l2:e.natAbs / g<=4611686018427387903:=Nat.le_trans (Nat.div_le_self _ _) va5;have l3:m.natAbs / h<=4611686018427387903:=Nat.le_trans (Nat.div_le_self _ _) va5;have l4:d.natAbs / h<=4611686018427387903:=Nat.le_trans (Nat.div_le_self _ _) va5;have p1:=Z1 (n.natAbs / g) (m.natAbs / h) va5 va5;have p2:=Z1 (d.natAbs / h) (e.natAbs / g) va5 va5;have hx:n.natAbs / g*(m.natAbs / h)<340282366920938463463374607431768211456:=Nat.lt_of_le_of_lt (Nat.mul_le_mul l1 l3) va8;have hy:d.natAbs / h*(e.natAbs / g)<340282366920938463463374607431768211456:=Nat.lt_of_le_of_lt (Nat.mul_le_mul l4 l2) va8;have cm:=xb (decide (n<0) != decide (m<0)) _ _ hx hy;refine pF Tryz.func147 ?_;conv=>whnf
 (repeat' ((first|refine va0 (fun hh=>?_) fun hh=>?_|refine kR ?_|((try refine .inl ?_;conv=>whnf);(try refine⟨false,?_⟩;conv=>whnf);refine⟨_,by first|assumption|exact L1 n i1|exact L1 d i2|exact L1 m i3|exact L1 e i4,?_⟩)|fail)<;>first|exact hh.elim|conv=>whnf));rw[gX _ _ va5,gX _ _ va5];(repeat' ((first|refine va0 (fun hh=>?_) fun hh=>?_|refine kR ?_|((try refine .inl ?_;conv=>whnf);(try refine⟨false,?_⟩;conv=>whnf);refine⟨_,by first|assumption|exact L1 d i2|exact L1 e i4,?_⟩)|fail)<;>first|exact hh.elim|conv=>whnf));rw[gX _ _ va5,gX _ _ va5];try exact va1

end Go.Proofs.Tryz.My
