/- Helper lemmas. -/
import Derived.Test.YtacahppoighegaaGreatMzExA
set_option linter.unusedVariables false
set_option linter.unusedSimpArgs false
set_option maxRecDepth 100000
set_option maxHeartbeats 0
namespace Go.Proofs.Tryz.My
open Go Go.Ev
def iW(a b:Int×Int):(Int×Int)×Int:=G9 (a.1*b.2+b.1*a.2) (a.2*b.2)
def Z4(a b:Int×Int):(Int×Int)×Int:=G9 (a.1*b.1) (a.2*b.2)
theorem pH{N D:Nat}{b c:Bool}(h:N≠0->b=c):X7 b N D=X7 c N D:=by
 by_cases e:N=0
 ·subst e;cases b<;>cases c<;>simp[X7]
 ·rw[h e]
theorem aF{n d:Int}(hd:0<d):G9 n d=X7 (decide (n<0)) (n.natAbs / Nat.gcd n.natAbs d.natAbs) (d.natAbs / Nat.gcd n.natAbs d.natAbs):=by
 unfold G9;rw[if_neg va5];have:decide (d<0)=false:=zA5 va5;rw[this];simp
theorem jW(k:Nat)(n:Int):((k:Int)*n).natAbs=k*n.natAbs:=by rw[Int.natAbs_mul];simp
theorem qM{k:Nat}(hk:0<k)(n d:Int)(hd:0<d):G9 (k*n) (k*d)=G9 n d:=by
 have XU:0<(k:Int)*d:=Int.mul_pos va5 hd;rw[aF XU,aF hd,jW,jW,Nat.gcd_mul_left,Nat.mul_div_mul_left _ _ hk,Nat.mul_div_mul_left _ _ hk]
 congr 1
 refine decide_eq_decide.2 ⟨fun h=>?_,fun h=>Int.mul_neg_of_pos_of_neg va5 h⟩;by_cases h0:n<0
 ·exact h0
 ·have:0<=(k:Int)*n:=Int.mul_nonneg va5 va5;omega
theorem QD{n m:Int}{g p q:Nat}(h1:Nat.gcd n.natAbs (g*p)=1)(h2:Nat.gcd m.natAbs (g*q)=1)(h3:Nat.gcd p q=1):Nat.gcd (n*q+m*p).natAbs (g*p*q)=Nat.gcd (n*q+m*p).natAbs g:=by
 have cp:Nat.Coprime n.natAbs p:=Nat.Coprime.coprime_mul_left_right h1;have cq:Nat.Coprime m.natAbs q:=Nat.Coprime.coprime_mul_left_right h2;have k1:Nat.Coprime p (n*q+m*p).natAbs:=by
  have h:∀ d:Nat,d ∣ p->d ∣ (n*q+m*p).natAbs->d ∣ n.natAbs*q:=fun d jv mU=>by
   have e1:(d:Int) ∣ n*q+m*p:=Int.ofNat_dvd_left.2 mU;have e2:(d:Int) ∣ m*p:=Int.dvd_trans (Int.natCast_dvd_natCast.2 jv) (Int.dvd_mul_left _ _);have e3:(d:Int) ∣ n*q:=by
    have:=Int.dvd_sub e1 e2;rwa[Int.add_sub_cancel]at this
   have:=Int.ofNat_dvd_left.1 e3;rwa[Int.natAbs_mul,Int.natAbs_natCast]at this
  have d1:=Nat.gcd_dvd_left p (n*q+m*p).natAbs;have d2:=Nat.gcd_dvd_right p (n*q+m*p).natAbs;have d3:=h _ d1 d2;have c:Nat.Coprime p (n.natAbs*q):=Nat.Coprime.mul_right cp.symm h3;exact Nat.dvd_one.1 (c ▸ Nat.dvd_gcd d1 d3)
 have k2:Nat.Coprime q (n*q+m*p).natAbs:=by
  have h:∀ d:Nat,d ∣ q->d ∣ (n*q+m*p).natAbs->d ∣ m.natAbs*p:=fun d jv mU=>by
   have e1:(d:Int) ∣ n*q+m*p:=Int.ofNat_dvd_left.2 mU;have e2:(d:Int) ∣ n*q:=Int.dvd_trans (Int.natCast_dvd_natCast.2 jv) (Int.dvd_mul_left _ _);have e3:(d:Int) ∣ m*p:=by
    have:=Int.dvd_sub e1 e2;rwa[Int.add_comm,Int.add_sub_cancel]at this
   have:=Int.ofNat_dvd_left.1 e3;rwa[Int.natAbs_mul,Int.natAbs_natCast]at this
  have d1:=Nat.gcd_dvd_left q (n*q+m*p).natAbs;have d2:=Nat.gcd_dvd_right q (n*q+m*p).natAbs;have d3:=h _ d1 d2;have c:Nat.Coprime q (m.natAbs*p):=Nat.Coprime.mul_right cq.symm (Nat.Coprime.symm h3);exact Nat.dvd_one.1 (c ▸ Nat.dvd_gcd d1 d3)
 generalize (n*q+m*p).natAbs=t at *
 have e:g*p*q=(p*q)*g:=by rw[Nat.mul_assoc,Nat.mul_comm]
 rw[e];exact Nat.Coprime.gcd_mul_left_cancel_right g (Nat.Coprime.mul_left k1 k2)
theorem QE{a b:Int×Int}(ha:o7 a=true)(hb:o7 b=true)(neg:Bool)(g p q T h:Nat)(hg:g=Nat.gcd a.2.natAbs b.2.natAbs)(hp:p=a.2.natAbs / g)(hq:q=b.2.natAbs / g)(hT:T=(a.1*q+b.1*p).natAbs)(hh:h=Nat.gcd g (T % g))
  (Lw:T≠0->neg=decide (a.1*q+b.1*p<0)):iW a b=X7 neg (T / h) (p*(b.2.natAbs / h)):=by
 rw[A7]at ha hb;obtain⟨n,d⟩:=a;obtain⟨m,e⟩:=b;simp only[]at *
 have pk:0<g:=by rw[hg];exact Nat.gcd_pos_of_pos_left _ va5
 have d1:g*p=d.natAbs:=by rw[hp];exact Nat.mul_div_cancel' (hg ▸ Nat.gcd_dvd_left _ _)
 have d2:g*q=e.natAbs:=by rw[hq];exact Nat.mul_div_cancel' (hg ▸ Nat.gcd_dvd_right _ _)
 have QF:0<p:=by
  rcases Nat.eq_zero_or_pos p with e0|e0
  ·subst e0;omega
  ·exact e0
 have mc:0<q:=by
  rcases Nat.eq_zero_or_pos q with e0|e0
  ·subst e0;omega
  ·exact e0
 have dd:d=(g:Int)*p:=by have:=congrArg (Int.ofNat) d1;simp at this;omega
 have de:e=(g:Int)*q:=by have:=congrArg (Int.ofNat) d2;simp at this;omega
 have cpq:Nat.gcd p q=1:=by
  have:g*Nat.gcd p q=g*1:=by rw[<- Nat.gcd_mul_left,d1,d2,Nat.mul_one];exact hg.symm
  exact Nat.eq_of_mul_eq_mul_left pk this
 have e1:n*e+m*d=(g:Int)*(n*q+m*p):=by rw[dd,de,Int.mul_add,Int.mul_left_comm,Int.mul_left_comm m]
 have e2:d*e=(g:Int)*((g*p*q:Nat):Int):=by
  rw[dd,de];simp only[Int.natCast_mul];rw[Int.mul_assoc,Int.mul_left_comm (p:Int),Int.mul_assoc]
 have hD:0<g*p*q:=Nat.mul_pos (Nat.mul_pos pk QF) mc;unfold iW;simp only[];rw[e1,e2,qM pk _ _ va5,aF va5,Int.natAbs_natCast,QD (by rw[d1];exact ha.2.2.2.2) (by rw[d2];exact hb.2.2.2.2) cpq,<- hT];have Cp:Nat.gcd T g=h:=by rw[hh,Nat.gcd_comm T g,Nat.gcd_rec g T,Nat.gcd_comm]
 rw[Cp];have hdiv:h ∣ g:=hh ▸ Nat.gcd_dvd_left _ _;have e3:g*p*q / h=p*(e.natAbs / h):=by
  rw[<- d2,<- Nat.mul_div_assoc _ (Nat.dvd_trans hdiv (Nat.dvd_mul_right _ _)),Nat.mul_comm g p,Nat.mul_assoc]
 rw[e3];refine pH fun hN=>(Lw fun e0=>hN ?_).symm
 rw[e0,Nat.zero_div]
theorem QG{a b:Int×Int}(ha:o7 a=true)(hb:o7 b=true):Z4 a b=X7 (decide (a.1<0) != decide (b.1<0)) (a.1.natAbs / Nat.gcd a.1.natAbs b.2.natAbs*(b.1.natAbs / Nat.gcd b.1.natAbs a.2.natAbs)) (a.2.natAbs / Nat.gcd b.1.natAbs a.2.natAbs*(b.2.natAbs / Nat.gcd a.1.natAbs b.2.natAbs)):=by
 rw[A7]at ha hb;obtain⟨n,d⟩:=a;obtain⟨m,e⟩:=b;simp only[]at *
 have pk:0<Nat.gcd n.natAbs e.natAbs:=Nat.gcd_pos_of_pos_right _ va5;have QH:0<Nat.gcd m.natAbs d.natAbs:=Nat.gcd_pos_of_pos_right _ va5;have n1:=Nat.mul_div_cancel' (Nat.gcd_dvd_left n.natAbs e.natAbs);have e1:=Nat.mul_div_cancel' (Nat.gcd_dvd_right n.natAbs e.natAbs);have m1:=Nat.mul_div_cancel' (Nat.gcd_dvd_left m.natAbs d.natAbs);have d1:=Nat.mul_div_cancel' (Nat.gcd_dvd_right m.natAbs d.natAbs);have c1:Nat.Coprime (n.natAbs / Nat.gcd n.natAbs e.natAbs) (e.natAbs / Nat.gcd n.natAbs e.natAbs):=Nat.coprime_div_gcd_div_gcd pk;have c2:Nat.Coprime (m.natAbs / Nat.gcd m.natAbs d.natAbs) (d.natAbs / Nat.gcd m.natAbs d.natAbs):=Nat.coprime_div_gcd_div_gcd QH;have a3:Nat.Coprime n.natAbs d.natAbs:=ha.2.2.2.2;have b3:Nat.Coprime m.natAbs e.natAbs:=hb.2.2.2.2;unfold Z4;simp only[];rw[aF (Int.mul_pos va5 va5),Int.natAbs_mul,Int.natAbs_mul];generalize Nat.gcd n.natAbs e.natAbs=g at *
 generalize Nat.gcd m.natAbs d.natAbs=h at *
 generalize n.natAbs / g=n' at *
 generalize e.natAbs / g=e' at *
 generalize m.natAbs / h=m' at *
 generalize d.natAbs / h=d' at *
 have c3:Nat.Coprime n' d':=by
  rw[<- n1,<- d1]at a3;exact Nat.Coprime.coprime_mul_left (Nat.Coprime.coprime_mul_left_right a3)
 have c4:Nat.Coprime m' e':=by
  rw[<- m1,<- e1]at b3;exact Nat.Coprime.coprime_mul_left (Nat.Coprime.coprime_mul_left_right b3)
 have cc:Nat.gcd (n' * m') (d' * e')=1:=Nat.Coprime.mul_left (Nat.Coprime.mul_right c3 c1) (Nat.Coprime.mul_right c2 c4);have x1:n.natAbs*m.natAbs=g*h*(n' * m'):=by rw[<- n1,<- m1];simp only[Nat.mul_assoc,Nat.mul_left_comm,Nat.mul_comm]
 have x2:d.natAbs*e.natAbs=g*h*(d' * e'):=by rw[<- d1,<- e1];simp only[Nat.mul_assoc,Nat.mul_left_comm,Nat.mul_comm]
 rw[x1,x2,Nat.gcd_mul_left,cc,Nat.mul_one,Nat.mul_div_cancel_left _ (Nat.mul_pos pk QH),Nat.mul_div_cancel_left _ (Nat.mul_pos pk QH)];refine pH fun hN=>?_
 have hn:n≠0:=fun e0=>by
  subst e0;have:n'=0:=by
   rcases Nat.mul_eq_zero.1 (show g*n'=0 from n1)with e|e
   ·omega
   ·exact e
  exact hN (by rw[this,Nat.zero_mul])
 have hm':m≠0:=fun e0=>by
  subst e0;have:m'=0:=by
   rcases Nat.mul_eq_zero.1 (show h*m'=0 from m1)with e|e
   ·omega
   ·exact e
  exact hN (by rw[this,Nat.mul_zero])
 by_cases s1:n<0<;>by_cases s2:m<0
 ·have:=Int.mul_pos_of_neg_of_neg s1 s2;simp[s1,s2];omega
 ·have:=Int.mul_neg_of_neg_of_pos s1 (show 0<m by omega);simp[s1,s2,this]
 ·have:=Int.mul_neg_of_pos_of_neg (show 0<n by omega) s2;simp[s1,s2,this]
 ·have:=Int.mul_pos (show 0<n by omega) (show 0<m by omega);simp[s1,s2];omega
theorem M9(n:Int)(h:A4 n):va6 246 [i64 n] (u64 n.natAbs):=by
 unfold A4 at h;refine vb4 Tryz.func246 ?_;refine⟨fun h=>?_,fun h=>?_⟩
 ·have h:=zA1 h;conv=>whnf
  congr 1
  rw[gQ,gQ];omega
 ·have h:=zA0 h;conv=>whnf
  congr 1
  rw[gQ];omega
def bt(n:Int):Int:=if n<0 then -1 else if 0<n then 1 else 0
theorem bg(n:Int):va6 247 [i64 n] (i64 (bt n)):=by
 refine vb4 Tryz.func247 ?_;refine ve6 ?_ ?_ ?_<;>intros
 all_goals
  congr 1
  unfold bt;omega
theorem bQ(x y:Nat)(hx:x<18446744073709551616)(hy:y<18446744073709551616):va6 248 [u64 x,u64 y] (pr (x*y)):=by
 refine vb4 Tryz.func248 ?_
 (first|(refine Or.inl ?_;(conv=>whnf);refine⟨_,gU x y hx hy,?_⟩)|refine⟨_,gU x y hx hy,?_⟩)
 conv=>whnf
theorem tP(x y:Nat)(hx:x<340282366920938463463374607431768211456)(hy:y<340282366920938463463374607431768211456):va6 249 [pr x,pr y] (.bool (decide (x<y))):=by
 refine vb4 Tryz.func249 ?_;refine ve6 ?_ ?_ ?_<;>intros
 all_goals
  congr 1
  refine Eq.symm ?_;first
   | (refine zA4 ?_;rw[gT];omega)
   | (refine zA5 ?_;rw[gT];omega)
   | (refine decide_eq_decide.2 ?_;rw[gT];omega)
theorem nN(x y c:Nat)(hc:c<=1):va6 263 [u64 x,u64 y,u64 c] (.tup [u64 ((x+y+c) % 18446744073709551616),u64 ((x+y+c) / 18446744073709551616)]) :=
 Mr Tryz.func263 va4 va4 va4 va4 x y c hc
theorem tQ(x y c:Nat)(hc:c<=1):va6 269 [u64 x,u64 y,u64 c] (.tup [u64 ((x+18446744073709551616-y-c) % 18446744073709551616),u64 (if x<y+c then 1 else 0)]) :=
 Mt Tryz.func269 va4 va4 va4 va4 x y c hc
theorem nO(x y:Nat)(h:x+y<340282366920938463463374607431768211456):va6 252 [pr x,pr y] (pr (x+y)):=by
 refine vb4 Tryz.func252 ?_
 (first|(refine Or.inl ?_;(conv=>whnf);refine⟨_,nN (x % 18446744073709551616) (y % 18446744073709551616) 0 va5,?_⟩)|refine⟨_,nN (x % 18446744073709551616) (y % 18446744073709551616) 0 va5,?_⟩)
 conv=>whnf
 rw[nF,nF];have e1:(x % 18446744073709551616+y % 18446744073709551616+0) % 18446744073709551616=(x+y) % 18446744073709551616:=by omega
 have e2:((x / 18446744073709551616+y / 18446744073709551616) % 18446744073709551616+(x % 18446744073709551616+y % 18446744073709551616+0) / 18446744073709551616) % 18446744073709551616=(x+y) / 18446744073709551616:=by omega
 rw[e1,e2]
theorem pI(x y:Nat)(hx:x<340282366920938463463374607431768211456)(h:y<=x):va6 253 [pr x,pr y] (pr (x-y)):=by
 refine vb4 Tryz.func253 ?_
 (first|(refine Or.inl ?_;(conv=>whnf);refine⟨_,tQ (x % 18446744073709551616) (y % 18446744073709551616) 0 va5,?_⟩)|refine⟨_,tQ (x % 18446744073709551616) (y % 18446744073709551616) 0 va5,?_⟩)
 conv=>whnf
 rw[xm _ _ va5,xm _ _ (by split<;>omega)];have e1:(x % 18446744073709551616+18446744073709551616-y % 18446744073709551616-0) % 18446744073709551616=(x-y) % 18446744073709551616:=by omega
 have e2:((x / 18446744073709551616+(18446744073709551616-y / 18446744073709551616)) % 18446744073709551616+(18446744073709551616-(if x % 18446744073709551616<y % 18446744073709551616+0 then 1 else 0))) % 18446744073709551616=(x-y) / 18446744073709551616:=by split<;>omega
 rw[e1,e2]
theorem IX(x c:Nat)(hc:c<18446744073709551616)(h:x+c<340282366920938463463374607431768211456):va6 252 [pr x,.agg [.int .u64 0,u64 c]] (pr (x+c)):=by
 rw[<- eC c hc];exact nO x c h
theorem xy(a:Nat)(ha:a<18446744073709551616):bits .and .u64 (a:Int) 1=((a % 2:Nat):Int):=by
 have:=ts a 1 ha va8;rw[Nat.and_one_is_mod]at this;exact this
theorem QI(x:Nat)(i:Nat)(hx:x<340282366920938463463374607431768211456)(hi:i<128):va6 277 [pr x,i64 i] (u64 (x / 2^i % 2)):=by
 refine vb4 Tryz.func277 ?_;refine⟨fun h=>?_,fun h=>?_⟩
 ·have h:=zA1 h;conv=>whnf
  have e:IntKind.i64.wrap ((i:Int)-64)=((i-64:Nat):Int):=by rw[wi _ va5 va5];omega
  rw[e];refine⟨va5,vb3 ?_⟩;rw[qJ _ _ va5,xy _ (Nat.lt_of_le_of_lt (Nat.div_le_self _ _) va5)]
  congr 3
  have e2:2^i=18446744073709551616*2^(i-64):=by rw[show 18446744073709551616=2^64 by decide,<- Nat.pow_add];congr 1;omega
  rw[e2,Nat.div_div_eq_div_mul]
 ·have h:=zA0 h;conv=>whnf
  refine⟨va5,vb3 ?_⟩;rw[qJ _ _ va5,xy _ (Nat.lt_of_le_of_lt (Nat.div_le_self _ _) va5)];have e2:18446744073709551616=2^i*(2*2^(63-i)):=by
   rw[show 18446744073709551616=2^64 by decide,<- Nat.pow_succ',<- Nat.pow_add];congr 1;omega
  have e3:x % 18446744073709551616 / 2^i % 2=x / 2^i % 2:=by rw[e2,Nat.mod_mul_right_div_self,Nat.mod_mul_right_mod]
  rw[e3]
theorem MQ(a:Nat)(k:Nat):a / 2^k=2*(a / 2^(k+1))+a / 2^k % 2:=by
 have:a / 2^(k+1)=a / 2^k / 2:=by rw[Nat.pow_succ,Nat.div_div_eq_div_mul]
 omega
theorem IY(a b k:Nat)(hb:0<b):(b<=2*(a / 2^(k+1) % b)+a / 2^k % 2->a / 2^k / b=2*(a / 2^(k+1) / b)+1/\a / 2^k % b=2*(a / 2^(k+1) % b)+a / 2^k % 2-b) /\
  (2*(a / 2^(k+1) % b)+a / 2^k % 2<b->a / 2^k / b=2*(a / 2^(k+1) / b)/\a / 2^k % b=2*(a / 2^(k+1) % b)+a / 2^k % 2):=by
 have h1:=MQ a k;have h2:=Nat.div_add_mod (a / 2^(k+1)) b;have h3:=Nat.mod_lt (a / 2^(k+1)) hb;have h4:a / 2^k % 2<2:=Nat.mod_lt _ va5;generalize a / 2^(k+1) % b=r at *
 generalize hq:a / 2^(k+1) / b=q at *
 generalize a / 2^(k+1)=t at *
 generalize a / 2^k % 2=c at *
 generalize a / 2^k=s at *
 have hs:s=b*(2*q)+(2*r+c):=by rw[h1,<- h2,Nat.mul_add,Nat.mul_left_comm];omega
 constructor
 ·intro h;have hs2:s=b*(2*q+1)+(2*r+c-b):=by rw[hs,Nat.mul_add,Nat.mul_one];omega
  constructor
  ·rw[hs2,Nat.mul_add_div hb,Nat.div_eq_of_lt va5]
  ·rw[hs2,Nat.mul_add_mod,Nat.mod_eq_of_lt va5]
 ·intro h
  constructor
  ·rw[hs,Nat.mul_add_div hb,Nat.div_eq_of_lt va5];omega
  ·rw[hs,Nat.mul_add_mod,Nat.mod_eq_of_lt va5]
abbrev cW(n:Nat):Row := .cells 317 [u64 (n / 18446744073709551616),u64 (n % 18446744073709551616)]
theorem pJ(a b:Nat)(ha:a<340282366920938463463374607431768211456)(hb:0<b)(cJ:b<170141183460469231731687303715884105728):va6 267 [pr a,pr b] (.tup [pr (a / b),pr (a % b)]):=by
 refine vb4 Tryz.func267 ?_;refine Or.inr ⟨Nat,[8],[6,7],[],fun k=>[i64 ((k:Int)-1)],fun k=>[cW (a / 2^k / b),cW (a / 2^k % b)],fun _=>[],fun k=>k,fun k=>k<=128,vb3 ?_⟩;refine⟨⟨128,?_⟩,?_⟩
 ·have e:a / 2^128=0:=Nat.div_eq_of_lt (by rw[show(2:Nat)^128=340282366920938463463374607431768211456 by decide];exact ha);conv=>whnf
  refine kK ⟨va5,rfl,?_,rfl⟩;show [cW 0,cW 0]=[cW (a / 2^128 / b),cW (a / 2^128 % b)]
  rw[e,Nat.zero_div,Nat.zero_mod]
 ·intro k hk;conv=>whnf
  refine⟨fun h=>?_,fun h=>?_⟩
  ·have h:=zA1 h;obtain⟨k,rfl⟩:∃ j,k=j+1:=⟨k-1,va5⟩
   have ps:=IY a b k hb;have hq:a / 2^(k+1) / b<=340282366920938463463374607431768211456:=by
    have:=Nat.div_le_self (a / 2^(k+1)) b;have:=Nat.div_le_self a (2^(k+1));omega
   have Ib:a / 2^k / b<340282366920938463463374607431768211456:=by
    have:=Nat.div_le_self (a / 2^k) b;have:=Nat.div_le_self a (2^k);omega
   have hr:=Nat.mod_lt (a / 2^(k+1)) hb;have hc:a / 2^k % 2<2:=Nat.mod_lt _ va5;have a07:=QI a k ha va5;have e1:((k+1:Nat):Int)-1=k:=by omega
   conv=>whnf
   rw[e1];generalize gq:a / 2^k / b=q' at *
   generalize gr:a / 2^k % b=r' at *
   generalize a / 2^(k+1) / b=q at *
   generalize a / 2^(k+1) % b=r at *
   generalize a / 2^k % 2=c at *
   conv=>whnf
   have hqq:q+q<340282366920938463463374607431768211456:=by
    by_cases rO:b<=2*r+c
    ·have:=(ps.1 rO).1;omega
    ·have:=(ps.2 va5).1;omega
   have m1:=pI (r+r+c) b;(repeat' ((first|refine va0 (fun hh=>?_) fun hh=>?_|refine kR ?_|((try refine .inl ?_;conv=>whnf);(try refine⟨false,?_⟩;conv=>whnf);refine⟨_,by first|assumption|exact nO r r va5|exact IX (r+r) c va5 va5|exact nO q q hqq|exact tP (r+r+c) b va5 va5,?_⟩)|fail)<;>first|exact hh.elim|conv=>whnf))
   ·(repeat' ((first|refine va0 (fun hh=>?_) fun hh=>?_|refine kR ?_|((try refine .inl ?_;conv=>whnf);(try refine⟨false,?_⟩;conv=>whnf);refine⟨_,by exact m1 va5 va5,?_⟩)|fail)<;>first|exact hh.elim|conv=>whnf));refine⟨k,?_⟩;obtain⟨p1,p2⟩:=ps.1 va5;conv=>whnf
    refine kK ⟨⟨Nat.lt_succ_self k,Nat.le_of_succ_le hk⟩,?_,?_,rfl⟩
    ·rw[wi _ va5 va5]
    ·have e2:IntKind.u64.wrap ((((q+q) % 18446744073709551616:Nat):Int)+1)=((q' % 18446744073709551616:Nat):Int):=by
      rw[gQ];omega
     have e3:(q+q) / 18446744073709551616=q' / 18446744073709551616:=by omega
     have e4:r+r+c-b=r':=by omega
     show _=[cW (a / 2^k / b),cW (a / 2^k % b)]
     rw[e2,e3,e4,gq,gr]
   ·refine⟨k,?_⟩;obtain⟨p1,p2⟩:=ps.2 va5;conv=>whnf
    refine kK ⟨⟨Nat.lt_succ_self k,Nat.le_of_succ_le hk⟩,?_,?_,rfl⟩
    ·rw[wi _ va5 va5]
    ·have e3:q+q=q':=by omega
     have e4:r+r+c=r':=by omega
     show _=[cW (a / 2^k / b),cW (a / 2^k % b)]
     rw[e3,e4,gq,gr]
  ·have h:=zA0 h;have:k=0:=by omega
   subst this;conv=>whnf
   refine ve4 ?_;intros;rw[Nat.pow_zero,Nat.div_one]
theorem QJ(x y:Nat)(h:x+y<340282366920938463463374607431768211456):va6 274 [pr x,pr y] (pr (x+y)):=by
 refine vb4 Tryz.func274 ?_;(repeat' ((first|refine va0 (fun hh=>?_) fun hh=>?_|refine kR ?_|((try refine .inl ?_;conv=>whnf);(try refine⟨false,?_⟩;conv=>whnf);refine⟨_,by exact nN (x % 18446744073709551616) (y % 18446744073709551616) 0 va5,?_⟩)|fail)<;>first|exact hh.elim|conv=>whnf));rw[nF,nF];have e1:(x % 18446744073709551616+y % 18446744073709551616+0) % 18446744073709551616=(x+y) % 18446744073709551616:=by omega
 have e2:((x / 18446744073709551616+y / 18446744073709551616) % 18446744073709551616+(x % 18446744073709551616+y % 18446744073709551616+0) / 18446744073709551616) % 18446744073709551616=(x+y) / 18446744073709551616:=by omega
 rw[e1,e2]
theorem GZ(x y:Nat)(hx:x<340282366920938463463374607431768211456)(h:y<=x):va6 275 [pr x,pr y] (pr (x-y)):=by
 refine vb4 Tryz.func275 ?_;(repeat' ((first|refine va0 (fun hh=>?_) fun hh=>?_|refine kR ?_|((try refine .inl ?_;conv=>whnf);(try refine⟨false,?_⟩;conv=>whnf);refine⟨_,by exact tQ (x % 18446744073709551616) (y % 18446744073709551616) 0 va5,?_⟩)|fail)<;>first|exact hh.elim|conv=>whnf));rw[xm _ _ va5,xm _ _ (by split<;>omega)];have e1:(x % 18446744073709551616+18446744073709551616-y % 18446744073709551616-0) % 18446744073709551616=(x-y) % 18446744073709551616:=by omega
 have e2:((x / 18446744073709551616+(18446744073709551616-y / 18446744073709551616)) % 18446744073709551616+(18446744073709551616-(if x % 18446744073709551616<y % 18446744073709551616+0 then 1 else 0))) % 18446744073709551616=(x-y) / 18446744073709551616:=by split<;>omega
 rw[e1,e2]
theorem MR(a:Int×Int)(h:o7 a=true):va6 261 [fr a] (fr (-a.1,a.2)):=by
 have:=(A7 a).1 h;refine vb4 Tryz.func261 ?_;refine ve4 ?_;intros;rw[wi _ va5 va5,show 0-a.1 = -a.1 by omega]
theorem MS(a b:Int×Int)(ha:o7 a=true)(hb:o7 b=true):va6 197 [fr a,fr b] (.tup [fr (Z4 a b).1,i64 (Z4 a b).2]):=by
 rw[QG ha hb];have va:=(A7 a).1 ha;have vb:=(A7 b).1 hb;obtain⟨n,d⟩:=a;obtain⟨m,e⟩:=b;simp only[]at *
 have i1:A4 n:=by unfold A4;omega
 have i2:A4 d:=by unfold A4;omega
 have i3:A4 m:=by unfold A4;omega
 have i4:A4 e:=by unfold A4;omega
 have c1:=pC n.natAbs e.natAbs va5 va5;have c2:=pC m.natAbs d.natAbs va5 va5;have pk:0<Nat.gcd n.natAbs e.natAbs:=Nat.gcd_pos_of_pos_right _ va5;have QH:0<Nat.gcd m.natAbs d.natAbs:=Nat.gcd_pos_of_pos_right _ va5;generalize Nat.gcd n.natAbs e.natAbs=g at *
 generalize Nat.gcd m.natAbs d.natAbs=h at *
 have l1:n.natAbs / g<=4611686018427387903:=Nat.le_trans (Nat.div_le_self _ _) va5;have l2:e.natAbs / g<=4611686018427387903:=Nat.le_trans (Nat.div_le_self _ _) va5;have l3:m.natAbs / h<=4611686018427387903:=Nat.le_trans (Nat.div_le_self _ _) va5;have l4:d.natAbs / h<=4611686018427387903:=Nat.le_trans (Nat.div_le_self _ _) va5;have p1:=ax (n.natAbs / g) (m.natAbs / h) va5 va5;have p2:=ax (d.natAbs / h) (e.natAbs / g) va5 va5;have hx:n.natAbs / g*(m.natAbs / h)<340282366920938463463374607431768211456:=Nat.lt_of_le_of_lt (Nat.mul_le_mul l1 l3) va8;have hy:d.natAbs / h*(e.natAbs / g)<340282366920938463463374607431768211456:=Nat.lt_of_le_of_lt (Nat.mul_le_mul l4 l2) va8;have cm:=zH (decide (n<0) != decide (m<0)) _ _ hx hy;refine vb4 Tryz.func197 ?_;have cZ:=M0 n i1;have cZ:=M0 d i2;have cZ:=M0 m i3;have cZ:=M0 e i4;refine vc6 ?_;intros;rw[jn _ _ va5,jn _ _ va5];have cZ:=M0 d i2;have cZ:=M0 e i4;refine vc6 ?_;intros;rw[jn _ _ va5,jn _ _ va5];try exact va1

end Go.Proofs.Tryz.My
