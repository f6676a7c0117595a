/- Helper lemmas. -/
import Derived.Test.YtdpnpdjnaimgaaaGreatMzDvA
set_option linter.unusedVariables false
set_option linter.unusedSimpArgs false
set_option maxRecDepth 100000
set_option maxHeartbeats 0
namespace Go.Proofs.Tryz.My
open Go Go.Ev
theorem nD{y v w q r f B:Nat}(hy:0<y)(h1:q*y+r=v)(h2:w=v*B+f):q*B+(r*B+f) / y=w / y/\(r*B+f) % y=w % y:=by
 have e1:w=(r*B+f)+y*(q*B):=by
  have:y*(q*B)=q*y*B:=by rw[Nat.mul_left_comm,<- Nat.mul_assoc]
  rw[this,h2,<- h1,Nat.add_mul];omega
 have k1:=Nat.add_mul_div_left (r*B+f) (q*B) hy;have k2:=Nat.add_mul_mod_self_left (r*B+f) y (q*B);rw[<- e1]at k1 k2;exact⟨(Nat.add_comm _ _).trans k1.symm,k2.symm⟩
theorem GC{x d W:Nat}(hd:0<d)(hW:0<W):x / d=x / W / d*W+(x / W % d*W+x % W) / d/\x % d=(x / W % d*W+x % W) % d/\(x / W % d*W+x % W) / d<W:=by
 have h1:=Nat.div_add_mod' (x / W) d;have h2:=Nat.div_add_mod' x W;have h3:=nD (y:=d) (v:=x / W) (w:=x) (q:=x / W / d) (r:=x / W % d) (f:=x % W) (B:=W) hd h1 h2.symm;refine⟨h3.1.symm,h3.2.symm,?_⟩;refine(Nat.div_lt_iff_lt_mul hd).2 ?_;have h4:=Nat.mod_lt x hW;have h5:(x / W % d+1)*W<=d*W:=Nat.mul_le_mul_right _ (Nat.mod_lt _ hd);rw[Nat.add_mul,Nat.one_mul]at h5;rw[Nat.mul_comm W d];omega
theorem EL(x d:Nat)(hx:x<340282366920938463463374607431768211456)(hd:0<d)(qD:d<18446744073709551616):va6 292 [pr x,u64 d] (.tup [pr (x / d),u64 (x % d)]):=by
 obtain⟨w1,w2,w3⟩:=GC (x:=x) (W:=18446744073709551616) hd va5;have c:=Kl (x / 18446744073709551616 % d) (x % 18446744073709551616) d (Nat.mod_lt _ hd) (Nat.mod_lt _ va5) qD;rw[<- w2]at c;have e1:x / d / 18446744073709551616=x / 18446744073709551616 / d:=by rw[Nat.div_div_eq_div_mul,Nat.div_div_eq_div_mul,Nat.mul_comm]
 have e2:x / d % 18446744073709551616=(x / 18446744073709551616 % d*18446744073709551616+x % 18446744073709551616) / d:=by omega
 rw[<- e2]at c;refine pF Tryz.func292 ?_;conv=>whnf
 refine vb8 ?_;(repeat intro hh);rw[gX _ _ va5,JE];refine vb7 ?_;(repeat intro hh);rw[<- e1]
theorem Km(a b:Int×Int)(ha:r7 a=true)(hb:r7 b=true):va6 250 [fr a,fr b] (.tup [fr (lZ a b).1,i64 (lZ a b).2]):=by
 have law:=fun neg T h=>NB ha hb neg (Nat.gcd a.2.natAbs b.2.natAbs) (a.2.natAbs / Nat.gcd a.2.natAbs b.2.natAbs) (b.2.natAbs / Nat.gcd a.2.natAbs b.2.natAbs) T h rfl rfl rfl
 have va:=(F6 a).1 ha;have vb:=(F6 b).1 hb;generalize lZ a b=res at *
 obtain⟨n,d⟩:=a;obtain⟨m,e⟩:=b;simp only[]at *
 have i1:G7 n:=by unfold G7;omega
 have i2:G7 d:=by unfold G7;omega
 have i3:G7 m:=by unfold G7;omega
 have i4:G7 e:=by unfold G7;omega
 have c1:=ny d.natAbs e.natAbs va5 va5;have nf:0<Nat.gcd d.natAbs e.natAbs:=Nat.gcd_pos_of_pos_right _ va5;have YH:Nat.gcd d.natAbs e.natAbs<=d.natAbs:=Nat.gcd_le_left _ va5;generalize Nat.gcd d.natAbs e.natAbs=g at *
 have l1:d.natAbs / g<=4611686018427387903:=Nat.le_trans (Nat.div_le_self _ _) va5;have l2:e.natAbs / g<=4611686018427387903:=Nat.le_trans (Nat.div_le_self _ _) va5;have hp:∀ h,e.natAbs / h<=4611686018427387903:=fun h=>Nat.le_trans (Nat.div_le_self _ _) va5
 have fe:=gX d.natAbs g va5;have ff:=gX e.natAbs g va5;have fh:=fun h=>gX e.natAbs h va5
 generalize d.natAbs / g=p at *
 generalize e.natAbs / g=q at *
 have p1:=Z1 n.natAbs q va5 va5;have p2:=Z1 m.natAbs p va5 va5;have hx:n.natAbs*q<=4611686018427387903*4611686018427387903:=Nat.mul_le_mul va5 l2;have hy:m.natAbs*p<=4611686018427387903*4611686018427387903:=Nat.mul_le_mul va5 l1;have kx:((n.natAbs*q:Nat):Int)=if n<0 then -(n*q)else n*q:=by
  rw[Int.natCast_mul];split
  ·rw[show((n.natAbs:Nat):Int) = -n by omega,Int.neg_mul]
  ·rw[show((n.natAbs:Nat):Int)=n by omega]
 have ky:((m.natAbs*p:Nat):Int)=if m<0 then -(m*p)else m*p:=by
  rw[Int.natCast_mul];split
  ·rw[show((m.natAbs:Nat):Int) = -m by omega,Int.neg_mul]
  ·rw[show((m.natAbs:Nat):Int)=m by omega]
 have c2:=xa (n.natAbs*q) (m.natAbs*p) va5 va5;generalize n.natAbs*q=X at *
 generalize m.natAbs*p=Y at *
 generalize n*(q:Int)=NX at *
 generalize m*(p:Int)=MY at *
 have c3:=fun(T:Nat) (hT:T<340282366920938463463374607431768211456)=>EL T g hT nf va5
 have c4:=fun(T:Nat)=>ny g (T % g) va5 (Nat.lt_trans (Nat.mod_lt T nf) va5)
 have NF:∀ T,0<Nat.gcd g (T % g):=fun T=>Nat.gcd_pos_of_pos_left _ nf
 have hhl:∀ T,Nat.gcd g (T % g)<=g:=fun T=>Nat.gcd_le_left _ nf
 have c5:=fun(T:Nat) (hT:T<340282366920938463463374607431768211456)=>EL T (Nat.gcd g (T % g)) hT (NF T) (Nat.lt_of_le_of_lt (hhl T) va5)
 have c6:=fun(h:Nat)=>Z1 p (e.natAbs / h) va5 (Nat.lt_of_le_of_lt (hp h) va5)
 have hD:∀ h,p*(e.natAbs / h)<340282366920938463463374607431768211456:=fun h=>Nat.lt_of_le_of_lt (Nat.mul_le_mul l1 (hp h)) va8
 have c7:=fun(neg:Bool) (T:Nat) (h:Nat) (hT:T<340282366920938463463374607431768211456)=>xb neg (T / h) (p*(e.natAbs / h)) (Nat.lt_of_le_of_lt (Nat.div_le_self _ _) hT) (hD h)
 refine pF Tryz.func250 ?_;conv=>whnf
 (repeat' ((first|refine va0 (fun hh=>?_) fun hh=>?_|refine kR ?_|((try refine .inl ?_;conv=>whnf);(try refine⟨false,?_⟩;conv=>whnf);refine⟨_,by first|assumption|exact L1 n i1|exact L1 d i2|exact L1 m i3|exact L1 e i4,?_⟩)|fail)<;>first|exact hh.elim|conv=>whnf));rw[ff];(repeat' ((first|refine va0 (fun hh=>?_) fun hh=>?_|refine kR ?_|((try refine .inl ?_;conv=>whnf);(try refine⟨false,?_⟩;conv=>whnf);refine⟨_,by first|assumption|exact L1 d i2|exact L1 m i3,?_⟩)|fail)<;>first|exact hh.elim|conv=>whnf));rw[fe];(repeat' ((first|refine va0 (fun hh=>?_) fun hh=>?_|refine kR ?_|((try refine .inl ?_;conv=>whnf);(try refine⟨false,?_⟩;conv=>whnf);refine⟨_,by assumption,?_⟩)|fail)<;>first|exact hh.elim|conv=>whnf))
 ·have hs:(n<0/\¬ m<0)∨(¬ n<0/\m<0):=by
   by_cases s1:n<0<;>by_cases s2:m<0<;>simp[s1,s2]at * <;> omega
  have hT:Y-X<340282366920938463463374607431768211456:=by omega
  have hz:=NF (Y-X);(repeat' ((first|refine va0 (fun hh=>?_) fun hh=>?_|refine kR ?_|((try refine .inl ?_;conv=>whnf);(try refine⟨false,?_⟩;conv=>whnf);refine⟨_,by first|exact EI Y X va5 va5|exact c3 (Y-X) hT|exact c4 (Y-X)|exact c5 (Y-X) hT|exact L1 d i2|exact L1 e i4,?_⟩)|fail)<;>first|exact hh.elim|conv=>whnf));rw[fe,fh];(repeat' ((first|refine va0 (fun hh=>?_) fun hh=>?_|refine kR ?_|((try refine .inl ?_;conv=>whnf);(try refine⟨false,?_⟩;conv=>whnf);refine⟨_,by first|exact c6 (Nat.gcd g ((Y-X) % g))|exact c7 (decide (m<0)) (Y-X) (Nat.gcd g ((Y-X) % g)) hT,?_⟩)|fail)<;>first|exact hh.elim|conv=>whnf));rw[<- law (decide (m<0)) (Y-X) (Nat.gcd g ((Y-X) % g)) (by split at kx<;>split at ky<;>omega) rfl (by intro h0;refine decide_eq_decide.2 ?_;split at kx<;>split at ky<;>omega)]
 ·have hs:(n<0/\¬ m<0)∨(¬ n<0/\m<0):=by
   by_cases s1:n<0<;>by_cases s2:m<0<;>simp[s1,s2]at * <;> omega
  have hT:X-Y<340282366920938463463374607431768211456:=by omega
  have hz:=NF (X-Y);(repeat' ((first|refine va0 (fun hh=>?_) fun hh=>?_|refine kR ?_|((try refine .inl ?_;conv=>whnf);(try refine⟨false,?_⟩;conv=>whnf);refine⟨_,by first|exact EI X Y va5 va5|exact c3 (X-Y) hT|exact c4 (X-Y)|exact c5 (X-Y) hT|exact L1 d i2|exact L1 e i4,?_⟩)|fail)<;>first|exact hh.elim|conv=>whnf));rw[fe,fh];(repeat' ((first|refine va0 (fun hh=>?_) fun hh=>?_|refine kR ?_|((try refine .inl ?_;conv=>whnf);(try refine⟨false,?_⟩;conv=>whnf);refine⟨_,by first|exact c6 (Nat.gcd g ((X-Y) % g))|exact c7 (decide (n<0)) (X-Y) (Nat.gcd g ((X-Y) % g)) hT,?_⟩)|fail)<;>first|exact hh.elim|conv=>whnf));rw[<- law (decide (n<0)) (X-Y) (Nat.gcd g ((X-Y) % g)) (by split at kx<;>split at ky<;>omega) rfl (by intro h0;refine decide_eq_decide.2 ?_;split at kx<;>split at ky<;>omega)]
 ·have hs:(n<0/\m<0)∨(¬ n<0/\¬ m<0):=by
   by_cases s1:n<0<;>by_cases s2:m<0<;>simp[s1,s2]at * <;> omega
  have hT:X+Y<340282366920938463463374607431768211456:=by omega
  have hz:=NF (X+Y);(repeat' ((first|refine va0 (fun hh=>?_) fun hh=>?_|refine kR ?_|((try refine .inl ?_;conv=>whnf);(try refine⟨false,?_⟩;conv=>whnf);refine⟨_,by first|exact NG X Y va5|exact c3 (X+Y) hT|exact c4 (X+Y)|exact c5 (X+Y) hT|exact L1 d i2|exact L1 e i4,?_⟩)|fail)<;>first|exact hh.elim|conv=>whnf));rw[fe,fh];(repeat' ((first|refine va0 (fun hh=>?_) fun hh=>?_|refine kR ?_|((try refine .inl ?_;conv=>whnf);(try refine⟨false,?_⟩;conv=>whnf);refine⟨_,by first|exact c6 (Nat.gcd g ((X+Y) % g))|exact c7 (decide (n<0)) (X+Y) (Nat.gcd g ((X+Y) % g)) hT,?_⟩)|fail)<;>first|exact hh.elim|conv=>whnf));rw[<- law (decide (n<0)) (X+Y) (Nat.gcd g ((X+Y) % g)) (by split at kx<;>split at ky<;>omega) rfl (by intro h0;refine decide_eq_decide.2 ?_;split at kx<;>split at ky<;>omega)]
def qv(a:Int×Int):Rat:=(a.1:Rat) / (a.2:Rat)
theorem nE{x y z:Rat}(hz:0<z):x*z<y*z↔x<y:=by
 constructor
 ·intro h;by_cases h1:x<y
  ·exact h1
  ·exact absurd h (Rat.not_lt.2 (Rat.mul_le_mul_of_nonneg_right (Rat.not_lt.1 h1) (Rat.le_of_lt hz)))
 ·intro h;exact Rat.mul_lt_mul_of_pos_right h hz
theorem rG{a b c d:Rat}(hb:0<b)(hd:0<d):a / b<c / d↔a*d<c*b:=by
 have e1:a / b*(b*d)=a*d:=by grind
 have e2:c / d*(b*d)=c*b:=by grind
 have h:0<b*d:=Rat.mul_pos hb hd;rw[<- nE h,e1,e2]
theorem gD{a b c d:Rat}(hb:b≠0)(hd:d≠0):a / b=c / d↔a*d=c*b:=by
 constructor<;>intro h<;>grind
theorem J9{n:Int}(h:0<n):(0:Rat)<(n:Rat):=Rat.intCast_lt_intCast.2 h
theorem dU{n:Int}(h:n≠0):(n:Rat)≠0:=fun e=>h (Rat.intCast_inj.1 e)
theorem oY{a b c d:Int}:(a:Rat)*b<(c:Rat)*d↔a*b<c*d:=by
 rw[<- Rat.intCast_mul,<- Rat.intCast_mul];exact Rat.intCast_lt_intCast
theorem dV{a b c d:Int}:(a:Rat)*b=(c:Rat)*d↔a*b=c*d:=by
 rw[<- Rat.intCast_mul,<- Rat.intCast_mul];exact Rat.intCast_inj
theorem zL{a:Int×Int}(h:r7 a=true):0<a.2:=by have:=(F6 a).1 h;omega
theorem PI{a b:Int×Int}(ha:r7 a=true)(hb:r7 b=true):qv a<qv b↔a.1*b.2<b.1*a.2:=by
 unfold qv;rw[rG (J9 (zL ha)) (J9 (zL hb)),oY]
theorem PJ{a b:Int×Int}(ha:r7 a=true)(hb:r7 b=true):qv a=qv b↔a=b:=by
 constructor
 ·unfold qv;rw[gD (dU (Int.ne_of_gt (zL ha))) (dU (Int.ne_of_gt (zL hb))),dV];exact lW ha hb
 ·intro h;rw[h]
theorem V1{a b:Int×Int}(ha:r7 a=true)(hb:r7 b=true):(qv a<qv b/\bR a b = -1)∨(qv a=qv b/\a=b/\bR a b=0)∨(qv b<qv a/\bR a b=1):=by
 rw[PI ha hb,PI hb ha,PJ ha hb];unfold bR;by_cases h1:a.1*b.2<b.1*a.2
 ·simp[h1]
 ·by_cases h2:a.1*b.2=b.1*a.2
  ·refine .inr (.inl ⟨lW ha hb h2,lW ha hb h2,by simp[h1,h2]⟩)
  ·refine .inr (.inr ⟨va5,by simp[h1,h2]⟩)
theorem gE{a b:Int×Int}(ha:r7 a=true)(hb:r7 b=true):bR a b<=0↔qv a<=qv b:=by
 rcases V1 ha hb with ⟨h,e⟩|⟨h,_,e⟩|⟨h,e⟩<;>rw[e]<;>grind
theorem mf{a b:Int×Int}(ha:r7 a=true)(hb:r7 b=true):bR a b<0↔qv a<qv b:=by
 rcases V1 ha hb with ⟨h,e⟩|⟨h,_,e⟩|⟨h,e⟩<;>rw[e]<;>grind
theorem EM{a b:Int×Int}(ha:r7 a=true)(hb:r7 b=true):0<bR a b↔qv b<qv a:=by
 rcases V1 ha hb with ⟨h,e⟩|⟨h,_,e⟩|⟨h,e⟩<;>rw[e]<;>grind
def jN(x:Rat)(r:(Int×Int)×Int):Prop:=(r7 r.1=true/\r.2=0/\qv r.1=x)∨(r=((0,0),4)/\∀ s,r7 s=true->qv s≠x)
theorem jN.unique{x:Rat}{r s:(Int×Int)×Int}(hr:jN x r)(hs:jN x s):r=s:=by
 rcases hr with ⟨h1,h2,h3⟩|⟨h1,h2⟩<;>rcases hs with ⟨k1,k2,k3⟩|⟨k1,k2⟩
 ·have:r.1=s.1:=(PJ h1 k1).1 (h3.trans k3.symm);exact Prod.ext this (h2.trans k2.symm)
 ·exact absurd h3 (k2 _ h1)
 ·exact absurd k3 (h2 _ k1)
 ·rw[h1,k1]
theorem jN.ok{x:Rat}{r:(Int×Int)×Int}(h:jN x r)(h0:r.2=0):r7 r.1=true/\qv r.1=x:=by
 rcases h with h|⟨h,_⟩
 ·exact⟨h.1,h.2.2⟩
 ·rw[h]at h0;cases h0
theorem jN.bad{x:Rat}{r:(Int×Int)×Int}(h:jN x r)(h0:r.2≠0):r=((0,0),4):=by
 rcases h with h|h
 ·exact absurd h.2.1 h0
 ·exact h.1
theorem GD{neg:Bool}{N D:Nat}(h:(ab neg N D).2=0):N<=4611686018427387903/\D<=4611686018427387903/\(ab neg N D).1=(if neg then -(N:Int)else N,(D:Int)):=by
 unfold ab at h ⊢;by_cases hc:N<=4611686018427387903/\D<=4611686018427387903
 ·simp[hc]
 ·simp[hc]at h
theorem zM{n d:Int}{g:Nat}(hg:g=Nat.gcd n.natAbs d.natAbs):(g:Int)*((n.natAbs / g:Nat):Int)=n.natAbs/\(g:Int)*((d.natAbs / g:Nat):Int)=d.natAbs:=by
 constructor
 ·have:=Nat.mul_div_cancel' (Nat.gcd_dvd_left n.natAbs d.natAbs);rw[<- hg]at this;rw[<- Int.natCast_mul,this]
 ·have:=Nat.mul_div_cancel' (Nat.gcd_dvd_right n.natAbs d.natAbs);rw[<- hg]at this;rw[<- Int.natCast_mul,this]
theorem GF(n d:Int):M9 (-n) (-d)=M9 n d:=by
 unfold M9;by_cases h0:d=0
 ·simp[h0]
 ·have h1:¬ -d=0:=by omega
  rw[if_neg h0,if_neg h1,Int.natAbs_neg,Int.natAbs_neg];refine nC fun hN=>?_
  have:n≠0:=fun e=>by subst e;simp at hN
  by_cases h2:n<0<;>by_cases h3:d<0<;>simp[h2,h3]<;>omega
theorem iR{n d:Int}(hd:0<d):jN ((n:Rat) / (d:Rat)) (M9 n d):=by
 have nf:0<Nat.gcd n.natAbs d.natAbs:=Nat.gcd_pos_of_pos_right _ va5;have hm:=bm (n:=n) hd;by_cases h:(M9 n d).2=0
 ·left
  rw[hm]at h ⊢;obtain⟨h1,h2,h3⟩:=GD h;rw[h3];have Vy:Nat.Coprime (n.natAbs / Nat.gcd n.natAbs d.natAbs) (d.natAbs / Nat.gcd n.natAbs d.natAbs):=Nat.coprime_div_gcd_div_gcd nf;obtain⟨g1,g2⟩:=zM (n:=n) (d:=d) rfl;generalize Nat.gcd n.natAbs d.natAbs=g at *
  generalize n.natAbs / g=N at *
  generalize d.natAbs / g=D at *
  have hD0:D≠0:=fun e=>by subst e;simp at g2;omega
  refine⟨?_,h,?_⟩
  ·rw[F6];simp only[];refine⟨va5,va5,by split<;>omega,by split<;>omega,?_⟩;split<;>simpa using Vy
  ·show((if decide (n<0)then -(N:Int)else(N:Int):Int):Rat) / ((D:Int):Rat)=_
   rw[gD (dU va5) (dU va5),dV];have g2':(g:Int)*D=d:=by omega
   have g1':(g:Int)*(if decide (n<0)then -(N:Int)else(N:Int):Int)=n:=by
    by_cases hn:n<0
    ·simp only[hn,decide_true,if_true];rw[Int.mul_neg];omega
    ·simp only[hn,decide_false,zB0,if_false];omega
   obtain⟨M,hM⟩:∃ M:Int,M=(if decide (n<0)then -(N:Int)else(N:Int)):=⟨_,rfl⟩
   rw[<- hM]at g1' ⊢;clear hM h3
   grind
 ·right
  have hv:M9 n d=((0,0),4):=by
   rw[hm]at h ⊢;unfold ab at h ⊢;by_cases hc:n.natAbs / Nat.gcd n.natAbs d.natAbs<=4611686018427387903/\d.natAbs / Nat.gcd n.natAbs d.natAbs<=4611686018427387903
   ·simp[hc]at h
   ·simp only[hc,if_false]
  refine⟨hv,fun s hs he=>h ?_⟩;have Mx:=(F6 s).1 hs;obtain⟨p,q⟩:=s;simp only[]at Mx;have Vz:p*d=n*q:=by
   have:qv (p,q)=(p:Rat) / (q:Rat):=rfl;rw[this,gD (dU va5) (dU va5),dV]at he;exact he
  -- d = k q, n = k p
  have Vy:Nat.Coprime p.natAbs q.natAbs:=Mx.2.2.2.2;have hdv:q.natAbs ∣ d.natAbs:=by
   have:q.natAbs ∣ p.natAbs*d.natAbs:=⟨n.natAbs,by rw[<- Int.natAbs_mul,Vz,Int.natAbs_mul,Nat.mul_comm]⟩
   exact Vy.symm.dvd_of_dvd_mul_left this
  obtain⟨k,hk⟩:=hdv;have Uc:0<k:=by
   rcases Nat.eq_zero_or_pos k with e|e
   ·subst e;simp at hk;omega
   ·exact e
  have qD:d=(k:Int)*q:=by
   have:((d.natAbs:Nat):Int)=((q.natAbs*k:Nat):Int):=by rw[hk]
   rw[Int.natCast_mul]at this;rw[Int.mul_comm];have e1:((d.natAbs:Nat):Int)=d:=by omega
   have e2:((q.natAbs:Nat):Int)=q:=by omega
   rw[e1,e2]at this;exact this
  have Ga:n=(k:Int)*p:=by
   have:n*q=(k:Int)*p*q:=by rw[<- Vz,qD];grind
   exact Int.eq_of_mul_eq_mul_right (show q≠0 by omega) this
  rw[Ga,qD,oW Uc _ _ va5,bm va5];have Tt:Nat.gcd p.natAbs q.natAbs=1:=Vy;rw[Tt,Nat.div_one,Nat.div_one];unfold ab;have:p.natAbs<=4611686018427387903/\q.natAbs<=4611686018427387903:=by omega
  simp[this]
theorem bn{n d:Int}(hd:d≠0):jN ((n:Rat) / (d:Rat)) (M9 n d):=by
 by_cases h:0<d
 ·exact iR h
 ·have:=iR (n := -n) (d := -d) va5;rw[GF]at this;have e:((-n:Int):Rat) / ((-d:Int):Rat)=(n:Rat) / (d:Rat):=by
   rw[gD (dU va5) (dU hd),dV]
   grind
  rw[e]at this;exact this
theorem uT{a b:Int×Int}(ha:r7 a=true)(hb:r7 b=true):jN (qv a+qv b) (lZ a b):=by
 have h1:=zL ha;have h2:=zL hb;have h:=bn (n:=a.1*b.2+b.1*a.2) (d:=a.2*b.2) (Int.ne_of_gt (Int.mul_pos h1 h2));have c1:=J9 h1;have c2:=J9 h2;have e:((a.1*b.2+b.1*a.2:Int):Rat) / ((a.2*b.2:Int):Rat)=qv a+qv b:=by
  unfold qv;rw[Rat.intCast_mul,Rat.intCast_add,Rat.intCast_mul,Rat.intCast_mul]
  grind
 rw[e]at h;exact h
theorem nb{a b:Int×Int}(ha:r7 a=true)(hb:r7 b=true):jN (qv a*qv b) (gC a b):=by
 have h1:=zL ha;have h2:=zL hb;have h:=bn (n:=a.1*b.1) (d:=a.2*b.2) (Int.ne_of_gt (Int.mul_pos h1 h2));have c1:=J9 h1;have c2:=J9 h2;have e:((a.1*b.1:Int):Rat) / ((a.2*b.2:Int):Rat)=qv a*qv b:=by
  unfold qv;rw[Rat.intCast_mul,Rat.intCast_mul]
  grind
 rw[e]at h;exact h
def CY(a:Int×Int):Int×Int:=(-a.1,a.2)
theorem xj{a:Int×Int}(ha:r7 a=true):r7 (CY a)=true/\qv (CY a) = -qv a:=by
 have h:=(F6 a).1 ha;refine⟨?_,?_⟩
 ·rw[F6];show _/\_/\_/\_/\Nat.gcd (-a.1).natAbs a.2.natAbs=1
  rw[Int.natAbs_neg];simp only[CY];omega
 ·unfold qv CY;simp only[Rat.intCast_neg]
  grind
def eH(a b:Int×Int):(Int×Int)×Int:=lZ a (CY b)
theorem jq{a b:Int×Int}(ha:r7 a=true)(hb:r7 b=true):jN (qv a-qv b) (eH a b):=by
 have h:=uT ha (xj hb).1;rw[(xj hb).2]at h;have e:qv a + -qv b=qv a-qv b:=by grind
 rw[e]at h;exact h
abbrev zS:X2:=((0,0),(0,0))
def X6(a b:Int×Int):Int×Int:=if bR b a<0 then b else a
def X7(a b:Int×Int):Int×Int:=if 0<bR b a then b else a
def O1(op:Int×Int->Int×Int->(Int×Int)×Int):X2->List X2->X2×Int
 | s,[]=>(s,0)
 | s,p :: l=>if (op p.1 p.2).2≠0 then(zS,(op p.1 p.2).2)else O1 op (X6 s.1 (op p.1 p.2).1,X7 s.2 (op p.1 p.2).1) l
def N1(op:Int×Int->Int×Int->(Int×Int)×Int):List X2->X2×Int
 | []=>(zS,0)
 | p :: l=>if (op p.1 p.2).2≠0 then(zS,(op p.1 p.2).2)else O1 op ((op p.1 p.2).1,(op p.1 p.2).1) l
theorem kQ{a b:Int×Int}(ha:r7 a=true)(hb:r7 b=true):r7 (X6 a b)=true:=by
 unfold X6;split<;>assumption
theorem kS{a b:Int×Int}(ha:r7 a=true)(hb:r7 b=true):r7 (X7 a b)=true:=by
 unfold X7;split<;>assumption
theorem uU(a b:Int×Int)(ha:r7 a=true)(hb:r7 b=true):va6 199 [fr a,fr b] (fr (X6 a b)):=by
 have c:=rz b a hb ha;have h:X6 a b=if bR b a<0 then b else a:=rfl
 rw[h];generalize bR b a=x at *
 refine pF Tryz.func199 ?_;conv=>whnf
 (repeat' ((first|refine va0 (fun hh=>?_) fun hh=>?_|refine kR ?_|((try refine .inl ?_;conv=>whnf);(try refine⟨false,?_⟩;conv=>whnf);refine⟨_,by assumption,?_⟩)|fail)<;>first|exact hh.elim|conv=>whnf))
 ·rw[if_pos hh]
 ·rw[if_neg hh]
theorem rH(a b:Int×Int)(ha:r7 a=true)(hb:r7 b=true):va6 200 [fr a,fr b] (fr (X7 a b)):=by
 have c:=rz b a hb ha;have h:X7 a b=if 0<bR b a then b else a:=rfl
 rw[h];generalize bR b a=x at *
 refine pF Tryz.func200 ?_;conv=>whnf
 (repeat' ((first|refine va0 (fun hh=>?_) fun hh=>?_|refine kR ?_|((try refine .inl ?_;conv=>whnf);(try refine⟨false,?_⟩;conv=>whnf);refine⟨_,by assumption,?_⟩)|fail)<;>first|exact hh.elim|conv=>whnf))
 ·rw[if_pos hh]
 ·rw[if_neg hh]
theorem tK(a b:Int×Int)(ha:r7 a=true)(hb:r7 b=true):va6 196 [fr a,fr b] (.tup [fr (eH a b).1,i64 (eH a b).2]):=by
 have c:=Kh b hb;have c2:=Km a (CY b) ha (xj hb).1;have hs:eH a b=lZ a (CY b):=rfl;rw[hs];refine pF Tryz.func196 ?_;conv=>whnf
 try exact va1
theorem GG{α:Type}(d:α)(l:List α)(k:Nat)(h:k<l.length):l.drop k=l.getD k d :: l.drop (k+1):=by
 rw[List.drop_eq_getElem_cons h];simp[List.getD,h]
theorem NK(D:FuncId)(op:Int×Int->Int×Int->(Int×Int)×Int)(l:List X2)(hl:l.length<2^40)(hv:∀ p ∈ l,r7 p.1=true/\r7 p.2=true)
  (hD:∀ a b,r7 a=true->r7 b=true->va6 D [fr a,fr b] (.tup [fr (op a b).1,i64 (op a b).2])) (lp:∀ a b,r7 a=true->r7 b=true->(op a b).2=0->r7 (op a b).1=true) :
  va6 146 [.fn (.func D) [] [],YF l] (.tup [sp (N1 op l).1,i64 (N1 op l).2]):=by
 refine pF Tryz.func146 ?_;conv=>whnf
 refine Or.inr ⟨Nat×X2,[13],[6],[],fun i=>[i64 i.1],fun i=>[.cells 57 (eS i.2)],fun _=>[],fun i=>l.length-i.1,fun i=>i.1<=l.length/\(i.1=0->i.2=zS)/\(0<i.1->r7 i.2.1=true/\r7 i.2.2=true/\N1 op l=O1 op i.2 (l.drop i.1)),?_⟩;conv=>whnf
 refine⟨⟨(0,zS),?_⟩,?_⟩
 ·(conv=>whnf);exact kK ⟨⟨zB4 _,fun _=>rfl,fun h=>absurd h (Nat.lt_irrefl _)⟩,rfl,rfl,rfl⟩
 ·rintro⟨k,s⟩ ⟨h1,h2,h3⟩;simp only[]at h1 h2 h3;conv=>whnf
  refine⟨fun h=>?_,fun h=>?_⟩
  ·have h:=zA1 h;have hk:k<l.length:=by omega
   conv=>whnf
   refine⟨⟨va5,va5⟩,?_⟩;have hg:l.getD (Int.toNat (k:Int)) zS=l.getD k zS:=rfl;have VA:=hv (l.getD k zS) (by simp[List.getD,hk]);have Nu:=GG zS l k hk;rw[hg];have dC:k=0->l=l.getD k zS :: l.drop (k+1):=fun e=>by rw[<- Nu,e,List.drop_zero]
   generalize l.getD k zS=p at *
   obtain⟨⟨n,d⟩,⟨m,e⟩⟩:=p;have c:=hD (n,d) (m,e) VA.1 VA.2;have cv:=lp (n,d) (m,e) VA.1 VA.2;have hG:∀ s,O1 op s (((n,d),(m,e)) :: l.drop (k+1))=if (op (n,d) (m,e)).2≠0 then(zS,(op (n,d) (m,e)).2)else O1 op (X6 s.1 (op (n,d) (m,e)).1,X7 s.2 (op (n,d) (m,e)).1) (l.drop (k+1)):=fun s=>rfl
   have hF:N1 op (((n,d),(m,e)) :: l.drop (k+1))=if (op (n,d) (m,e)).2≠0 then(zS,(op (n,d) (m,e)).2)else O1 op ((op (n,d) (m,e)).1,(op (n,d) (m,e)).1) (l.drop (k+1)):=rfl
   generalize op (n,d) (m,e)=r at *
   obtain⟨x,er⟩:=r;simp only[]at c cv hG hF;conv=>whnf
   (repeat' ((first|refine va0 (fun hh=>?_) fun hh=>?_|refine kR ?_|((try refine .inl ?_;conv=>whnf);(try refine⟨false,?_⟩;conv=>whnf);refine⟨_,by assumption,?_⟩)|fail)<;>first|exact hh.elim|conv=>whnf))
   ·have e:N1 op l=(zS,er):=by
     by_cases h0:k=0
     ·rw[dC h0,hF,if_pos hh]
     ·rw[(h3 va5).2.2,Nu,hG,if_pos hh]
    rw[e]
   ·have h0:k=0:=by omega
    rename_i he;refine⟨(k+1,(x,x)),?_⟩;conv=>whnf
    refine kK ⟨⟨Nat.sub_lt_sub_left va5 (Nat.lt_succ_self k),⟨va5,fun h=>absurd h va5,fun _=>⟨cv he,cv he,?_⟩⟩⟩,?_,rfl,rfl⟩
    ·show N1 op l=O1 op (x,x) (l.drop (k+1))
     rw[dC h0,hF,if_neg va5];rw[<- dC h0]
    ·rw[C7 _ va5 va5];rfl
   ·have h0:0<k:=by omega
    rename_i he;obtain⟨v1,v2,v3⟩:=h3 h0;obtain⟨⟨s1,s2⟩,⟨s3,s4⟩⟩:=s;have cl:=uU (s1,s2) x v1 (cv he);have cg:=rH (s3,s4) x v2 (cv he);refine vb7 ?_;(repeat intro hh);refine⟨(k+1,(X6 (s1,s2) x,X7 (s3,s4) x)),?_⟩;conv=>whnf
    refine kK ⟨⟨Nat.sub_lt_sub_left va5 (Nat.lt_succ_self k),⟨va5,fun h=>absurd h va5,fun _=>⟨kQ v1 (cv he),kS v2 (cv he),?_⟩⟩⟩,?_,rfl,rfl⟩
    ·show N1 op l=O1 op (X6 (s1,s2) x,X7 (s3,s4) x) (l.drop (k+1))
     rw[v3,Nu,hG,if_neg va5]
    ·rw[C7 _ va5 va5];rfl
  ·have h:=zA0 h;have hk:k=l.length:=by omega
   conv=>whnf
   by_cases h0:k=0
   ·have:l=[]:=List.eq_nil_of_length_eq_zero va5;subst this;rw[h2 h0];rfl
   ·rw[(h3 va5).2.2,hk,List.drop_length];rfl
theorem zN(D:FuncId)(op:Int×Int->Int×Int->(Int×Int)×Int)(l:List X2)(hl:l.length<2^40)(hv:∀ p ∈ l,r7 p.1=true/\r7 p.2=true)
  (hD:∀ a b,r7 a=true->r7 b=true->va6 D [fr a,fr b] (.tup [fr (op a b).1,i64 (op a b).2])) (lp:∀ a b,r7 a=true->r7 b=true->(op a b).2=0->r7 (op a b).1=true) :
  va6 146 [.fn (.func D) [] [],.slc 4 (l.map eS)] (.tup [sp (N1 op l).1,i64 (N1 op l).2]) :=
 PC.last (args:=[.fn (.func D) [] []]) (NK D op l hl hv hD lp) (.slc 4 zS eS l)
def ck(s:X2)(x:Int×Int):Bool:=decide (bR s.1 x<=0) && decide (bR x s.2<=0)
theorem T6{s:X2}:z7 s=true↔r7 s.1=true/\r7 s.2=true/\bR s.1 s.2<=0:=by
 simp[z7,and_assoc]
theorem Kn:∀ a b,r7 a=true->r7 b=true->(eH a b).2=0->r7 (eH a b).1=true:=fun a b ha hb h=>((jq ha hb).ok h).1
theorem mg:∀ a b,r7 a=true->r7 b=true->(gC a b).2=0->r7 (gC a b).1=true:=fun a b ha hb h=>((nb ha hb).ok h).1
def dk(a b:X2):List X2:=[(a.1,b.1),(a.1,b.2),(a.2,b.1),(a.2,b.2)]
def CZ(a b:X2):X2×Int:=if z7 a && z7 b then N1 eH [(a.1,b.2),(a.2,b.1)]else(zS,8)
def P0(a b:X2):X2×Int:=if z7 a && z7 b then N1 gC (dk a b)else(zS,8)
theorem br{a b:X2}(ha:z7 a=true)(hb:z7 b=true):∀ p ∈ dk a b,r7 p.1=true/\r7 p.2=true:=by
 rw[T6]at ha hb;intro p hp;simp only[dk,List.mem_cons,List.not_mem_nil,or_false]at hp;rcases hp with rfl|rfl|rfl|rfl<;>simp[ha,hb]
theorem QX(a b:X2):va6 148 [sp a,sp b] (.slc 4 ((dk a b).map eS)):=by
 refine pF Tryz.func148 ?_;conv=>whnf
 refine vb8 ?_;(repeat intro hh);rfl
theorem zO(a b:X2):va6 144 [sp a,sp b] (.tup [sp (CZ a b).1,i64 (CZ a b).2]):=by
 have c1:=nz a b;have hs:CZ a b=if z7 a && z7 b then N1 eH [(a.1,b.2),(a.2,b.1)]else(zS,8):=rfl
 rw[hs];cases ha:z7 a
 ·rw[ha]at c1;refine pF Tryz.func144 ?_;conv=>whnf
  refine vb7 ?_;(repeat intro hh);all_goals simp
 cases hb:z7 b
 ·rw[ha,hb]at c1;refine pF Tryz.func144 ?_;conv=>whnf
  refine vb7 ?_;(repeat intro hh);all_goals simp
 rw[ha,hb]at c1;have va:=T6.1 ha;have vb:=T6.1 hb;have c2:=zN 196 eH [(a.1,b.2),(a.2,b.1)] va9 (by simp[va,vb]) tK Kn;generalize N1 eH [(a.1,b.2),(a.2,b.1)]=r at *
 refine pF Tryz.func144 ?_;conv=>whnf
 refine vb7 ?_;(repeat intro hh);all_goals simp
theorem zP(a b:X2):va6 93 [sp a,sp b] (.tup [sp (P0 a b).1,i64 (P0 a b).2]):=by
 have c1:=nz a b;have hs:P0 a b=if z7 a && z7 b then N1 gC (dk a b)else(zS,8):=rfl
 rw[hs];cases ha:z7 a
 ·rw[ha]at c1;refine pF Tryz.func93 ?_;conv=>whnf
  refine vb7 ?_;(repeat intro hh);all_goals simp
 cases hb:z7 b
 ·rw[ha,hb]at c1;refine pF Tryz.func93 ?_;conv=>whnf
  refine vb7 ?_;(repeat intro hh);all_goals simp
 rw[ha,hb]at c1;have c3:=QX a b;have c2:=zN 147 gC (dk a b) (by simp[dk]) (br ha hb) Ki mg;generalize N1 gC (dk a b)=r at *
 refine pF Tryz.func93 ?_;conv=>whnf
 refine vb7 ?_;(repeat intro hh);all_goals simp
theorem EN{a b:Int×Int}(ha:r7 a=true)(hb:r7 b=true):qv (X6 a b)<=qv a/\qv (X6 a b)<=qv b/\(X6 a b=a∨X6 a b=b):=by
 unfold X6;rcases V1 hb ha with ⟨h,e⟩|⟨h,_,e⟩|⟨h,e⟩<;>rw[e]<;>simp<;>grind
theorem EO{a b:Int×Int}(ha:r7 a=true)(hb:r7 b=true):qv a<=qv (X7 a b)/\qv b<=qv (X7 a b)/\(X7 a b=a∨X7 a b=b):=by
 unfold X7;rcases V1 hb ha with ⟨h,e⟩|⟨h,_,e⟩|⟨h,e⟩<;>rw[e]<;>simp<;>grind
theorem NL{a b:Int×Int}(ha:r7 a=true)(hb:r7 b=true):X6 a b=if bR a b<=0 then a else b:=by
 unfold X6;rcases V1 ha hb with ⟨h,e⟩|⟨_,h,e⟩|⟨h,e⟩<;>rcases V1 hb ha with ⟨k,f⟩|⟨_,k,f⟩|⟨k,f⟩<;>rw[e,f]<;>simp<;>grind
theorem a4c{a b:Int×Int}(ha:r7 a=true)(hb:r7 b=true):X7 a b=if 0<=bR a b then a else b:=by
 unfold X7;rcases V1 ha hb with ⟨h,e⟩|⟨_,h,e⟩|⟨h,e⟩<;>rcases V1 hb ha with ⟨k,f⟩|⟨_,k,f⟩|⟨k,f⟩<;>rw[e,f]<;>simp<;>grind
theorem Ko{op:Int×Int->Int×Int->(Int×Int)×Int}{p q:X2}{x y:Rat}(hp:jN x (op p.1 p.2))(hq:jN y (op q.1 q.2))(h:x<=y) :
  N1 op [p,q]=if (op p.1 p.2).2=0/\(op q.1 q.2).2=0 then(((op p.1 p.2).1,(op q.1 q.2).1),0)else(zS,4):=by
 simp only[N1,O1];by_cases h1:(op p.1 p.2).2=0
 ·by_cases h2:(op q.1 q.2).2=0
  ·obtain⟨v1,e1⟩:=hp.ok h1;obtain⟨v2,e2⟩:=hq.ok h2;have hle:=(gE v1 v2).2 (by rw[e1,e2];exact h);rw[NL v1 v2,if_pos hle];have hg:X7 (op p.1 p.2).1 (op q.1 q.2).1=(op q.1 q.2).1:=by
    unfold X7;rcases V1 v1 v2 with ⟨h,e⟩|⟨_,h,e⟩|⟨h,e⟩
    ·rw[if_pos ((EM v2 v1).2 h)]
    ·rw[h];split<;>rfl
    ·omega
   rw[hg];simp[h1,h2]
  ·have:=hq.bad h2;simp[h1,h2,this]
 ·have:=hp.bad h1;simp[h1,this]
theorem P1{s:X2}:z7 s=true↔r7 s.1=true/\r7 s.2=true/\qv s.1<=qv s.2:=by
 rw[T6]
 constructor
 ·rintro⟨a,b,c⟩;exact⟨a,b,(gE a b).1 c⟩
 ·rintro⟨a,b,c⟩;exact⟨a,b,(gE a b).2 c⟩
theorem a4d{s:X2}(h:z7 s=true):G7 s.1.1/\G7 s.1.2/\G7 s.2.1/\G7 s.2.2:=by
 obtain⟨a,b,_⟩:=T6.1 h;have:=(F6 _).1 a;have:=(F6 _).1 b;unfold G7;omega
theorem zQ{op:Int×Int->Int×Int->(Int×Int)×Int}(lp:∀ a b,r7 a=true->r7 b=true->(op a b).2=0->r7 (op a b).1=true) :
  ∀ (l:List X2) (s:X2),(∀ p ∈ l,r7 p.1=true/\r7 p.2=true)->z7 s=true->(O1 op s l).2=0 ->
   z7 (O1 op s l).1=true/\qv (O1 op s l).1.1<=qv s.1/\qv s.2<=qv (O1 op s l).1.2 /\
   (∀ p ∈ l,(op p.1 p.2).2=0/\qv (O1 op s l).1.1<=qv (op p.1 p.2).1/\qv (op p.1 p.2).1<=qv (O1 op s l).1.2) /\
   ((O1 op s l).1.1=s.1∨∃ p ∈ l,(O1 op s l).1.1=(op p.1 p.2).1)/\((O1 op s l).1.2=s.2∨∃ p ∈ l,(O1 op s l).1.2=(op p.1 p.2).1)
 | [],s,_,hs,_=>⟨hs,by simp only[O1];exact Rat.le_refl,by simp only[O1];exact Rat.le_refl,by simp,.inl rfl,.inl rfl⟩
 | p :: l,s,hl,hs,h=>by
  have hp:=hl p va9;by_cases h0:(op p.1 p.2).2=0
  ·have hv:=lp _ _ hp.1 hp.2 h0;have e:O1 op s (p :: l)=O1 op (X6 s.1 (op p.1 p.2).1,X7 s.2 (op p.1 p.2).1) l:=by simp[O1,h0]
   rw[e]at h ⊢;obtain⟨s1,s2,s3⟩:=P1.1 hs;obtain⟨l1,l2,l3⟩:=EN s1 hv;obtain⟨g1,g2,g3⟩:=EO s2 hv;have Mx:z7 (X6 s.1 (op p.1 p.2).1,X7 s.2 (op p.1 p.2).1)=true:=P1.2 ⟨kQ s1 hv,kS s2 hv,by simp only[];grind⟩;obtain⟨i1,i2,i3,i4,i5,i6⟩:=zQ lp l _ (fun q hq=>hl q (by simp[hq])) Mx h;simp only[]at i2 i3 i5 i6;generalize O1 op (X6 s.1 (op p.1 p.2).1,X7 s.2 (op p.1 p.2).1) l=r at *
   refine⟨i1,by grind,by grind,?_,?_,?_⟩
   ·intro q hq;rcases List.mem_cons.1 hq with rfl|hq
    ·exact⟨h0,by grind,by grind⟩
    ·exact i4 q hq
   ·rcases i5 with i5|⟨q,hq,i5⟩
    ·rcases l3 with l3|l3
     ·left;rw[i5,l3]
     ·right;exact⟨p,by simp,by rw[i5,l3]⟩
    ·right;exact⟨q,by simp[hq],i5⟩
   ·rcases i6 with i6|⟨q,hq,i6⟩
    ·rcases g3 with g3|g3
     ·left;rw[i6,g3]
     ·right;exact⟨p,by simp,by rw[i6,g3]⟩
    ·right;exact⟨q,by simp[hq],i6⟩
  ·exfalso;simp[O1,h0]at h
theorem rI{op:Int×Int->Int×Int->(Int×Int)×Int}(lp:∀ a b,r7 a=true->r7 b=true->(op a b).2=0->r7 (op a b).1=true)
  (l:List X2) (hl:∀ p ∈ l,r7 p.1=true/\r7 p.2=true) (aW:l≠[]) (h:(N1 op l).2=0) :
   z7 (N1 op l).1=true /\
   (∀ p ∈ l,(op p.1 p.2).2=0/\qv (N1 op l).1.1<=qv (op p.1 p.2).1/\qv (op p.1 p.2).1<=qv (N1 op l).1.2) /\
   (∃ p ∈ l,(N1 op l).1.1=(op p.1 p.2).1)/\(∃ p ∈ l,(N1 op l).1.2=(op p.1 p.2).1):=by
 match l,aW,hl,h with
 | p :: l,_,hl,h =>
  have hp:=hl p va9;by_cases h0:(op p.1 p.2).2=0
  ·have hv:=lp _ _ hp.1 hp.2 h0;have e:N1 op (p :: l)=O1 op ((op p.1 p.2).1,(op p.1 p.2).1) l:=by simp[N1,h0]
   rw[e]at h ⊢;obtain⟨i1,i2,i3,i4,i5,i6⟩:=zQ lp l ((op p.1 p.2).1,(op p.1 p.2).1) (fun q hq=>hl q (by simp[hq])) (P1.2 ⟨hv,hv,Rat.le_refl⟩) h;simp only[]at i2 i3 i5 i6;refine⟨i1,?_,?_,?_⟩
   ·intro q hq;rcases List.mem_cons.1 hq with rfl|hq
    ·exact⟨h0,i2,i3⟩
    ·exact i4 q hq
   ·rcases i5 with i5|⟨q,hq,i5⟩
    ·exact⟨p,by simp,i5⟩
    ·exact⟨q,by simp[hq],i5⟩
   ·rcases i6 with i6|⟨q,hq,i6⟩
    ·exact⟨p,by simp,i6⟩
    ·exact⟨q,by simp[hq],i6⟩
  ·exfalso;simp[N1,h0]at h

end Go.Proofs.Tryz.My
