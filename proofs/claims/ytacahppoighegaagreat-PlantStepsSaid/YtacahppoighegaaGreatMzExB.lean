/- Helper lemmas. -/
import Derived.Test.YtacahppoighegaaGreatMzDvA
set_option linter.unusedVariables false
set_option linter.unusedSimpArgs false
set_option maxRecDepth 100000
set_option maxHeartbeats 0
namespace Go.Proofs.Tryz.My
open Go Go.Ev
theorem pK{y v w q r f B:Nat}(hy:0<y)(h1:q*y+r=v)(h2:w=v*B+f):q*B+(r*B+f) / y=w / y/\(r*B+f) % y=w % y:=by
 have e1:w=(r*B+f)+y*(q*B):=by
  have:y*(q*B)=q*y*B:=by rw[Nat.mul_left_comm,<- Nat.mul_assoc]
  rw[this,h2,<- h1,Nat.add_mul];omega
 have k1:=Nat.add_mul_div_left (r*B+f) (q*B) hy;have k2:=Nat.add_mul_mod_self_left (r*B+f) y (q*B);rw[<- e1]at k1 k2;exact⟨(Nat.add_comm _ _).trans k1.symm,k2.symm⟩
theorem Jd{x d W:Nat}(hd:0<d)(hW:0<W):x / d=x / W / d*W+(x / W % d*W+x % W) / d/\x % d=(x / W % d*W+x % W) % d/\(x / W % d*W+x % W) / d<W:=by
 have h1:=Nat.div_add_mod' (x / W) d;have h2:=Nat.div_add_mod' x W;have h3:=pK (y:=d) (v:=x / W) (w:=x) (q:=x / W / d) (r:=x / W % d) (f:=x % W) (B:=W) hd h1 h2.symm;refine⟨h3.1.symm,h3.2.symm,?_⟩;refine(Nat.div_lt_iff_lt_mul hd).2 ?_;have h4:=Nat.mod_lt x hW;have h5:(x / W % d+1)*W<=d*W:=Nat.mul_le_mul_right _ (Nat.mod_lt _ hd);rw[Nat.add_mul,Nat.one_mul]at h5;rw[Nat.mul_comm W d];omega
theorem He(x d:Nat)(hx:x<340282366920938463463374607431768211456)(hd:0<d)(mU:d<18446744073709551616):va6 276 [pr x,u64 d] (.tup [pr (x / d),u64 (x % d)]):=by
 obtain⟨w1,w2,w3⟩:=Jd (x:=x) (W:=18446744073709551616) hd va5;have c:=MV (x / 18446744073709551616 % d) (x % 18446744073709551616) d (Nat.mod_lt _ hd) (Nat.mod_lt _ va5) mU;rw[<- w2]at c;have e1:x / d / 18446744073709551616=x / 18446744073709551616 / d:=by rw[Nat.div_div_eq_div_mul,Nat.div_div_eq_div_mul,Nat.mul_comm]
 have e2:x / d % 18446744073709551616=(x / 18446744073709551616 % d*18446744073709551616+x % 18446744073709551616) / d:=by omega
 rw[<- e2]at c;refine vb4 Tryz.func276 ?_;refine ve4 ?_;intros;rw[jn _ _ va5,Mq];refine vc6 ?_;intros;rw[<- e1]
theorem Na(a b:Int×Int)(ha:o7 a=true)(hb:o7 b=true):va6 260 [fr a,fr b] (.tup [fr (iW a b).1,i64 (iW a b).2]):=by
 have law:=fun neg T h=>QE ha hb neg (Nat.gcd a.2.natAbs b.2.natAbs) (a.2.natAbs / Nat.gcd a.2.natAbs b.2.natAbs) (b.2.natAbs / Nat.gcd a.2.natAbs b.2.natAbs) T h rfl rfl rfl
 have va:=(A7 a).1 ha;have vb:=(A7 b).1 hb;generalize iW a b=res at *
 obtain⟨n,d⟩:=a;obtain⟨m,e⟩:=b;simp only[]at *
 have i1:A4 n:=by unfold A4;omega
 have i2:A4 d:=by unfold A4;omega
 have i3:A4 m:=by unfold A4;omega
 have i4:A4 e:=by unfold A4;omega
 have c1:=pC d.natAbs e.natAbs va5 va5;have pk:0<Nat.gcd d.natAbs e.natAbs:=Nat.gcd_pos_of_pos_right _ va5;have hgl:Nat.gcd d.natAbs e.natAbs<=d.natAbs:=Nat.gcd_le_left _ va5;generalize Nat.gcd d.natAbs e.natAbs=g at *
 have l1:d.natAbs / g<=4611686018427387903:=Nat.le_trans (Nat.div_le_self _ _) va5;have l2:e.natAbs / g<=4611686018427387903:=Nat.le_trans (Nat.div_le_self _ _) va5;have hp:∀ h,e.natAbs / h<=4611686018427387903:=fun h=>Nat.le_trans (Nat.div_le_self _ _) va5
 have fe:=jn d.natAbs g va5;have ff:=jn e.natAbs g va5;have fh:=fun h=>jn e.natAbs h va5
 generalize d.natAbs / g=p at *
 generalize e.natAbs / g=q at *
 have p1:=ax n.natAbs q va5 va5;have p2:=ax m.natAbs p va5 va5;have hx:n.natAbs*q<=4611686018427387903*4611686018427387903:=Nat.mul_le_mul va5 l2;have hy:m.natAbs*p<=4611686018427387903*4611686018427387903:=Nat.mul_le_mul va5 l1;have kx:((n.natAbs*q:Nat):Int)=if n<0 then -(n*q)else n*q:=by
  rw[Int.natCast_mul];split
  ·rw[show((n.natAbs:Nat):Int) = -n by omega,Int.neg_mul]
  ·rw[show((n.natAbs:Nat):Int)=n by omega]
 have ky:((m.natAbs*p:Nat):Int)=if m<0 then -(m*p)else m*p:=by
  rw[Int.natCast_mul];split
  ·rw[show((m.natAbs:Nat):Int) = -m by omega,Int.neg_mul]
  ·rw[show((m.natAbs:Nat):Int)=m by omega]
 have c2:=zG (n.natAbs*q) (m.natAbs*p) va5 va5;generalize n.natAbs*q=X at *
 generalize m.natAbs*p=Y at *
 generalize n*(q:Int)=NX at *
 generalize m*(p:Int)=MY at *
 have c3:=fun(T:Nat) (hT:T<340282366920938463463374607431768211456)=>He T g hT pk va5
 have c4:=fun(T:Nat)=>pC g (T % g) va5 (Nat.lt_trans (Nat.mod_lt T pk) va5)
 have QH:∀ T,0<Nat.gcd g (T % g):=fun T=>Nat.gcd_pos_of_pos_left _ pk
 have hhl:∀ T,Nat.gcd g (T % g)<=g:=fun T=>Nat.gcd_le_left _ pk
 have c5:=fun(T:Nat) (hT:T<340282366920938463463374607431768211456)=>He T (Nat.gcd g (T % g)) hT (QH T) (Nat.lt_of_le_of_lt (hhl T) va5)
 have c6:=fun(h:Nat)=>ax p (e.natAbs / h) va5 (Nat.lt_of_le_of_lt (hp h) va5)
 have hD:∀ h,p*(e.natAbs / h)<340282366920938463463374607431768211456:=fun h=>Nat.lt_of_le_of_lt (Nat.mul_le_mul l1 (hp h)) va8
 have c7:=fun(neg:Bool) (T:Nat) (h:Nat) (hT:T<340282366920938463463374607431768211456)=>zH neg (T / h) (p*(e.natAbs / h)) (Nat.lt_of_le_of_lt (Nat.div_le_self _ _) hT) (hD h)
 refine vb4 Tryz.func260 ?_;have cZ:=M0 n i1;have cZ:=M0 d i2;have cZ:=M0 m i3;have cZ:=M0 e i4;refine vc6 ?_;intros;rw[ff];have cZ:=M0 d i2;have cZ:=M0 m i3;refine vc6 ?_;intros;rw[fe];refine vc8 ?_ ?_ ?_<;>intros
 ·have hs:(n<0/\¬ m<0)∨(¬ n<0/\m<0):=by
   by_cases s1:n<0<;>by_cases s2:m<0<;>simp[s1,s2]at * <;> omega
  have hT:Y-X<340282366920938463463374607431768211456:=by omega
  have hz:=QH (Y-X);(repeat' ((first|refine va0 (fun hh=>?_) fun hh=>?_|refine kR ?_|((try refine .inl ?_;conv=>whnf);(try refine⟨false,?_⟩;conv=>whnf);refine⟨_,by first|exact GZ Y X va5 va5|exact c3 (Y-X) hT|exact c4 (Y-X)|exact c5 (Y-X) hT|exact M0 d i2|exact M0 e i4,?_⟩)|fail)<;>first|exact hh.elim|conv=>whnf));rw[fe,fh];have cZ:=c6 (Nat.gcd g ((Y-X) % g));have cZ:=c7 (decide (m<0)) (Y-X) (Nat.gcd g ((Y-X) % g)) hT;refine vc6 ?_;intros;rw[<- law (decide (m<0)) (Y-X) (Nat.gcd g ((Y-X) % g)) (by split at kx<;>split at ky<;>omega) rfl (by intro h0;refine decide_eq_decide.2 ?_;split at kx<;>split at ky<;>omega)]
 ·have hs:(n<0/\¬ m<0)∨(¬ n<0/\m<0):=by
   by_cases s1:n<0<;>by_cases s2:m<0<;>simp[s1,s2]at * <;> omega
  have hT:X-Y<340282366920938463463374607431768211456:=by omega
  have hz:=QH (X-Y);(repeat' ((first|refine va0 (fun hh=>?_) fun hh=>?_|refine kR ?_|((try refine .inl ?_;conv=>whnf);(try refine⟨false,?_⟩;conv=>whnf);refine⟨_,by first|exact GZ X Y va5 va5|exact c3 (X-Y) hT|exact c4 (X-Y)|exact c5 (X-Y) hT|exact M0 d i2|exact M0 e i4,?_⟩)|fail)<;>first|exact hh.elim|conv=>whnf));rw[fe,fh];have cZ:=c6 (Nat.gcd g ((X-Y) % g));have cZ:=c7 (decide (n<0)) (X-Y) (Nat.gcd g ((X-Y) % g)) hT;refine vc6 ?_;intros;rw[<- law (decide (n<0)) (X-Y) (Nat.gcd g ((X-Y) % g)) (by split at kx<;>split at ky<;>omega) rfl (by intro h0;refine decide_eq_decide.2 ?_;split at kx<;>split at ky<;>omega)]
 ·have hs:(n<0/\m<0)∨(¬ n<0/\¬ m<0):=by
   by_cases s1:n<0<;>by_cases s2:m<0<;>simp[s1,s2]at * <;> omega
  have hT:X+Y<340282366920938463463374607431768211456:=by omega
  have hz:=QH (X+Y);(repeat' ((first|refine va0 (fun hh=>?_) fun hh=>?_|refine kR ?_|((try refine .inl ?_;conv=>whnf);(try refine⟨false,?_⟩;conv=>whnf);refine⟨_,by first|exact QJ X Y va5|exact c3 (X+Y) hT|exact c4 (X+Y)|exact c5 (X+Y) hT|exact M0 d i2|exact M0 e i4,?_⟩)|fail)<;>first|exact hh.elim|conv=>whnf));rw[fe,fh];have cZ:=c6 (Nat.gcd g ((X+Y) % g));have cZ:=c7 (decide (n<0)) (X+Y) (Nat.gcd g ((X+Y) % g)) hT;refine vc6 ?_;intros;rw[<- law (decide (n<0)) (X+Y) (Nat.gcd g ((X+Y) % g)) (by split at kx<;>split at ky<;>omega) rfl (by intro h0;refine decide_eq_decide.2 ?_;split at kx<;>split at ky<;>omega)]
def qv(a:Int×Int):Rat:=(a.1:Rat) / (a.2:Rat)
theorem pL{x y z:Rat}(hz:0<z):x*z<y*z↔x<y:=by
 constructor
 ·intro h;by_cases h1:x<y
  ·exact h1
  ·exact absurd h (Rat.not_lt.2 (Rat.mul_le_mul_of_nonneg_right (Rat.not_lt.1 h1) (Rat.le_of_lt hz)))
 ·intro h;exact Rat.mul_lt_mul_of_pos_right h hz
theorem tV{a b c d:Rat}(hb:0<b)(hd:0<d):a / b<c / d↔a*d<c*b:=by
 have e1:a / b*(b*d)=a*d:=by grind
 have e2:c / d*(b*d)=c*b:=by grind
 have h:0<b*d:=Rat.mul_pos hb hd;rw[<- pL h,e1,e2]
theorem iX{a b c d:Rat}(hb:b≠0)(hd:d≠0):a / b=c / d↔a*d=c*b:=by
 constructor<;>intro h<;>grind
theorem K5{n:Int}(h:0<n):(0:Rat)<(n:Rat):=Rat.intCast_lt_intCast.2 h
theorem fG{n:Int}(h:n≠0):(n:Rat)≠0:=fun e=>h (Rat.intCast_inj.1 e)
theorem qO{a b c d:Int}:(a:Rat)*b<(c:Rat)*d↔a*b<c*d:=by
 rw[<- Rat.intCast_mul,<- Rat.intCast_mul];exact Rat.intCast_lt_intCast
theorem fH{a b c d:Int}:(a:Rat)*b=(c:Rat)*d↔a*b=c*d:=by
 rw[<- Rat.intCast_mul,<- Rat.intCast_mul];exact Rat.intCast_inj
theorem Ct{a:Int×Int}(h:o7 a=true):0<a.2:=by have:=(A7 a).1 h;omega
theorem Tr{a b:Int×Int}(ha:o7 a=true)(hb:o7 b=true):qv a<qv b↔a.1*b.2<b.1*a.2:=by
 unfold qv;rw[tV (K5 (Ct ha)) (K5 (Ct hb)),qO]
theorem Ts{a b:Int×Int}(ha:o7 a=true)(hb:o7 b=true):qv a=qv b↔a=b:=by
 constructor
 ·unfold qv;rw[iX (fG (Int.ne_of_gt (Ct ha))) (fG (Int.ne_of_gt (Ct hb))),fH];exact nJ ha hb
 ·intro h;rw[h]
theorem Q4{a b:Int×Int}(ha:o7 a=true)(hb:o7 b=true):(qv a<qv b/\W6 a b = -1)∨(qv a=qv b/\a=b/\W6 a b=0)∨(qv b<qv a/\W6 a b=1):=by
 rw[Tr ha hb,Tr hb ha,Ts ha hb];unfold W6;by_cases h1:a.1*b.2<b.1*a.2
 ·simp[h1]
 ·by_cases h2:a.1*b.2=b.1*a.2
  ·refine .inr (.inl ⟨nJ ha hb h2,nJ ha hb h2,by simp[h1,h2]⟩)
  ·refine .inr (.inr ⟨va5,by simp[h1,h2]⟩)
theorem nT{a b:Int×Int}(ha:o7 a=true)(hb:o7 b=true):W6 a b<=0↔qv a<=qv b:=by
 rcases Q4 ha hb with ⟨h,e⟩|⟨h,_,e⟩|⟨h,e⟩<;>rw[e]<;>grind
theorem zM{a b:Int×Int}(ha:o7 a=true)(hb:o7 b=true):W6 a b<0↔qv a<qv b:=by
 rcases Q4 ha hb with ⟨h,e⟩|⟨h,_,e⟩|⟨h,e⟩<;>rw[e]<;>grind
theorem Hf{a b:Int×Int}(ha:o7 a=true)(hb:o7 b=true):0<W6 a b↔qv b<qv a:=by
 rcases Q4 ha hb with ⟨h,e⟩|⟨h,_,e⟩|⟨h,e⟩<;>rw[e]<;>grind
def iY(x:Rat)(r:(Int×Int)×Int):Prop:=(o7 r.1=true/\r.2=0/\qv r.1=x)∨(r=((0,0),4)/\∀ s,o7 s=true->qv s≠x)
theorem iY.unique{x:Rat}{r s:(Int×Int)×Int}(hr:iY x r)(hs:iY x s):r=s:=by
 rcases hr with ⟨h1,h2,h3⟩|⟨h1,h2⟩<;>rcases hs with ⟨k1,k2,k3⟩|⟨k1,k2⟩
 ·have:r.1=s.1:=(Ts h1 k1).1 (h3.trans k3.symm);exact Prod.ext this (h2.trans k2.symm)
 ·exact absurd h3 (k2 _ h1)
 ·exact absurd k3 (h2 _ k1)
 ·rw[h1,k1]
theorem iY.ok{x:Rat}{r:(Int×Int)×Int}(h:iY x r)(h0:r.2=0):o7 r.1=true/\qv r.1=x:=by
 rcases h with h|⟨h,_⟩
 ·exact⟨h.1,h.2.2⟩
 ·rw[h]at h0;cases h0
theorem iY.bad{x:Rat}{r:(Int×Int)×Int}(h:iY x r)(h0:r.2≠0):r=((0,0),4):=by
 rcases h with h|h
 ·exact absurd h.2.1 h0
 ·exact h.1
theorem Je{neg:Bool}{N D:Nat}(h:(X7 neg N D).2=0):N<=4611686018427387903/\D<=4611686018427387903/\(X7 neg N D).1=(if neg then -(N:Int)else N,(D:Int)):=by
 unfold X7 at h ⊢;by_cases hc:N<=4611686018427387903/\D<=4611686018427387903
 ·simp[hc]
 ·simp[hc]at h
theorem Cu{n d:Int}{g:Nat}(hg:g=Nat.gcd n.natAbs d.natAbs):(g:Int)*((n.natAbs / g:Nat):Int)=n.natAbs/\(g:Int)*((d.natAbs / g:Nat):Int)=d.natAbs:=by
 constructor
 ·have:=Nat.mul_div_cancel' (Nat.gcd_dvd_left n.natAbs d.natAbs);rw[<- hg]at this;rw[<- Int.natCast_mul,this]
 ·have:=Nat.mul_div_cancel' (Nat.gcd_dvd_right n.natAbs d.natAbs);rw[<- hg]at this;rw[<- Int.natCast_mul,this]
theorem Jf(n d:Int):G9 (-n) (-d)=G9 n d:=by
 unfold G9;by_cases h0:d=0
 ·simp[h0]
 ·have h1:¬ -d=0:=by omega
  rw[if_neg h0,if_neg h1,Int.natAbs_neg,Int.natAbs_neg];refine pH fun hN=>?_
  have:n≠0:=fun e=>by subst e;simp at hN
  by_cases h2:n<0<;>by_cases h3:d<0<;>simp[h2,h3]<;>omega
theorem jZ{n d:Int}(hd:0<d):iY ((n:Rat) / (d:Rat)) (G9 n d):=by
 have pk:0<Nat.gcd n.natAbs d.natAbs:=Nat.gcd_pos_of_pos_right _ va5;have hm:=aF (n:=n) hd;by_cases h:(G9 n d).2=0
 ·left
  rw[hm]at h ⊢;obtain⟨h1,h2,h3⟩:=Je h;rw[h3];have Zy:Nat.Coprime (n.natAbs / Nat.gcd n.natAbs d.natAbs) (d.natAbs / Nat.gcd n.natAbs d.natAbs):=Nat.coprime_div_gcd_div_gcd pk;obtain⟨g1,g2⟩:=Cu (n:=n) (d:=d) rfl;generalize Nat.gcd n.natAbs d.natAbs=g at *
  generalize n.natAbs / g=N at *
  generalize d.natAbs / g=D at *
  have hD0:D≠0:=fun e=>by subst e;simp at g2;omega
  refine⟨?_,h,?_⟩
  ·rw[A7];simp only[];refine⟨va5,va5,by split<;>omega,by split<;>omega,?_⟩;split<;>simpa using Zy
  ·show((if decide (n<0)then -(N:Int)else(N:Int):Int):Rat) / ((D:Int):Rat)=_
   rw[iX (fG va5) (fG va5),fH];have g2':(g:Int)*D=d:=by omega
   have g1':(g:Int)*(if decide (n<0)then -(N:Int)else(N:Int):Int)=n:=by
    by_cases hn:n<0
    ·simp only[hn,decide_true,if_true];rw[Int.mul_neg];omega
    ·simp only[hn,decide_false,zB0,if_false];omega
   obtain⟨M,hM⟩:∃ M:Int,M=(if decide (n<0)then -(N:Int)else(N:Int)):=⟨_,rfl⟩
   rw[<- hM]at g1' ⊢;clear hM h3
   grind
 ·right
  have hv:G9 n d=((0,0),4):=by
   rw[hm]at h ⊢;unfold X7 at h ⊢;by_cases hc:n.natAbs / Nat.gcd n.natAbs d.natAbs<=4611686018427387903/\d.natAbs / Nat.gcd n.natAbs d.natAbs<=4611686018427387903
   ·simp[hc]at h
   ·simp only[hc,if_false]
  refine⟨hv,fun s hs he=>h ?_⟩;have Pz:=(A7 s).1 hs;obtain⟨p,q⟩:=s;simp only[]at Pz;have WJ:p*d=n*q:=by
   have:qv (p,q)=(p:Rat) / (q:Rat):=rfl;rw[this,iX (fG va5) (fG va5),fH]at he;exact he
  -- d = k q, n = k p
  have Zy:Nat.Coprime p.natAbs q.natAbs:=Pz.2.2.2.2;have hdv:q.natAbs ∣ d.natAbs:=by
   have:q.natAbs ∣ p.natAbs*d.natAbs:=⟨n.natAbs,by rw[<- Int.natAbs_mul,WJ,Int.natAbs_mul,Nat.mul_comm]⟩
   exact Zy.symm.dvd_of_dvd_mul_left this
  obtain⟨k,hk⟩:=hdv;have LW:0<k:=by
   rcases Nat.eq_zero_or_pos k with e|e
   ·subst e;simp at hk;omega
   ·exact e
  have mU:d=(k:Int)*q:=by
   have:((d.natAbs:Nat):Int)=((q.natAbs*k:Nat):Int):=by rw[hk]
   rw[Int.natCast_mul]at this;rw[Int.mul_comm];have e1:((d.natAbs:Nat):Int)=d:=by omega
   have e2:((q.natAbs:Nat):Int)=q:=by omega
   rw[e1,e2]at this;exact this
  have vM:n=(k:Int)*p:=by
   have:n*q=(k:Int)*p*q:=by rw[<- WJ,mU];grind
   exact Int.eq_of_mul_eq_mul_right (show q≠0 by omega) this
  rw[vM,mU,qM LW _ _ va5,aF va5];have WY:Nat.gcd p.natAbs q.natAbs=1:=Zy;rw[WY,Nat.div_one,Nat.div_one];unfold X7;have:p.natAbs<=4611686018427387903/\q.natAbs<=4611686018427387903:=by omega
  simp[this]
theorem bS{n d:Int}(hd:d≠0):iY ((n:Rat) / (d:Rat)) (G9 n d):=by
 by_cases h:0<d
 ·exact jZ h
 ·have:=jZ (n := -n) (d := -d) va5;rw[Jf]at this;have e:((-n:Int):Rat) / ((-d:Int):Rat)=(n:Rat) / (d:Rat):=by
   rw[iX (fG va5) (fG hd),fH]
   grind
  rw[e]at this;exact this
theorem xC{a b:Int×Int}(ha:o7 a=true)(hb:o7 b=true):iY (qv a+qv b) (iW a b):=by
 have h1:=Ct ha;have h2:=Ct hb;have h:=bS (n:=a.1*b.2+b.1*a.2) (d:=a.2*b.2) (Int.ne_of_gt (Int.mul_pos h1 h2));have c1:=K5 h1;have c2:=K5 h2;have e:((a.1*b.2+b.1*a.2:Int):Rat) / ((a.2*b.2:Int):Rat)=qv a+qv b:=by
  unfold qv;rw[Rat.intCast_mul,Rat.intCast_add,Rat.intCast_mul,Rat.intCast_mul]
  grind
 rw[e]at h;exact h
theorem dT{a b:Int×Int}(ha:o7 a=true)(hb:o7 b=true):iY (qv a*qv b) (Z4 a b):=by
 have h1:=Ct ha;have h2:=Ct hb;have h:=bS (n:=a.1*b.1) (d:=a.2*b.2) (Int.ne_of_gt (Int.mul_pos h1 h2));have c1:=K5 h1;have c2:=K5 h2;have e:((a.1*b.1:Int):Rat) / ((a.2*b.2:Int):Rat)=qv a*qv b:=by
  unfold qv;rw[Rat.intCast_mul,Rat.intCast_mul]
  grind
 rw[e]at h;exact h
def tW(a:Int×Int):Int×Int:=(-a.1,a.2)
theorem rV{a:Int×Int}(ha:o7 a=true):o7 (tW a)=true/\qv (tW a) = -qv a:=by
 have h:=(A7 a).1 ha;refine⟨?_,?_⟩
 ·rw[A7];show _/\_/\_/\_/\Nat.gcd (-a.1).natAbs a.2.natAbs=1
  rw[Int.natAbs_neg];simp only[tW];omega
 ·unfold qv tW;simp only[Rat.intCast_neg]
  grind
def dK(a b:Int×Int):(Int×Int)×Int:=iW a (tW b)
theorem kH{a b:Int×Int}(ha:o7 a=true)(hb:o7 b=true):iY (qv a-qv b) (dK a b):=by
 have h:=xC ha (rV hb).1;rw[(rV hb).2]at h;have e:qv a + -qv b=qv a-qv b:=by grind
 rw[e]at h;exact h
abbrev zS:V3:=((0,0),(0,0))
def U7(a b:Int×Int):Int×Int:=if W6 b a<0 then b else a
def S7(a b:Int×Int):Int×Int:=if 0<W6 b a then b else a
def O3(op:Int×Int->Int×Int->(Int×Int)×Int):V3->List V3->V3×Int
 | s,[]=>(s,0)
 | s,p :: l=>if (op p.1 p.2).2≠0 then(zS,(op p.1 p.2).2)else O3 op (U7 s.1 (op p.1 p.2).1,S7 s.2 (op p.1 p.2).1) l
def O6(op:Int×Int->Int×Int->(Int×Int)×Int):List V3->V3×Int
 | []=>(zS,0)
 | p :: l=>if (op p.1 p.2).2≠0 then(zS,(op p.1 p.2).2)else O3 op ((op p.1 p.2).1,(op p.1 p.2).1) l
theorem eE{a b:Int×Int}(ha:o7 a=true)(hb:o7 b=true):o7 (U7 a b)=true:=by
 unfold U7;split<;>assumption
theorem eH{a b:Int×Int}(ha:o7 a=true)(hb:o7 b=true):o7 (S7 a b)=true:=by
 unfold S7;split<;>assumption
theorem xD(a b:Int×Int)(ha:o7 a=true)(hb:o7 b=true):va6 235 [fr a,fr b] (fr (U7 a b)):=by
 have c:=tM b a hb ha;have h:U7 a b=if W6 b a<0 then b else a:=rfl
 rw[h];generalize W6 b a=x at *
 refine vb4 Tryz.func235 ?_;refine vc7 ?_ ?_<;>(repeat intro hh)
 ·rw[if_pos hh]
 ·rw[if_neg hh]
theorem tX(a b:Int×Int)(ha:o7 a=true)(hb:o7 b=true):va6 236 [fr a,fr b] (fr (S7 a b)):=by
 have c:=tM b a hb ha;have h:S7 a b=if 0<W6 b a then b else a:=rfl
 rw[h];generalize W6 b a=x at *
 refine vb4 Tryz.func236 ?_;refine vc7 ?_ ?_<;>(repeat intro hh)
 ·rw[if_pos hh]
 ·rw[if_neg hh]
theorem vW(a b:Int×Int)(ha:o7 a=true)(hb:o7 b=true):va6 234 [fr a,fr b] (.tup [fr (dK a b).1,i64 (dK a b).2]):=by
 have c:=MR b hb;have c2:=Na a (tW b) ha (rV hb).1;have hs:dK a b=iW a (tW b):=rfl;rw[hs];refine pF Tryz.func234 ?_;conv=>whnf
 try exact va1
theorem Jg{α:Type}(d:α)(l:List α)(k:Nat)(h:k<l.length):l.drop k=l.getD k d :: l.drop (k+1):=by
 rw[List.drop_eq_getElem_cons h];simp[List.getD,h]
theorem QP(D:FuncId)(op:Int×Int->Int×Int->(Int×Int)×Int)(l:List V3)(hl:l.length<2^40)(hv:∀ p ∈ l,o7 p.1=true/\o7 p.2=true)
  (hD:∀ a b,o7 a=true->o7 b=true->va6 D [fr a,fr b] (.tup [fr (op a b).1,i64 (op a b).2])) (bf:∀ a b,o7 a=true->o7 b=true->(op a b).2=0->o7 (op a b).1=true) :
  va6 196 [.fn (.func D) [] [],sps l] (.tup [sp (O6 op l).1,i64 (O6 op l).2]):=by
 refine vb4 Tryz.func196 ?_;refine Or.inr ⟨Nat×V3,[13],[6],[],fun i=>[i64 i.1],fun i=>[.cells 44 (eS i.2)],fun _=>[],fun i=>l.length-i.1,fun i=>i.1<=l.length/\(i.1=0->i.2=zS)/\(0<i.1->o7 i.2.1=true/\o7 i.2.2=true/\O6 op l=O3 op i.2 (l.drop i.1)),vb3 ?_⟩;refine⟨⟨(0,zS),?_⟩,?_⟩
 ·(conv=>whnf);exact kK ⟨⟨zB4 _,fun _=>rfl,fun h=>absurd h (Nat.lt_irrefl _)⟩,rfl,rfl,rfl⟩
 ·rintro⟨k,s⟩ ⟨h1,h2,h3⟩;simp only[]at h1 h2 h3;conv=>whnf
  refine⟨fun h=>?_,fun h=>?_⟩
  ·have h:=zA1 h;have hk:k<l.length:=by omega
   conv=>whnf
   refine⟨⟨va5,va5⟩,?_⟩;have hg:l.getD (Int.toNat (k:Int)) zS=l.getD k zS:=rfl;have Zz:=hv (l.getD k zS) (by simp[List.getD,hk]);have Qx:=Jg zS l k hk;rw[hg];have ao:k=0->l=l.getD k zS :: l.drop (k+1):=fun e=>by rw[<- Qx,e,List.drop_zero]
   generalize l.getD k zS=p at *
   obtain⟨⟨n,d⟩,⟨m,e⟩⟩:=p;have c:=hD (n,d) (m,e) Zz.1 Zz.2;have cv:=bf (n,d) (m,e) Zz.1 Zz.2;have hG:∀ s,O3 op s (((n,d),(m,e)) :: l.drop (k+1))=if (op (n,d) (m,e)).2≠0 then(zS,(op (n,d) (m,e)).2)else O3 op (U7 s.1 (op (n,d) (m,e)).1,S7 s.2 (op (n,d) (m,e)).1) (l.drop (k+1)):=fun s=>rfl
   have hF:O6 op (((n,d),(m,e)) :: l.drop (k+1))=if (op (n,d) (m,e)).2≠0 then(zS,(op (n,d) (m,e)).2)else O3 op ((op (n,d) (m,e)).1,(op (n,d) (m,e)).1) (l.drop (k+1)):=rfl
   generalize op (n,d) (m,e)=r at *
   obtain⟨x,er⟩:=r;simp only[]at c cv hG hF;conv=>whnf
   refine vc8 ?_ ?_ ?_<;>(repeat intro hh)
   ·have e:O6 op l=(zS,er):=by
     by_cases h0:k=0
     ·rw[ao h0,hF,if_pos hh]
     ·rw[(h3 va5).2.2,Qx,hG,if_pos hh]
    rw[e]
   ·have h0:k=0:=by omega
    rename_i he;refine⟨(k+1,(x,x)),vb3 ?_⟩;refine kK ⟨⟨Nat.sub_lt_sub_left va5 (Nat.lt_succ_self k),⟨va5,fun h=>absurd h va5,fun _=>⟨cv he,cv he,?_⟩⟩⟩,?_,rfl,rfl⟩
    ·show O6 op l=O3 op (x,x) (l.drop (k+1))
     rw[ao h0,hF,if_neg va5];rw[<- ao h0]
    ·rw[z5 _ va5 va5];rfl
   ·have h0:0<k:=by omega
    rename_i he;obtain⟨v1,v2,v3⟩:=h3 h0;obtain⟨⟨s1,s2⟩,⟨s3,s4⟩⟩:=s;have cl:=xD (s1,s2) x v1 (cv he);have cg:=tX (s3,s4) x v2 (cv he);refine vc6 ?_;(repeat intro hh);refine⟨(k+1,(U7 (s1,s2) x,S7 (s3,s4) x)),vb3 ?_⟩;refine kK ⟨⟨Nat.sub_lt_sub_left va5 (Nat.lt_succ_self k),⟨va5,fun h=>absurd h va5,fun _=>⟨eE v1 (cv he),eH v2 (cv he),?_⟩⟩⟩,?_,rfl,rfl⟩
    ·show O6 op l=O3 op (U7 (s1,s2) x,S7 (s3,s4) x) (l.drop (k+1))
     rw[v3,Qx,hG,if_neg va5]
    ·rw[z5 _ va5 va5];rfl
  ·have h:=zA0 h;have hk:k=l.length:=by omega
   conv=>whnf
   by_cases h0:k=0
   ·have:l=[]:=List.eq_nil_of_length_eq_zero va5;subst this;rw[h2 h0];rfl
   ·rw[(h3 va5).2.2,hk,List.drop_length];rfl
theorem Cv(D:FuncId)(op:Int×Int->Int×Int->(Int×Int)×Int)(l:List V3)(hl:l.length<2^40)(hv:∀ p ∈ l,o7 p.1=true/\o7 p.2=true)
  (hD:∀ a b,o7 a=true->o7 b=true->va6 D [fr a,fr b] (.tup [fr (op a b).1,i64 (op a b).2])) (bf:∀ a b,o7 a=true->o7 b=true->(op a b).2=0->o7 (op a b).1=true) :
  va6 196 [.fn (.func D) [] [],.slc 4 (l.map eS)] (.tup [sp (O6 op l).1,i64 (O6 op l).2]) :=
 PC.last (args:=[.fn (.func D) [] []]) (QP D op l hl hv hD bf) (.slc 4 zS eS l)
def Z1(s:V3)(x:Int×Int):Bool:=decide (W6 s.1 x<=0) && decide (W6 x s.2<=0)
theorem L3{s:V3}:y9 s=true↔o7 s.1=true/\o7 s.2=true/\W6 s.1 s.2<=0:=by
 simp[y9,and_assoc]
theorem Nb:∀ a b,o7 a=true->o7 b=true->(dK a b).2=0->o7 (dK a b).1=true:=fun a b ha hb h=>((kH ha hb).ok h).1
theorem gV:∀ a b,o7 a=true->o7 b=true->(Z4 a b).2=0->o7 (Z4 a b).1=true:=fun a b ha hb h=>((dT ha hb).ok h).1
def tY(a b:V3):List V3:=[(a.1,b.1),(a.1,b.2),(a.2,b.1),(a.2,b.2)]
def Fe(a b:V3):V3×Int:=if y9 a && y9 b then O6 dK [(a.1,b.2),(a.2,b.1)]else(zS,8)
def W7(a b:V3):V3×Int:=if y9 a && y9 b then O6 Z4 (tY a b)else(zS,8)
theorem tZ{a b:V3}(ha:y9 a=true)(hb:y9 b=true):∀ p ∈ tY a b,o7 p.1=true/\o7 p.2=true:=by
 rw[L3]at ha hb;intro p hp;simp only[tY,List.mem_cons,List.not_mem_nil,or_false]at hp;rcases hp with rfl|rfl|rfl|rfl<;>simp[ha,hb]
theorem UL(a b:V3):va6 198 [sp a,sp b] (.slc 4 ((tY a b).map eS)):=by
 refine vb4 Tryz.func198 ?_;refine ve4 ?_;intros;rfl
theorem Cw(a b:V3):va6 195 [sp a,sp b] (.tup [sp (Fe a b).1,i64 (Fe a b).2]):=by
 have c1:=pE a b;have hs:Fe a b=if y9 a && y9 b then O6 dK [(a.1,b.2),(a.2,b.1)]else(zS,8):=rfl
 rw[hs];cases ha:y9 a
 ·rw[ha]at c1;refine vb4 Tryz.func195 ?_;refine vc6 ?_;intros;all_goals simp
 cases hb:y9 b
 ·rw[ha,hb]at c1;refine vb4 Tryz.func195 ?_;refine vc6 ?_;intros;all_goals simp
 rw[ha,hb]at c1;have va:=L3.1 ha;have vb:=L3.1 hb;have c2:=Cv 234 dK [(a.1,b.2),(a.2,b.1)] va9 (by simp[va,vb]) vW Nb;generalize O6 dK [(a.1,b.2),(a.2,b.1)]=r at *
 refine vb4 Tryz.func195 ?_;refine vc6 ?_;intros;all_goals simp
theorem Cx(a b:V3):va6 155 [sp a,sp b] (.tup [sp (W7 a b).1,i64 (W7 a b).2]):=by
 have c1:=pE a b;have hs:W7 a b=if y9 a && y9 b then O6 Z4 (tY a b)else(zS,8):=rfl
 rw[hs];cases ha:y9 a
 ·rw[ha]at c1;refine vb4 Tryz.func155 ?_;refine vc6 ?_;intros;all_goals simp
 cases hb:y9 b
 ·rw[ha,hb]at c1;refine vb4 Tryz.func155 ?_;refine vc6 ?_;intros;all_goals simp
 rw[ha,hb]at c1;have c3:=UL a b;have c2:=Cv 197 Z4 (tY a b) (by simp[tY]) (tZ ha hb) MS gV;generalize O6 Z4 (tY a b)=r at *
 refine vb4 Tryz.func155 ?_;refine vc6 ?_;intros;all_goals simp
theorem Hg{a b:Int×Int}(ha:o7 a=true)(hb:o7 b=true):qv (U7 a b)<=qv a/\qv (U7 a b)<=qv b/\(U7 a b=a∨U7 a b=b):=by
 unfold U7;rcases Q4 hb ha with ⟨h,e⟩|⟨h,_,e⟩|⟨h,e⟩<;>rw[e]<;>simp<;>grind
theorem Hh{a b:Int×Int}(ha:o7 a=true)(hb:o7 b=true):qv a<=qv (S7 a b)/\qv b<=qv (S7 a b)/\(S7 a b=a∨S7 a b=b):=by
 unfold S7;rcases Q4 hb ha with ⟨h,e⟩|⟨h,_,e⟩|⟨h,e⟩<;>rw[e]<;>simp<;>grind
theorem Hi{a b:Int×Int}(ha:o7 a=true)(hb:o7 b=true):U7 a b=if W6 a b<=0 then a else b:=by
 unfold U7;rcases Q4 ha hb with ⟨h,e⟩|⟨_,h,e⟩|⟨h,e⟩<;>rcases Q4 hb ha with ⟨k,f⟩|⟨_,k,f⟩|⟨k,f⟩<;>rw[e,f]<;>simp<;>grind
theorem QQ{a b:Int×Int}(ha:o7 a=true)(hb:o7 b=true):S7 a b=if 0<=W6 a b then a else b:=by
 unfold S7;rcases Q4 ha hb with ⟨h,e⟩|⟨_,h,e⟩|⟨h,e⟩<;>rcases Q4 hb ha with ⟨k,f⟩|⟨_,k,f⟩|⟨k,f⟩<;>rw[e,f]<;>simp<;>grind
theorem Nc{op:Int×Int->Int×Int->(Int×Int)×Int}{p q:V3}{x y:Rat}(hp:iY x (op p.1 p.2))(hq:iY y (op q.1 q.2))(h:x<=y) :
  O6 op [p,q]=if (op p.1 p.2).2=0/\(op q.1 q.2).2=0 then(((op p.1 p.2).1,(op q.1 q.2).1),0)else(zS,4):=by
 simp only[O6,O3];by_cases h1:(op p.1 p.2).2=0
 ·by_cases h2:(op q.1 q.2).2=0
  ·obtain⟨v1,e1⟩:=hp.ok h1;obtain⟨v2,e2⟩:=hq.ok h2;have hle:=(nT v1 v2).2 (by rw[e1,e2];exact h);rw[Hi v1 v2,if_pos hle];have hg:S7 (op p.1 p.2).1 (op q.1 q.2).1=(op q.1 q.2).1:=by
    unfold S7;rcases Q4 v1 v2 with ⟨h,e⟩|⟨_,h,e⟩|⟨h,e⟩
    ·rw[if_pos ((Hf v2 v1).2 h)]
    ·rw[h];split<;>rfl
    ·omega
   rw[hg];simp[h1,h2]
  ·have:=hq.bad h2;simp[h1,h2,this]
 ·have:=hp.bad h1;simp[h1,this]
theorem Z5{s:V3}:y9 s=true↔o7 s.1=true/\o7 s.2=true/\qv s.1<=qv s.2:=by
 rw[L3]
 constructor
 ·rintro⟨a,b,c⟩;exact⟨a,b,(nT a b).1 c⟩
 ·rintro⟨a,b,c⟩;exact⟨a,b,(nT a b).2 c⟩
theorem QR{s:V3}(h:y9 s=true):A4 s.1.1/\A4 s.1.2/\A4 s.2.1/\A4 s.2.2:=by
 obtain⟨a,b,_⟩:=L3.1 h;have:=(A7 _).1 a;have:=(A7 _).1 b;unfold A4;omega
theorem Cy{op:Int×Int->Int×Int->(Int×Int)×Int}(bf:∀ a b,o7 a=true->o7 b=true->(op a b).2=0->o7 (op a b).1=true) :
  ∀ (l:List V3) (s:V3),(∀ p ∈ l,o7 p.1=true/\o7 p.2=true)->y9 s=true->(O3 op s l).2=0 ->
   y9 (O3 op s l).1=true/\qv (O3 op s l).1.1<=qv s.1/\qv s.2<=qv (O3 op s l).1.2 /\
   (∀ p ∈ l,(op p.1 p.2).2=0/\qv (O3 op s l).1.1<=qv (op p.1 p.2).1/\qv (op p.1 p.2).1<=qv (O3 op s l).1.2) /\
   ((O3 op s l).1.1=s.1∨∃ p ∈ l,(O3 op s l).1.1=(op p.1 p.2).1)/\((O3 op s l).1.2=s.2∨∃ p ∈ l,(O3 op s l).1.2=(op p.1 p.2).1)
 | [],s,_,hs,_=>⟨hs,by simp only[O3];exact Rat.le_refl,by simp only[O3];exact Rat.le_refl,by simp,.inl rfl,.inl rfl⟩
 | p :: l,s,hl,hs,h=>by
  have hp:=hl p va9;by_cases h0:(op p.1 p.2).2=0
  ·have hv:=bf _ _ hp.1 hp.2 h0;have e:O3 op s (p :: l)=O3 op (U7 s.1 (op p.1 p.2).1,S7 s.2 (op p.1 p.2).1) l:=by simp[O3,h0]
   rw[e]at h ⊢;obtain⟨s1,s2,s3⟩:=Z5.1 hs;obtain⟨l1,l2,l3⟩:=Hg s1 hv;obtain⟨g1,g2,g3⟩:=Hh s2 hv;have Pz:y9 (U7 s.1 (op p.1 p.2).1,S7 s.2 (op p.1 p.2).1)=true:=Z5.2 ⟨eE s1 hv,eH s2 hv,by simp only[];grind⟩;obtain⟨i1,i2,i3,i4,i5,i6⟩:=Cy bf l _ (fun q hq=>hl q (by simp[hq])) Pz h;simp only[]at i2 i3 i5 i6;generalize O3 op (U7 s.1 (op p.1 p.2).1,S7 s.2 (op p.1 p.2).1) l=r at *
   refine⟨i1,by grind,by grind,?_,?_,?_⟩
   ·intro q hq;rcases List.mem_cons.1 hq with rfl|hq
    ·exact⟨h0,by grind,by grind⟩
    ·exact i4 q hq
   ·rcases i5 with i5|⟨q,hq,i5⟩
    ·rcases l3 with l3|l3
     ·left;rw[i5,l3]
     ·right;exact⟨p,by simp,by rw[i5,l3]⟩
    ·right;exact⟨q,by simp[hq],i5⟩
   ·rcases i6 with i6|⟨q,hq,i6⟩
    ·rcases g3 with g3|g3
     ·left;rw[i6,g3]
     ·right;exact⟨p,by simp,by rw[i6,g3]⟩
    ·right;exact⟨q,by simp[hq],i6⟩
  ·exfalso;simp[O3,h0]at h
theorem Nd{op:Int×Int->Int×Int->(Int×Int)×Int}(bf:∀ a b,o7 a=true->o7 b=true->(op a b).2=0->o7 (op a b).1=true)
  (l:List V3) (hl:∀ p ∈ l,o7 p.1=true/\o7 p.2=true) (V8:l≠[]) (h:(O6 op l).2=0) :
   y9 (O6 op l).1=true /\
   (∀ p ∈ l,(op p.1 p.2).2=0/\qv (O6 op l).1.1<=qv (op p.1 p.2).1/\qv (op p.1 p.2).1<=qv (O6 op l).1.2) /\
   (∃ p ∈ l,(O6 op l).1.1=(op p.1 p.2).1)/\(∃ p ∈ l,(O6 op l).1.2=(op p.1 p.2).1):=by
 match l,V8,hl,h with
 | p :: l,_,hl,h =>
  have hp:=hl p va9;by_cases h0:(op p.1 p.2).2=0
  ·have hv:=bf _ _ hp.1 hp.2 h0;have e:O6 op (p :: l)=O3 op ((op p.1 p.2).1,(op p.1 p.2).1) l:=by simp[O6,h0]
   rw[e]at h ⊢;obtain⟨i1,i2,i3,i4,i5,i6⟩:=Cy bf l ((op p.1 p.2).1,(op p.1 p.2).1) (fun q hq=>hl q (by simp[hq])) (Z5.2 ⟨hv,hv,Rat.le_refl⟩) h;simp only[]at i2 i3 i5 i6;refine⟨i1,?_,?_,?_⟩
   ·intro q hq;rcases List.mem_cons.1 hq with rfl|hq
    ·exact⟨h0,i2,i3⟩
    ·exact i4 q hq
   ·rcases i5 with i5|⟨q,hq,i5⟩
    ·exact⟨p,by simp,i5⟩
    ·exact⟨q,by simp[hq],i5⟩
   ·rcases i6 with i6|⟨q,hq,i6⟩
    ·exact⟨p,by simp,i6⟩
    ·exact⟨q,by simp[hq],i6⟩
  ·exfalso;simp[O6,h0]at h

end Go.Proofs.Tryz.My
