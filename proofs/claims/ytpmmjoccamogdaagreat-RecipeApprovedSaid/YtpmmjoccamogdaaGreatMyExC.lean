/- Helper lemmas. -/
import Derived.Test.YtpmmjoccamogdaaGreatMyRf1
set_option linter.unusedVariables false
set_option linter.unusedSimpArgs false
set_option maxRecDepth 100000
set_option maxHeartbeats 0
namespace Go.Proofs.Tryz.My
open Go Go.Ev
def eZ (a b:Int×Int):(Int×Int)×Int:=F6 (a.1 * b.2 + b.1 * a.2) (a.2 * b.2)
def jQ (a b:Int×Int):(Int×Int)×Int:=F6 (a.1 * b.1) (a.2 * b.2)
theorem gk {N D:Nat} {b c:Bool} (h:N≠0->b=c):P4 b N D=P4 c N D:=by
 by_cases e:N=0
 ·subst e;cases b<;>cases c<;>simp [P4]
 ·rw [h e]
theorem T3 {n d:Int} (hd:0 < d):F6 n d=P4 (decide (n < 0)) (n.natAbs / Nat.gcd n.natAbs d.natAbs) (d.natAbs / Nat.gcd n.natAbs d.natAbs):=by
 unfold F6
 rw [if_neg (by omega)]
 have:decide (d < 0)=false:=decide_eq_false (by omega)
 rw [this]
 simp
theorem cw (k:Nat) (n:Int):((k:Int) * n).natAbs=k * n.natAbs:=by rw [Int.natAbs_mul];simp
theorem ig {k:Nat} (hk:0 < k) (n d:Int) (hd:0 < d):F6 (k * n) (k * d)=F6 n d:=by
 have LA:0 < (k:Int) * d:=Int.mul_pos (by omega) hd
 rw [T3 LA,T3 hd,cw,cw,Nat.gcd_mul_left,Nat.mul_div_mul_left _ _ hk,Nat.mul_div_mul_left _ _ hk]
 congr 1
 refine decide_eq_decide.2 ⟨fun h=>?_,fun h=>Int.mul_neg_of_pos_of_neg (by omega) h⟩
 by_cases h0:n < 0
 ·exact h0
 ·have:0<=(k:Int) * n:=Int.mul_nonneg (by omega) (by omega)
  omega
theorem AO {n m:Int} {g p q:Nat} (h1:Nat.gcd n.natAbs (g * p)=1) (h2:Nat.gcd m.natAbs (g * q)=1) (h3:Nat.gcd p q=1):Nat.gcd (n * q + m * p).natAbs (g * p * q)=Nat.gcd (n * q + m * p).natAbs g:=by
 have cp:Nat.Coprime n.natAbs p:=Nat.Coprime.coprime_mul_left_right h1
 have cq:Nat.Coprime m.natAbs q:=Nat.Coprime.coprime_mul_left_right h2
 have k1:Nat.Coprime p (n * q + m * p).natAbs:=by
  have h:∀ d:Nat,d ∣ p->d ∣ (n * q + m * p).natAbs->d ∣ n.natAbs * q:=fun d dI iC=>by
   have e1:(d:Int) ∣ n * q + m * p:=Int.ofNat_dvd_left.2 iC
   have e2:(d:Int) ∣ m * p:=Int.dvd_trans (Int.natCast_dvd_natCast.2 dI) (Int.dvd_mul_left _ _)
   have e3:(d:Int) ∣ n * q:=by
    have:=Int.dvd_sub e1 e2
    rwa [Int.add_sub_cancel] at this
   have:=Int.ofNat_dvd_left.1 e3
   rwa [Int.natAbs_mul,Int.natAbs_natCast] at this
  have d1:=Nat.gcd_dvd_left p (n * q + m * p).natAbs
  have d2:=Nat.gcd_dvd_right p (n * q + m * p).natAbs
  have d3:=h _ d1 d2
  have c:Nat.Coprime p (n.natAbs * q):=Nat.Coprime.mul_right cp.symm h3
  exact Nat.dvd_one.1 (c ▸ Nat.dvd_gcd d1 d3)
 have k2:Nat.Coprime q (n * q + m * p).natAbs:=by
  have h:∀ d:Nat,d ∣ q->d ∣ (n * q + m * p).natAbs->d ∣ m.natAbs * p:=fun d dI iC=>by
   have e1:(d:Int) ∣ n * q + m * p:=Int.ofNat_dvd_left.2 iC
   have e2:(d:Int) ∣ n * q:=Int.dvd_trans (Int.natCast_dvd_natCast.2 dI) (Int.dvd_mul_left _ _)
   have e3:(d:Int) ∣ m * p:=by
    have:=Int.dvd_sub e1 e2
    rwa [Int.add_comm,Int.add_sub_cancel] at this
   have:=Int.ofNat_dvd_left.1 e3
   rwa [Int.natAbs_mul,Int.natAbs_natCast] at this
  have d1:=Nat.gcd_dvd_left q (n * q + m * p).natAbs
  have d2:=Nat.gcd_dvd_right q (n * q + m * p).natAbs
  have d3:=h _ d1 d2
  have c:Nat.Coprime q (m.natAbs * p):=Nat.Coprime.mul_right cq.symm (Nat.Coprime.symm h3)
  exact Nat.dvd_one.1 (c ▸ Nat.dvd_gcd d1 d3)
 generalize (n * q + m * p).natAbs=t at *
 have e:g * p * q=(p * q) * g:=by rw [Nat.mul_assoc,Nat.mul_comm]
 rw [e]
 exact Nat.Coprime.gcd_mul_left_cancel_right g (Nat.Coprime.mul_left k1 k2)
theorem AP {a b:Int×Int} (ha:k7 a=true) (hb:k7 b=true) (neg:Bool) (g p q T h:Nat) (hg:g=Nat.gcd a.2.natAbs b.2.natAbs) (hp:p=a.2.natAbs / g) (hq:q=b.2.natAbs / g) (hT:T=(a.1 * q + b.1 * p).natAbs) (hh:h=Nat.gcd g (T % g))
  (wH:T≠0->neg=decide (a.1 * q + b.1 * p < 0)):eZ a b=P4 neg (T / h) (p * (b.2.natAbs / h)):=by
 rw [B5] at ha hb
 obtain ⟨n,d⟩:=a
 obtain ⟨m,e⟩:=b
 simp only [] at *
 have fT:0 < g:=by rw [hg];exact Nat.gcd_pos_of_pos_left _ (by omega)
 have d1:g * p=d.natAbs:=by rw [hp];exact Nat.mul_div_cancel' (hg ▸ Nat.gcd_dvd_left _ _)
 have d2:g * q=e.natAbs:=by rw [hq];exact Nat.mul_div_cancel' (hg ▸ Nat.gcd_dvd_right _ _)
 have LB:0 < p:=by
  rcases Nat.eq_zero_or_pos p with e0|e0
  ·subst e0;omega
  ·exact e0
 have gS:0 < q:=by
  rcases Nat.eq_zero_or_pos q with e0|e0
  ·subst e0;omega
  ·exact e0
 have dd:d=(g:Int) * p:=by have:=congrArg (Int.ofNat) d1;simp at this;omega
 have de:e=(g:Int) * q:=by have:=congrArg (Int.ofNat) d2;simp at this;omega
 have LC:Nat.gcd p q=1:=by
  have:g * Nat.gcd p q=g * 1:=by rw [<- Nat.gcd_mul_left,d1,d2,Nat.mul_one];exact hg.symm
  exact Nat.eq_of_mul_eq_mul_left fT this
 have e1:n * e + m * d=(g:Int) * (n * q + m * p):=by rw [dd,de,Int.mul_add,Int.mul_left_comm,Int.mul_left_comm m]
 have e2:d * e=(g:Int) * ((g * p * q:Nat):Int):=by
  rw [dd,de];simp only [Int.natCast_mul]
  rw [Int.mul_assoc,Int.mul_left_comm (p:Int),Int.mul_assoc]
 have hD:0 < g * p * q:=Nat.mul_pos (Nat.mul_pos fT LB) gS
 unfold eZ
 simp only []
 rw [e1,e2,ig fT _ _ (by omega),T3 (by omega),Int.natAbs_natCast,AO (by rw [d1];exact ha.2.2.2.2) (by rw [d2];exact hb.2.2.2.2) LC,<- hT]
 have LD:Nat.gcd T g=h:=by rw [hh,Nat.gcd_comm T g,Nat.gcd_rec g T,Nat.gcd_comm]
 rw [LD]
 have hdiv:h ∣ g:=hh ▸ Nat.gcd_dvd_left _ _
 have e3:g * p * q / h=p * (e.natAbs / h):=by
  rw [<- d2,<- Nat.mul_div_assoc _ (Nat.dvd_trans hdiv (Nat.dvd_mul_right _ _)),Nat.mul_comm g p,Nat.mul_assoc]
 rw [e3]
 refine gk fun hN=>(wH fun e0=>hN ?_).symm
 rw [e0,Nat.zero_div]
theorem AQ {a b:Int×Int} (ha:k7 a=true) (hb:k7 b=true):jQ a b=P4 (decide (a.1 < 0) != decide (b.1 < 0)) (a.1.natAbs / Nat.gcd a.1.natAbs b.2.natAbs * (b.1.natAbs / Nat.gcd b.1.natAbs a.2.natAbs)) (a.2.natAbs / Nat.gcd b.1.natAbs a.2.natAbs * (b.2.natAbs / Nat.gcd a.1.natAbs b.2.natAbs)):=by
 rw [B5] at ha hb
 obtain ⟨n,d⟩:=a
 obtain ⟨m,e⟩:=b
 simp only [] at *
 have fT:0 < Nat.gcd n.natAbs e.natAbs:=Nat.gcd_pos_of_pos_right _ (by omega)
 have AR:0 < Nat.gcd m.natAbs d.natAbs:=Nat.gcd_pos_of_pos_right _ (by omega)
 have n1:=Nat.mul_div_cancel' (Nat.gcd_dvd_left n.natAbs e.natAbs)
 have e1:=Nat.mul_div_cancel' (Nat.gcd_dvd_right n.natAbs e.natAbs)
 have m1:=Nat.mul_div_cancel' (Nat.gcd_dvd_left m.natAbs d.natAbs)
 have d1:=Nat.mul_div_cancel' (Nat.gcd_dvd_right m.natAbs d.natAbs)
 have c1:Nat.Coprime (n.natAbs / Nat.gcd n.natAbs e.natAbs) (e.natAbs / Nat.gcd n.natAbs e.natAbs):=Nat.coprime_div_gcd_div_gcd fT
 have c2:Nat.Coprime (m.natAbs / Nat.gcd m.natAbs d.natAbs) (d.natAbs / Nat.gcd m.natAbs d.natAbs):=Nat.coprime_div_gcd_div_gcd AR
 have a3:Nat.Coprime n.natAbs d.natAbs:=ha.2.2.2.2
 have b3:Nat.Coprime m.natAbs e.natAbs:=hb.2.2.2.2
 unfold jQ
 simp only []
 rw [T3 (Int.mul_pos (by omega) (by omega)),Int.natAbs_mul,Int.natAbs_mul]
 generalize Nat.gcd n.natAbs e.natAbs=g at *
 generalize Nat.gcd m.natAbs d.natAbs=h at *
 generalize n.natAbs / g=n' at *
 generalize e.natAbs / g=e' at *
 generalize m.natAbs / h=m' at *
 generalize d.natAbs / h=d' at *
 have c3:Nat.Coprime n' d':=by
  rw [<- n1,<- d1] at a3
  exact Nat.Coprime.coprime_mul_left (Nat.Coprime.coprime_mul_left_right a3)
 have c4:Nat.Coprime m' e':=by
  rw [<- m1,<- e1] at b3
  exact Nat.Coprime.coprime_mul_left (Nat.Coprime.coprime_mul_left_right b3)
 have cc:Nat.gcd (n' * m') (d' * e')=1:=Nat.Coprime.mul_left (Nat.Coprime.mul_right c3 c1) (Nat.Coprime.mul_right c2 c4)
 have x1:n.natAbs * m.natAbs=g * h * (n' * m'):=by rw [<- n1,<- m1];simp only [Nat.mul_assoc,Nat.mul_left_comm,Nat.mul_comm]
 have x2:d.natAbs * e.natAbs=g * h * (d' * e'):=by rw [<- d1,<- e1];simp only [Nat.mul_assoc,Nat.mul_left_comm,Nat.mul_comm]
 rw [x1,x2,Nat.gcd_mul_left,cc,Nat.mul_one,Nat.mul_div_cancel_left _ (Nat.mul_pos fT AR),Nat.mul_div_cancel_left _ (Nat.mul_pos fT AR)]
 refine gk fun hN=>?_
 have hn:n≠0:=fun e0=>by
  subst e0
  have:n'=0:=by
   rcases Nat.mul_eq_zero.1 (show g * n'=0 from n1) with e|e
   ·omega
   ·exact e
  exact hN (by rw [this,Nat.zero_mul])
 have Jn:m≠0:=fun e0=>by
  subst e0
  have:m'=0:=by
   rcases Nat.mul_eq_zero.1 (show h * m'=0 from m1) with e|e
   ·omega
   ·exact e
  exact hN (by rw [this,Nat.mul_zero])
 by_cases s1:n < 0<;>by_cases s2:m < 0
 ·have:=Int.mul_pos_of_neg_of_neg s1 s2
  simp [s1,s2];omega
 ·have:=Int.mul_neg_of_neg_of_pos s1 (show 0 < m by omega)
  simp [s1,s2,this]
 ·have:=Int.mul_neg_of_pos_of_neg (show 0 < n by omega) s2
  simp [s1,s2,this]
 ·have:=Int.mul_pos (show 0 < n by omega) (show 0 < m by omega)
  simp [s1,s2];omega
theorem AS (x y:Nat) (h:x + y < 340282366920938463463374607431768211456):PC Tryz.prog 105 [pr x,pr y] (pr (x + y)):=by
 refine pF Tryz.func105 ?_
 conv=>whnf
 (repeat' ((first|refine aU fun hh=>?_|refine aV fun hh=>?_|refine aS (fun hh=>?_) fun hh=>?_|refine kR ?_|((try refine Or.inl ?_;conv=>whnf);(try refine ⟨false,?_⟩;conv=>whnf);refine ⟨_,by exact xY (x % 18446744073709551616) (y % 18446744073709551616) 0 (by omega),?_⟩)|fail)<;>conv=>whnf))
 rw [jB,jB]
 have e1:(x % 18446744073709551616 + y % 18446744073709551616 + 0) % 18446744073709551616=(x + y) % 18446744073709551616:=by omega
 have e2:((x / 18446744073709551616 + y / 18446744073709551616) % 18446744073709551616 + (x % 18446744073709551616 + y % 18446744073709551616 + 0) / 18446744073709551616) % 18446744073709551616=(x + y) / 18446744073709551616:=by omega
 rw [e1,e2]
theorem tJ (x y:Nat) (hx:x < 340282366920938463463374607431768211456) (h:y<=x):PC Tryz.prog 106 [pr x,pr y] (pr (x - y)):=by
 refine pF Tryz.func106 ?_
 conv=>whnf
 (repeat' ((first|refine aU fun hh=>?_|refine aV fun hh=>?_|refine aS (fun hh=>?_) fun hh=>?_|refine kR ?_|((try refine Or.inl ?_;conv=>whnf);(try refine ⟨false,?_⟩;conv=>whnf);refine ⟨_,by exact xZ (x % 18446744073709551616) (y % 18446744073709551616) 0 (by omega),?_⟩)|fail)<;>conv=>whnf))
 rw [tz _ _ (by omega),tz _ _ (by split<;>omega)]
 have e1:(x % 18446744073709551616 + 18446744073709551616 - y % 18446744073709551616 - 0) % 18446744073709551616=(x - y) % 18446744073709551616:=by omega
 have e2:((x / 18446744073709551616 + (18446744073709551616 - y / 18446744073709551616)) % 18446744073709551616 + (18446744073709551616 - (if x % 18446744073709551616 < y % 18446744073709551616 + 0 then 1 else 0))) % 18446744073709551616=(x - y) / 18446744073709551616:=by split<;>omega
 rw [e1,e2]
theorem yc (a:Int×Int) (h:k7 a=true):PC Tryz.prog 94 [fr a] (fr (-a.1,a.2)):=by
 have:=(B5 a).1 h
 refine pF Tryz.func94 ?_
 conv=>whnf
 (repeat' ((first|refine aU fun hh=>?_|refine aV fun hh=>?_|refine aS (fun hh=>?_) fun hh=>?_|refine kR ?_|fail)<;>conv=>whnf))
 rw [wi _ (by omega) (by omega),show 0 - a.1 = -a.1 by omega]
theorem yd (a b:Int×Int) (ha:k7 a=true) (hb:k7 b=true):PC Tryz.prog 53 [fr a,fr b] (.tup [fr (jQ a b).1,i64 (jQ a b).2]):=by
 rw [AQ ha hb]
 have va:=(B5 a).1 ha
 have vb:=(B5 b).1 hb
 obtain ⟨n,d⟩:=a
 obtain ⟨m,e⟩:=b
 simp only [] at *
 have i1:K6 n:=by unfold K6;omega
 have i2:K6 d:=by unfold K6;omega
 have i3:K6 m:=by unfold K6;omega
 have i4:K6 e:=by unfold K6;omega
 have c1:=gh n.natAbs e.natAbs (by omega) (by omega)
 have c2:=gh m.natAbs d.natAbs (by omega) (by omega)
 have fT:0 < Nat.gcd n.natAbs e.natAbs:=Nat.gcd_pos_of_pos_right _ (by omega)
 have AR:0 < Nat.gcd m.natAbs d.natAbs:=Nat.gcd_pos_of_pos_right _ (by omega)
 generalize Nat.gcd n.natAbs e.natAbs=g at *
 generalize Nat.gcd m.natAbs d.natAbs=h at *
 have l1:n.natAbs / g<=4611686018427387903:=Nat.le_trans (Nat.div_le_self _ _) (by omega)
 have l2:e.natAbs / g<=4611686018427387903:=Nat.le_trans (Nat.div_le_self _ _) (by omega)
 have l3:m.natAbs / h<=4611686018427387903:=Nat.le_trans (Nat.div_le_self _ _) (by omega)
 have l4:d.natAbs / h<=4611686018427387903:=Nat.le_trans (Nat.div_le_self _ _) (by omega)
 have p1:=O8 (n.natAbs / g) (m.natAbs / h) (by omega) (by omega)
 have p2:=O8 (d.natAbs / h) (e.natAbs / g) (by omega) (by omega)
 have hx:n.natAbs / g * (m.natAbs / h) < 340282366920938463463374607431768211456:=Nat.lt_of_le_of_lt (Nat.mul_le_mul l1 l3) (by decide)
 have hy:d.natAbs / h * (e.natAbs / g) < 340282366920938463463374607431768211456:=Nat.lt_of_le_of_lt (Nat.mul_le_mul l4 l2) (by decide)
 have cm:=nS (decide (n < 0) != decide (m < 0)) _ _ hx hy
 refine pF Tryz.func53 ?_
 conv=>whnf
 (repeat' ((first|refine aU fun hh=>?_|refine aV fun hh=>?_|refine aS (fun hh=>?_) fun hh=>?_|refine kR ?_|((try refine Or.inl ?_;conv=>whnf);(try refine ⟨false,?_⟩;conv=>whnf);refine ⟨_,by first|exact E3 n i1|exact E3 d i2|exact E3 m i3|exact E3 e i4|exact c1|exact c2,?_⟩)|fail)<;>conv=>whnf))
 rw [bO _ _ (by omega),bO _ _ (by omega)]
 (repeat' ((first|refine aU fun hh=>?_|refine aV fun hh=>?_|refine aS (fun hh=>?_) fun hh=>?_|refine kR ?_|((try refine Or.inl ?_;conv=>whnf);(try refine ⟨false,?_⟩;conv=>whnf);refine ⟨_,by first|exact p1|exact E3 d i2|exact E3 e i4,?_⟩)|fail)<;>conv=>whnf))
 rw [bO _ _ (by omega),bO _ _ (by omega)]
 (repeat' ((first|refine aU fun hh=>?_|refine aV fun hh=>?_|refine aS (fun hh=>?_) fun hh=>?_|refine kR ?_|((try refine Or.inl ?_;conv=>whnf);(try refine ⟨false,?_⟩;conv=>whnf);refine ⟨_,by first|exact p2|exact cm,?_⟩)|fail)<;>conv=>whnf))

end Go.Proofs.Tryz.My
