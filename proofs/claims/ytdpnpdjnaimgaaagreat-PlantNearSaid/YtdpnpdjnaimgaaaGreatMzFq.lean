/- A helper text: contracts of functions of the program, and plain lemmas. -/
import Derived.Test.YtdpnpdjnaimgaaaGreatMzExA
set_option maxRecDepth 100000
set_option maxHeartbeats 0
set_option linter.unusedVariables false
set_option linter.unusedSimpArgs false
namespace Go.Proofs.Tryz.My
open Go Go.Ev
def addF (a b:Int×Int):(Int×Int)×Int:=w9 (a.1 * b.2 + b.1 * a.2) (a.2 * b.2)
def mulF (a b:Int×Int):(Int×Int)×Int:=w9 (a.1 * b.1) (a.2 * b.2)
theorem a1p {N D:Nat} {b c:Bool} (h:N≠0->b=c):G4 b N D=G4 c N D:=by
 by_cases e:N=0
 ·subst e; cases b<;>cases c<;>simp [G4]
 ·rw [h e]
theorem I5 {n d:Int} (hd:0 < d):w9 n d=G4 (decide (n < 0)) (n.natAbs / Nat.gcd n.natAbs d.natAbs) (d.natAbs / Nat.gcd n.natAbs d.natAbs):=by
 unfold w9
 rw [if_neg (by omega)]
 have:decide (d < 0)=false:=decide_eq_false (by omega)
 rw [this]
 simp
theorem X4 (k:Nat) (n:Int):((k:Int) * n).natAbs=k * n.natAbs:=by rw [Int.natAbs_mul]; simp
theorem a1T {k:Nat} (hk:0 < k) (n d:Int) (hd:0 < d):w9 (k * n) (k * d)=w9 n d:=by
 have hkd:0 < (k:Int) * d:=Int.mul_pos (by omega) hd
 rw [I5 hkd,I5 hd,X4,X4,Nat.gcd_mul_left,Nat.mul_div_mul_left _ _ hk,Nat.mul_div_mul_left _ _ hk]
 congr 1
 refine decide_eq_decide.2 ⟨fun h => ?_,fun h=>Int.mul_neg_of_pos_of_neg (by omega) h⟩
 by_cases h0:n < 0
 ·exact h0
 ·have:0<=(k:Int) * n:=Int.mul_nonneg (by omega) (by omega)
  omega
theorem b3q {n m:Int} {g p q:Nat} (h1:Nat.gcd n.natAbs (g * p)=1) (h2:Nat.gcd m.natAbs (g * q)=1) (h3:Nat.gcd p q=1):Nat.gcd (n * q + m * p).natAbs (g * p * q)=Nat.gcd (n * q + m * p).natAbs g:=by
 have cp:Nat.Coprime n.natAbs p:=Nat.Coprime.coprime_mul_left_right h1
 have cq:Nat.Coprime m.natAbs q:=Nat.Coprime.coprime_mul_left_right h2
 have k1:Nat.Coprime p (n * q + m * p).natAbs:=by
  have h:∀ d:Nat,d ∣ p->d ∣ (n * q + m * p).natAbs->d ∣ n.natAbs * q:=fun d hd1 hd2=>by
   have e1:(d:Int) ∣ n * q + m * p:=Int.ofNat_dvd_left.2 hd2
   have e2:(d:Int) ∣ m * p:=Int.dvd_trans (Int.natCast_dvd_natCast.2 hd1) (Int.dvd_mul_left _ _)
   have e3:(d:Int) ∣ n * q:=by
    have:=Int.dvd_sub e1 e2
    rwa [Int.add_sub_cancel] at this
   have:=Int.ofNat_dvd_left.1 e3
   rwa [Int.natAbs_mul,Int.natAbs_natCast] at this
  have d1:=Nat.gcd_dvd_left p (n * q + m * p).natAbs
  have d2:=Nat.gcd_dvd_right p (n * q + m * p).natAbs
  have d3:=h _ d1 d2
  have c:Nat.Coprime p (n.natAbs * q):=Nat.Coprime.mul_right cp.symm h3
  exact Nat.dvd_one.1 (c ▸ Nat.dvd_gcd d1 d3)
 have k2:Nat.Coprime q (n * q + m * p).natAbs:=by
  have h:∀ d:Nat,d ∣ q->d ∣ (n * q + m * p).natAbs->d ∣ m.natAbs * p:=fun d hd1 hd2=>by
   have e1:(d:Int) ∣ n * q + m * p:=Int.ofNat_dvd_left.2 hd2
   have e2:(d:Int) ∣ n * q:=Int.dvd_trans (Int.natCast_dvd_natCast.2 hd1) (Int.dvd_mul_left _ _)
   have e3:(d:Int) ∣ m * p:=by
    have:=Int.dvd_sub e1 e2
    rwa [Int.add_comm,Int.add_sub_cancel] at this
   have:=Int.ofNat_dvd_left.1 e3
   rwa [Int.natAbs_mul,Int.natAbs_natCast] at this
  have d1:=Nat.gcd_dvd_left q (n * q + m * p).natAbs
  have d2:=Nat.gcd_dvd_right q (n * q + m * p).natAbs
  have d3:=h _ d1 d2
  have c:Nat.Coprime q (m.natAbs * p):=Nat.Coprime.mul_right cq.symm (Nat.Coprime.symm h3)
  exact Nat.dvd_one.1 (c ▸ Nat.dvd_gcd d1 d3)
 generalize (n * q + m * p).natAbs=t at *
 have e:g * p * q=(p * q) * g:=by rw [Nat.mul_assoc,Nat.mul_comm]
 rw [e]
 exact Nat.Coprime.gcd_mul_left_cancel_right g (Nat.Coprime.mul_left k1 k2)
theorem b3r {a b:Int×Int} (ha:b9 a=true) (hb:b9 b=true) (neg:Bool) (g p q T h:Nat) (hg:g=Nat.gcd a.2.natAbs b.2.natAbs) (hp:p=a.2.natAbs / g) (hq:q=b.2.natAbs / g) (hT:T=(a.1 * q + b.1 * p).natAbs) (hh:h=Nat.gcd g (T % g))
  (hneg:T≠0->neg=decide (a.1 * q + b.1 * p < 0)):addF a b=G4 neg (T / h) (p * (b.2.natAbs / h)):=by
 rw [t8] at ha hb
 obtain ⟨n,d⟩:=a
 obtain ⟨m,e⟩:=b
 simp only [] at *
 have hg0:0 < g:=by rw [hg]; exact Nat.gcd_pos_of_pos_left _ (by omega)
 have d1:g * p=d.natAbs:=by rw [hp]; exact Nat.mul_div_cancel' (hg ▸ Nat.gcd_dvd_left _ _)
 have d2:g * q=e.natAbs:=by rw [hq]; exact Nat.mul_div_cancel' (hg ▸ Nat.gcd_dvd_right _ _)
 have hp0:0 < p:=by
  rcases Nat.eq_zero_or_pos p with e0 | e0
  ·subst e0; omega
  ·exact e0
 have hq0:0 < q:=by
  rcases Nat.eq_zero_or_pos q with e0 | e0
  ·subst e0; omega
  ·exact e0
 have dd:d=(g:Int) * p:=by have:=congrArg (Int.ofNat) d1; simp at this; omega
 have de:e=(g:Int) * q:=by have:=congrArg (Int.ofNat) d2; simp at this; omega
 have cpq:Nat.gcd p q=1:=by
  have:g * Nat.gcd p q=g * 1:=by rw [<- Nat.gcd_mul_left,d1,d2,Nat.mul_one]; exact hg.symm
  exact Nat.eq_of_mul_eq_mul_left hg0 this
 have e1:n * e + m * d=(g:Int) * (n * q + m * p):=by rw [dd,de,Int.mul_add,Int.mul_left_comm,Int.mul_left_comm m]
 have e2:d * e=(g:Int) * ((g * p * q:Nat):Int):=by
  rw [dd,de]; simp only [Int.natCast_mul]
  rw [Int.mul_assoc,Int.mul_left_comm (p:Int),Int.mul_assoc]
 have hD:0 < g * p * q:=Nat.mul_pos (Nat.mul_pos hg0 hp0) hq0
 unfold addF
 simp only []
 rw [e1,e2,a1T hg0 _ _ (by omega),I5 (by omega),Int.natAbs_natCast,b3q (by rw [d1]; exact ha.2.2.2.2) (by rw [d2]; exact hb.2.2.2.2) cpq,<- hT]
 have hh2:Nat.gcd T g=h:=by rw [hh,Nat.gcd_comm T g,Nat.gcd_rec g T,Nat.gcd_comm]
 rw [hh2]
 have hdiv:h ∣ g:=hh ▸ Nat.gcd_dvd_left _ _
 have e3:g * p * q / h=p * (e.natAbs / h):=by
  rw [<- d2,<- Nat.mul_div_assoc _ (Nat.dvd_trans hdiv (Nat.dvd_mul_right _ _)),Nat.mul_comm g p,Nat.mul_assoc]
 rw [e3]
 refine a1p fun hN=>(hneg fun e0=>hN ?_).symm
 rw [e0,Nat.zero_div]
theorem b3s {a b:Int×Int} (ha:b9 a=true) (hb:b9 b=true):mulF a b=G4 (decide (a.1 < 0) != decide (b.1 < 0)) (a.1.natAbs / Nat.gcd a.1.natAbs b.2.natAbs * (b.1.natAbs / Nat.gcd b.1.natAbs a.2.natAbs)) (a.2.natAbs / Nat.gcd b.1.natAbs a.2.natAbs * (b.2.natAbs / Nat.gcd a.1.natAbs b.2.natAbs)):=by
 rw [t8] at ha hb
 obtain ⟨n,d⟩:=a
 obtain ⟨m,e⟩:=b
 simp only [] at *
 have hg0:0 < Nat.gcd n.natAbs e.natAbs:=Nat.gcd_pos_of_pos_right _ (by omega)
 have hh0:0 < Nat.gcd m.natAbs d.natAbs:=Nat.gcd_pos_of_pos_right _ (by omega)
 have n1:=Nat.mul_div_cancel' (Nat.gcd_dvd_left n.natAbs e.natAbs)
 have e1:=Nat.mul_div_cancel' (Nat.gcd_dvd_right n.natAbs e.natAbs)
 have m1:=Nat.mul_div_cancel' (Nat.gcd_dvd_left m.natAbs d.natAbs)
 have d1:=Nat.mul_div_cancel' (Nat.gcd_dvd_right m.natAbs d.natAbs)
 have c1:Nat.Coprime (n.natAbs / Nat.gcd n.natAbs e.natAbs) (e.natAbs / Nat.gcd n.natAbs e.natAbs):=Nat.coprime_div_gcd_div_gcd hg0
 have c2:Nat.Coprime (m.natAbs / Nat.gcd m.natAbs d.natAbs) (d.natAbs / Nat.gcd m.natAbs d.natAbs):=Nat.coprime_div_gcd_div_gcd hh0
 have a3:Nat.Coprime n.natAbs d.natAbs:=ha.2.2.2.2
 have b3:Nat.Coprime m.natAbs e.natAbs:=hb.2.2.2.2
 unfold mulF
 simp only []
 rw [I5 (Int.mul_pos (by omega) (by omega)),Int.natAbs_mul,Int.natAbs_mul]
 generalize Nat.gcd n.natAbs e.natAbs=g at *
 generalize Nat.gcd m.natAbs d.natAbs=h at *
 generalize n.natAbs / g=n' at *
 generalize e.natAbs / g=e' at *
 generalize m.natAbs / h=m' at *
 generalize d.natAbs / h=d' at *
 have c3:Nat.Coprime n' d':=by
  rw [<- n1,<- d1] at a3
  exact Nat.Coprime.coprime_mul_left (Nat.Coprime.coprime_mul_left_right a3)
 have c4:Nat.Coprime m' e':=by
  rw [<- m1,<- e1] at b3
  exact Nat.Coprime.coprime_mul_left (Nat.Coprime.coprime_mul_left_right b3)
 have cc:Nat.gcd (n' * m') (d' * e')=1:=Nat.Coprime.mul_left (Nat.Coprime.mul_right c3 c1) (Nat.Coprime.mul_right c2 c4)
 have x1:n.natAbs * m.natAbs=g * h * (n' * m'):=by rw [<- n1,<- m1]; simp only [Nat.mul_assoc,Nat.mul_left_comm,Nat.mul_comm]
 have x2:d.natAbs * e.natAbs=g * h * (d' * e'):=by rw [<- d1,<- e1]; simp only [Nat.mul_assoc,Nat.mul_left_comm,Nat.mul_comm]
 rw [x1,x2,Nat.gcd_mul_left,cc,Nat.mul_one,Nat.mul_div_cancel_left _ (Nat.mul_pos hg0 hh0),Nat.mul_div_cancel_left _ (Nat.mul_pos hg0 hh0)]
 refine a1p fun hN => ?_
 have hn:n≠0:=fun e0=>by
  subst e0
  have:n'=0:=by
   rcases Nat.mul_eq_zero.1 (show g * n'=0 from n1) with e | e
   ·omega
   ·exact e
  exact hN (by rw [this,Nat.zero_mul])
 have hm':m≠0:=fun e0=>by
  subst e0
  have:m'=0:=by
   rcases Nat.mul_eq_zero.1 (show h * m'=0 from m1) with e | e
   ·omega
   ·exact e
  exact hN (by rw [this,Nat.mul_zero])
 by_cases s1:n < 0<;>by_cases s2:m < 0
 ·have:=Int.mul_pos_of_neg_of_neg s1 s2
  simp [s1,s2]; omega
 ·have:=Int.mul_neg_of_neg_of_pos s1 (show 0 < m by omega)
  simp [s1,s2,this]
 ·have:=Int.mul_neg_of_pos_of_neg (show 0 < n by omega) s2
  simp [s1,s2,this]
 ·have:=Int.mul_pos (show 0 < n by omega) (show 0 < m by omega)
  simp [s1,s2]; omega

end Go.Proofs.Tryz.My
