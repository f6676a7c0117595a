/- Helper lemmas. -/
import Derived.Test.YtpmmjoccamogdaaGreatMyDvA
set_option linter.unusedVariables false
set_option linter.unusedSimpArgs false
set_option maxRecDepth 100000
set_option maxHeartbeats 0
namespace Go.Proofs.Tryz.My
open Go Go.Ev
theorem gp {y v w q r f B:Nat} (hy:0 < y) (h1:q * y + r=v) (h2:w=v * B + f):q * B + (r * B + f) / y=w / y/\(r * B + f) % y=w % y:=by
 have e1:w=(r * B + f) + y * (q * B):=by
  have:y * (q * B)=q * y * B:=by rw [Nat.mul_left_comm,<- Nat.mul_assoc]
  rw [this,h2,<- h1,Nat.add_mul]
  omega
 have k1:=Nat.add_mul_div_left (r * B + f) (q * B) hy
 have k2:=Nat.add_mul_mod_self_left (r * B + f) y (q * B)
 rw [<- e1] at k1 k2
 exact ⟨(Nat.add_comm _ _).trans k1.symm,k2.symm⟩
theorem vh {x d W:Nat} (hd:0 < d) (hW:0 < W):x / d=x / W / d * W + (x / W % d * W + x % W) / d/\x % d=(x / W % d * W + x % W) % d/\(x / W % d * W + x % W) / d < W:=by
 have h1:=Nat.div_add_mod' (x / W) d
 have h2:=Nat.div_add_mod' x W
 have h3:=gp (y:=d) (v:=x / W) (w:=x) (q:=x / W / d) (r:=x / W % d) (f:=x % W) (B:=W) hd h1 h2.symm
 refine ⟨h3.1.symm,h3.2.symm,?_⟩
 refine (Nat.div_lt_iff_lt_mul hd).2 ?_
 have h4:=Nat.mod_lt x hW
 have h5:(x / W % d + 1) * W<=d * W:=Nat.mul_le_mul_right _ (Nat.mod_lt _ hd)
 rw [Nat.add_mul,Nat.one_mul] at h5
 rw [Nat.mul_comm W d]
 omega
theorem tN (x d:Nat) (hx:x < 340282366920938463463374607431768211456) (hd:0 < d) (iC:d < 18446744073709551616):PC Tryz.prog 107 [pr x,u64 d] (.tup [pr (x / d),u64 (x % d)]):=by
 obtain ⟨w1,w2,w3⟩:=vh (x:=x) (W:=18446744073709551616) hd (by omega)
 have c:=yg (x / 18446744073709551616 % d) (x % 18446744073709551616) d (Nat.mod_lt _ hd) (Nat.mod_lt _ (by omega)) iC
 rw [<- w2] at c
 have e1:x / d / 18446744073709551616=x / 18446744073709551616 / d:=by rw [Nat.div_div_eq_div_mul,Nat.div_div_eq_div_mul,Nat.mul_comm]
 have e2:x / d % 18446744073709551616=(x / 18446744073709551616 % d * 18446744073709551616 + x % 18446744073709551616) / d:=by omega
 rw [<- e2] at c
 refine pF Tryz.func107 ?_
 conv=>whnf
 (repeat' ((first|refine aU fun hh=>?_|refine aV fun hh=>?_|refine aS (fun hh=>?_) fun hh=>?_|refine kR ?_|fail)<;>conv=>whnf))
 rw [bO _ _ (by omega),xu]
 (repeat' ((first|refine aU fun hh=>?_|refine aV fun hh=>?_|refine aS (fun hh=>?_) fun hh=>?_|refine kR ?_|((try refine Or.inl ?_;conv=>whnf);(try refine ⟨false,?_⟩;conv=>whnf);refine ⟨_,by exact c,?_⟩)|fail)<;>conv=>whnf))
 rw [<- e1]
theorem yh (a b:Int×Int) (ha:k7 a=true) (hb:k7 b=true):PC Tryz.prog 93 [fr a,fr b] (.tup [fr (eZ a b).1,i64 (eZ a b).2]):=by
 have law:=fun neg T h=>AP ha hb neg (Nat.gcd a.2.natAbs b.2.natAbs) (a.2.natAbs / Nat.gcd a.2.natAbs b.2.natAbs) (b.2.natAbs / Nat.gcd a.2.natAbs b.2.natAbs) T h rfl rfl rfl
 have va:=(B5 a).1 ha
 have vb:=(B5 b).1 hb
 generalize eZ a b=res at *
 obtain ⟨n,d⟩:=a
 obtain ⟨m,e⟩:=b
 simp only [] at *
 have i1:K6 n:=by unfold K6;omega
 have i2:K6 d:=by unfold K6;omega
 have i3:K6 m:=by unfold K6;omega
 have i4:K6 e:=by unfold K6;omega
 have c1:=gh d.natAbs e.natAbs (by omega) (by omega)
 have fT:0 < Nat.gcd d.natAbs e.natAbs:=Nat.gcd_pos_of_pos_right _ (by omega)
 have Mq:Nat.gcd d.natAbs e.natAbs<=d.natAbs:=Nat.gcd_le_left _ (by omega)
 generalize Nat.gcd d.natAbs e.natAbs=g at *
 have l1:d.natAbs / g<=4611686018427387903:=Nat.le_trans (Nat.div_le_self _ _) (by omega)
 have l2:e.natAbs / g<=4611686018427387903:=Nat.le_trans (Nat.div_le_self _ _) (by omega)
 have hp:∀ h,e.natAbs / h<=4611686018427387903:=fun h=>Nat.le_trans (Nat.div_le_self _ _) (by omega)
 have fe:=bO d.natAbs g (by omega)
 have ff:=bO e.natAbs g (by omega)
 have fh:=fun h=>bO e.natAbs h (by omega)
 generalize d.natAbs / g=p at *
 generalize e.natAbs / g=q at *
 have p1:=O8 n.natAbs q (by omega) (by omega)
 have p2:=O8 m.natAbs p (by omega) (by omega)
 have hx:n.natAbs * q<=4611686018427387903 * 4611686018427387903:=Nat.mul_le_mul (by omega) l2
 have hy:m.natAbs * p<=4611686018427387903 * 4611686018427387903:=Nat.mul_le_mul (by omega) l1
 have kx:((n.natAbs * q:Nat):Int)=if n < 0 then -(n * q) else n * q:=by
  rw [Int.natCast_mul]
  split
  ·rw [show ((n.natAbs:Nat):Int) = -n by omega,Int.neg_mul]
  ·rw [show ((n.natAbs:Nat):Int)=n by omega]
 have ky:((m.natAbs * p:Nat):Int)=if m < 0 then -(m * p) else m * p:=by
  rw [Int.natCast_mul]
  split
  ·rw [show ((m.natAbs:Nat):Int) = -m by omega,Int.neg_mul]
  ·rw [show ((m.natAbs:Nat):Int)=m by omega]
 have c2:=nR (n.natAbs * q) (m.natAbs * p) (by omega) (by omega)
 generalize n.natAbs * q=X at *
 generalize m.natAbs * p=Y at *
 generalize n * (q:Int)=NX at *
 generalize m * (p:Int)=MY at *
 have c3:=fun (T:Nat) (hT:T < 340282366920938463463374607431768211456)=>tN T g hT fT (by omega)
 have c4:=fun (T:Nat)=>gh g (T % g) (by omega) (Nat.lt_trans (Nat.mod_lt T fT) (by omega))
 have AR:∀ T,0 < Nat.gcd g (T % g):=fun T=>Nat.gcd_pos_of_pos_left _ fT
 have LF:∀ T,Nat.gcd g (T % g)<=g:=fun T=>Nat.gcd_le_left _ fT
 have c5:=fun (T:Nat) (hT:T < 340282366920938463463374607431768211456)=>tN T (Nat.gcd g (T % g)) hT (AR T) (Nat.lt_of_le_of_lt (LF T) (by omega))
 have c6:=fun (h:Nat)=>O8 p (e.natAbs / h) (by omega) (Nat.lt_of_le_of_lt (hp h) (by omega))
 have hD:∀ h,p * (e.natAbs / h) < 340282366920938463463374607431768211456:=fun h=>Nat.lt_of_le_of_lt (Nat.mul_le_mul l1 (hp h)) (by decide)
 have c7:=fun (neg:Bool) (T:Nat) (h:Nat) (hT:T < 340282366920938463463374607431768211456)=>nS neg (T / h) (p * (e.natAbs / h)) (Nat.lt_of_le_of_lt (Nat.div_le_self _ _) hT) (hD h)
 refine pF Tryz.func93 ?_
 conv=>whnf
 (repeat' ((first|refine aU fun hh=>?_|refine aV fun hh=>?_|refine aS (fun hh=>?_) fun hh=>?_|refine kR ?_|((try refine Or.inl ?_;conv=>whnf);(try refine ⟨false,?_⟩;conv=>whnf);refine ⟨_,by first|exact E3 n i1|exact E3 d i2|exact E3 m i3|exact E3 e i4|exact c1,?_⟩)|fail)<;>conv=>whnf))
 rw [ff]
 (repeat' ((first|refine aU fun hh=>?_|refine aV fun hh=>?_|refine aS (fun hh=>?_) fun hh=>?_|refine kR ?_|((try refine Or.inl ?_;conv=>whnf);(try refine ⟨false,?_⟩;conv=>whnf);refine ⟨_,by first|exact p1|exact E3 d i2|exact E3 m i3,?_⟩)|fail)<;>conv=>whnf))
 rw [fe]
 (repeat' ((first|refine aU fun hh=>?_|refine aV fun hh=>?_|refine aS (fun hh=>?_) fun hh=>?_|refine kR ?_|((try refine Or.inl ?_;conv=>whnf);(try refine ⟨false,?_⟩;conv=>whnf);refine ⟨_,by first|exact p2|exact c2,?_⟩)|fail)<;>conv=>whnf))
 ·have hs:(n < 0/\¬ m < 0)∨(¬ n < 0/\m < 0):=by
   by_cases s1:n < 0<;>by_cases s2:m < 0<;>simp [s1,s2] at * <;> omega
  have hT:Y - X < 340282366920938463463374607431768211456:=by omega
  have hz:=AR (Y - X)
  (repeat' ((first|refine aU fun hh=>?_|refine aV fun hh=>?_|refine aS (fun hh=>?_) fun hh=>?_|refine kR ?_|((try refine Or.inl ?_;conv=>whnf);(try refine ⟨false,?_⟩;conv=>whnf);refine ⟨_,by first|exact tJ Y X (by omega) (by omega)|exact c3 (Y - X) hT|exact c4 (Y - X)|exact c5 (Y - X) hT|exact E3 d i2|exact E3 e i4,?_⟩)|fail)<;>conv=>whnf))
  rw [fe,fh]
  (repeat' ((first|refine aU fun hh=>?_|refine aV fun hh=>?_|refine aS (fun hh=>?_) fun hh=>?_|refine kR ?_|((try refine Or.inl ?_;conv=>whnf);(try refine ⟨false,?_⟩;conv=>whnf);refine ⟨_,by first|exact c6 (Nat.gcd g ((Y - X) % g))|exact c7 (decide (m < 0)) (Y - X) (Nat.gcd g ((Y - X) % g)) hT,?_⟩)|fail)<;>conv=>whnf))
  rw [<- law (decide (m < 0)) (Y - X) (Nat.gcd g ((Y - X) % g)) (by split at kx<;>split at ky<;>omega) rfl (by intro h0;refine decide_eq_decide.2 ?_;split at kx<;>split at ky<;>omega)]
 ·have hs:(n < 0/\¬ m < 0)∨(¬ n < 0/\m < 0):=by
   by_cases s1:n < 0<;>by_cases s2:m < 0<;>simp [s1,s2] at * <;> omega
  have hT:X - Y < 340282366920938463463374607431768211456:=by omega
  have hz:=AR (X - Y)
  (repeat' ((first|refine aU fun hh=>?_|refine aV fun hh=>?_|refine aS (fun hh=>?_) fun hh=>?_|refine kR ?_|((try refine Or.inl ?_;conv=>whnf);(try refine ⟨false,?_⟩;conv=>whnf);refine ⟨_,by first|exact tJ X Y (by omega) (by omega)|exact c3 (X - Y) hT|exact c4 (X - Y)|exact c5 (X - Y) hT|exact E3 d i2|exact E3 e i4,?_⟩)|fail)<;>conv=>whnf))
  rw [fe,fh]
  (repeat' ((first|refine aU fun hh=>?_|refine aV fun hh=>?_|refine aS (fun hh=>?_) fun hh=>?_|refine kR ?_|((try refine Or.inl ?_;conv=>whnf);(try refine ⟨false,?_⟩;conv=>whnf);refine ⟨_,by first|exact c6 (Nat.gcd g ((X - Y) % g))|exact c7 (decide (n < 0)) (X - Y) (Nat.gcd g ((X - Y) % g)) hT,?_⟩)|fail)<;>conv=>whnf))
  rw [<- law (decide (n < 0)) (X - Y) (Nat.gcd g ((X - Y) % g)) (by split at kx<;>split at ky<;>omega) rfl (by intro h0;refine decide_eq_decide.2 ?_;split at kx<;>split at ky<;>omega)]
 ·have hs:(n < 0/\m < 0)∨(¬ n < 0/\¬ m < 0):=by
   by_cases s1:n < 0<;>by_cases s2:m < 0<;>simp [s1,s2] at * <;> omega
  have hT:X + Y < 340282366920938463463374607431768211456:=by omega
  have hz:=AR (X + Y)
  (repeat' ((first|refine aU fun hh=>?_|refine aV fun hh=>?_|refine aS (fun hh=>?_) fun hh=>?_|refine kR ?_|((try refine Or.inl ?_;conv=>whnf);(try refine ⟨false,?_⟩;conv=>whnf);refine ⟨_,by first|exact AS X Y (by omega)|exact c3 (X + Y) hT|exact c4 (X + Y)|exact c5 (X + Y) hT|exact E3 d i2|exact E3 e i4,?_⟩)|fail)<;>conv=>whnf))
  rw [fe,fh]
  (repeat' ((first|refine aU fun hh=>?_|refine aV fun hh=>?_|refine aS (fun hh=>?_) fun hh=>?_|refine kR ?_|((try refine Or.inl ?_;conv=>whnf);(try refine ⟨false,?_⟩;conv=>whnf);refine ⟨_,by first|exact c6 (Nat.gcd g ((X + Y) % g))|exact c7 (decide (n < 0)) (X + Y) (Nat.gcd g ((X + Y) % g)) hT,?_⟩)|fail)<;>conv=>whnf))
  rw [<- law (decide (n < 0)) (X + Y) (Nat.gcd g ((X + Y) % g)) (by split at kx<;>split at ky<;>omega) rfl (by intro h0;refine decide_eq_decide.2 ?_;split at kx<;>split at ky<;>omega)]
def qv (a:Int×Int):Rat:=(a.1:Rat) / (a.2:Rat)
theorem gq {x y z:Rat} (hz:0 < z):x * z < y * z↔x < y:=by
 constructor
 ·intro h
  by_cases h1:x < y
  ·exact h1
  ·exact absurd h (Rat.not_lt.2 (Rat.mul_le_mul_of_nonneg_right (Rat.not_lt.1 h1) (Rat.le_of_lt hz)))
 ·intro h
  exact Rat.mul_lt_mul_of_pos_right h hz
theorem jT {a b c d:Rat} (hb:0 < b) (hd:0 < d):a / b < c / d↔a * d < c * b:=by
 have e1:a / b * (b * d)=a * d:=by grind
 have e2:c / d * (b * d)=c * b:=by grind
 have h:0 < b * d:=Rat.mul_pos hb hd
 rw [<- gq h,e1,e2]
theorem bH {a b c d:Rat} (hb:b≠0) (hd:d≠0):a / b=c / d↔a * d=c * b:=by
 constructor<;>intro h<;>grind
theorem H3 {n:Int} (h:0 < n):(0:Rat) < (n:Rat):=Rat.intCast_lt_intCast.2 h
theorem Z8 {n:Int} (h:n≠0):(n:Rat)≠0:=fun e=>h (Rat.intCast_inj.1 e)
theorem il {a b c d:Int}:(a:Rat) * b < (c:Rat) * d↔a * b < c * d:=by
 rw [<- Rat.intCast_mul,<- Rat.intCast_mul];exact Rat.intCast_lt_intCast
theorem Z9 {a b c d:Int}:(a:Rat) * b=(c:Rat) * d↔a * b=c * d:=by
 rw [<- Rat.intCast_mul,<- Rat.intCast_mul];exact Rat.intCast_inj
theorem qk {a:Int×Int} (h:k7 a=true):0 < a.2:=by have:=(B5 a).1 h;omega
theorem Cf {a b:Int×Int} (ha:k7 a=true) (hb:k7 b=true):qv a < qv b↔a.1 * b.2 < b.1 * a.2:=by
 unfold qv
 rw [jT (H3 (qk ha)) (H3 (qk hb)),il]
theorem Cg {a b:Int×Int} (ha:k7 a=true) (hb:k7 b=true):qv a=qv b↔a=b:=by
 constructor
 ·unfold qv
  rw [bH (Z8 (Int.ne_of_gt (qk ha))) (Z8 (Int.ne_of_gt (qk hb))),Z9]
  exact eW ha hb
 ·intro h;rw [h]
theorem O9 {a b:Int×Int} (ha:k7 a=true) (hb:k7 b=true):(qv a < qv b/\aw a b = -1)∨(qv a=qv b/\a=b/\aw a b=0)∨(qv b < qv a/\aw a b=1):=by
 rw [Cf ha hb,Cf hb ha,Cg ha hb]
 unfold aw
 by_cases h1:a.1 * b.2 < b.1 * a.2
 ·simp [h1]
 ·by_cases h2:a.1 * b.2=b.1 * a.2
  ·refine .inr (.inl ⟨eW ha hb h2,eW ha hb h2,by simp [h1,h2]⟩)
  ·refine .inr (.inr ⟨by omega,by simp [h1,h2]⟩)
theorem nZ {a b:Int×Int} (ha:k7 a=true) (hb:k7 b=true):aw a b<=0↔qv a<=qv b:=by
 rcases O9 ha hb with ⟨h,e⟩|⟨h,_,e⟩|⟨h,e⟩<;>rw [e]<;>grind
theorem AX {a b:Int×Int} (ha:k7 a=true) (hb:k7 b=true):0 < aw a b↔qv b < qv a:=by
 rcases O9 ha hb with ⟨h,e⟩|⟨h,_,e⟩|⟨h,e⟩<;>rw [e]<;>grind
def dS (x:Rat) (r:(Int×Int)×Int):Prop:=(k7 r.1=true/\r.2=0/\qv r.1=x)∨(r=((0,0),4)/\∀ s,k7 s=true->qv s≠x)
theorem dS.unique {x:Rat} {r s:(Int×Int)×Int} (hr:dS x r) (hs:dS x s):r=s:=by
 rcases hr with ⟨h1,h2,h3⟩|⟨h1,h2⟩<;>rcases hs with ⟨k1,k2,k3⟩|⟨k1,k2⟩
 ·have:r.1=s.1:=(Cg h1 k1).1 (h3.trans k3.symm)
  exact Prod.ext this (h2.trans k2.symm)
 ·exact absurd h3 (k2 _ h1)
 ·exact absurd k3 (h2 _ k1)
 ·rw [h1,k1]
theorem dS.ok {x:Rat} {r:(Int×Int)×Int} (h:dS x r) (h0:r.2=0):k7 r.1=true/\qv r.1=x:=by
 rcases h with h|⟨h,_⟩
 ·exact ⟨h.1,h.2.2⟩
 ·rw [h] at h0;cases h0
theorem dS.bad {x:Rat} {r:(Int×Int)×Int} (h:dS x r) (h0:r.2≠0):r=((0,0),4):=by
 rcases h with h|h
 ·exact absurd h.2.1 h0
 ·exact h.1
theorem vi {neg:Bool} {N D:Nat} (h:(P4 neg N D).2=0):N<=4611686018427387903/\D<=4611686018427387903/\(P4 neg N D).1=(if neg then -(N:Int) else N,(D:Int)):=by
 unfold P4 at h ⊢
 by_cases hc:N<=4611686018427387903/\D<=4611686018427387903
 ·simp [hc]
 ·simp [hc] at h
theorem ql {n d:Int} {g:Nat} (hg:g=Nat.gcd n.natAbs d.natAbs):(g:Int) * ((n.natAbs / g:Nat):Int)=n.natAbs/\(g:Int) * ((d.natAbs / g:Nat):Int)=d.natAbs:=by
 constructor
 ·have:=Nat.mul_div_cancel' (Nat.gcd_dvd_left n.natAbs d.natAbs)
  rw [<- hg] at this
  rw [<- Int.natCast_mul,this]
 ·have:=Nat.mul_div_cancel' (Nat.gcd_dvd_right n.natAbs d.natAbs)
  rw [<- hg] at this
  rw [<- Int.natCast_mul,this]
theorem vj (n d:Int):F6 (-n) (-d)=F6 n d:=by
 unfold F6
 by_cases h0:d=0
 ·simp [h0]
 ·have h1:¬ -d=0:=by omega
  rw [if_neg h0,if_neg h1,Int.natAbs_neg,Int.natAbs_neg]
  refine gk fun hN=>?_
  have:n≠0:=fun e=>by subst e;simp at hN
  by_cases h2:n < 0<;>by_cases h3:d < 0<;>simp [h2,h3]<;>omega
theorem cz {n d:Int} (hd:0 < d):dS ((n:Rat) / (d:Rat)) (F6 n d):=by
 have fT:0 < Nat.gcd n.natAbs d.natAbs:=Nat.gcd_pos_of_pos_right _ (by omega)
 have hm:=T3 (n:=n) hd
 by_cases h:(F6 n d).2=0
 ·left
  rw [hm] at h ⊢
  obtain ⟨h1,h2,h3⟩:=vi h
  rw [h3]
  have GO:Nat.Coprime (n.natAbs / Nat.gcd n.natAbs d.natAbs) (d.natAbs / Nat.gcd n.natAbs d.natAbs):=Nat.coprime_div_gcd_div_gcd fT
  obtain ⟨g1,g2⟩:=ql (n:=n) (d:=d) rfl
  generalize Nat.gcd n.natAbs d.natAbs=g at *
  generalize n.natAbs / g=N at *
  generalize d.natAbs / g=D at *
  have Mr:D≠0:=fun e=>by subst e;simp at g2;omega
  refine ⟨?_,h,?_⟩
  ·rw [B5]
   simp only []
   refine ⟨by omega,by omega,by split<;>omega,by split<;>omega,?_⟩
   split<;>simpa using GO
  ·show ((if decide (n < 0) then -(N:Int) else (N:Int):Int):Rat) / ((D:Int):Rat)=_
   rw [bH (Z8 (by omega)) (Z8 (by omega)),Z9]
   have Ms:(g:Int) * D=d:=by omega
   have LG:(g:Int) * (if decide (n < 0) then -(N:Int) else (N:Int):Int)=n:=by
    by_cases hn:n < 0
    ·simp only [hn,decide_true,if_true];rw [Int.mul_neg];omega
    ·simp only [hn,decide_false,Bool.false_eq_true,if_false];omega
   obtain ⟨M,hM⟩:∃ M:Int,M=(if decide (n < 0) then -(N:Int) else (N:Int)):=⟨_,rfl⟩
   rw [<- hM] at LG ⊢
   clear hM h3
   grind
 ·right
  have hv:F6 n d=((0,0),4):=by
   rw [hm] at h ⊢
   unfold P4 at h ⊢
   by_cases hc:n.natAbs / Nat.gcd n.natAbs d.natAbs<=4611686018427387903/\d.natAbs / Nat.gcd n.natAbs d.natAbs<=4611686018427387903
   ·simp [hc] at h
   ·simp only [hc,if_false]
  refine ⟨hv,fun s hs he=>h ?_⟩
  have zO:=(B5 s).1 hs
  obtain ⟨p,q⟩:=s
  simp only [] at zO
  have GP:p * d=n * q:=by
   have:qv (p,q)=(p:Rat) / (q:Rat):=rfl
   rw [this,bH (Z8 (by omega)) (Z8 (by omega)),Z9] at he
   exact he
  -- d = k q, n = k p
  have GO:Nat.Coprime p.natAbs q.natAbs:=zO.2.2.2.2
  have LH:q.natAbs ∣ d.natAbs:=by
   have:q.natAbs ∣ p.natAbs * d.natAbs:=⟨n.natAbs,by rw [<- Int.natAbs_mul,GP,Int.natAbs_mul,Nat.mul_comm]⟩
   exact GO.symm.dvd_of_dvd_mul_left this
  obtain ⟨k,hk⟩:=LH
  have Ft:0 < k:=by
   rcases Nat.eq_zero_or_pos k with e|e
   ·subst e;simp at hk;omega
   ·exact e
  have iC:d=(k:Int) * q:=by
   have:((d.natAbs:Nat):Int)=((q.natAbs * k:Nat):Int):=by rw [hk]
   rw [Int.natCast_mul] at this
   rw [Int.mul_comm]
   have e1:((d.natAbs:Nat):Int)=d:=by omega
   have e2:((q.natAbs:Nat):Int)=q:=by omega
   rw [e1,e2] at this
   exact this
  have rG:n=(k:Int) * p:=by
   have:n * q=(k:Int) * p * q:=by rw [<- GP,iC];grind
   exact Int.eq_of_mul_eq_mul_right (show q≠0 by omega) this
  rw [rG,iC,ig Ft _ _ (by omega),T3 (by omega)]
  have EH:Nat.gcd p.natAbs q.natAbs=1:=GO
  rw [EH,Nat.div_one,Nat.div_one]
  unfold P4
  have:p.natAbs<=4611686018427387903/\q.natAbs<=4611686018427387903:=by omega
  simp [this]
theorem T4 {n d:Int} (hd:d≠0):dS ((n:Rat) / (d:Rat)) (F6 n d):=by
 by_cases h:0 < d
 ·exact cz h
 ·have:=cz (n := -n) (d := -d) (by omega)
  rw [vj] at this
  have e:((-n:Int):Rat) / ((-d:Int):Rat)=(n:Rat) / (d:Rat):=by
   rw [bH (Z8 (by omega)) (Z8 hd),Z9]
   grind
  rw [e] at this
  exact this
theorem mv {a b:Int×Int} (ha:k7 a=true) (hb:k7 b=true):dS (qv a + qv b) (eZ a b):=by
 have h1:=qk ha
 have h2:=qk hb
 have h:=T4 (n:=a.1 * b.2 + b.1 * a.2) (d:=a.2 * b.2) (Int.ne_of_gt (Int.mul_pos h1 h2))
 have c1:=H3 h1
 have c2:=H3 h2
 have e:((a.1 * b.2 + b.1 * a.2:Int):Rat) / ((a.2 * b.2:Int):Rat)=qv a + qv b:=by
  unfold qv
  rw [Rat.intCast_mul,Rat.intCast_add,Rat.intCast_mul,Rat.intCast_mul]
  grind
 rw [e] at h
 exact h
theorem vk {a b:Int×Int} (ha:k7 a=true) (hb:k7 b=true):dS (qv a * qv b) (jQ a b):=by
 have h1:=qk ha
 have h2:=qk hb
 have h:=T4 (n:=a.1 * b.1) (d:=a.2 * b.2) (Int.ne_of_gt (Int.mul_pos h1 h2))
 have c1:=H3 h1
 have c2:=H3 h2
 have e:((a.1 * b.1:Int):Rat) / ((a.2 * b.2:Int):Rat)=qv a * qv b:=by
  unfold qv
  rw [Rat.intCast_mul,Rat.intCast_mul]
  grind
 rw [e] at h
 exact h
def sx (a:Int×Int):Int×Int:=(-a.1,a.2)
theorem oa {a:Int×Int} (ha:k7 a=true):k7 (sx a)=true/\qv (sx a) = -qv a:=by
 have h:=(B5 a).1 ha
 refine ⟨?_,?_⟩
 ·rw [B5]
  show _/\_/\_/\_/\Nat.gcd (-a.1).natAbs a.2.natAbs=1
  rw [Int.natAbs_neg]
  simp only [sx]
  omega
 ·unfold qv sx
  simp only [Rat.intCast_neg]
  grind
def ax (a b:Int×Int):(Int×Int)×Int:=eZ a (sx b)
theorem cO {a b:Int×Int} (ha:k7 a=true) (hb:k7 b=true):dS (qv a - qv b) (ax a b):=by
 have h:=mv ha (oa hb).1
 rw [(oa hb).2] at h
 have e:qv a + -qv b=qv a - qv b:=by grind
 rw [e] at h
 exact h
abbrev zS:S6:=((0,0),(0,0))
def W7 (a b:Int×Int):Int×Int:=if aw b a < 0 then b else a
def W8 (a b:Int×Int):Int×Int:=if 0 < aw b a then b else a
def J0 (op:Int×Int->Int×Int->(Int×Int)×Int):S6->List S6->S6×Int
 | s,[]=>(s,0)
 | s,p :: l=>if (op p.1 p.2).2≠0 then (zS,(op p.1 p.2).2) else J0 op (W7 s.1 (op p.1 p.2).1,W8 s.2 (op p.1 p.2).1) l
def J7 (op:Int×Int->Int×Int->(Int×Int)×Int):List S6->S6×Int
 | []=>(zS,0)
 | p :: l=>if (op p.1 p.2).2≠0 then (zS,(op p.1 p.2).2) else J0 op ((op p.1 p.2).1,(op p.1 p.2).1) l
theorem jU {a b:Int×Int} (ha:k7 a=true) (hb:k7 b=true):k7 (W7 a b)=true:=by
 unfold W7;split<;>assumption
theorem jV {a b:Int×Int} (ha:k7 a=true) (hb:k7 b=true):k7 (W8 a b)=true:=by
 unfold W8;split<;>assumption
theorem mw (a b:Int×Int) (ha:k7 a=true) (hb:k7 b=true):PC Tryz.prog 76 [fr a,fr b] (fr (W7 a b)):=by
 have c:=jM b a hb ha
 have h:W7 a b=if aw b a < 0 then b else a:=rfl
 rw [h]
 generalize aw b a=x at *
 refine pF Tryz.func76 ?_
 conv=>whnf
 (repeat' ((first|refine aU fun hh=>?_|refine aV fun hh=>?_|refine aS (fun hh=>?_) fun hh=>?_|refine kR ?_|((try refine Or.inl ?_;conv=>whnf);(try refine ⟨false,?_⟩;conv=>whnf);refine ⟨_,by exact c,?_⟩)|fail)<;>conv=>whnf))
 ·rw [if_pos hh]
 ·rw [if_neg hh]
theorem jW (a b:Int×Int) (ha:k7 a=true) (hb:k7 b=true):PC Tryz.prog 77 [fr a,fr b] (fr (W8 a b)):=by
 have c:=jM b a hb ha
 have h:W8 a b=if 0 < aw b a then b else a:=rfl
 rw [h]
 generalize aw b a=x at *
 refine pF Tryz.func77 ?_
 conv=>whnf
 (repeat' ((first|refine aU fun hh=>?_|refine aV fun hh=>?_|refine aS (fun hh=>?_) fun hh=>?_|refine kR ?_|((try refine Or.inl ?_;conv=>whnf);(try refine ⟨false,?_⟩;conv=>whnf);refine ⟨_,by exact c,?_⟩)|fail)<;>conv=>whnf))
 ·rw [if_pos hh]
 ·rw [if_neg hh]
theorem lz (a b:Int×Int) (ha:k7 a=true) (hb:k7 b=true):PC Tryz.prog 73 [fr a,fr b] (.tup [fr (ax a b).1,i64 (ax a b).2]):=by
 have c:=yc b hb
 have c2:=yh a (sx b) ha (oa hb).1
 have hs:ax a b=eZ a (sx b):=rfl
 rw [hs]
 refine pF Tryz.func73 ?_
 conv=>whnf
 (repeat' ((first|refine aU fun hh=>?_|refine aV fun hh=>?_|refine aS (fun hh=>?_) fun hh=>?_|refine kR ?_|((try refine Or.inl ?_;conv=>whnf);(try refine ⟨false,?_⟩;conv=>whnf);refine ⟨_,by first|exact c|exact c2,?_⟩)|fail)<;>conv=>whnf))
theorem vl {α:Type} (d:α) (l:List α) (k:Nat) (h:k < l.length):l.drop k=l.getD k d :: l.drop (k + 1):=by
 rw [List.drop_eq_getElem_cons h];simp [List.getD,h]
theorem AY (D:FuncId) (op:Int×Int->Int×Int->(Int×Int)×Int) (l:List S6) (hl:l.length < 2 ^ 40) (hv:∀ p ∈ l,k7 p.1=true/\k7 p.2=true)
  (hD:∀ a b,k7 a=true->k7 b=true->PC Tryz.prog D [fr a,fr b] (.tup [fr (op a b).1,i64 (op a b).2])) (lW:∀ a b,k7 a=true->k7 b=true->(op a b).2=0->k7 (op a b).1=true) :
  PC Tryz.prog 52 [.fn (.func D) [] [],JS l] (.tup [sp (J7 op l).1,i64 (J7 op l).2]):=by
 refine pF Tryz.func52 ?_
 conv=>whnf
 refine Or.inr ⟨Nat×S6,[13],[6],[],fun i=>[i64 i.1],fun i=>[.cells 42 (eS i.2)],fun _=>[],fun i=>l.length - i.1,fun i=>i.1<=l.length/\(i.1=0->i.2=zS)/\(0 < i.1->k7 i.2.1=true/\k7 i.2.2=true/\J7 op l=J0 op i.2 (l.drop i.1)),?_⟩
 conv=>whnf
 refine ⟨⟨(0,zS),?_⟩,?_⟩
 ·(conv=>whnf)
  exact kK ⟨⟨Nat.zero_le _,fun _=>rfl,fun h=>absurd h (Nat.lt_irrefl _)⟩,rfl,rfl,rfl⟩
 ·rintro ⟨k,s⟩ ⟨h1,h2,h3⟩
  simp only [] at h1 h2 h3
  conv=>whnf
  refine ⟨fun h=>?_,fun h=>?_⟩
  ·have h:=of_decide_eq_true h
   have hk:k < l.length:=by omega
   conv=>whnf
   refine ⟨⟨by omega,by omega⟩,?_⟩
   have hg:l.getD (Int.toNat (k:Int)) zS=l.getD k zS:=rfl
   have GQ:=hv (l.getD k zS) (by simp [List.getD,hk])
   have Ep:=vl zS l k hk
   rw [hg]
   have ak:k=0->l=l.getD k zS :: l.drop (k + 1):=fun e=>by rw [<- Ep,e,List.drop_zero]
   generalize l.getD k zS=p at *
   obtain ⟨⟨n,d⟩,⟨m,e⟩⟩:=p
   have c:=hD (n,d) (m,e) GQ.1 GQ.2
   have cv:=lW (n,d) (m,e) GQ.1 GQ.2
   have hG:∀ s,J0 op s (((n,d),(m,e)) :: l.drop (k + 1))=if (op (n,d) (m,e)).2≠0 then (zS,(op (n,d) (m,e)).2) else J0 op (W7 s.1 (op (n,d) (m,e)).1,W8 s.2 (op (n,d) (m,e)).1) (l.drop (k + 1)):=fun s=>rfl
   have hF:J7 op (((n,d),(m,e)) :: l.drop (k + 1))=if (op (n,d) (m,e)).2≠0 then (zS,(op (n,d) (m,e)).2) else J0 op ((op (n,d) (m,e)).1,(op (n,d) (m,e)).1) (l.drop (k + 1)):=rfl
   generalize op (n,d) (m,e)=r at *
   obtain ⟨x,er⟩:=r
   simp only [] at c cv hG hF
   conv=>whnf
   (repeat' ((first|refine aU fun hh=>?_|refine aV fun hh=>?_|refine aS (fun hh=>?_) fun hh=>?_|refine kR ?_|((try refine Or.inl ?_;conv=>whnf);(try refine ⟨false,?_⟩;conv=>whnf);refine ⟨_,by exact c,?_⟩)|fail)<;>conv=>whnf))
   ·have e:J7 op l=(zS,er):=by
     by_cases h0:k=0
     ·rw [ak h0,hF,if_pos hh]
     ·rw [(h3 (by omega)).2.2,Ep,hG,if_pos hh]
    rw [e]
   ·have h0:k=0:=by omega
    rename_i he
    refine ⟨(k + 1,(x,x)),?_⟩
    conv=>whnf
    refine kK ⟨⟨Nat.sub_lt_sub_left (by omega) (Nat.lt_succ_self k),⟨by omega,fun h=>absurd h (by omega),fun _=>⟨cv he,cv he,?_⟩⟩⟩,?_,rfl,rfl⟩
    ·show J7 op l=J0 op (x,x) (l.drop (k + 1))
     rw [ak h0,hF,if_neg (by omega)]
     rw [<- ak h0]
    ·rw [L9 _ (by omega) (by omega)];rfl
   ·have h0:0 < k:=by omega
    rename_i he
    obtain ⟨v1,v2,v3⟩:=h3 h0
    obtain ⟨⟨s1,s2⟩,⟨s3,s4⟩⟩:=s
    have cl:=mw (s1,s2) x v1 (cv he)
    have cg:=jW (s3,s4) x v2 (cv he)
    (repeat' ((first|refine aU fun hh=>?_|refine aV fun hh=>?_|refine aS (fun hh=>?_) fun hh=>?_|refine kR ?_|((try refine Or.inl ?_;conv=>whnf);(try refine ⟨false,?_⟩;conv=>whnf);refine ⟨_,by first|exact cl|exact cg,?_⟩)|fail)<;>conv=>whnf))
    refine ⟨(k + 1,(W7 (s1,s2) x,W8 (s3,s4) x)),?_⟩
    conv=>whnf
    refine kK ⟨⟨Nat.sub_lt_sub_left (by omega) (Nat.lt_succ_self k),⟨by omega,fun h=>absurd h (by omega),fun _=>⟨jU v1 (cv he),jV v2 (cv he),?_⟩⟩⟩,?_,rfl,rfl⟩
    ·show J7 op l=J0 op (W7 (s1,s2) x,W8 (s3,s4) x) (l.drop (k + 1))
     rw [v3,Ep,hG,if_neg (by omega)]
    ·rw [L9 _ (by omega) (by omega)];rfl
  ·have h:=of_decide_eq_false h
   have hk:k=l.length:=by omega
   conv=>whnf
   by_cases h0:k=0
   ·have:l=[]:=List.eq_nil_of_length_eq_zero (by omega)
    subst this
    rw [h2 h0]
    rfl
   ·rw [(h3 (by omega)).2.2,hk,List.drop_length]
    rfl
theorem qn (D:FuncId) (op:Int×Int->Int×Int->(Int×Int)×Int) (l:List S6) (hl:l.length < 2 ^ 40) (hv:∀ p ∈ l,k7 p.1=true/\k7 p.2=true)
  (hD:∀ a b,k7 a=true->k7 b=true->PC Tryz.prog D [fr a,fr b] (.tup [fr (op a b).1,i64 (op a b).2])) (lW:∀ a b,k7 a=true->k7 b=true->(op a b).2=0->k7 (op a b).1=true) :
  PC Tryz.prog 52 [.fn (.func D) [] [],.slc 4 (l.map eS)] (.tup [sp (J7 op l).1,i64 (J7 op l).2]) :=
 PC.last (args:=[.fn (.func D) [] []]) (AY D op l hl hv hD lW) (.slc 4 zS eS l)
def N4 (s:S6) (x:Int×Int):Bool:=decide (aw s.1 x<=0) && decide (aw x s.2<=0)
theorem X3 {s:S6}:x9 s=true↔k7 s.1=true/\k7 s.2=true/\aw s.1 s.2<=0:=by
 simp [x9,and_assoc]
theorem yi:∀ a b,k7 a=true->k7 b=true->(ax a b).2=0->k7 (ax a b).1=true:=fun a b ha hb h=>((cO ha hb).ok h).1
theorem qo:∀ a b,k7 a=true->k7 b=true->(jQ a b).2=0->k7 (jQ a b).1=true:=fun a b ha hb h=>((vk ha hb).ok h).1
def oc (a b:S6):List S6:=[(a.1,b.1),(a.1,b.2),(a.2,b.1),(a.2,b.2)]
def sy (a b:S6):S6×Int:=if x9 a && x9 b then J7 ax [(a.1,b.2),(a.2,b.1)] else (zS,8)
def cA (a b:S6):S6×Int:=if x9 a && x9 b then J7 jQ (oc a b) else (zS,8)
theorem jX {a b:S6} (ha:x9 a=true) (hb:x9 b=true):∀ p ∈ oc a b,k7 p.1=true/\k7 p.2=true:=by
 rw [X3] at ha hb
 intro p hp
 simp only [oc,List.mem_cons,List.not_mem_nil,or_false] at hp
 rcases hp with rfl|rfl|rfl|rfl<;>simp [ha,hb]
theorem Dz (a b:S6):PC Tryz.prog 54 [sp a,sp b] (.slc 4 ((oc a b).map eS)):=by
 refine pF Tryz.func54 ?_
 conv=>whnf
 (repeat' ((first|refine aU fun hh=>?_|refine aV fun hh=>?_|refine aS (fun hh=>?_) fun hh=>?_|refine kR ?_|fail)<;>conv=>whnf))
 rfl
theorem qp (a b:S6):PC Tryz.prog 50 [sp a,sp b] (.tup [sp (sy a b).1,i64 (sy a b).2]):=by
 have c1:=gi a b
 have hs:sy a b=if x9 a && x9 b then J7 ax [(a.1,b.2),(a.2,b.1)] else (zS,8):=rfl
 rw [hs]
 cases ha:x9 a
 ·rw [ha] at c1
  refine pF Tryz.func50 ?_
  conv=>whnf
  (repeat' ((first|refine aU fun hh=>?_|refine aV fun hh=>?_|refine aS (fun hh=>?_) fun hh=>?_|refine kR ?_|((try refine Or.inl ?_;conv=>whnf);(try refine ⟨false,?_⟩;conv=>whnf);refine ⟨_,by exact c1,?_⟩)|fail)<;>conv=>whnf))
  all_goals simp
 cases hb:x9 b
 ·rw [ha,hb] at c1
  refine pF Tryz.func50 ?_
  conv=>whnf
  (repeat' ((first|refine aU fun hh=>?_|refine aV fun hh=>?_|refine aS (fun hh=>?_) fun hh=>?_|refine kR ?_|((try refine Or.inl ?_;conv=>whnf);(try refine ⟨false,?_⟩;conv=>whnf);refine ⟨_,by exact c1,?_⟩)|fail)<;>conv=>whnf))
  all_goals simp
 rw [ha,hb] at c1
 have va:=X3.1 ha
 have vb:=X3.1 hb
 have c2:=qn 73 ax [(a.1,b.2),(a.2,b.1)] (by simp) (by simp [va,vb]) lz yi
 generalize J7 ax [(a.1,b.2),(a.2,b.1)]=r at *
 refine pF Tryz.func50 ?_
 conv=>whnf
 (repeat' ((first|refine aU fun hh=>?_|refine aV fun hh=>?_|refine aS (fun hh=>?_) fun hh=>?_|refine kR ?_|((try refine Or.inl ?_;conv=>whnf);(try refine ⟨false,?_⟩;conv=>whnf);refine ⟨_,by first|exact c1|exact c2,?_⟩)|fail)<;>conv=>whnf))
 all_goals simp
theorem qq (a b:S6):PC Tryz.prog 29 [sp a,sp b] (.tup [sp (cA a b).1,i64 (cA a b).2]):=by
 have c1:=gi a b
 have hs:cA a b=if x9 a && x9 b then J7 jQ (oc a b) else (zS,8):=rfl
 rw [hs]
 cases ha:x9 a
 ·rw [ha] at c1
  refine pF Tryz.func29 ?_
  conv=>whnf
  (repeat' ((first|refine aU fun hh=>?_|refine aV fun hh=>?_|refine aS (fun hh=>?_) fun hh=>?_|refine kR ?_|((try refine Or.inl ?_;conv=>whnf);(try refine ⟨false,?_⟩;conv=>whnf);refine ⟨_,by exact c1,?_⟩)|fail)<;>conv=>whnf))
  all_goals simp
 cases hb:x9 b
 ·rw [ha,hb] at c1
  refine pF Tryz.func29 ?_
  conv=>whnf
  (repeat' ((first|refine aU fun hh=>?_|refine aV fun hh=>?_|refine aS (fun hh=>?_) fun hh=>?_|refine kR ?_|((try refine Or.inl ?_;conv=>whnf);(try refine ⟨false,?_⟩;conv=>whnf);refine ⟨_,by exact c1,?_⟩)|fail)<;>conv=>whnf))
  all_goals simp
 rw [ha,hb] at c1
 have c3:=Dz a b
 have c2:=qn 53 jQ (oc a b) (by simp [oc]) (jX ha hb) yd qo
 generalize J7 jQ (oc a b)=r at *
 refine pF Tryz.func29 ?_
 conv=>whnf
 (repeat' ((first|refine aU fun hh=>?_|refine aV fun hh=>?_|refine aS (fun hh=>?_) fun hh=>?_|refine kR ?_|((try refine Or.inl ?_;conv=>whnf);(try refine ⟨false,?_⟩;conv=>whnf);refine ⟨_,by first|exact c1|exact c3|exact c2,?_⟩)|fail)<;>conv=>whnf))
 all_goals simp
theorem AZ {a b:Int×Int} (ha:k7 a=true) (hb:k7 b=true):qv (W7 a b)<=qv a/\qv (W7 a b)<=qv b/\(W7 a b=a∨W7 a b=b):=by
 unfold W7
 rcases O9 hb ha with ⟨h,e⟩|⟨h,_,e⟩|⟨h,e⟩<;>rw [e]<;>simp<;>grind
theorem Ba {a b:Int×Int} (ha:k7 a=true) (hb:k7 b=true):qv a<=qv (W8 a b)/\qv b<=qv (W8 a b)/\(W8 a b=a∨W8 a b=b):=by
 unfold W8
 rcases O9 hb ha with ⟨h,e⟩|⟨h,_,e⟩|⟨h,e⟩<;>rw [e]<;>simp<;>grind
theorem Bb {a b:Int×Int} (ha:k7 a=true) (hb:k7 b=true):W7 a b=if aw a b<=0 then a else b:=by
 unfold W7
 rcases O9 ha hb with ⟨h,e⟩|⟨_,h,e⟩|⟨h,e⟩<;>rcases O9 hb ha with ⟨k,f⟩|⟨_,k,f⟩|⟨k,f⟩<;>rw [e,f]<;>simp<;>grind
theorem yj {op:Int×Int->Int×Int->(Int×Int)×Int} {p q:S6} {x y:Rat} (hp:dS x (op p.1 p.2)) (hq:dS y (op q.1 q.2)) (h:x<=y) :
  J7 op [p,q]=if (op p.1 p.2).2=0/\(op q.1 q.2).2=0 then (((op p.1 p.2).1,(op q.1 q.2).1),0) else (zS,4):=by
 simp only [J7,J0]
 by_cases h1:(op p.1 p.2).2=0
 ·by_cases h2:(op q.1 q.2).2=0
  ·obtain ⟨v1,e1⟩:=hp.ok h1
   obtain ⟨v2,e2⟩:=hq.ok h2
   have hle:=(nZ v1 v2).2 (by rw [e1,e2];exact h)
   rw [Bb v1 v2,if_pos hle]
   have hg:W8 (op p.1 p.2).1 (op q.1 q.2).1=(op q.1 q.2).1:=by
    unfold W8
    rcases O9 v1 v2 with ⟨h,e⟩|⟨_,h,e⟩|⟨h,e⟩
    ·rw [if_pos ((AX v2 v1).2 h)]
    ·rw [h];split<;>rfl
    ·omega
   rw [hg]
   simp [h1,h2]
  ·have:=hq.bad h2
   simp [h1,h2,this]
 ·have:=hp.bad h1
  simp [h1,this]
theorem Y0 {s:S6}:x9 s=true↔k7 s.1=true/\k7 s.2=true/\qv s.1<=qv s.2:=by
 rw [X3]
 constructor
 ·rintro ⟨a,b,c⟩;exact ⟨a,b,(nZ a b).1 c⟩
 ·rintro ⟨a,b,c⟩;exact ⟨a,b,(nZ a b).2 c⟩
theorem qs {op:Int×Int->Int×Int->(Int×Int)×Int} (lW:∀ a b,k7 a=true->k7 b=true->(op a b).2=0->k7 (op a b).1=true) :
  ∀ (l:List S6) (s:S6),(∀ p ∈ l,k7 p.1=true/\k7 p.2=true)->x9 s=true->(J0 op s l).2=0 ->
   x9 (J0 op s l).1=true/\qv (J0 op s l).1.1<=qv s.1/\qv s.2<=qv (J0 op s l).1.2 /\
   (∀ p ∈ l,(op p.1 p.2).2=0/\qv (J0 op s l).1.1<=qv (op p.1 p.2).1/\qv (op p.1 p.2).1<=qv (J0 op s l).1.2) /\
   ((J0 op s l).1.1=s.1∨∃ p ∈ l,(J0 op s l).1.1=(op p.1 p.2).1)/\((J0 op s l).1.2=s.2∨∃ p ∈ l,(J0 op s l).1.2=(op p.1 p.2).1)
 | [],s,_,hs,_=>⟨hs,by simp only [J0];exact Rat.le_refl,by simp only [J0];exact Rat.le_refl,by simp,.inl rfl,.inl rfl⟩
 | p :: l,s,hl,hs,h=>by
  have hp:=hl p (by simp)
  by_cases h0:(op p.1 p.2).2=0
  ·have hv:=lW _ _ hp.1 hp.2 h0
   have e:J0 op s (p :: l)=J0 op (W7 s.1 (op p.1 p.2).1,W8 s.2 (op p.1 p.2).1) l:=by simp [J0,h0]
   rw [e] at h ⊢
   obtain ⟨s1,s2,s3⟩:=Y0.1 hs
   obtain ⟨l1,l2,l3⟩:=AZ s1 hv
   obtain ⟨g1,g2,g3⟩:=Ba s2 hv
   have zO:x9 (W7 s.1 (op p.1 p.2).1,W8 s.2 (op p.1 p.2).1)=true:=Y0.2 ⟨jU s1 hv,jV s2 hv,by simp only [];grind⟩
   obtain ⟨i1,i2,i3,i4,i5,i6⟩:=qs lW l _ (fun q hq=>hl q (by simp [hq])) zO h
   simp only [] at i2 i3 i5 i6
   generalize J0 op (W7 s.1 (op p.1 p.2).1,W8 s.2 (op p.1 p.2).1) l=r at *
   refine ⟨i1,by grind,by grind,?_,?_,?_⟩
   ·intro q hq
    rcases List.mem_cons.1 hq with rfl|hq
    ·exact ⟨h0,by grind,by grind⟩
    ·exact i4 q hq
   ·rcases i5 with i5|⟨q,hq,i5⟩
    ·rcases l3 with l3|l3
     ·left;rw [i5,l3]
     ·right;exact ⟨p,by simp,by rw [i5,l3]⟩
    ·right;exact ⟨q,by simp [hq],i5⟩
   ·rcases i6 with i6|⟨q,hq,i6⟩
    ·rcases g3 with g3|g3
     ·left;rw [i6,g3]
     ·right;exact ⟨p,by simp,by rw [i6,g3]⟩
    ·right;exact ⟨q,by simp [hq],i6⟩
  ·exfalso
   simp [J0,h0] at h
theorem yk {op:Int×Int->Int×Int->(Int×Int)×Int} (lW:∀ a b,k7 a=true->k7 b=true->(op a b).2=0->k7 (op a b).1=true)
  (l:List S6) (hl:∀ p ∈ l,k7 p.1=true/\k7 p.2=true) (R9:l≠[]) (h:(J7 op l).2=0) :
   x9 (J7 op l).1=true /\
   (∀ p ∈ l,(op p.1 p.2).2=0/\qv (J7 op l).1.1<=qv (op p.1 p.2).1/\qv (op p.1 p.2).1<=qv (J7 op l).1.2) /\
   (∃ p ∈ l,(J7 op l).1.1=(op p.1 p.2).1)/\(∃ p ∈ l,(J7 op l).1.2=(op p.1 p.2).1):=by
 match l,R9,hl,h with
 | p :: l,_,hl,h =>
  have hp:=hl p (by simp)
  by_cases h0:(op p.1 p.2).2=0
  ·have hv:=lW _ _ hp.1 hp.2 h0
   have e:J7 op (p :: l)=J0 op ((op p.1 p.2).1,(op p.1 p.2).1) l:=by simp [J7,h0]
   rw [e] at h ⊢
   obtain ⟨i1,i2,i3,i4,i5,i6⟩:=qs lW l ((op p.1 p.2).1,(op p.1 p.2).1) (fun q hq=>hl q (by simp [hq])) (Y0.2 ⟨hv,hv,Rat.le_refl⟩) h
   simp only [] at i2 i3 i5 i6
   refine ⟨i1,?_,?_,?_⟩
   ·intro q hq
    rcases List.mem_cons.1 hq with rfl|hq
    ·exact ⟨h0,i2,i3⟩
    ·exact i4 q hq
   ·rcases i5 with i5|⟨q,hq,i5⟩
    ·exact ⟨p,by simp,i5⟩
    ·exact ⟨q,by simp [hq],i5⟩
   ·rcases i6 with i6|⟨q,hq,i6⟩
    ·exact ⟨p,by simp,i6⟩
    ·exact ⟨q,by simp [hq],i6⟩
  ·exfalso
   simp [J7,h0] at h

end Go.Proofs.Tryz.My
