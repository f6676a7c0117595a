/- A helper text: contracts of functions of the program, and plain lemmas. -/
import Derived.Test.YtdpnpdjnaimgaaaGreatEvSix
import Derived.Test.YtdpnpdjnaimgaaaGreatMzDvA
import Derived.Test.YtdpnpdjnaimgaaaGreatMzEx4
set_option maxRecDepth 100000
set_option maxHeartbeats 0
set_option linter.unusedVariables false
set_option linter.unusedSimpArgs false
namespace Go.Proofs.Tryz.My
open Go Go.Ev
theorem a1r {y v w q r f B:Nat} (hy:0 < y) (h1:q * y + r=v) (h2:w=v * B + f):q * B + (r * B + f) / y=w / y/\(r * B + f) % y=w % y:=by
 have e1:w=(r * B + f) + y * (q * B):=by
  have:y * (q * B)=q * y * B:=by rw [Nat.mul_left_comm,<- Nat.mul_assoc]
  rw [this,h2,<- h1,Nat.add_mul]
  omega
 have k1:=Nat.add_mul_div_left (r * B + f) (q * B) hy
 have k2:=Nat.add_mul_mod_self_left (r * B + f) y (q * B)
 rw [<- e1] at k1 k2
 exact ⟨(Nat.add_comm _ _).trans k1.symm,k2.symm⟩
theorem b0r {x d W:Nat} (hd:0 < d) (hW:0 < W):x / d=x / W / d * W + (x / W % d * W + x % W) / d/\x % d=(x / W % d * W + x % W) % d/\(x / W % d * W + x % W) / d < W:=by
 have h1:=Nat.div_add_mod' (x / W) d
 have h2:=Nat.div_add_mod' x W
 have h3:=a1r (y:=d) (v:=x / W) (w:=x) (q:=x / W / d) (r:=x / W % d) (f:=x % W) (B:=W) hd h1 h2.symm
 refine ⟨h3.1.symm,h3.2.symm,?_⟩
 refine (Nat.div_lt_iff_lt_mul hd).2 ?_
 have h4:=Nat.mod_lt x hW
 have h5:(x / W % d + 1) * W<=d * W:=Nat.mul_le_mul_right _ (Nat.mod_lt _ hd)
 rw [Nat.add_mul,Nat.one_mul] at h5
 rw [Nat.mul_comm W d]
 omega
theorem a9y (x d:Nat) (hx:x < 340282366920938463463374607431768211456) (hd:0 < d) (hd2:d < 18446744073709551616):PC Tryz.prog 292 [pr x,u64 d] (.tup [pr (x / d),u64 (x % d)]):=by
 obtain ⟨w1,w2,w3⟩:=b0r (x:=x) (W:=18446744073709551616) hd (by omega)
 have c:=b10 (x / 18446744073709551616 % d) (x % 18446744073709551616) d (Nat.mod_lt _ hd) (Nat.mod_lt _ (by omega)) hd2
 rw [<- w2] at c
 have e1:x / d / 18446744073709551616=x / 18446744073709551616 / d:=by rw [Nat.div_div_eq_div_mul,Nat.div_div_eq_div_mul,Nat.mul_comm]
 have e2:x / d % 18446744073709551616=(x / 18446744073709551616 % d * 18446744073709551616 + x % 18446744073709551616) / d:=by omega
 rw [<- e2] at c
 refine a7 hm Tryz.func292 (by kernel_rfl) ?_
 conv=>whnf
 (repeat' first|(refine ansS (fun hh=>?_) (fun hh=>?_)<;>(try simp only [ansX] at hh)<;>first|(exfalso;first|omega|(simp [*] at hh;done)|(revert hh;decide))|exact absurd (by assumption) hh|conv=>whnf)|((first|refine kR ?_|refine aB ?_|refine aL ?_|refine aN ?_|fail);conv=>whnf))
 rw [V4 _ _ (by omega),b1y]
 (repeat' first|(refine ansS (fun hh=>?_) (fun hh=>?_)<;>(try simp only [ansX] at hh)<;>first|(exfalso;first|omega|(simp [*] at hh;done)|(revert hh;decide))|exact absurd (by assumption) hh|conv=>whnf)|((first|refine kR ?_|refine aB ?_|refine aL ?_|refine aN ?_|((try (refine Or.inl ?_;conv=>whnf));(try (refine ⟨false,?_⟩;conv=>whnf));refine ⟨_,by exact c,?_⟩)|fail);conv=>whnf))
 rw [<- e1]
theorem b11 (a b:Int×Int) (ha:b9 a=true) (hb:b9 b=true):PC Tryz.prog 250 [fr a,fr b] (.tup [fr (addF a b).1,i64 (addF a b).2]):=by
 have law:=fun neg T h=>b3r ha hb neg (Nat.gcd a.2.natAbs b.2.natAbs) (a.2.natAbs / Nat.gcd a.2.natAbs b.2.natAbs) (b.2.natAbs / Nat.gcd a.2.natAbs b.2.natAbs) T h rfl rfl rfl
 have va:=(t8 a).1 ha
 have vb:=(t8 b).1 hb
 generalize addF a b=res at *
 obtain ⟨n,d⟩:=a
 obtain ⟨m,e⟩:=b
 simp only [] at *
 have i1:I64 n:=by unfold I64; omega
 have i2:I64 d:=by unfold I64; omega
 have i3:I64 m:=by unfold I64; omega
 have i4:I64 e:=by unfold I64; omega
 have c1:=a1m d.natAbs e.natAbs (by omega) (by omega)
 have hg0:0 < Nat.gcd d.natAbs e.natAbs:=Nat.gcd_pos_of_pos_right _ (by omega)
 have hgl:Nat.gcd d.natAbs e.natAbs<=d.natAbs:=Nat.gcd_le_left _ (by omega)
 generalize Nat.gcd d.natAbs e.natAbs=g at *
 have l1:d.natAbs / g<=4611686018427387903:=Nat.le_trans (Nat.div_le_self _ _) (by omega)
 have l2:e.natAbs / g<=4611686018427387903:=Nat.le_trans (Nat.div_le_self _ _) (by omega)
 have hp:∀ h,e.natAbs / h<=4611686018427387903:=fun h=>Nat.le_trans (Nat.div_le_self _ _) (by omega)
 have fe:=V4 d.natAbs g (by omega)
 have ff:=V4 e.natAbs g (by omega)
 have fh:=fun h=>V4 e.natAbs h (by omega)
 generalize d.natAbs / g=p at *
 generalize e.natAbs / g=q at *
 have p1:=F8 n.natAbs q (by omega) (by omega)
 have p2:=F8 m.natAbs p (by omega) (by omega)
 have hx:n.natAbs * q<=4611686018427387903 * 4611686018427387903:=Nat.mul_le_mul (by omega) l2
 have hy:m.natAbs * p<=4611686018427387903 * 4611686018427387903:=Nat.mul_le_mul (by omega) l1
 have kx:((n.natAbs * q:Nat):Int)=if n < 0 then -(n * q) else n * q:=by
  rw [Int.natCast_mul]
  split
  ·rw [show ((n.natAbs:Nat):Int) = -n by omega,Int.neg_mul]
  ·rw [show ((n.natAbs:Nat):Int)=n by omega]
 have ky:((m.natAbs * p:Nat):Int)=if m < 0 then -(m * p) else m * p:=by
  rw [Int.natCast_mul]
  split
  ·rw [show ((m.natAbs:Nat):Int) = -m by omega,Int.neg_mul]
  ·rw [show ((m.natAbs:Nat):Int)=m by omega]
 have c2:=a5u (n.natAbs * q) (m.natAbs * p) (by omega) (by omega)
 generalize n.natAbs * q=X at *
 generalize m.natAbs * p=Y at *
 generalize n * (q:Int)=NX at *
 generalize m * (p:Int)=MY at *
 have c3:=fun (T:Nat) (hT:T < 340282366920938463463374607431768211456)=>a9y T g hT hg0 (by omega)
 have c4:=fun (T:Nat)=>a1m g (T % g) (by omega) (Nat.lt_trans (Nat.mod_lt T hg0) (by omega))
 have hh0:∀ T,0 < Nat.gcd g (T % g):=fun T=>Nat.gcd_pos_of_pos_left _ hg0
 have hhl:∀ T,Nat.gcd g (T % g)<=g:=fun T=>Nat.gcd_le_left _ hg0
 have c5:=fun (T:Nat) (hT:T < 340282366920938463463374607431768211456)=>a9y T (Nat.gcd g (T % g)) hT (hh0 T) (Nat.lt_of_le_of_lt (hhl T) (by omega))
 have c6:=fun (h:Nat)=>F8 p (e.natAbs / h) (by omega) (Nat.lt_of_le_of_lt (hp h) (by omega))
 have hD:∀ h,p * (e.natAbs / h) < 340282366920938463463374607431768211456:=fun h=>Nat.lt_of_le_of_lt (Nat.mul_le_mul l1 (hp h)) (by decide)
 have c7:=fun (neg:Bool) (T:Nat) (h:Nat) (hT:T < 340282366920938463463374607431768211456)=>a5v neg (T / h) (p * (e.natAbs / h)) (Nat.lt_of_le_of_lt (Nat.div_le_self _ _) hT) (hD h)
 refine a7 hm Tryz.func250 (by kernel_rfl) ?_
 conv=>whnf
 (repeat' first|(refine ansS (fun hh=>?_) (fun hh=>?_)<;>(try simp only [ansX] at hh)<;>first|(exfalso;first|omega|(simp [*] at hh;done)|(revert hh;decide))|exact absurd (by assumption) hh|conv=>whnf)|((first|refine kR ?_|refine aB ?_|refine aL ?_|refine aN ?_|((try (refine Or.inl ?_;conv=>whnf));(try (refine ⟨false,?_⟩;conv=>whnf));refine ⟨_,by first | exact w8 n i1 | exact w8 d i2 | exact w8 m i3 | exact w8 e i4 | exact c1,?_⟩)|fail);conv=>whnf))
 rw [ff]
 (repeat' first|(refine ansS (fun hh=>?_) (fun hh=>?_)<;>(try simp only [ansX] at hh)<;>first|(exfalso;first|omega|(simp [*] at hh;done)|(revert hh;decide))|exact absurd (by assumption) hh|conv=>whnf)|((first|refine kR ?_|refine aB ?_|refine aL ?_|refine aN ?_|((try (refine Or.inl ?_;conv=>whnf));(try (refine ⟨false,?_⟩;conv=>whnf));refine ⟨_,by first | exact p1 | exact w8 d i2 | exact w8 m i3,?_⟩)|fail);conv=>whnf))
 rw [fe]
 (repeat' first|(refine ansS (fun hh=>?_) (fun hh=>?_)<;>(try simp only [ansX] at hh)<;>first|(exfalso;first|omega|(simp [*] at hh;done)|(revert hh;decide))|exact absurd (by assumption) hh|conv=>whnf)|((first|refine kR ?_|refine aB ?_|refine aL ?_|refine aN ?_|((try (refine Or.inl ?_;conv=>whnf));(try (refine ⟨false,?_⟩;conv=>whnf));refine ⟨_,by first | exact p2 | exact c2,?_⟩)|fail);conv=>whnf))
 ·have hs:(n < 0/\¬ m < 0)∨(¬ n < 0/\m < 0):=by
   by_cases s1:n < 0<;>by_cases s2:m < 0<;>simp [s1,s2] at * <;> omega
  have hT:Y - X < 340282366920938463463374607431768211456:=by omega
  have hz:=hh0 (Y - X)
  (repeat' first|(refine ansS (fun hh=>?_) (fun hh=>?_)<;>(try simp only [ansX] at hh)<;>first|(exfalso;first|omega|(simp [*] at hh;done)|(revert hh;decide))|exact absurd (by assumption) hh|conv=>whnf)|((first|refine kR ?_|refine aB ?_|refine aL ?_|refine aN ?_|((try (refine Or.inl ?_;conv=>whnf));(try (refine ⟨false,?_⟩;conv=>whnf));refine ⟨_,by first | exact a9v Y X (by omega) (by omega) | exact c3 (Y - X) hT | exact c4 (Y - X) | exact c5 (Y - X) hT | exact w8 d i2 | exact w8 e i4,?_⟩)|fail);conv=>whnf))
  rw [fe,fh]
  (repeat' first|(refine ansS (fun hh=>?_) (fun hh=>?_)<;>(try simp only [ansX] at hh)<;>first|(exfalso;first|omega|(simp [*] at hh;done)|(revert hh;decide))|exact absurd (by assumption) hh|conv=>whnf)|((first|refine kR ?_|refine aB ?_|refine aL ?_|refine aN ?_|((try (refine Or.inl ?_;conv=>whnf));(try (refine ⟨false,?_⟩;conv=>whnf));refine ⟨_,by first | exact c6 (Nat.gcd g ((Y - X) % g)) | exact c7 (decide (m < 0)) (Y - X) (Nat.gcd g ((Y - X) % g)) hT,?_⟩)|fail);conv=>whnf))
  rw [<- law (decide (m < 0)) (Y - X) (Nat.gcd g ((Y - X) % g)) (by split at kx<;>split at ky<;>omega) rfl (by intro h0; refine decide_eq_decide.2 ?_; split at kx<;>split at ky<;>omega)]
 ·have hs:(n < 0/\¬ m < 0)∨(¬ n < 0/\m < 0):=by
   by_cases s1:n < 0<;>by_cases s2:m < 0<;>simp [s1,s2] at * <;> omega
  have hT:X - Y < 340282366920938463463374607431768211456:=by omega
  have hz:=hh0 (X - Y)
  (repeat' first|(refine ansS (fun hh=>?_) (fun hh=>?_)<;>(try simp only [ansX] at hh)<;>first|(exfalso;first|omega|(simp [*] at hh;done)|(revert hh;decide))|exact absurd (by assumption) hh|conv=>whnf)|((first|refine kR ?_|refine aB ?_|refine aL ?_|refine aN ?_|((try (refine Or.inl ?_;conv=>whnf));(try (refine ⟨false,?_⟩;conv=>whnf));refine ⟨_,by first | exact a9v X Y (by omega) (by omega) | exact c3 (X - Y) hT | exact c4 (X - Y) | exact c5 (X - Y) hT | exact w8 d i2 | exact w8 e i4,?_⟩)|fail);conv=>whnf))
  rw [fe,fh]
  (repeat' first|(refine ansS (fun hh=>?_) (fun hh=>?_)<;>(try simp only [ansX] at hh)<;>first|(exfalso;first|omega|(simp [*] at hh;done)|(revert hh;decide))|exact absurd (by assumption) hh|conv=>whnf)|((first|refine kR ?_|refine aB ?_|refine aL ?_|refine aN ?_|((try (refine Or.inl ?_;conv=>whnf));(try (refine ⟨false,?_⟩;conv=>whnf));refine ⟨_,by first | exact c6 (Nat.gcd g ((X - Y) % g)) | exact c7 (decide (n < 0)) (X - Y) (Nat.gcd g ((X - Y) % g)) hT,?_⟩)|fail);conv=>whnf))
  rw [<- law (decide (n < 0)) (X - Y) (Nat.gcd g ((X - Y) % g)) (by split at kx<;>split at ky<;>omega) rfl (by intro h0; refine decide_eq_decide.2 ?_; split at kx<;>split at ky<;>omega)]
 ·have hs:(n < 0/\m < 0)∨(¬ n < 0/\¬ m < 0):=by
   by_cases s1:n < 0<;>by_cases s2:m < 0<;>simp [s1,s2] at * <;> omega
  have hT:X + Y < 340282366920938463463374607431768211456:=by omega
  have hz:=hh0 (X + Y)
  (repeat' first|(refine ansS (fun hh=>?_) (fun hh=>?_)<;>(try simp only [ansX] at hh)<;>first|(exfalso;first|omega|(simp [*] at hh;done)|(revert hh;decide))|exact absurd (by assumption) hh|conv=>whnf)|((first|refine kR ?_|refine aB ?_|refine aL ?_|refine aN ?_|((try (refine Or.inl ?_;conv=>whnf));(try (refine ⟨false,?_⟩;conv=>whnf));refine ⟨_,by first | exact b3u X Y (by omega) | exact c3 (X + Y) hT | exact c4 (X + Y) | exact c5 (X + Y) hT | exact w8 d i2 | exact w8 e i4,?_⟩)|fail);conv=>whnf))
  rw [fe,fh]
  (repeat' first|(refine ansS (fun hh=>?_) (fun hh=>?_)<;>(try simp only [ansX] at hh)<;>first|(exfalso;first|omega|(simp [*] at hh;done)|(revert hh;decide))|exact absurd (by assumption) hh|conv=>whnf)|((first|refine kR ?_|refine aB ?_|refine aL ?_|refine aN ?_|((try (refine Or.inl ?_;conv=>whnf));(try (refine ⟨false,?_⟩;conv=>whnf));refine ⟨_,by first | exact c6 (Nat.gcd g ((X + Y) % g)) | exact c7 (decide (n < 0)) (X + Y) (Nat.gcd g ((X + Y) % g)) hT,?_⟩)|fail);conv=>whnf))
  rw [<- law (decide (n < 0)) (X + Y) (Nat.gcd g ((X + Y) % g)) (by split at kx<;>split at ky<;>omega) rfl (by intro h0; refine decide_eq_decide.2 ?_; split at kx<;>split at ky<;>omega)]
def qv (a:Int×Int):Rat:=(a.1:Rat) / (a.2:Rat)
theorem a1s {x y z:Rat} (hz:0 < z):x * z < y * z↔x < y:=by
 constructor
 ·intro h
  by_cases h1:x < y
  ·exact h1
  ·exact absurd h (Rat.not_lt.2 (Rat.mul_le_mul_of_nonneg_right (Rat.not_lt.1 h1) (Rat.le_of_lt hz)))
 ·intro h
  exact Rat.mul_lt_mul_of_pos_right h hz
theorem a2X {a b c d:Rat} (hb:0 < b) (hd:0 < d):a / b < c / d↔a * d < c * b:=by
 have e1:a / b * (b * d)=a * d:=by grind
 have e2:c / d * (b * d)=c * b:=by grind
 have h:0 < b * d:=Rat.mul_pos hb hd
 rw [<- a1s h,e1,e2]
theorem U4 {a b c d:Rat} (hb:b≠0) (hd:d≠0):a / b=c / d↔a * d=c * b:=by
 constructor<;>intro h<;>grind
theorem A6 {n:Int} (h:0 < n):(0:Rat) < (n:Rat):=Rat.intCast_lt_intCast.2 h
theorem O7 {n:Int} (h:n≠0):(n:Rat)≠0:=fun e=>h (Rat.intCast_inj.1 e)
theorem a1V {a b c d:Int}:(a:Rat) * b < (c:Rat) * d↔a * b < c * d:=by
 rw [<- Rat.intCast_mul,<- Rat.intCast_mul]; exact Rat.intCast_lt_intCast
theorem O8 {a b c d:Int}:(a:Rat) * b=(c:Rat) * d↔a * b=c * d:=by
 rw [<- Rat.intCast_mul,<- Rat.intCast_mul]; exact Rat.intCast_inj
theorem den1 {a:Int×Int} (h:b9 a=true):0 < a.2:=by have:=(t8 a).1 h; omega
theorem b4v {a b:Int×Int} (ha:b9 a=true) (hb:b9 b=true):qv a < qv b↔a.1 * b.2 < b.1 * a.2:=by
 unfold qv
 rw [a2X (A6 (den1 ha)) (A6 (den1 hb)),a1V]
theorem b4w {a b:Int×Int} (ha:b9 a=true) (hb:b9 b=true):qv a=qv b↔a=b:=by
 constructor
 ·unfold qv
  rw [U4 (O7 (Int.ne_of_gt (den1 ha))) (O7 (Int.ne_of_gt (den1 hb))),O8]
  exact a0Y ha hb
 ·intro h; rw [h]
theorem F9 {a b:Int×Int} (ha:b9 a=true) (hb:b9 b=true):(qv a < qv b/\cmpF a b = -1)∨(qv a=qv b/\a=b/\cmpF a b=0)∨(qv b < qv a/\cmpF a b=1):=by
 rw [b4v ha hb,b4v hb ha,b4w ha hb]
 unfold cmpF
 by_cases h1:a.1 * b.2 < b.1 * a.2
 ·simp [h1]
 ·by_cases h2:a.1 * b.2=b.1 * a.2
  ·refine .inr (.inl ⟨a0Y ha hb h2,a0Y ha hb h2,by simp [h1,h2]⟩)
  ·refine .inr (.inr ⟨by omega,by simp [h1,h2]⟩)
theorem a5A {a b:Int×Int} (ha:b9 a=true) (hb:b9 b=true):cmpF a b<=0↔qv a<=qv b:=by
 rcases F9 ha hb with ⟨h,e⟩ | ⟨h,_,e⟩ | ⟨h,e⟩<;>rw [e]<;>grind
theorem b3y {a b:Int×Int} (ha:b9 a=true) (hb:b9 b=true):0 < cmpF a b↔qv b < qv a:=by
 rcases F9 ha hb with ⟨h,e⟩ | ⟨h,_,e⟩ | ⟨h,e⟩<;>rw [e]<;>grind
def Fits (x:Rat) (r:(Int×Int)×Int):Prop:=(b9 r.1=true/\r.2=0/\qv r.1=x)∨(r=((0,0),4)/\∀ s,b9 s=true->qv s≠x)
theorem Fits.unique {x:Rat} {r s:(Int×Int)×Int} (hr:Fits x r) (hs:Fits x s):r=s:=by
 rcases hr with ⟨h1,h2,h3⟩ | ⟨h1,h2⟩<;>rcases hs with ⟨k1,k2,k3⟩ | ⟨k1,k2⟩
 ·have:r.1=s.1:=(b4w h1 k1).1 (h3.trans k3.symm)
  exact Prod.ext this (h2.trans k2.symm)
 ·exact absurd h3 (k2 _ h1)
 ·exact absurd k3 (h2 _ k1)
 ·rw [h1,k1]
theorem Fits.ok {x:Rat} {r:(Int×Int)×Int} (h:Fits x r) (h0:r.2=0):b9 r.1=true/\qv r.1=x:=by
 rcases h with h | ⟨h,_⟩
 ·exact ⟨h.1,h.2.2⟩
 ·rw [h] at h0; cases h0
theorem Fits.bad {x:Rat} {r:(Int×Int)×Int} (h:Fits x r) (h0:r.2≠0):r=((0,0),4):=by
 rcases h with h | h
 ·exact absurd h.2.1 h0
 ·exact h.1
theorem b0t {neg:Bool} {N D:Nat} (h:(G4 neg N D).2=0):N<=4611686018427387903/\D<=4611686018427387903/\(G4 neg N D).1=(if neg then -(N:Int) else N,(D:Int)):=by
 unfold G4 at h ⊢
 by_cases hc:N<=4611686018427387903/\D<=4611686018427387903
 ·simp [hc]
 ·simp [hc] at h
theorem a6X {n d:Int} {g:Nat} (hg:g=Nat.gcd n.natAbs d.natAbs):(g:Int) * ((n.natAbs / g:Nat):Int)=n.natAbs/\(g:Int) * ((d.natAbs / g:Nat):Int)=d.natAbs:=by
 constructor
 ·have:=Nat.mul_div_cancel' (Nat.gcd_dvd_left n.natAbs d.natAbs)
  rw [<- hg] at this
  rw [<- Int.natCast_mul,this]
 ·have:=Nat.mul_div_cancel' (Nat.gcd_dvd_right n.natAbs d.natAbs)
  rw [<- hg] at this
  rw [<- Int.natCast_mul,this]
theorem b0u (n d:Int):w9 (-n) (-d)=w9 n d:=by
 unfold w9
 by_cases h0:d=0
 ·simp [h0]
 ·have h1:¬ -d=0:=by omega
  rw [if_neg h0,if_neg h1,Int.natAbs_neg,Int.natAbs_neg]
  refine a1p fun hN => ?_
  have:n≠0:=fun e=>by subst e; simp at hN
  by_cases h2:n < 0<;>by_cases h3:d < 0<;>simp [h2,h3]<;>omega
theorem X8 {n d:Int} (hd:0 < d):Fits ((n:Rat) / (d:Rat)) (w9 n d):=by
 have hg0:0 < Nat.gcd n.natAbs d.natAbs:=Nat.gcd_pos_of_pos_right _ (by omega)
 have hm:=I5 (n:=n) hd
 by_cases h:(w9 n d).2=0
 ·left
  rw [hm] at h ⊢
  obtain ⟨h1,h2,h3⟩:=b0t h
  rw [h3]
  have hco:Nat.Coprime (n.natAbs / Nat.gcd n.natAbs d.natAbs) (d.natAbs / Nat.gcd n.natAbs d.natAbs):=Nat.coprime_div_gcd_div_gcd hg0
  obtain ⟨g1,g2⟩:=a6X (n:=n) (d:=d) rfl
  generalize Nat.gcd n.natAbs d.natAbs=g at *
  generalize n.natAbs / g=N at *
  generalize d.natAbs / g=D at *
  have hD0:D≠0:=fun e=>by subst e; simp at g2; omega
  refine ⟨?_,h,?_⟩
  ·rw [t8]
   simp only []
   refine ⟨by omega,by omega,by split<;>omega,by split<;>omega,?_⟩
   split<;>simpa using hco
  ·show ((if decide (n < 0) then -(N:Int) else (N:Int):Int):Rat) / ((D:Int):Rat)=_
   rw [U4 (O7 (by omega)) (O7 (by omega)),O8]
   have g2':(g:Int) * D=d:=by omega
   have g1':(g:Int) * (if decide (n < 0) then -(N:Int) else (N:Int):Int)=n:=by
    by_cases hn:n < 0
    ·simp only [hn,decide_true,if_true]; rw [Int.mul_neg]; omega
    ·simp only [hn,decide_false,Bool.false_eq_true,if_false]; omega
   obtain ⟨M,hM⟩:∃ M:Int,M=(if decide (n < 0) then -(N:Int) else (N:Int)):=⟨_,rfl⟩
   rw [<- hM] at g1' ⊢
   clear hM h3
   grind
 ·right
  have hv:w9 n d=((0,0),4):=by
   rw [hm] at h ⊢
   unfold G4 at h ⊢
   by_cases hc:n.natAbs / Nat.gcd n.natAbs d.natAbs<=4611686018427387903/\d.natAbs / Nat.gcd n.natAbs d.natAbs<=4611686018427387903
   ·simp [hc] at h
   ·simp only [hc,if_false]
  refine ⟨hv,fun s hs he=>h ?_⟩
  have hs':=(t8 s).1 hs
  obtain ⟨p,q⟩:=s
  simp only [] at hs'
  have he2:p * d=n * q:=by
   have:qv (p,q)=(p:Rat) / (q:Rat):=rfl
   rw [this,U4 (O7 (by omega)) (O7 (by omega)),O8] at he
   exact he
  -- d = k q, n = k p
  have hco:Nat.Coprime p.natAbs q.natAbs:=hs'.2.2.2.2
  have hdv:q.natAbs ∣ d.natAbs:=by
   have:q.natAbs ∣ p.natAbs * d.natAbs:=⟨n.natAbs,by rw [<- Int.natAbs_mul,he2,Int.natAbs_mul,Nat.mul_comm]⟩
   exact hco.symm.dvd_of_dvd_mul_left this
  obtain ⟨k,hk⟩:=hdv
  have hk0:0 < k:=by
   rcases Nat.eq_zero_or_pos k with e | e
   ·subst e; simp at hk; omega
   ·exact e
  have hd2:d=(k:Int) * q:=by
   have:((d.natAbs:Nat):Int)=((q.natAbs * k:Nat):Int):=by rw [hk]
   rw [Int.natCast_mul] at this
   rw [Int.mul_comm]
   have e1:((d.natAbs:Nat):Int)=d:=by omega
   have e2:((q.natAbs:Nat):Int)=q:=by omega
   rw [e1,e2] at this
   exact this
  have hn2:n=(k:Int) * p:=by
   have:n * q=(k:Int) * p * q:=by rw [<- he2,hd2]; grind
   exact Int.eq_of_mul_eq_mul_right (show q≠0 by omega) this
  rw [hn2,hd2,a1T hk0 _ _ (by omega),I5 (by omega)]
  have hg1:Nat.gcd p.natAbs q.natAbs=1:=hco
  rw [hg1,Nat.div_one,Nat.div_one]
  unfold G4
  have:p.natAbs<=4611686018427387903/\q.natAbs<=4611686018427387903:=by omega
  simp [this]
theorem I6 {n d:Int} (hd:d≠0):Fits ((n:Rat) / (d:Rat)) (w9 n d):=by
 by_cases h:0 < d
 ·exact X8 h
 ·have:=X8 (n := -n) (d := -d) (by omega)
  rw [b0u] at this
  have e:((-n:Int):Rat) / ((-d:Int):Rat)=(n:Rat) / (d:Rat):=by
   rw [U4 (O7 (by omega)) (O7 hd),O8]
   grind
  rw [e] at this
  exact this
theorem a4k {a b:Int×Int} (ha:b9 a=true) (hb:b9 b=true):Fits (qv a + qv b) (addF a b):=by
 have h1:=den1 ha
 have h2:=den1 hb
 have h:=I6 (n:=a.1 * b.2 + b.1 * a.2) (d:=a.2 * b.2) (Int.ne_of_gt (Int.mul_pos h1 h2))
 have c1:=A6 h1
 have c2:=A6 h2
 have e:((a.1 * b.2 + b.1 * a.2:Int):Rat) / ((a.2 * b.2:Int):Rat)=qv a + qv b:=by
  unfold qv
  rw [Rat.intCast_mul,Rat.intCast_add,Rat.intCast_mul,Rat.intCast_mul]
  grind
 rw [e] at h
 exact h
theorem b0v {a b:Int×Int} (ha:b9 a=true) (hb:b9 b=true):Fits (qv a * qv b) (mulF a b):=by
 have h1:=den1 ha
 have h2:=den1 hb
 have h:=I6 (n:=a.1 * b.1) (d:=a.2 * b.2) (Int.ne_of_gt (Int.mul_pos h1 h2))
 have c1:=A6 h1
 have c2:=A6 h2
 have e:((a.1 * b.1:Int):Rat) / ((a.2 * b.2:Int):Rat)=qv a * qv b:=by
  unfold qv
  rw [Rat.intCast_mul,Rat.intCast_mul]
  grind
 rw [e] at h
 exact h
def negF (a:Int×Int):Int×Int:=(-a.1,a.2)
theorem a5B {a:Int×Int} (ha:b9 a=true):b9 (negF a)=true/\qv (negF a) = -qv a:=by
 have h:=(t8 a).1 ha
 refine ⟨?_,?_⟩
 ·rw [t8]
  show _/\_/\_/\_/\Nat.gcd (-a.1).natAbs a.2.natAbs=1
  rw [Int.natAbs_neg]
  simp only [negF]
  omega
 ·unfold qv negF
  simp only [Rat.intCast_neg]
  grind
def subF (a b:Int×Int):(Int×Int)×Int:=addF a (negF b)
def quoF (a b:Int×Int):(Int×Int)×Int:=if b.1=0 then ((0,0),10) else mulF a (b5o b)
theorem Z4 {a b:Int×Int} (ha:b9 a=true) (hb:b9 b=true):Fits (qv a - qv b) (subF a b):=by
 have h:=a4k ha (a5B hb).1
 rw [(a5B hb).2] at h
 have e:qv a + -qv b=qv a - qv b:=by grind
 rw [e] at h
 exact h
abbrev zS:SpT:=((0,0),(0,0))
def lesF (a b:Int×Int):Int×Int:=if cmpF b a < 0 then b else a
def greF (a b:Int×Int):Int×Int:=if 0 < cmpF b a then b else a
def B6 (op:Int×Int->Int×Int->(Int×Int)×Int):SpT->List SpT->SpT×Int
 | s,[]=>(s,0)
 | s,p :: l=>if (op p.1 p.2).2≠0 then (zS,(op p.1 p.2).2) else B6 op (lesF s.1 (op p.1 p.2).1,greF s.2 (op p.1 p.2).1) l
def B4 (op:Int×Int->Int×Int->(Int×Int)×Int):List SpT->SpT×Int
 | []=>(zS,0)
 | p :: l=>if (op p.1 p.2).2≠0 then (zS,(op p.1 p.2).2) else B6 op ((op p.1 p.2).1,(op p.1 p.2).1) l
theorem a2Y {a b:Int×Int} (ha:b9 a=true) (hb:b9 b=true):b9 (lesF a b)=true:=by
 unfold lesF; split<;>assumption
theorem a2Z {a b:Int×Int} (ha:b9 a=true) (hb:b9 b=true):b9 (greF a b)=true:=by
 unfold greF; split<;>assumption
theorem a4l (a b:Int×Int) (ha:b9 a=true) (hb:b9 b=true):PC Tryz.prog 199 [fr a,fr b] (fr (lesF a b)):=by
 have c:=a2Q b a hb ha
 have h:lesF a b=if cmpF b a < 0 then b else a:=rfl
 rw [h]
 generalize cmpF b a=x at *
 refine a7 hm Tryz.func199 (by kernel_rfl) ?_
 conv=>whnf
 (repeat' first|(refine ansS (fun hh=>?_) (fun hh=>?_)<;>(try simp only [ansX] at hh)<;>first|(exfalso;first|omega|(simp [*] at hh;done)|(revert hh;decide))|exact absurd (by assumption) hh|conv=>whnf)|((first|refine kR ?_|refine aB ?_|refine aL ?_|refine aN ?_|((try (refine Or.inl ?_;conv=>whnf));(try (refine ⟨false,?_⟩;conv=>whnf));refine ⟨_,by exact c,?_⟩)|fail);conv=>whnf))
 ·rw [if_pos hh]
 ·rw [if_neg hh]
theorem a20 (a b:Int×Int) (ha:b9 a=true) (hb:b9 b=true):PC Tryz.prog 200 [fr a,fr b] (fr (greF a b)):=by
 have c:=a2Q b a hb ha
 have h:greF a b=if 0 < cmpF b a then b else a:=rfl
 rw [h]
 generalize cmpF b a=x at *
 refine a7 hm Tryz.func200 (by kernel_rfl) ?_
 conv=>whnf
 (repeat' first|(refine ansS (fun hh=>?_) (fun hh=>?_)<;>(try simp only [ansX] at hh)<;>first|(exfalso;first|omega|(simp [*] at hh;done)|(revert hh;decide))|exact absurd (by assumption) hh|conv=>whnf)|((first|refine kR ?_|refine aB ?_|refine aL ?_|refine aN ?_|((try (refine Or.inl ?_;conv=>whnf));(try (refine ⟨false,?_⟩;conv=>whnf));refine ⟨_,by exact c,?_⟩)|fail);conv=>whnf))
 ·rw [if_pos hh]
 ·rw [if_neg hh]
theorem a3M (a b:Int×Int) (ha:b9 a=true) (hb:b9 b=true):PC Tryz.prog 196 [fr a,fr b] (.tup [fr (subF a b).1,i64 (subF a b).2]):=by
 have c:=b1X b hb
 have c2:=b11 a (negF b) ha (a5B hb).1
 have hs:subF a b=addF a (negF b):=rfl
 rw [hs]
 refine a7 hm Tryz.func196 (by kernel_rfl) ?_
 conv=>whnf
 (repeat' first|(refine ansS (fun hh=>?_) (fun hh=>?_)<;>(try simp only [ansX] at hh)<;>first|(exfalso;first|omega|(simp [*] at hh;done)|(revert hh;decide))|exact absurd (by assumption) hh|conv=>whnf)|((first|refine kR ?_|refine aB ?_|refine aL ?_|refine aN ?_|((try (refine Or.inl ?_;conv=>whnf));(try (refine ⟨false,?_⟩;conv=>whnf));refine ⟨_,by first | exact c | exact c2,?_⟩)|fail);conv=>whnf))
theorem b0w {α:Type} (d:α) (l:List α) (k:Nat) (h:k < l.length):l.drop k=l.getD k d :: l.drop (k + 1):=by
 rw [List.drop_eq_getElem_cons h]; simp [List.getD,h]
theorem b3z (D:FuncId) (op:Int×Int->Int×Int->(Int×Int)×Int) (l:List SpT) (hl:l.length < 2 ^ 40) (hv:∀ p ∈ l,b9 p.1=true/\b9 p.2=true)
  (hD:∀ a b,b9 a=true->b9 b=true->PC Tryz.prog D [fr a,fr b] (.tup [fr (op a b).1,i64 (op a b).2])) (hop:∀ a b,b9 a=true->b9 b=true->(op a b).2=0->b9 (op a b).1=true) :
  PC Tryz.prog 146 [.fn (.func D) [] [],sps l] (.tup [sp (B4 op l).1,i64 (B4 op l).2]):=by
 refine a7 hm Tryz.func146 (by kernel_rfl) ?_
 conv=>whnf
 refine Or.inr ⟨Nat×SpT,[13],[6],[],fun i=>[i64 i.1],fun i=>[.cells 57 (eS i.2)],fun _=>[],fun i=>l.length - i.1,fun i=>i.1<=l.length/\(i.1=0->i.2=zS)/\(0 < i.1->b9 i.2.1=true/\b9 i.2.2=true/\B4 op l=B6 op i.2 (l.drop i.1)),?_⟩
 conv=>whnf
 refine ⟨⟨(0,zS),?_⟩,?_⟩
 ·(conv=>whnf)
  exact ⟨⟨⟨Nat.zero_le _,fun _=>rfl,fun h=>absurd h (Nat.lt_irrefl _)⟩,rfl,rfl,rfl⟩,by kernel_rfl,by kernel_rfl⟩
 ·rintro ⟨k,s⟩ ⟨h1,h2,h3⟩
  simp only [] at h1 h2 h3
  conv=>whnf
  refine ⟨fun h => ?_,fun h => ?_⟩
  ·have h:=of_decide_eq_true h
   have hk:k < l.length:=by omega
   conv=>whnf
   refine ⟨⟨by omega,by omega⟩,?_⟩
   have hg:l.getD (Int.toNat (k:Int)) zS=l.getD k zS:=rfl
   have hvk:=hv (l.getD k zS) (by simp [List.getD,hk])
   have hdr:=b0w zS l k hk
   rw [hg]
   have hl0:k=0->l=l.getD k zS :: l.drop (k + 1):=fun e=>by rw [<- hdr,e,List.drop_zero]
   generalize l.getD k zS=p at *
   obtain ⟨⟨n,d⟩,⟨m,e⟩⟩:=p
   have c:=hD (n,d) (m,e) hvk.1 hvk.2
   have cv:=hop (n,d) (m,e) hvk.1 hvk.2
   have hG:∀ s,B6 op s (((n,d),(m,e)) :: l.drop (k + 1))=if (op (n,d) (m,e)).2≠0 then (zS,(op (n,d) (m,e)).2) else B6 op (lesF s.1 (op (n,d) (m,e)).1,greF s.2 (op (n,d) (m,e)).1) (l.drop (k + 1)):=fun s=>rfl
   have hF:B4 op (((n,d),(m,e)) :: l.drop (k + 1))=if (op (n,d) (m,e)).2≠0 then (zS,(op (n,d) (m,e)).2) else B6 op ((op (n,d) (m,e)).1,(op (n,d) (m,e)).1) (l.drop (k + 1)):=rfl
   generalize op (n,d) (m,e)=r at *
   obtain ⟨x,er⟩:=r
   simp only [] at c cv hG hF
   conv=>whnf
   (repeat' first|(refine ansS (fun hh=>?_) (fun hh=>?_)<;>(try simp only [ansX] at hh)<;>first|(exfalso;first|omega|(simp [*] at hh;done)|(revert hh;decide))|exact absurd (by assumption) hh|conv=>whnf)|((first|refine kR ?_|refine aB ?_|refine aL ?_|refine aN ?_|((try (refine Or.inl ?_;conv=>whnf));(try (refine ⟨false,?_⟩;conv=>whnf));refine ⟨_,by exact c,?_⟩)|fail);conv=>whnf))
   ·have e:B4 op l=(zS,er):=by
     by_cases h0:k=0
     ·rw [hl0 h0,hF,if_pos hh]
     ·rw [(h3 (by omega)).2.2,hdr,hG,if_pos hh]
    rw [e]
   ·have h0:k=0:=by omega
    rename_i he
    refine ⟨(k + 1,(x,x)),?_⟩
    conv=>whnf
    refine ⟨⟨⟨Nat.sub_lt_sub_left (by omega) (Nat.lt_succ_self k),⟨by omega,fun h=>absurd h (by omega),fun _=>⟨cv he,cv he,?_⟩⟩⟩,?_,rfl,rfl⟩,by kernel_rfl,by kernel_rfl⟩
    ·show B4 op l=B6 op (x,x) (l.drop (k + 1))
     rw [hl0 h0,hF,if_neg (by omega)]
     rw [<- hl0 h0]
    ·rw [w64 _ (by omega) (by omega)]; rfl
   ·have h0:0 < k:=by omega
    rename_i he
    obtain ⟨v1,v2,v3⟩:=h3 h0
    obtain ⟨⟨s1,s2⟩,⟨s3,s4⟩⟩:=s
    have cl:=a4l (s1,s2) x v1 (cv he)
    have cg:=a20 (s3,s4) x v2 (cv he)
    (repeat' first|(refine ansS (fun hh=>?_) (fun hh=>?_)<;>(try simp only [ansX] at hh)<;>first|(exfalso;first|omega|(simp [*] at hh;done)|(revert hh;decide))|exact absurd (by assumption) hh|conv=>whnf)|((first|refine kR ?_|refine aB ?_|refine aL ?_|refine aN ?_|((try (refine Or.inl ?_;conv=>whnf));(try (refine ⟨false,?_⟩;conv=>whnf));refine ⟨_,by first | exact cl | exact cg,?_⟩)|fail);conv=>whnf))
    refine ⟨(k + 1,(lesF (s1,s2) x,greF (s3,s4) x)),?_⟩
    conv=>whnf
    refine ⟨⟨⟨Nat.sub_lt_sub_left (by omega) (Nat.lt_succ_self k),⟨by omega,fun h=>absurd h (by omega),fun _=>⟨a2Y v1 (cv he),a2Z v2 (cv he),?_⟩⟩⟩,?_,rfl,rfl⟩,by kernel_rfl,by kernel_rfl⟩
    ·show B4 op l=B6 op (lesF (s1,s2) x,greF (s3,s4) x) (l.drop (k + 1))
     rw [v3,hdr,hG,if_neg (by omega)]
    ·rw [w64 _ (by omega) (by omega)]; rfl
  ·have h:=of_decide_eq_false h
   have hk:k=l.length:=by omega
   conv=>whnf
   by_cases h0:k=0
   ·have:l=[]:=List.eq_nil_of_length_eq_zero (by omega)
    subst this
    rw [h2 h0]
    rfl
   ·rw [(h3 (by omega)).2.2,hk,List.drop_length]
    rfl
theorem a6Y (D:FuncId) (op:Int×Int->Int×Int->(Int×Int)×Int) (l:List SpT) (hl:l.length < 2 ^ 40) (hv:∀ p ∈ l,b9 p.1=true/\b9 p.2=true)
  (hD:∀ a b,b9 a=true->b9 b=true->PC Tryz.prog D [fr a,fr b] (.tup [fr (op a b).1,i64 (op a b).2])) (hop:∀ a b,b9 a=true->b9 b=true->(op a b).2=0->b9 (op a b).1=true) :
  PC Tryz.prog 146 [.fn (.func D) [] [],.slc 4 (l.map eS)] (.tup [sp (B4 op l).1,i64 (B4 op l).2]) :=
 PC.last (args:=[.fn (.func D) [] []]) (b3z D op l hl hv hD hop) (.slc 4 zS eS l)
def hasB (s:SpT) (x:Int×Int):Bool:=decide (cmpF s.1 x<=0) && decide (cmpF x s.2<=0)
theorem L9 {s:SpT}:k7 s=true↔b9 s.1=true/\b9 s.2=true/\cmpF s.1 s.2<=0:=by
 simp [k7,and_assoc]
theorem b12:∀ a b,b9 a=true->b9 b=true->(subF a b).2=0->b9 (subF a b).1=true:=fun a b ha hb h=>((Z4 ha hb).ok h).1
theorem a6Z:∀ a b,b9 a=true->b9 b=true->(mulF a b).2=0->b9 (mulF a b).1=true:=fun a b ha hb h=>((b0v ha hb).ok h).1
def allP (a b:SpT):List SpT:=[(a.1,b.1),(a.1,b.2),(a.2,b.1),(a.2,b.2)]
def addS (a b:SpT):SpT×Int:=if k7 a && k7 b then B4 addF [(a.1,b.1),(a.2,b.2)] else (zS,8)
def subS (a b:SpT):SpT×Int:=if k7 a && k7 b then B4 subF [(a.1,b.2),(a.2,b.1)] else (zS,8)
def mulS (a b:SpT):SpT×Int:=if k7 a && k7 b then B4 mulF (allP a b) else (zS,8)
def divS (a b:SpT):SpT×Int:=if k7 a && k7 b then (if hasB b (0,1) then (zS,10) else B4 quoF (allP a b)) else (zS,8)
theorem a21 {a b:SpT} (ha:k7 a=true) (hb:k7 b=true):∀ p ∈ allP a b,b9 p.1=true/\b9 p.2=true:=by
 rw [L9] at ha hb
 intro p hp
 simp only [allP,List.mem_cons,List.not_mem_nil,or_false] at hp
 rcases hp with rfl | rfl | rfl | rfl<;>simp [ha,hb]
theorem b4K (a b:SpT):PC Tryz.prog 148 [sp a,sp b] (.slc 4 ((allP a b).map eS)):=by
 refine a7 hm Tryz.func148 (by kernel_rfl) ?_
 conv=>whnf
 (repeat' first|(refine ansS (fun hh=>?_) (fun hh=>?_)<;>(try simp only [ansX] at hh)<;>first|(exfalso;first|omega|(simp [*] at hh;done)|(revert hh;decide))|exact absurd (by assumption) hh|conv=>whnf)|((first|refine kR ?_|refine aB ?_|refine aL ?_|refine aN ?_|fail);conv=>whnf))
 rfl
theorem a60 (a b:SpT):PC Tryz.prog 144 [sp a,sp b] (.tup [sp (subS a b).1,i64 (subS a b).2]):=by
 have c1:=a1n a b
 have hs:subS a b=if k7 a && k7 b then B4 subF [(a.1,b.2),(a.2,b.1)] else (zS,8):=rfl
 rw [hs]
 cases ha:k7 a
 ·rw [ha] at c1
  refine a7 hm Tryz.func144 (by kernel_rfl) ?_
  conv=>whnf
  (repeat' first|(refine ansS (fun hh=>?_) (fun hh=>?_)<;>(try simp only [ansX] at hh)<;>first|(exfalso;first|omega|(simp [*] at hh;done)|(revert hh;decide))|exact absurd (by assumption) hh|conv=>whnf)|((first|refine kR ?_|refine aB ?_|refine aL ?_|refine aN ?_|((try (refine Or.inl ?_;conv=>whnf));(try (refine ⟨false,?_⟩;conv=>whnf));refine ⟨_,by exact c1,?_⟩)|fail);conv=>whnf))
  all_goals simp
 cases hb:k7 b
 ·rw [ha,hb] at c1
  refine a7 hm Tryz.func144 (by kernel_rfl) ?_
  conv=>whnf
  (repeat' first|(refine ansS (fun hh=>?_) (fun hh=>?_)<;>(try simp only [ansX] at hh)<;>first|(exfalso;first|omega|(simp [*] at hh;done)|(revert hh;decide))|exact absurd (by assumption) hh|conv=>whnf)|((first|refine kR ?_|refine aB ?_|refine aL ?_|refine aN ?_|((try (refine Or.inl ?_;conv=>whnf));(try (refine ⟨false,?_⟩;conv=>whnf));refine ⟨_,by exact c1,?_⟩)|fail);conv=>whnf))
  all_goals simp
 rw [ha,hb] at c1
 have va:=L9.1 ha
 have vb:=L9.1 hb
 have c2:=a6Y 196 subF [(a.1,b.2),(a.2,b.1)] (by simp) (by simp [va,vb]) a3M b12
 generalize B4 subF [(a.1,b.2),(a.2,b.1)]=r at *
 refine a7 hm Tryz.func144 (by kernel_rfl) ?_
 conv=>whnf
 (repeat' first|(refine ansS (fun hh=>?_) (fun hh=>?_)<;>(try simp only [ansX] at hh)<;>first|(exfalso;first|omega|(simp [*] at hh;done)|(revert hh;decide))|exact absurd (by assumption) hh|conv=>whnf)|((first|refine kR ?_|refine aB ?_|refine aL ?_|refine aN ?_|((try (refine Or.inl ?_;conv=>whnf));(try (refine ⟨false,?_⟩;conv=>whnf));refine ⟨_,by first | exact c1 | exact c2,?_⟩)|fail);conv=>whnf))
 all_goals simp
theorem a61 (a b:SpT):PC Tryz.prog 93 [sp a,sp b] (.tup [sp (mulS a b).1,i64 (mulS a b).2]):=by
 have c1:=a1n a b
 have hs:mulS a b=if k7 a && k7 b then B4 mulF (allP a b) else (zS,8):=rfl
 rw [hs]
 cases ha:k7 a
 ·rw [ha] at c1
  refine a7 hm Tryz.func93 (by kernel_rfl) ?_
  conv=>whnf
  (repeat' first|(refine ansS (fun hh=>?_) (fun hh=>?_)<;>(try simp only [ansX] at hh)<;>first|(exfalso;first|omega|(simp [*] at hh;done)|(revert hh;decide))|exact absurd (by assumption) hh|conv=>whnf)|((first|refine kR ?_|refine aB ?_|refine aL ?_|refine aN ?_|((try (refine Or.inl ?_;conv=>whnf));(try (refine ⟨false,?_⟩;conv=>whnf));refine ⟨_,by exact c1,?_⟩)|fail);conv=>whnf))
  all_goals simp
 cases hb:k7 b
 ·rw [ha,hb] at c1
  refine a7 hm Tryz.func93 (by kernel_rfl) ?_
  conv=>whnf
  (repeat' first|(refine ansS (fun hh=>?_) (fun hh=>?_)<;>(try simp only [ansX] at hh)<;>first|(exfalso;first|omega|(simp [*] at hh;done)|(revert hh;decide))|exact absurd (by assumption) hh|conv=>whnf)|((first|refine kR ?_|refine aB ?_|refine aL ?_|refine aN ?_|((try (refine Or.inl ?_;conv=>whnf));(try (refine ⟨false,?_⟩;conv=>whnf));refine ⟨_,by exact c1,?_⟩)|fail);conv=>whnf))
  all_goals simp
 rw [ha,hb] at c1
 have c3:=b4K a b
 have c2:=a6Y 147 mulF (allP a b) (by simp [allP]) (a21 ha hb) b1Y a6Z
 generalize B4 mulF (allP a b)=r at *
 refine a7 hm Tryz.func93 (by kernel_rfl) ?_
 conv=>whnf
 (repeat' first|(refine ansS (fun hh=>?_) (fun hh=>?_)<;>(try simp only [ansX] at hh)<;>first|(exfalso;first|omega|(simp [*] at hh;done)|(revert hh;decide))|exact absurd (by assumption) hh|conv=>whnf)|((first|refine kR ?_|refine aB ?_|refine aL ?_|refine aN ?_|((try (refine Or.inl ?_;conv=>whnf));(try (refine ⟨false,?_⟩;conv=>whnf));refine ⟨_,by first | exact c1 | exact c3 | exact c2,?_⟩)|fail);conv=>whnf))
 all_goals simp
theorem b3A {a b:Int×Int} (ha:b9 a=true) (hb:b9 b=true):qv (lesF a b)<=qv a/\qv (lesF a b)<=qv b/\(lesF a b=a∨lesF a b=b):=by
 unfold lesF
 rcases F9 hb ha with ⟨h,e⟩ | ⟨h,_,e⟩ | ⟨h,e⟩<;>rw [e]<;>simp<;>grind
theorem b3B {a b:Int×Int} (ha:b9 a=true) (hb:b9 b=true):qv a<=qv (greF a b)/\qv b<=qv (greF a b)/\(greF a b=a∨greF a b=b):=by
 unfold greF
 rcases F9 hb ha with ⟨h,e⟩ | ⟨h,_,e⟩ | ⟨h,e⟩<;>rw [e]<;>simp<;>grind
theorem b3C {a b:Int×Int} (ha:b9 a=true) (hb:b9 b=true):lesF a b=if cmpF a b<=0 then a else b:=by
 unfold lesF
 rcases F9 ha hb with ⟨h,e⟩ | ⟨_,h,e⟩ | ⟨h,e⟩<;>rcases F9 hb ha with ⟨k,f⟩ | ⟨_,k,f⟩ | ⟨k,f⟩<;>rw [e,f]<;>simp<;>grind
theorem b13 {op:Int×Int->Int×Int->(Int×Int)×Int} {p q:SpT} {x y:Rat} (hp:Fits x (op p.1 p.2)) (hq:Fits y (op q.1 q.2)) (h:x<=y) :
  B4 op [p,q]=if (op p.1 p.2).2=0/\(op q.1 q.2).2=0 then (((op p.1 p.2).1,(op q.1 q.2).1),0) else (zS,4):=by
 simp only [B4,B6]
 by_cases h1:(op p.1 p.2).2=0
 ·by_cases h2:(op q.1 q.2).2=0
  ·obtain ⟨v1,e1⟩:=hp.ok h1
   obtain ⟨v2,e2⟩:=hq.ok h2
   have hle:=(a5A v1 v2).2 (by rw [e1,e2]; exact h)
   rw [b3C v1 v2,if_pos hle]
   have hg:greF (op p.1 p.2).1 (op q.1 q.2).1=(op q.1 q.2).1:=by
    unfold greF
    rcases F9 v1 v2 with ⟨h,e⟩ | ⟨_,h,e⟩ | ⟨h,e⟩
    ·rw [if_pos ((b3y v2 v1).2 h)]
    ·rw [h]; split<;>rfl
    ·omega
   rw [hg]
   simp [h1,h2]
  ·have:=hq.bad h2
   simp [h1,h2,this]
 ·have:=hp.bad h1
  simp [h1,this]
theorem N3 {s:SpT}:k7 s=true↔b9 s.1=true/\b9 s.2=true/\qv s.1<=qv s.2:=by
 rw [L9]
 constructor
 ·rintro ⟨a,b,c⟩; exact ⟨a,b,(a5A a b).1 c⟩
 ·rintro ⟨a,b,c⟩; exact ⟨a,b,(a5A a b).2 c⟩
theorem a62 {op:Int×Int->Int×Int->(Int×Int)×Int} (hop:∀ a b,b9 a=true->b9 b=true->(op a b).2=0->b9 (op a b).1=true) :
  ∀ (l:List SpT) (s:SpT),(∀ p ∈ l,b9 p.1=true/\b9 p.2=true)->k7 s=true->(B6 op s l).2=0 ->
   k7 (B6 op s l).1=true/\qv (B6 op s l).1.1<=qv s.1/\qv s.2<=qv (B6 op s l).1.2 /\
   (∀ p ∈ l,(op p.1 p.2).2=0/\qv (B6 op s l).1.1<=qv (op p.1 p.2).1/\qv (op p.1 p.2).1<=qv (B6 op s l).1.2) /\
   ((B6 op s l).1.1=s.1∨∃ p ∈ l,(B6 op s l).1.1=(op p.1 p.2).1)/\((B6 op s l).1.2=s.2∨∃ p ∈ l,(B6 op s l).1.2=(op p.1 p.2).1)
 | [],s,_,hs,_=>⟨hs,by simp only [B6]; exact Rat.le_refl,by simp only [B6]; exact Rat.le_refl,by simp,.inl rfl,.inl rfl⟩
 | p :: l,s,hl,hs,h=>by
  have hp:=hl p (by simp)
  by_cases h0:(op p.1 p.2).2=0
  ·have hv:=hop _ _ hp.1 hp.2 h0
   have e:B6 op s (p :: l)=B6 op (lesF s.1 (op p.1 p.2).1,greF s.2 (op p.1 p.2).1) l:=by simp [B6,h0]
   rw [e] at h ⊢
   obtain ⟨s1,s2,s3⟩:=N3.1 hs
   obtain ⟨l1,l2,l3⟩:=b3A s1 hv
   obtain ⟨g1,g2,g3⟩:=b3B s2 hv
   have hs':k7 (lesF s.1 (op p.1 p.2).1,greF s.2 (op p.1 p.2).1)=true:=N3.2 ⟨a2Y s1 hv,a2Z s2 hv,by simp only []; grind⟩
   obtain ⟨i1,i2,i3,i4,i5,i6⟩:=a62 hop l _ (fun q hq=>hl q (by simp [hq])) hs' h
   simp only [] at i2 i3 i5 i6
   generalize B6 op (lesF s.1 (op p.1 p.2).1,greF s.2 (op p.1 p.2).1) l=r at *
   refine ⟨i1,by grind,by grind,?_,?_,?_⟩
   ·intro q hq
    rcases List.mem_cons.1 hq with rfl | hq
    ·exact ⟨h0,by grind,by grind⟩
    ·exact i4 q hq
   ·rcases i5 with i5 | ⟨q,hq,i5⟩
    ·rcases l3 with l3 | l3
     ·left; rw [i5,l3]
     ·right; exact ⟨p,by simp,by rw [i5,l3]⟩
    ·right; exact ⟨q,by simp [hq],i5⟩
   ·rcases i6 with i6 | ⟨q,hq,i6⟩
    ·rcases g3 with g3 | g3
     ·left; rw [i6,g3]
     ·right; exact ⟨p,by simp,by rw [i6,g3]⟩
    ·right; exact ⟨q,by simp [hq],i6⟩
  ·exfalso
   simp [B6,h0] at h
theorem b14 {op:Int×Int->Int×Int->(Int×Int)×Int} (hop:∀ a b,b9 a=true->b9 b=true->(op a b).2=0->b9 (op a b).1=true)
  (l:List SpT) (hl:∀ p ∈ l,b9 p.1=true/\b9 p.2=true) (hne:l≠[]) (h:(B4 op l).2=0) :
   k7 (B4 op l).1=true /\
   (∀ p ∈ l,(op p.1 p.2).2=0/\qv (B4 op l).1.1<=qv (op p.1 p.2).1/\qv (op p.1 p.2).1<=qv (B4 op l).1.2) /\
   (∃ p ∈ l,(B4 op l).1.1=(op p.1 p.2).1)/\(∃ p ∈ l,(B4 op l).1.2=(op p.1 p.2).1):=by
 match l,hne,hl,h with
 | p :: l,_,hl,h =>
  have hp:=hl p (by simp)
  by_cases h0:(op p.1 p.2).2=0
  ·have hv:=hop _ _ hp.1 hp.2 h0
   have e:B4 op (p :: l)=B6 op ((op p.1 p.2).1,(op p.1 p.2).1) l:=by simp [B4,h0]
   rw [e] at h ⊢
   obtain ⟨i1,i2,i3,i4,i5,i6⟩:=a62 hop l ((op p.1 p.2).1,(op p.1 p.2).1) (fun q hq=>hl q (by simp [hq])) (N3.2 ⟨hv,hv,Rat.le_refl⟩) h
   simp only [] at i2 i3 i5 i6
   refine ⟨i1,?_,?_,?_⟩
   ·intro q hq
    rcases List.mem_cons.1 hq with rfl | hq
    ·exact ⟨h0,i2,i3⟩
    ·exact i4 q hq
   ·rcases i5 with i5 | ⟨q,hq,i5⟩
    ·exact ⟨p,by simp,i5⟩
    ·exact ⟨q,by simp [hq],i5⟩
   ·rcases i6 with i6 | ⟨q,hq,i6⟩
    ·exact ⟨p,by simp,i6⟩
    ·exact ⟨q,by simp [hq],i6⟩
  ·exfalso
   simp [B4,h0] at h
abbrev CamT:Type:=SpT×SpT
abbrev cam (c:CamT):AV := .agg [i64 c.1.1.1,i64 c.1.1.2,i64 c.1.2.1,i64 c.1.2.2,i64 c.2.1.1,i64 c.2.1.2,i64 c.2.2.1,i64 c.2.2.2]
abbrev eC (c:CamT):List AV:=[i64 c.1.1.1,i64 c.1.1.2,i64 c.1.2.1,i64 c.1.2.2,i64 c.2.1.1,i64 c.2.1.2,i64 c.2.2.1,i64 c.2.2.2]
def tanF (c:CamT) (u:SpT):SpT×Int :=
 if k7 c.1 && k7 c.2 && decide (0 < c.1.1.1) then (if (subS u c.2).2=0 then divS (subS u c.2).1 c.1 else (zS,(subS u c.2).2)) else (zS,8)
def depG (base:Int) (d:SpT×Int):SpT×Int:=if d.2=0 then (if d.1.1.1<=0 then (zS,6) else divS ((base,1),(base,1)) d.1) else (zS,d.2)
def depF (a b:CamT) (base:Int) (u v:SpT):SpT×Int :=
 if 1<=base/\base<=1000 then
  (if (tanF a u).2=0 then (if (tanF b v).2=0 then depG base (subS (tanF a u).1 (tanF b v).1) else (zS,(tanF b v).2)) else (zS,(tanF a u).2))
 else (zS,2)

end Go.Proofs.Tryz.My
