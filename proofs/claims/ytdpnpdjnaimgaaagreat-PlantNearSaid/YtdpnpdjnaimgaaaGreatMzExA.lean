/- A helper text: contracts of functions of the program, and plain lemmas. -/
import Derived.Test.YtdpnpdjnaimgaaaGreatEvSix
import Derived.Test.YtdpnpdjnaimgaaaGreatChecked
set_option maxRecDepth 100000
set_option maxHeartbeats 0
set_option linter.unusedVariables false
set_option linter.unusedSimpArgs false
namespace Go.Proofs.Tryz.My
open Go Go.Ev
theorem hmE:Tryz.prog.follows .mixedOrders=true:=by kernel_rfl
theorem hm:Tryz.prog.follows .mixedOrders=true:=hmE
theorem w8 (n:Int) (h:I64 n):PC Tryz.prog 202 [i64 n] (u64 n.natAbs):=by
 unfold I64 at h
 refine a7 hm Tryz.func202 (by kernel_rfl) ?_
 conv=>whnf
 refine ⟨fun h => ?_,fun h => ?_⟩
 ·have h:=of_decide_eq_true h
  conv=>whnf
  congr 1
  rw [a0V,a0V]; omega
 ·have h:=of_decide_eq_false h
  conv=>whnf
  congr 1
  rw [a0V]; omega
theorem a1m (a b:Nat) (ha:a < 18446744073709551616) (hb:b < 18446744073709551616):PC Tryz.prog 201 [u64 a,u64 b] (u64 (Nat.gcd a b)):=by
 refine a7 hm Tryz.func201 (by kernel_rfl) ?_
 conv=>whnf
 refine Or.inr ⟨Nat×Nat,[0,1],[],[],fun i=>[u64 i.1,u64 i.2],fun _=>[],fun _=>[],fun i=>i.2,fun i=>Nat.gcd i.1 i.2=Nat.gcd a b/\i.1 < 18446744073709551616/\i.2 < 18446744073709551616,?_⟩
 conv=>whnf
 refine ⟨⟨(a,b),?_⟩,?_⟩
 ·(conv=>whnf)
  exact ⟨⟨⟨rfl,ha,hb⟩,rfl,rfl,rfl⟩,by kernel_rfl,by kernel_rfl⟩
 ·rintro ⟨x,y⟩ ⟨h1,h2,h3⟩
  conv=>whnf
  refine ⟨fun h => ?_,fun h => ?_⟩
  ·have h:y≠0:=by
    have h:¬ ((y:Int)=0):=by simpa using h
    omega
   conv=>whnf
   refine ⟨by kernel_rfl,?_⟩
   conv=>whnf
   refine ⟨by show (y:Int)≠0; omega,?_⟩
   conv=>whnf
   refine ⟨by kernel_rfl,?_⟩
   conv=>whnf
   refine ⟨(y,x % y),?_⟩
   conv=>whnf
   refine ⟨⟨⟨Nat.mod_lt _ (by omega),?_,h3,?_⟩,?_,rfl,rfl⟩,by kernel_rfl,by kernel_rfl⟩
   ·show Nat.gcd y (x % y)=_
    rw [<- h1,Nat.gcd_comm x y,Nat.gcd_rec y x,Nat.gcd_comm]
   ·exact Nat.lt_of_le_of_lt (Nat.mod_le x y) h2
   ·show [AV.int .u64 (y:Int),AV.int .u64 ((x:Int).tmod (y:Int))]=[u64 y,u64 (x % y)]
    rw [b1y]
  ·have h:y=0:=by
    have h:((y:Int)=0):=by simpa using h
    omega
   conv=>whnf
   subst h
   congr 1
   rw [<- h1]; simp
theorem a2P (x y:Nat):x < y↔(x / 18446744073709551616 < y / 18446744073709551616∨(x / 18446744073709551616=y / 18446744073709551616/\x % 18446744073709551616 < y % 18446744073709551616)):=by omega
theorem a5u (x y:Nat) (hx:x < 340282366920938463463374607431768211456) (hy:y < 340282366920938463463374607431768211456):PC Tryz.prog 252 [pr x,pr y] (.bool (decide (x < y))):=by
 refine a7 hm Tryz.func252 (by kernel_rfl) ?_
 conv=>whnf
 (repeat' first|(refine ansS (fun hh=>?_) (fun hh=>?_)<;>(try simp only [ansX] at hh)<;>first|(exfalso;first|omega|(simp [*] at hh;done)|(revert hh;decide))|exact absurd (by assumption) hh|conv=>whnf)|((first|refine kR ?_|refine aB ?_|refine aL ?_|refine aN ?_|fail);conv=>whnf))
 all_goals
  congr 1
  refine Eq.symm ?_
  first
   | (refine decide_eq_true ?_; rw [a2P]; omega)
   | (refine decide_eq_false ?_; rw [a2P]; omega)
   | (refine decide_eq_decide.2 ?_; rw [a2P]; omega)
theorem a0X (x y:Nat) (hx:x < 18446744073709551616) (hy:y < 18446744073709551616):PC Tryz.prog 253 [u64 x,u64 y] (.tup [u64 (x * y / 18446744073709551616),u64 (x * y % 18446744073709551616)]):=by
 refine a7 hm Tryz.func253 (by kernel_rfl) ?_
 conv=>whnf
 obtain ⟨m1,m2,m3,m4⟩:=Go.Lib.mul64_hi x y hx hy
 have e1:x / 4294967296 * (y % 4294967296) % 18446744073709551616=x / 4294967296 * (y % 4294967296):=Nat.mod_eq_of_lt (by omega)
 have e2:x % 4294967296 * (y / 4294967296) % 18446744073709551616=x % 4294967296 * (y / 4294967296):=Nat.mod_eq_of_lt (by omega)
 have hlt:x * y / 18446744073709551616 < 18446744073709551616:=by
  have:x * y<=18446744073709551615 * 18446744073709551615:=Nat.mul_le_mul (by omega) (by omega)
  omega
 rw [<- m4] at hlt
 have e3:x / 4294967296 * (y / 4294967296) % 18446744073709551616=x / 4294967296 * (y / 4294967296):=Nat.mod_eq_of_lt (by omega)
 have e4:(x / 4294967296 * (y / 4294967296) + (x / 4294967296 * (y % 4294967296) + x % 4294967296 * (y % 4294967296) / 4294967296) / 4294967296) % 18446744073709551616=x / 4294967296 * (y / 4294967296) + (x / 4294967296 * (y % 4294967296) + x % 4294967296 * (y % 4294967296) / 4294967296) / 4294967296:=Nat.mod_eq_of_lt (by omega)
 simp only [a2c,X2 _ hx,X2 _ hy,a2D,a2E,Nat.mod_eq_of_lt m1,e1,Nat.mod_eq_of_lt m2,X2 _ m2,e2,Nat.mod_eq_of_lt m3,e3,e4,Nat.mod_eq_of_lt hlt]
 rw [m4]
theorem F8 (x y:Nat) (hx:x < 18446744073709551616) (hy:y < 18446744073709551616):PC Tryz.prog 204 [u64 x,u64 y] (pr (x * y)):=by
 refine a7 hm Tryz.func204 (by kernel_rfl) ?_
 conv=>whnf
 (first | (refine Or.inl ?_; (conv=>whnf); refine ⟨_,a0X x y hx hy,?_⟩) | refine ⟨_,a0X x y hx hy,?_⟩)
 conv=>whnf
def G4 (neg:Bool) (N D:Nat):(Int×Int)×Int:=if N<=4611686018427387903/\D<=4611686018427387903 then ((if neg then -(N:Int) else N,D),0) else ((0,0),4)
theorem a5v (neg:Bool) (N D:Nat) (hN:N < 340282366920938463463374607431768211456) (hD:D < 340282366920938463463374607431768211456):PC Tryz.prog 203 [.bool neg,pr N,pr D] (.tup [fr (G4 neg N D).1,i64 (G4 neg N D).2]):=by
 refine a7 hm Tryz.func203 (by kernel_rfl) ?_
 conv=>whnf
 have bad:¬ (N<=4611686018427387903/\D<=4611686018427387903)->G4 neg N D=((0,0),4):=fun h=>by simp [G4,h]
 (repeat' first|(refine ansS (fun hh=>?_) (fun hh=>?_)<;>(try simp only [ansX] at hh)<;>first|(exfalso;first|omega|(simp [*] at hh;done)|(revert hh;decide))|exact absurd (by assumption) hh|conv=>whnf)|((first|refine kR ?_|refine aB ?_|refine aL ?_|refine aN ?_|fail);conv=>whnf))
 ·rw [bad (by omega)]
 ·rw [bad (by omega)]
 ·rw [bad (by omega)]
 ·rw [bad (by omega)]
 ·have h1:N<=4611686018427387903/\D<=4611686018427387903:=by omega
  have e1:N % 18446744073709551616=N:=by omega
  have e2:D % 18446744073709551616=D:=by omega
  rw [e1,e2,wi (N:Int) (by omega) (by omega),wi (D:Int) (by omega) (by omega),wi _ (by omega) (by omega)]
  subst hh
  simp [G4,h1]
 ·have h1:N<=4611686018427387903/\D<=4611686018427387903:=by omega
  have e1:N % 18446744073709551616=N:=by omega
  have e2:D % 18446744073709551616=D:=by omega
  rw [e1,e2,wi (N:Int) (by omega) (by omega),wi (D:Int) (by omega) (by omega)]
  subst hh
  simp [G4,h1]
theorem a6M (n:Nat) (h:n < 18446744073709551616):pr n = .agg [.int .u64 0,u64 n]:=by
 have e1:n / 18446744073709551616=0:=by omega
 have e2:n % 18446744073709551616=n:=by omega
 show AV.agg [u64 (n / 18446744073709551616),u64 (n % 18446744073709551616)]=_
 rw [e1,e2]; rfl
def w9 (num den:Int):(Int×Int)×Int:=if den=0 then ((0,0),10) else G4 (decide (num < 0) != decide (den < 0)) (num.natAbs / Nat.gcd num.natAbs den.natAbs) (den.natAbs / Nat.gcd num.natAbs den.natAbs)
theorem b1L {n:Int} (h:I64 n):n.natAbs < 18446744073709551616:=by unfold I64 at h; omega
theorem b0n {a b:Nat} (h:b≠0):Nat.gcd a b≠0:=fun e=>h (Nat.eq_zero_of_gcd_eq_zero_right e)
theorem b3p (num den:Int) (h1:I64 num) (h2:I64 den):PC Tryz.prog 287 [i64 num,i64 den] (.tup [fr (w9 num den).1,i64 (w9 num den).2]):=by
 have l1:=b1L h1
 have l2:=b1L h2
 by_cases hd:den=0
 ·subst hd
  refine a7 hm Tryz.func287 (by kernel_rfl) ?_
  conv=>whnf
  (repeat' first|(refine ansS (fun hh=>?_) (fun hh=>?_)<;>(try simp only [ansX] at hh)<;>first|(exfalso;first|omega|(simp [*] at hh;done)|(revert hh;decide))|exact absurd (by assumption) hh|conv=>whnf)|((first|refine kR ?_|refine aB ?_|refine aL ?_|refine aN ?_|fail);conv=>whnf))
  all_goals simp [w9]
 ·have hg:Nat.gcd num.natAbs den.natAbs≠0:=b0n (by omega)
  have hmk:w9 num den=G4 (decide (num < 0) != decide (den < 0)) (num.natAbs / Nat.gcd num.natAbs den.natAbs) (den.natAbs / Nat.gcd num.natAbs den.natAbs):=by simp [w9,hd]
  have c3:=a1m num.natAbs den.natAbs l1 l2
  generalize Nat.gcd num.natAbs den.natAbs=g at *
  have q1:num.natAbs / g < 18446744073709551616:=Nat.lt_of_le_of_lt (Nat.div_le_self _ _) l1
  have q2:den.natAbs / g < 18446744073709551616:=Nat.lt_of_le_of_lt (Nat.div_le_self _ _) l2
  have c4:=a5v (decide (num < 0) != decide (den < 0)) (num.natAbs / g) (den.natAbs / g) (by omega) (by omega)
  rw [a6M _ q1,a6M _ q2,<- hmk] at c4
  refine a7 hm Tryz.func287 (by kernel_rfl) ?_
  conv=>whnf
  (repeat' first|(refine ansS (fun hh=>?_) (fun hh=>?_)<;>(try simp only [ansX] at hh)<;>first|(exfalso;first|omega|(simp [*] at hh;done)|(revert hh;decide))|exact absurd (by assumption) hh|conv=>whnf)|((first|refine kR ?_|refine aB ?_|refine aL ?_|refine aN ?_|((try (refine Or.inl ?_;conv=>whnf));(try (refine ⟨false,?_⟩;conv=>whnf));refine ⟨_,by first | exact w8 num h1 | exact w8 den h2 | exact c3,?_⟩)|fail);conv=>whnf))
  rw [V4 _ _ l1,V4 _ _ l2]
  (repeat' first|(refine ansS (fun hh=>?_) (fun hh=>?_)<;>(try simp only [ansX] at hh)<;>first|(exfalso;first|omega|(simp [*] at hh;done)|(revert hh;decide))|exact absurd (by assumption) hh|conv=>whnf)|((first|refine kR ?_|refine aB ?_|refine aL ?_|refine aN ?_|((try (refine Or.inl ?_;conv=>whnf));(try (refine ⟨false,?_⟩;conv=>whnf));refine ⟨_,by exact c4,?_⟩)|fail);conv=>whnf))
  all_goals set_option pp.maxSteps 300 in trace_state
def outB (lo hi n:Int):Bool:=decide (n < lo) || decide (hi < n)
def n8 (n lo hi:Int):Bool:=decide (lo<=n) && decide (n<=hi)
abbrev frs (l:List (Int×Int)):AV := .sl 2 ((0:Int),(0:Int)) eF l
def b9 (x:Int×Int):Bool:=decide (1<=x.2) && decide (x.2<=4611686018427387903) && decide (-4611686018427387903<=x.1) && decide (x.1<=4611686018427387903) && decide (Nat.gcd x.1.natAbs x.2.natAbs=1)
theorem t8 (x:Int×Int):b9 x=true↔1<=x.2/\x.2<=4611686018427387903 /\ -4611686018427387903<=x.1/\x.1<=4611686018427387903/\Nat.gcd x.1.natAbs x.2.natAbs=1:=by
 simp only [b9,Bool.and_eq_true,decide_eq_true_eq]
 exact ⟨fun ⟨⟨⟨⟨a,b⟩,c⟩,d⟩,e⟩=>⟨a,b,c,d,e⟩,fun ⟨a,b,c,d,e⟩=>⟨⟨⟨⟨a,b⟩,c⟩,d⟩,e⟩⟩
theorem a5w (x:Int×Int):b9 x=false↔¬ (1<=x.2/\x.2<=4611686018427387903 /\ -4611686018427387903<=x.1/\x.1<=4611686018427387903/\Nat.gcd x.1.natAbs x.2.natAbs=1):=by
 rw [<- t8]; simp
theorem a6N {α:Type} (p:α->Bool) (d:α) (l:List α) (k:Nat) (hk:k < l.length) (h:p (l.getD k d)=false):l.all p=false:=by
 refine List.all_eq_false.2 ⟨l.getD k d,by simp [List.getD,hk],by simpa using h⟩
theorem a6O {α:Type} (p:α->Bool) (d:α) (l:List α) (h:∀ i,i < l.length->p (l.getD i d)=true):l.all p=true:=by
 refine List.all_eq_true.2 fun x hx => ?_
 obtain ⟨i,hi,rfl⟩:=List.getElem_of_mem hx
 have:=h i hi
 simpa [List.getD,hi] using this
theorem b1M (l:List (Int×Int)) (hl:l.length < 2 ^ 40):PC Tryz.prog 197 [frs l] (.bool (l.all b9)):=by
 refine a7 hm Tryz.func197 (by kernel_rfl) ?_
 conv=>whnf
 refine Or.inr ⟨Nat,[7],[],[],fun k=>[i64 k],fun _=>[],fun _=>[],fun k=>l.length - k,fun k=>k<=l.length/\∀ i,i < k->b9 (l.getD i (0,0))=true,?_⟩
 conv=>whnf
 refine ⟨⟨0,?_⟩,?_⟩
 ·(conv=>whnf)
  exact ⟨⟨by simp,rfl,rfl,rfl⟩,by kernel_rfl,by kernel_rfl⟩
 ·intro k hk
  conv=>whnf
  refine ⟨fun h => ?_,fun h => ?_⟩
  ·have h:=of_decide_eq_true h
   conv=>whnf
   have hg:l.getD (Int.toNat (k:Int)) (0,0)=l.getD k (0,0):=rfl
   refine ⟨⟨by omega,by omega⟩,?_⟩
   rw [hg]
   have bad:b9 (l.getD k (0,0))=false->l.all b9=false:=a6N b9 (0,0) l k (by omega)
   have good:b9 (l.getD k (0,0))=true->∀ i,i < k + 1->b9 (l.getD i (0,0))=true:=fun h i hi=>by
    by_cases e:i=k
    ·subst e; exact h
    ·exact hk.2 i (by omega)
   have v1:=a5w (l.getD k (0,0))
   have v2:=t8 (l.getD k (0,0))
   generalize l.getD k (0,0)=x at bad good v1 v2 ⊢
   obtain ⟨n,d⟩:=x
   simp only [] at v1 v2
   by_cases hb:1<=d/\d<=4611686018427387903 /\ -4611686018427387903<=n/\n<=4611686018427387903
   rotate_left
   ·have hf:=v1.2 (fun h=>hb ⟨h.1,h.2.1,h.2.2.1,h.2.2.2.1⟩)
    conv=>whnf
    (repeat' first|(refine ansS (fun hh=>?_) (fun hh=>?_)<;>(try simp only [ansX] at hh)<;>first|(exfalso;first|omega|(simp [*] at hh;done)|(revert hh;decide))|exact absurd (by assumption) hh|conv=>whnf)|((first|refine kR ?_|refine aB ?_|refine aL ?_|refine aN ?_|fail);conv=>whnf))
    all_goals (rw [bad hf])
   conv=>whnf
   have i1:I64 n:=by unfold I64; omega
   have i2:I64 d:=by unfold I64; omega
   have c3:=a1m n.natAbs d.natAbs (by omega) (by omega)
   (repeat' first|(refine ansS (fun hh=>?_) (fun hh=>?_)<;>(try simp only [ansX] at hh)<;>first|(exfalso;first|omega|(simp [*] at hh;done)|(revert hh;decide))|exact absurd (by assumption) hh|conv=>whnf)|((first|refine kR ?_|refine aB ?_|refine aL ?_|refine aN ?_|((try (refine Or.inl ?_;conv=>whnf));(try (refine ⟨false,?_⟩;conv=>whnf));refine ⟨_,by first | exact w8 n i1 | exact w8 d i2 | exact c3,?_⟩)|fail);conv=>whnf))
   ·rw [bad (v1.2 fun h=>by omega)]
   ·refine ⟨k + 1,?_⟩
    conv=>whnf
    refine ⟨⟨⟨Nat.sub_lt_sub_left (by omega) (Nat.lt_succ_self k),by omega,good (v2.2 ⟨hb.1,hb.2.1,hb.2.2.1,hb.2.2.2,by omega⟩)⟩,?_,rfl,rfl⟩,by kernel_rfl,by kernel_rfl⟩
    rw [w64 _ (by omega) (by omega)]; rfl
  ·have h:=of_decide_eq_false h
   conv=>whnf
   congr 1
   exact (a6O b9 (0,0) l fun i hi=>hk.2 i (by omega)).symm
theorem a4c (l:List (Int×Int)) (hl:l.length < 2 ^ 40):PC Tryz.prog 197 [.slc 2 (l.map eF)] (.bool (l.all b9)) :=
 PC.last (args:=[]) (b1M l hl) (.slc 2 (0,0) eF l)
theorem b0o (a:Int×Int):PC Tryz.prog 197 [.slc 2 [eF a]] (.bool (b9 a)):=by
 have:=a4c [a] (by simp)
 simpa using this
theorem a4d (a b:Int×Int):PC Tryz.prog 197 [.slc 2 [eF a,eF b]] (.bool (b9 a && b9 b)):=by
 have:=a4c [a,b] (by simp)
 simpa using this
theorem b1N (a:Int×Int):PC Tryz.prog 156 [fr a] (i64 (if b9 a then 0 else 8)):=by
 refine a7 hm Tryz.func156 (by kernel_rfl) ?_
 conv=>whnf
 (repeat' first|(refine ansS (fun hh=>?_) (fun hh=>?_)<;>(try simp only [ansX] at hh)<;>first|(exfalso;first|omega|(simp [*] at hh;done)|(revert hh;decide))|exact absurd (by assumption) hh|conv=>whnf)|((first|refine kR ?_|refine aB ?_|refine aL ?_|refine aN ?_|((try (refine Or.inl ?_;conv=>whnf));(try (refine ⟨false,?_⟩;conv=>whnf));refine ⟨_,by exact b0o a,?_⟩)|fail);conv=>whnf))
 all_goals simp_all
def cmpF (a b:Int×Int):Int:=if a.1 * b.2 < b.1 * a.2 then -1 else if a.1 * b.2=b.1 * a.2 then 0 else 1
theorem a0Y {a b:Int×Int} (ha:b9 a=true) (hb:b9 b=true) (h:a.1 * b.2=b.1 * a.2):a=b:=by
 rw [t8] at ha hb
 obtain ⟨n,d⟩:=a
 obtain ⟨m,e⟩:=b
 simp only [] at *
 have c1:Nat.Coprime n.natAbs d.natAbs:=ha.2.2.2.2
 have c2:Nat.Coprime m.natAbs e.natAbs:=hb.2.2.2.2
 have h':n.natAbs * e.natAbs=m.natAbs * d.natAbs:=by rw [<- Int.natAbs_mul,<- Int.natAbs_mul,h]
 have d1:d.natAbs ∣ e.natAbs:=c1.symm.dvd_of_dvd_mul_left ⟨m.natAbs,by rw [h',Nat.mul_comm]⟩
 have d2:e.natAbs ∣ d.natAbs:=c2.symm.dvd_of_dvd_mul_left ⟨n.natAbs,by rw [<- h',Nat.mul_comm]⟩
 have hde:d=e:=by have:=Nat.dvd_antisymm d1 d2; omega
 subst hde
 have:n=m:=Int.eq_of_mul_eq_mul_right (by omega) h
 rw [this]
theorem a2Q (a b:Int×Int) (ha:b9 a=true) (hb:b9 b=true):PC Tryz.prog 198 [fr a,fr b] (i64 (cmpF a b)):=by
 have heq:=a0Y ha hb
 rw [t8] at ha hb
 obtain ⟨n,d⟩:=a
 obtain ⟨m,e⟩:=b
 simp only [] at *
 have i1:I64 n:=by unfold I64; omega
 have i2:I64 d:=by unfold I64; omega
 have i3:I64 m:=by unfold I64; omega
 have i4:I64 e:=by unfold I64; omega
 have p1:=F8 n.natAbs e.natAbs (by omega) (by omega)
 have p2:=F8 m.natAbs d.natAbs (by omega) (by omega)
 have hx:n.natAbs * e.natAbs < 340282366920938463463374607431768211456:=Nat.lt_of_le_of_lt (Nat.mul_le_mul (show n.natAbs<=4611686018427387903 by omega) (show e.natAbs<=4611686018427387903 by omega)) (by decide)
 have hy:m.natAbs * d.natAbs < 340282366920938463463374607431768211456:=Nat.lt_of_le_of_lt (Nat.mul_le_mul (show m.natAbs<=4611686018427387903 by omega) (show d.natAbs<=4611686018427387903 by omega)) (by decide)
 have hsx:((n.natAbs * e.natAbs:Nat):Int)=if n < 0 then -(n * e) else n * e:=by
  rw [Int.natCast_mul,show ((e.natAbs:Nat):Int)=e by omega]
  split
  ·rw [show ((n.natAbs:Nat):Int) = -n by omega,Int.neg_mul]
  ·rw [show ((n.natAbs:Nat):Int)=n by omega]
 have hsy:((m.natAbs * d.natAbs:Nat):Int)=if m < 0 then -(m * d) else m * d:=by
  rw [Int.natCast_mul,show ((d.natAbs:Nat):Int)=d by omega]
  split
  ·rw [show ((m.natAbs:Nat):Int) = -m by omega,Int.neg_mul]
  ·rw [show ((m.natAbs:Nat):Int)=m by omega]
 have l1:=a5u (n.natAbs * e.natAbs) (m.natAbs * d.natAbs) hx hy
 have l2:=a5u (m.natAbs * d.natAbs) (n.natAbs * e.natAbs) hy hx
 have s1:0 < n->0 < n * e:=fun h=>Int.mul_pos h (by omega)
 have s2:n < 0->n * e < 0:=fun h=>Int.mul_neg_of_neg_of_pos h (by omega)
 have s3:0 < m->0 < m * d:=fun h=>Int.mul_pos h (by omega)
 have s4:m < 0->m * d < 0:=fun h=>Int.mul_neg_of_neg_of_pos h (by omega)
 have s5:n=0->n * e=0:=fun h=>by rw [h,Int.zero_mul]
 have s6:m=0->m * d=0:=fun h=>by rw [h,Int.zero_mul]
 have heq':n * e=m * d->n=m/\d=e:=fun h=>by have:=heq h; simpa using this
 have heq2:n=m->d=e->n * e=m * d:=fun h1 h2=>by rw [h1,h2]
 have hc:cmpF (n,d) (m,e)=if n * e < m * d then -1 else if n * e=m * d then 0 else 1:=rfl
 generalize n.natAbs * e.natAbs=x at *
 generalize m.natAbs * d.natAbs=y at *
 generalize n * e=X at *
 generalize m * d=Y at *
 refine a7 hm Tryz.func198 (by kernel_rfl) ?_
 conv=>whnf
 (repeat' first|(refine ansS (fun hh=>?_) (fun hh=>?_)<;>(try simp only [ansX] at hh)<;>first|(exfalso;first|omega|(simp [*] at hh;done)|(revert hh;decide))|exact absurd (by assumption) hh|conv=>whnf)|((first|refine kR ?_|refine aB ?_|refine aL ?_|refine aN ?_|((try (refine Or.inl ?_;conv=>whnf));(try (refine ⟨false,?_⟩;conv=>whnf));refine ⟨_,by first | exact w8 n i1 | exact w8 d i2 | exact w8 m i3 | exact w8 e i4 | exact p1 | exact p2 | exact l1 | exact l2,?_⟩)|fail);conv=>whnf))
 all_goals
  clear p1 p2 l1 l2 heq ha hb hx hy i1 i2 i3 i4
  rw [hc]
  congr 1
  clear hc
  try simp only [reduceCtorEq,or_false] at *
  split at hsx<;>split at hsy<;>(refine Eq.symm ?_)<;>first
   | (rw [if_pos (by omega)]; done)
   | (rw [if_neg (by omega),if_pos (by omega)]; done)
   | (rw [if_neg (by omega),if_neg (by omega)]; done)
   | (exfalso; omega)
abbrev SpT:Type:=(Int×Int)×(Int×Int)
abbrev sp (s:SpT):AV := .agg [i64 s.1.1,i64 s.1.2,i64 s.2.1,i64 s.2.2]
abbrev eS (s:SpT):List AV:=[i64 s.1.1,i64 s.1.2,i64 s.2.1,i64 s.2.2]
abbrev sps (l:List SpT):AV := .sl 4 (((0:Int),(0:Int)),((0:Int),(0:Int))) eS l
def k7 (s:SpT):Bool:=b9 s.1 && b9 s.2 && decide (cmpF s.1 s.2<=0)
theorem a6P (l:List SpT) (hl:l.length < 2 ^ 40):PC Tryz.prog 145 [sps l] (.bool (l.all k7)):=by
 refine a7 hm Tryz.func145 (by kernel_rfl) ?_
 conv=>whnf
 refine Or.inr ⟨Nat,[7],[],[],fun k=>[i64 k],fun _=>[],fun _=>[],fun k=>l.length - k,fun k=>k<=l.length/\∀ i,i < k->k7 (l.getD i ((0,0),(0,0)))=true,?_⟩
 conv=>whnf
 refine ⟨⟨0,?_⟩,?_⟩
 ·(conv=>whnf)
  exact ⟨⟨by simp,rfl,rfl,rfl⟩,by kernel_rfl,by kernel_rfl⟩
 ·intro k hk
  conv=>whnf
  refine ⟨fun h => ?_,fun h => ?_⟩
  ·have h:=of_decide_eq_true h
   conv=>whnf
   have hg:l.getD (Int.toNat (k:Int)) ((0,0),(0,0))=l.getD k ((0,0),(0,0)):=rfl
   refine ⟨⟨by omega,by omega⟩,?_⟩
   rw [hg]
   have bad:k7 (l.getD k ((0,0),(0,0)))=false->l.all k7=false:=a6N k7 _ l k (by omega)
   have good:k7 (l.getD k ((0,0),(0,0)))=true->∀ i,i < k + 1->k7 (l.getD i ((0,0),(0,0)))=true:=fun h i hi=>by
    by_cases e:i=k
    ·subst e; exact h
    ·exact hk.2 i (by omega)
   generalize l.getD k ((0,0),(0,0))=x at bad good ⊢
   obtain ⟨⟨n,d⟩,⟨m,e⟩⟩:=x
   have v:=a4d (n,d) (m,e)
   conv=>whnf
   (repeat' first|(refine ansS (fun hh=>?_) (fun hh=>?_)<;>(try simp only [ansX] at hh)<;>first|(exfalso;first|omega|(simp [*] at hh;done)|(revert hh;decide))|exact absurd (by assumption) hh|conv=>whnf)|((first|refine kR ?_|refine aB ?_|refine aL ?_|refine aN ?_|((try (refine Or.inl ?_;conv=>whnf));(try (refine ⟨false,?_⟩;conv=>whnf));refine ⟨_,by exact v,?_⟩)|fail);conv=>whnf))
   ·rw [bad (by simp only [k7]; rcases hh with h | h<;>simp [h])]
   ·have o:=a2Q (n,d) (m,e) hh.1 hh.2
    have hsb:k7 ((n,d),(m,e))=decide (cmpF (n,d) (m,e)<=0):=by simp [k7,hh.1,hh.2]
    generalize cmpF (n,d) (m,e)=c at o hsb
    (repeat' first|(refine ansS (fun hh=>?_) (fun hh=>?_)<;>(try simp only [ansX] at hh)<;>first|(exfalso;first|omega|(simp [*] at hh;done)|(revert hh;decide))|exact absurd (by assumption) hh|conv=>whnf)|((first|refine kR ?_|refine aB ?_|refine aL ?_|refine aN ?_|((try (refine Or.inl ?_;conv=>whnf));(try (refine ⟨false,?_⟩;conv=>whnf));refine ⟨_,by exact o,?_⟩)|fail);conv=>whnf))
    ·rw [bad (by rw [hsb]; exact decide_eq_false (by omega))]
    ·refine ⟨k + 1,?_⟩
     conv=>whnf
     refine ⟨⟨⟨Nat.sub_lt_sub_left (by omega) (Nat.lt_succ_self k),by omega,good (by rw [hsb]; exact decide_eq_true (by omega))⟩,?_,rfl,rfl⟩,by kernel_rfl,by kernel_rfl⟩
     rw [w64 _ (by omega) (by omega)]; rfl
  ·have h:=of_decide_eq_false h
   conv=>whnf
   congr 1
   exact (a6O k7 _ l fun i hi=>hk.2 i (by omega)).symm
theorem a4e (a:SpT):PC Tryz.prog 145 [.slc 4 [eS a]] (.bool (k7 a)):=by
 have:=PC.last (args:=[]) (a6P [a] (by simp)) (.slc 4 _ eS [a])
 simpa using this
theorem a1n (a b:SpT):PC Tryz.prog 145 [.slc 4 [eS a,eS b]] (.bool (k7 a && k7 b)):=by
 have:=PC.last (args:=[]) (a6P [a,b] (by simp)) (.slc 4 _ eS [a,b])
 simpa using this
theorem L0 (a:SpT):PC Tryz.prog 141 [sp a] (i64 (if k7 a then 0 else 8)):=by
 refine a7 hm Tryz.func141 (by kernel_rfl) ?_
 conv=>whnf
 (repeat' first|(refine ansS (fun hh=>?_) (fun hh=>?_)<;>(try simp only [ansX] at hh)<;>first|(exfalso;first|omega|(simp [*] at hh;done)|(revert hh;decide))|exact absurd (by assumption) hh|conv=>whnf)|((first|refine kR ?_|refine aB ?_|refine aL ?_|refine aN ?_|((try (refine Or.inl ?_;conv=>whnf));(try (refine ⟨false,?_⟩;conv=>whnf));refine ⟨_,by exact a4e a,?_⟩)|fail);conv=>whnf))
 all_goals simp_all

end Go.Proofs.Tryz.My
