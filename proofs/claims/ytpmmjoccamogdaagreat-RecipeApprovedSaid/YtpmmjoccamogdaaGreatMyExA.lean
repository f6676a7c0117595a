/- Helper lemmas. -/
import Derived.Test.YtpmmjoccamogdaaGreatEvSix
import Derived.Test.YtpmmjoccamogdaaGreatChecked
set_option linter.unusedVariables false
set_option linter.unusedSimpArgs false
set_option maxRecDepth 100000
set_option maxHeartbeats 0
namespace Go.Proofs.Tryz.My
open Go Go.Ev
theorem Lu:Tryz.prog.follows .mixedOrders=true:=by kernel_rfl
theorem hm:Tryz.prog.follows .mixedOrders=true:=Lu
theorem pF {f:FuncId} {fn:Func} {args:List AV} {res:AV} (hf:Tryz.prog.funcs[f]? = some fn) (h:tF Tryz.prog fn args res) (g:(fn.name == "runtime.NumGoroutine")=false:=by kernel_rfl):PC Tryz.prog f args res:=pS hm hf g h
theorem pW {f:FuncId} {fn:Func} {args:List AV} {ins l5:List Row} {res:AV} (hf:Tryz.prog.funcs[f]? = some fn) (h:nM Tryz.prog fn args ins res l5) (g:(fn.name == "runtime.NumGoroutine")=false:=by kernel_rfl):PW Tryz.prog f args ins res l5:=pT hm hf g h
theorem E3 (n:Int) (h:K6 n):PC Tryz.prog 79 [i64 n] (u64 n.natAbs):=by
 unfold K6 at h
 refine pF Tryz.func79 ?_
 conv=>whnf
 refine ⟨fun h=>?_,fun h=>?_⟩
 ·have h:=of_decide_eq_true h
  conv=>whnf
  congr 1
  rw [jz,jz];omega
 ·have h:=of_decide_eq_false h
  conv=>whnf
  congr 1
  rw [jz];omega
theorem gh (a b:Nat) (ha:a < 18446744073709551616) (hb:b < 18446744073709551616):PC Tryz.prog 78 [u64 a,u64 b] (u64 (Nat.gcd a b)):=by
 refine pF Tryz.func78 ?_
 conv=>whnf
 refine Or.inr ⟨Nat×Nat,[0,1],[],[],fun i=>[u64 i.1,u64 i.2],fun _=>[],fun _=>[],fun i=>i.2,fun i=>Nat.gcd i.1 i.2=Nat.gcd a b/\i.1 < 18446744073709551616/\i.2 < 18446744073709551616,?_⟩
 conv=>whnf
 refine ⟨⟨(a,b),?_⟩,?_⟩
 ·(conv=>whnf)
  exact kK ⟨⟨rfl,ha,hb⟩,rfl,rfl,rfl⟩
 ·rintro ⟨x,y⟩ ⟨h1,h2,h3⟩
  conv=>whnf
  refine ⟨fun h=>?_,fun h=>?_⟩
  ·have h:y≠0:=by
    have h:¬ ((y:Int)=0):=by simpa using h
    omega
   conv=>whnf
   refine ⟨by kernel_rfl,?_⟩
   conv=>whnf
   refine ⟨by show (y:Int)≠0;omega,?_⟩
   conv=>whnf
   refine ⟨by kernel_rfl,?_⟩
   conv=>whnf
   refine ⟨(y,x % y),?_⟩
   conv=>whnf
   refine kK ⟨⟨Nat.mod_lt _ (by omega),?_,h3,?_⟩,?_,rfl,rfl⟩
   ·show Nat.gcd y (x % y)=_
    rw [<- h1,Nat.gcd_comm x y,Nat.gcd_rec y x,Nat.gcd_comm]
   ·exact Nat.lt_of_le_of_lt (Nat.mod_le x y) h2
   ·show [AV.int .u64 (y:Int),AV.int .u64 ((x:Int).tmod (y:Int))]=[u64 y,u64 (x % y)]
    rw [xu]
  ·have h:y=0:=by
    have h:((y:Int)=0):=by simpa using h
    omega
   conv=>whnf
   subst h
   congr 1
   rw [<- h1];simp
theorem jL (x y:Nat):x < y↔(x / 18446744073709551616 < y / 18446744073709551616∨(x / 18446744073709551616=y / 18446744073709551616/\x % 18446744073709551616 < y % 18446744073709551616)):=by omega
theorem nR (x y:Nat) (hx:x < 340282366920938463463374607431768211456) (hy:y < 340282366920938463463374607431768211456):PC Tryz.prog 95 [pr x,pr y] (.bool (decide (x < y))):=by
 refine pF Tryz.func95 ?_
 conv=>whnf
 (repeat' ((first|refine aU fun hh=>?_|refine aV fun hh=>?_|refine aS (fun hh=>?_) fun hh=>?_|refine kR ?_|fail)<;>conv=>whnf))
 all_goals
  congr 1
  refine Eq.symm ?_
  first
   | (refine decide_eq_true ?_;rw [jL];omega)
   | (refine decide_eq_false ?_;rw [jL];omega)
   | (refine decide_eq_decide.2 ?_;rw [jL];omega)
theorem pZ (x y:Nat) (hx:x < 18446744073709551616) (hy:y < 18446744073709551616):PC Tryz.prog 96 [u64 x,u64 y] (.tup [u64 (x * y / 18446744073709551616),u64 (x * y % 18446744073709551616)]):=by
 refine pF Tryz.func96 ?_
 conv=>whnf
 obtain ⟨m1,m2,m3,m4⟩:=Go.Lib.mul64_hi x y hx hy
 have e1:x / 4294967296 * (y % 4294967296) % 18446744073709551616=x / 4294967296 * (y % 4294967296):=Nat.mod_eq_of_lt (by omega)
 have e2:x % 4294967296 * (y / 4294967296) % 18446744073709551616=x % 4294967296 * (y / 4294967296):=Nat.mod_eq_of_lt (by omega)
 have u2:x * y / 18446744073709551616 < 18446744073709551616:=by
  have:x * y<=18446744073709551615 * 18446744073709551615:=Nat.mul_le_mul (by omega) (by omega)
  omega
 rw [<- m4] at u2
 have e3:x / 4294967296 * (y / 4294967296) % 18446744073709551616=x / 4294967296 * (y / 4294967296):=Nat.mod_eq_of_lt (by omega)
 have e4:(x / 4294967296 * (y / 4294967296) + (x / 4294967296 * (y % 4294967296) + x % 4294967296 * (y % 4294967296) / 4294967296) / 4294967296) % 18446744073709551616=x / 4294967296 * (y / 4294967296) + (x / 4294967296 * (y % 4294967296) + x % 4294967296 * (y % 4294967296) / 4294967296) / 4294967296:=Nat.mod_eq_of_lt (by omega)
 simp only [iN,cr _ hx,cr _ hy,jA,jB,Nat.mod_eq_of_lt m1,e1,Nat.mod_eq_of_lt m2,cr _ m2,e2,Nat.mod_eq_of_lt m3,e3,e4,Nat.mod_eq_of_lt u2]
 rw [m4]
theorem O8 (x y:Nat) (hx:x < 18446744073709551616) (hy:y < 18446744073709551616):PC Tryz.prog 81 [u64 x,u64 y] (pr (x * y)):=by
 refine pF Tryz.func81 ?_
 conv=>whnf
 (first|(refine Or.inl ?_;(conv=>whnf);refine ⟨_,pZ x y hx hy,?_⟩)|refine ⟨_,pZ x y hx hy,?_⟩)
 conv=>whnf
def P4 (neg:Bool) (N D:Nat):(Int×Int)×Int:=if N<=4611686018427387903/\D<=4611686018427387903 then ((if neg then -(N:Int) else N,D),0) else ((0,0),4)
theorem nS (neg:Bool) (N D:Nat) (hN:N < 340282366920938463463374607431768211456) (hD:D < 340282366920938463463374607431768211456):PC Tryz.prog 80 [.bool neg,pr N,pr D] (.tup [fr (P4 neg N D).1,i64 (P4 neg N D).2]):=by
 refine pF Tryz.func80 ?_
 conv=>whnf
 have bad:¬ (N<=4611686018427387903/\D<=4611686018427387903)->P4 neg N D=((0,0),4):=fun h=>by simp [P4,h]
 (repeat' ((first|refine aU fun hh=>?_|refine aV fun hh=>?_|refine aS (fun hh=>?_) fun hh=>?_|refine kR ?_|fail)<;>conv=>whnf))
 ·rw [bad (by omega)]
 ·rw [bad (by omega)]
 ·rw [bad (by omega)]
 ·rw [bad (by omega)]
 ·have h1:N<=4611686018427387903/\D<=4611686018427387903:=by omega
  have e1:N % 18446744073709551616=N:=by omega
  have e2:D % 18446744073709551616=D:=by omega
  rw [e1,e2,wi (N:Int) (by omega) (by omega),wi (D:Int) (by omega) (by omega),wi _ (by omega) (by omega)]
  subst hh
  simp [P4,h1]
 ·have h1:N<=4611686018427387903/\D<=4611686018427387903:=by omega
  have e1:N % 18446744073709551616=N:=by omega
  have e2:D % 18446744073709551616=D:=by omega
  rw [e1,e2,wi (N:Int) (by omega) (by omega),wi (D:Int) (by omega) (by omega)]
  subst hh
  simp [P4,h1]
theorem qa (n:Nat) (h:n < 18446744073709551616):pr n = .agg [.int .u64 0,u64 n]:=by
 have e1:n / 18446744073709551616=0:=by omega
 have e2:n % 18446744073709551616=n:=by omega
 show AV.agg [u64 (n / 18446744073709551616),u64 (n % 18446744073709551616)]=_
 rw [e1,e2];rfl
def F6 (num den:Int):(Int×Int)×Int:=if den=0 then ((0,0),10) else P4 (decide (num < 0) != decide (den < 0)) (num.natAbs / Nat.gcd num.natAbs den.natAbs) (den.natAbs / Nat.gcd num.natAbs den.natAbs)
theorem xN {n:Int} (h:K6 n):n.natAbs < 18446744073709551616:=by unfold K6 at h;omega
theorem vd {a b:Nat} (h:b≠0):Nat.gcd a b≠0:=fun e=>h (Nat.eq_zero_of_gcd_eq_zero_right e)
theorem AH (num den:Int) (h1:K6 num) (h2:K6 den):PC Tryz.prog 102 [i64 num,i64 den] (.tup [fr (F6 num den).1,i64 (F6 num den).2]):=by
 have l1:=xN h1
 have l2:=xN h2
 by_cases hd:den=0
 ·subst hd
  refine pF Tryz.func102 ?_
  conv=>whnf
  (repeat' ((first|refine aU fun hh=>?_|refine aV fun hh=>?_|refine aS (fun hh=>?_) fun hh=>?_|refine kR ?_|fail)<;>conv=>whnf))
  all_goals simp [F6]
 ·have hg:Nat.gcd num.natAbs den.natAbs≠0:=vd (by omega)
  have Ar:F6 num den=P4 (decide (num < 0) != decide (den < 0)) (num.natAbs / Nat.gcd num.natAbs den.natAbs) (den.natAbs / Nat.gcd num.natAbs den.natAbs):=by simp [F6,hd]
  have c3:=gh num.natAbs den.natAbs l1 l2
  generalize Nat.gcd num.natAbs den.natAbs=g at *
  have q1:num.natAbs / g < 18446744073709551616:=Nat.lt_of_le_of_lt (Nat.div_le_self _ _) l1
  have q2:den.natAbs / g < 18446744073709551616:=Nat.lt_of_le_of_lt (Nat.div_le_self _ _) l2
  have c4:=nS (decide (num < 0) != decide (den < 0)) (num.natAbs / g) (den.natAbs / g) (by omega) (by omega)
  rw [qa _ q1,qa _ q2,<- Ar] at c4
  refine pF Tryz.func102 ?_
  conv=>whnf
  (repeat' ((first|refine aU fun hh=>?_|refine aV fun hh=>?_|refine aS (fun hh=>?_) fun hh=>?_|refine kR ?_|((try refine Or.inl ?_;conv=>whnf);(try refine ⟨false,?_⟩;conv=>whnf);refine ⟨_,by first|exact E3 num h1|exact E3 den h2|exact c3,?_⟩)|fail)<;>conv=>whnf))
  rw [bO _ _ l1,bO _ _ l2]
  (repeat' ((first|refine aU fun hh=>?_|refine aV fun hh=>?_|refine aS (fun hh=>?_) fun hh=>?_|refine kR ?_|((try refine Or.inl ?_;conv=>whnf);(try refine ⟨false,?_⟩;conv=>whnf);refine ⟨_,by exact c4,?_⟩)|fail)<;>conv=>whnf))
  all_goals skip
def A0 (n lo hi:Int):Bool:=decide (lo<=n) && decide (n<=hi)
abbrev Lv (l:List (Int×Int)):AV := .sl 2 ((0:Int),(0:Int)) eF l
def k7 (x:Int×Int):Bool:=decide (1<=x.2) && decide (x.2<=4611686018427387903) && decide (-4611686018427387903<=x.1) && decide (x.1<=4611686018427387903) && decide (Nat.gcd x.1.natAbs x.2.natAbs=1)
theorem B5 (x:Int×Int):k7 x=true↔1<=x.2/\x.2<=4611686018427387903 /\ -4611686018427387903<=x.1/\x.1<=4611686018427387903/\Nat.gcd x.1.natAbs x.2.natAbs=1:=by
 simp only [k7,Bool.and_eq_true,decide_eq_true_eq]
 exact ⟨fun ⟨⟨⟨⟨a,b⟩,c⟩,d⟩,e⟩=>⟨a,b,c,d,e⟩,fun ⟨a,b,c,d,e⟩=>⟨⟨⟨⟨a,b⟩,c⟩,d⟩,e⟩⟩
theorem nT (x:Int×Int):k7 x=false↔¬ (1<=x.2/\x.2<=4611686018427387903 /\ -4611686018427387903<=x.1/\x.1<=4611686018427387903/\Nat.gcd x.1.natAbs x.2.natAbs=1):=by
 rw [<- B5];simp
theorem qb {α:Type} (p:α->Bool) (d:α) (l:List α) (k:Nat) (hk:k < l.length) (h:p (l.getD k d)=false):l.all p=false:=by
 refine List.all_eq_false.2 ⟨l.getD k d,by simp [List.getD,hk],by simpa using h⟩
theorem qc {α:Type} (p:α->Bool) (d:α) (l:List α) (h:∀ i,i < l.length->p (l.getD i d)=true):l.all p=true:=by
 refine List.all_eq_true.2 fun x hx=>?_
 obtain ⟨i,hi,rfl⟩:=List.getElem_of_mem hx
 have:=h i hi
 simpa [List.getD,hi] using this
theorem xO (l:List (Int×Int)) (hl:l.length < 2 ^ 40):PC Tryz.prog 74 [Lv l] (.bool (l.all k7)):=by
 refine pF Tryz.func74 ?_
 conv=>whnf
 refine Or.inr ⟨Nat,[7],[],[],fun k=>[i64 k],fun _=>[],fun _=>[],fun k=>l.length - k,fun k=>k<=l.length/\∀ i,i < k->k7 (l.getD i (0,0))=true,?_⟩
 conv=>whnf
 refine ⟨⟨0,?_⟩,?_⟩
 ·(conv=>whnf)
  exact kK ⟨by simp,rfl,rfl,rfl⟩
 ·intro k hk
  conv=>whnf
  refine ⟨fun h=>?_,fun h=>?_⟩
  ·have h:=of_decide_eq_true h
   conv=>whnf
   have hg:l.getD (Int.toNat (k:Int)) (0,0)=l.getD k (0,0):=rfl
   refine ⟨⟨by omega,by omega⟩,?_⟩
   rw [hg]
   have bad:k7 (l.getD k (0,0))=false->l.all k7=false:=qb k7 (0,0) l k (by omega)
   have xP:k7 (l.getD k (0,0))=true->∀ i,i < k + 1->k7 (l.getD i (0,0))=true:=fun h i hi=>by
    by_cases e:i=k
    ·subst e;exact h
    ·exact hk.2 i (by omega)
   have v1:=nT (l.getD k (0,0))
   have v2:=B5 (l.getD k (0,0))
   generalize l.getD k (0,0)=x at bad xP v1 v2 ⊢
   obtain ⟨n,d⟩:=x
   simp only [] at v1 v2
   by_cases hb:1<=d/\d<=4611686018427387903 /\ -4611686018427387903<=n/\n<=4611686018427387903
   rotate_left
   ·have hf:=v1.2 (fun h=>hb ⟨h.1,h.2.1,h.2.2.1,h.2.2.2.1⟩)
    conv=>whnf
    (repeat' ((first|refine aU fun hh=>?_|refine aV fun hh=>?_|refine aS (fun hh=>?_) fun hh=>?_|refine kR ?_|fail)<;>conv=>whnf))
    all_goals (rw [bad hf])
   conv=>whnf
   have i1:K6 n:=by unfold K6;omega
   have i2:K6 d:=by unfold K6;omega
   have c3:=gh n.natAbs d.natAbs (by omega) (by omega)
   (repeat' ((first|refine aU fun hh=>?_|refine aV fun hh=>?_|refine aS (fun hh=>?_) fun hh=>?_|refine kR ?_|((try refine Or.inl ?_;conv=>whnf);(try refine ⟨false,?_⟩;conv=>whnf);refine ⟨_,by first|exact E3 n i1|exact E3 d i2|exact c3,?_⟩)|fail)<;>conv=>whnf))
   ·rw [bad (v1.2 fun h=>by omega)]
   ·refine ⟨k + 1,?_⟩
    conv=>whnf
    refine kK ⟨⟨Nat.sub_lt_sub_left (by omega) (Nat.lt_succ_self k),by omega,xP (v2.2 ⟨hb.1,hb.2.1,hb.2.2.1,hb.2.2.2,by omega⟩)⟩,?_,rfl,rfl⟩
    rw [L9 _ (by omega) (by omega)];rfl
  ·have h:=of_decide_eq_false h
   conv=>whnf
   congr 1
   exact (qc k7 (0,0) l fun i hi=>hk.2 i (by omega)).symm
theorem vf (l:List (Int×Int)) (hl:l.length < 2 ^ 40):PC Tryz.prog 74 [.slc 2 (l.map eF)] (.bool (l.all k7)) :=
 PC.last (args:=[]) (xO l hl) (.slc 2 (0,0) eF l)
theorem ml (a b:Int×Int):PC Tryz.prog 74 [.slc 2 [eF a,eF b]] (.bool (k7 a && k7 b)):=by
 have:=vf [a,b] (by simp)
 simpa using this
def aw (a b:Int×Int):Int:=if a.1 * b.2 < b.1 * a.2 then -1 else if a.1 * b.2=b.1 * a.2 then 0 else 1
theorem eW {a b:Int×Int} (ha:k7 a=true) (hb:k7 b=true) (h:a.1 * b.2=b.1 * a.2):a=b:=by
 rw [B5] at ha hb
 obtain ⟨n,d⟩:=a
 obtain ⟨m,e⟩:=b
 simp only [] at *
 have c1:Nat.Coprime n.natAbs d.natAbs:=ha.2.2.2.2
 have c2:Nat.Coprime m.natAbs e.natAbs:=hb.2.2.2.2
 have h':n.natAbs * e.natAbs=m.natAbs * d.natAbs:=by rw [<- Int.natAbs_mul,<- Int.natAbs_mul,h]
 have d1:d.natAbs ∣ e.natAbs:=c1.symm.dvd_of_dvd_mul_left ⟨m.natAbs,by rw [h',Nat.mul_comm]⟩
 have d2:e.natAbs ∣ d.natAbs:=c2.symm.dvd_of_dvd_mul_left ⟨n.natAbs,by rw [<- h',Nat.mul_comm]⟩
 have zL:d=e:=by have:=Nat.dvd_antisymm d1 d2;omega
 subst zL
 have:n=m:=Int.eq_of_mul_eq_mul_right (by omega) h
 rw [this]
theorem jM (a b:Int×Int) (ha:k7 a=true) (hb:k7 b=true):PC Tryz.prog 75 [fr a,fr b] (i64 (aw a b)):=by
 have heq:=eW ha hb
 rw [B5] at ha hb
 obtain ⟨n,d⟩:=a
 obtain ⟨m,e⟩:=b
 simp only [] at *
 have i1:K6 n:=by unfold K6;omega
 have i2:K6 d:=by unfold K6;omega
 have i3:K6 m:=by unfold K6;omega
 have i4:K6 e:=by unfold K6;omega
 have p1:=O8 n.natAbs e.natAbs (by omega) (by omega)
 have p2:=O8 m.natAbs d.natAbs (by omega) (by omega)
 have hx:n.natAbs * e.natAbs < 340282366920938463463374607431768211456:=Nat.lt_of_le_of_lt (Nat.mul_le_mul (show n.natAbs<=4611686018427387903 by omega) (show e.natAbs<=4611686018427387903 by omega)) (by decide)
 have hy:m.natAbs * d.natAbs < 340282366920938463463374607431768211456:=Nat.lt_of_le_of_lt (Nat.mul_le_mul (show m.natAbs<=4611686018427387903 by omega) (show d.natAbs<=4611686018427387903 by omega)) (by decide)
 have pf:((n.natAbs * e.natAbs:Nat):Int)=if n < 0 then -(n * e) else n * e:=by
  rw [Int.natCast_mul,show ((e.natAbs:Nat):Int)=e by omega]
  split
  ·rw [show ((n.natAbs:Nat):Int) = -n by omega,Int.neg_mul]
  ·rw [show ((n.natAbs:Nat):Int)=n by omega]
 have Lw:((m.natAbs * d.natAbs:Nat):Int)=if m < 0 then -(m * d) else m * d:=by
  rw [Int.natCast_mul,show ((d.natAbs:Nat):Int)=d by omega]
  split
  ·rw [show ((m.natAbs:Nat):Int) = -m by omega,Int.neg_mul]
  ·rw [show ((m.natAbs:Nat):Int)=m by omega]
 have l1:=nR (n.natAbs * e.natAbs) (m.natAbs * d.natAbs) hx hy
 have l2:=nR (m.natAbs * d.natAbs) (n.natAbs * e.natAbs) hy hx
 have s1:0 < n->0 < n * e:=fun h=>Int.mul_pos h (by omega)
 have s2:n < 0->n * e < 0:=fun h=>Int.mul_neg_of_neg_of_pos h (by omega)
 have s3:0 < m->0 < m * d:=fun h=>Int.mul_pos h (by omega)
 have s4:m < 0->m * d < 0:=fun h=>Int.mul_neg_of_neg_of_pos h (by omega)
 have s5:n=0->n * e=0:=fun h=>by rw [h,Int.zero_mul]
 have s6:m=0->m * d=0:=fun h=>by rw [h,Int.zero_mul]
 have Lx:n * e=m * d->n=m/\d=e:=fun h=>by have:=heq h;simpa using this
 have Ly:n=m->d=e->n * e=m * d:=fun h1 h2=>by rw [h1,h2]
 have hc:aw (n,d) (m,e)=if n * e < m * d then -1 else if n * e=m * d then 0 else 1:=rfl
 generalize n.natAbs * e.natAbs=x at *
 generalize m.natAbs * d.natAbs=y at *
 generalize n * e=X at *
 generalize m * d=Y at *
 refine pF Tryz.func75 ?_
 conv=>whnf
 (repeat' ((first|refine aU fun hh=>?_|refine aV fun hh=>?_|refine aS (fun hh=>?_) fun hh=>?_|refine kR ?_|((try refine Or.inl ?_;conv=>whnf);(try refine ⟨false,?_⟩;conv=>whnf);refine ⟨_,by first|exact E3 n i1|exact E3 d i2|exact E3 m i3|exact E3 e i4|exact p1|exact p2|exact l1|exact l2,?_⟩)|fail)<;>conv=>whnf))
 all_goals
  clear p1 p2 l1 l2 heq ha hb hx hy i1 i2 i3 i4
  rw [hc]
  congr 1
  clear hc
  try simp only [reduceCtorEq,or_false] at *
  split at pf<;>split at Lw<;>(refine Eq.symm ?_)<;>first
   | (rw [if_pos (by omega)];done)
   | (rw [if_neg (by omega),if_pos (by omega)];done)
   | (rw [if_neg (by omega),if_neg (by omega)];done)
   | (exfalso;omega)
abbrev S6:Type:=(Int×Int)×(Int×Int)
abbrev sp (s:S6):AV := .agg [i64 s.1.1,i64 s.1.2,i64 s.2.1,i64 s.2.2]
abbrev eS (s:S6):List AV:=[i64 s.1.1,i64 s.1.2,i64 s.2.1,i64 s.2.2]
abbrev JS (l:List S6):AV := .sl 4 (((0:Int),(0:Int)),((0:Int),(0:Int))) eS l
def x9 (s:S6):Bool:=k7 s.1 && k7 s.2 && decide (aw s.1 s.2<=0)
theorem qd (l:List S6) (hl:l.length < 2 ^ 40):PC Tryz.prog 51 [JS l] (.bool (l.all x9)):=by
 refine pF Tryz.func51 ?_
 conv=>whnf
 refine Or.inr ⟨Nat,[7],[],[],fun k=>[i64 k],fun _=>[],fun _=>[],fun k=>l.length - k,fun k=>k<=l.length/\∀ i,i < k->x9 (l.getD i ((0,0),(0,0)))=true,?_⟩
 conv=>whnf
 refine ⟨⟨0,?_⟩,?_⟩
 ·(conv=>whnf)
  exact kK ⟨by simp,rfl,rfl,rfl⟩
 ·intro k hk
  conv=>whnf
  refine ⟨fun h=>?_,fun h=>?_⟩
  ·have h:=of_decide_eq_true h
   conv=>whnf
   have hg:l.getD (Int.toNat (k:Int)) ((0,0),(0,0))=l.getD k ((0,0),(0,0)):=rfl
   refine ⟨⟨by omega,by omega⟩,?_⟩
   rw [hg]
   have bad:x9 (l.getD k ((0,0),(0,0)))=false->l.all x9=false:=qb x9 _ l k (by omega)
   have xP:x9 (l.getD k ((0,0),(0,0)))=true->∀ i,i < k + 1->x9 (l.getD i ((0,0),(0,0)))=true:=fun h i hi=>by
    by_cases e:i=k
    ·subst e;exact h
    ·exact hk.2 i (by omega)
   generalize l.getD k ((0,0),(0,0))=x at bad xP ⊢
   obtain ⟨⟨n,d⟩,⟨m,e⟩⟩:=x
   have v:=ml (n,d) (m,e)
   conv=>whnf
   (repeat' ((first|refine aU fun hh=>?_|refine aV fun hh=>?_|refine aS (fun hh=>?_) fun hh=>?_|refine kR ?_|((try refine Or.inl ?_;conv=>whnf);(try refine ⟨false,?_⟩;conv=>whnf);refine ⟨_,by exact v,?_⟩)|fail)<;>conv=>whnf))
   ·rw [bad (by simp only [x9];rcases hh with h|h<;>simp [h])]
   ·have o:=jM (n,d) (m,e) hh.1 hh.2
    have IF:x9 ((n,d),(m,e))=decide (aw (n,d) (m,e)<=0):=by simp [x9,hh.1,hh.2]
    generalize aw (n,d) (m,e)=c at o IF
    (repeat' ((first|refine aU fun hh=>?_|refine aV fun hh=>?_|refine aS (fun hh=>?_) fun hh=>?_|refine kR ?_|((try refine Or.inl ?_;conv=>whnf);(try refine ⟨false,?_⟩;conv=>whnf);refine ⟨_,by exact o,?_⟩)|fail)<;>conv=>whnf))
    ·rw [bad (by rw [IF];exact decide_eq_false (by omega))]
    ·refine ⟨k + 1,?_⟩
     conv=>whnf
     refine kK ⟨⟨Nat.sub_lt_sub_left (by omega) (Nat.lt_succ_self k),by omega,xP (by rw [IF];exact decide_eq_true (by omega))⟩,?_,rfl,rfl⟩
     rw [L9 _ (by omega) (by omega)];rfl
  ·have h:=of_decide_eq_false h
   conv=>whnf
   congr 1
   exact (qc x9 _ l fun i hi=>hk.2 i (by omega)).symm
theorem mn (a:S6):PC Tryz.prog 51 [.slc 4 [eS a]] (.bool (x9 a)):=by
 have:=PC.last (args:=[]) (qd [a] (by simp)) (.slc 4 _ eS [a])
 simpa using this
theorem gi (a b:S6):PC Tryz.prog 51 [.slc 4 [eS a,eS b]] (.bool (x9 a && x9 b)):=by
 have:=PC.last (args:=[]) (qd [a,b] (by simp)) (.slc 4 _ eS [a,b])
 simpa using this
theorem W6 (a:S6):PC Tryz.prog 47 [sp a] (i64 (if x9 a then 0 else 8)):=by
 refine pF Tryz.func47 ?_
 conv=>whnf
 (repeat' ((first|refine aU fun hh=>?_|refine aV fun hh=>?_|refine aS (fun hh=>?_) fun hh=>?_|refine kR ?_|((try refine Or.inl ?_;conv=>whnf);(try refine ⟨false,?_⟩;conv=>whnf);refine ⟨_,by exact mn a,?_⟩)|fail)<;>conv=>whnf))
 all_goals simp_all

end Go.Proofs.Tryz.My
