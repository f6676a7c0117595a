/- Helper lemmas. -/
import Derived.Test.YtdpnpdjnaimgaaaGreatEvSix
import Derived.Test.YtdpnpdjnaimgaaaGreatChecked
set_option linter.unusedVariables false
set_option linter.unusedSimpArgs false
set_option maxRecDepth 100000
set_option maxHeartbeats 0
namespace Go.Proofs.Tryz.My
open Go Go.Ev
theorem hmE:Tryz.prog.follows .mixedOrders=true:=by kernel_rfl
theorem hm:Tryz.prog.follows .mixedOrders=true:=hmE
abbrev va6:=PC Tryz.prog
abbrev va7:=PW Tryz.prog
theorem pF{f:FuncId}{fn:Func}{args:List AV}{res:AV}(hf:Tryz.prog.funcs[f]? = some fn)(h:ED Tryz.prog fn args res)(g:(fn.name == "runtime.NumGoroutine")=false:=by kernel_rfl):va6 f args res:=zq hm hf g h
theorem pW{f:FuncId}{fn:Func}{args:List AV}{ins n7:List Row}{res:AV}(hf:Tryz.prog.funcs[f]? = some fn)(h:wV Tryz.prog fn args ins res n7)(g:(fn.name == "runtime.NumGoroutine")=false:=by kernel_rfl):va7 f args ins res n7:=zr hm hf g h
theorem L1(n:Int)(h:G7 n):va6 202 [i64 n] (u64 n.natAbs):=by
 unfold G7 at h;refine pF Tryz.func202 ?_;conv=>whnf
 refine⟨fun h=>?_,fun h=>?_⟩
 ·have h:=zA1 h;conv=>whnf
  congr 1
  rw[lT,lT];omega
 ·have h:=zA0 h;conv=>whnf
  congr 1
  rw[lT];omega
theorem ny(a b:Nat)(ha:a<18446744073709551616)(hb:b<18446744073709551616):va6 201 [u64 a,u64 b] (u64 (Nat.gcd a b)):=by
 refine pF Tryz.func201 ?_;conv=>whnf
 refine Or.inr ⟨Nat×Nat,[0,1],[],[],fun i=>[u64 i.1,u64 i.2],fun _=>[],fun _=>[],fun i=>i.2,fun i=>Nat.gcd i.1 i.2=Nat.gcd a b/\i.1<18446744073709551616/\i.2<18446744073709551616,?_⟩;conv=>whnf
 refine⟨⟨(a,b),?_⟩,?_⟩
 ·(conv=>whnf);exact kK ⟨⟨rfl,ha,hb⟩,rfl,rfl,rfl⟩
 ·rintro⟨x,y⟩ ⟨h1,h2,h3⟩;conv=>whnf
  refine⟨fun h=>?_,fun h=>?_⟩
  ·have h:y≠0:=by
    have h:¬ ((y:Int)=0):=by simpa using h
    omega
   conv=>whnf
   refine⟨va4,?_⟩;conv=>whnf
   refine⟨by show(y:Int)≠0;omega,?_⟩;conv=>whnf
   refine⟨va4,?_⟩;conv=>whnf
   refine⟨(y,x % y),?_⟩;conv=>whnf
   refine kK ⟨⟨Nat.mod_lt _ va5,?_,h3,?_⟩,?_,rfl,rfl⟩
   ·show Nat.gcd y (x % y)=_
    rw[<- h1,Nat.gcd_comm x y,Nat.gcd_rec y x,Nat.gcd_comm]
   ·exact Nat.lt_of_le_of_lt (Nat.mod_le x y) h2
   ·show [AV.int .u64 (y:Int),AV.int .u64 ((x:Int).tmod (y:Int))]=[u64 y,u64 (x % y)]
    rw[JE]
  ·have h:y=0:=by
    have h:((y:Int)=0):=by simpa using h
    omega
   conv=>whnf
   subst h
   congr 1
   rw[<- h1];simp
theorem ry(x y:Nat):x<y↔(x / 18446744073709551616<y / 18446744073709551616∨(x / 18446744073709551616=y / 18446744073709551616/\x % 18446744073709551616<y % 18446744073709551616)):=by omega
theorem xa(x y:Nat)(hx:x<340282366920938463463374607431768211456)(hy:y<340282366920938463463374607431768211456):va6 252 [pr x,pr y] (.bool (decide (x<y))):=by
 refine pF Tryz.func252 ?_;conv=>whnf
 (repeat' ((first|refine va0 (fun hh=>?_) fun hh=>?_|refine kR ?_|fail)<;>first|exact hh.elim|conv=>whnf));all_goals
  congr 1
  refine Eq.symm ?_;first
   | (refine zA4 ?_;rw[ry];omega)
   | (refine zA5 ?_;rw[ry];omega)
   | (refine decide_eq_decide.2 ?_;rw[ry];omega)
theorem lV(x y:Nat)(hx:x<18446744073709551616)(hy:y<18446744073709551616):va6 253 [u64 x,u64 y] (.tup [u64 (x*y / 18446744073709551616),u64 (x*y % 18446744073709551616)]):=by
 refine pF Tryz.func253 ?_;conv=>whnf
 obtain⟨m1,m2,m3,m4⟩:=Go.Lib.mul64_hi x y hx hy;have e1:x / 4294967296*(y % 4294967296) % 18446744073709551616=x / 4294967296*(y % 4294967296):=Nat.mod_eq_of_lt va5;have e2:x % 4294967296*(y / 4294967296) % 18446744073709551616=x % 4294967296*(y / 4294967296):=Nat.mod_eq_of_lt va5;have A2:x*y / 18446744073709551616<18446744073709551616:=by
  have:x*y<=18446744073709551615*18446744073709551615:=Nat.mul_le_mul va5 va5;omega
 rw[<- m4]at A2;have e3:x / 4294967296*(y / 4294967296) % 18446744073709551616=x / 4294967296*(y / 4294967296):=Nat.mod_eq_of_lt va5;have e4:(x / 4294967296*(y / 4294967296)+(x / 4294967296*(y % 4294967296)+x % 4294967296*(y % 4294967296) / 4294967296) / 4294967296) % 18446744073709551616=x / 4294967296*(y / 4294967296)+(x / 4294967296*(y % 4294967296)+x % 4294967296*(y % 4294967296) / 4294967296) / 4294967296:=Nat.mod_eq_of_lt va5;simp only[pZ,iK _ hx,iK _ hy,qZ,a0x,Nat.mod_eq_of_lt m1,e1,Nat.mod_eq_of_lt m2,iK _ m2,e2,Nat.mod_eq_of_lt m3,e3,e4,Nat.mod_eq_of_lt A2];rw[m4]
theorem Z1(x y:Nat)(hx:x<18446744073709551616)(hy:y<18446744073709551616):va6 204 [u64 x,u64 y] (pr (x*y)):=by
 refine pF Tryz.func204 ?_;conv=>whnf
 (first|(refine Or.inl ?_;(conv=>whnf);refine⟨_,lV x y hx hy,?_⟩)|refine⟨_,lV x y hx hy,?_⟩)
 conv=>whnf
def ab(neg:Bool)(N D:Nat):(Int×Int)×Int:=if N<=4611686018427387903/\D<=4611686018427387903 then((if neg then -(N:Int)else N,D),0)else((0,0),4)
theorem xb(neg:Bool)(N D:Nat)(hN:N<340282366920938463463374607431768211456)(hD:D<340282366920938463463374607431768211456):va6 203 [.bool neg,pr N,pr D] (.tup [fr (ab neg N D).1,i64 (ab neg N D).2]):=by
 refine pF Tryz.func203 ?_;conv=>whnf
 have bad:¬ (N<=4611686018427387903/\D<=4611686018427387903)->ab neg N D=((0,0),4):=fun h=>by simp[ab,h]
 (repeat' ((first|refine va0 (fun hh=>?_) fun hh=>?_|refine kR ?_|fail)<;>first|exact hh.elim|conv=>whnf))
 ·rw[bad va5]
 ·rw[bad va5]
 ·rw[bad va5]
 ·rw[bad va5]
 ·have h1:N<=4611686018427387903/\D<=4611686018427387903:=by omega
  have e1:N % 18446744073709551616=N:=by omega
  have e2:D % 18446744073709551616=D:=by omega
  rw[e1,e2,wi (N:Int) va5 va5,wi (D:Int) va5 va5,wi _ va5 va5];subst hh;simp[ab,h1]
 ·have h1:N<=4611686018427387903/\D<=4611686018427387903:=by omega
  have e1:N % 18446744073709551616=N:=by omega
  have e2:D % 18446744073709551616=D:=by omega
  rw[e1,e2,wi (N:Int) va5 va5,wi (D:Int) va5 va5];subst hh;simp[ab,h1]
theorem zB(n:Nat)(h:n<18446744073709551616):pr n = .agg [.int .u64 0,u64 n]:=by
 have e1:n / 18446744073709551616=0:=by omega
 have e2:n % 18446744073709551616=n:=by omega
 show AV.agg [u64 (n / 18446744073709551616),u64 (n % 18446744073709551616)]=_
 rw[e1,e2];rfl
def M9(num den:Int):(Int×Int)×Int:=if den=0 then((0,0),10)else ab (decide (num<0) != decide (den<0)) (num.natAbs / Nat.gcd num.natAbs den.natAbs) (den.natAbs / Nat.gcd num.natAbs den.natAbs)
theorem JV{n:Int}(h:G7 n):n.natAbs<18446744073709551616:=by unfold G7 at h;omega
theorem Gx{a b:Nat}(h:b≠0):Nat.gcd a b≠0:=fun e=>h (Nat.eq_zero_of_gcd_eq_zero_right e)
theorem Nv(num den:Int)(h1:G7 num)(h2:G7 den):va6 287 [i64 num,i64 den] (.tup [fr (M9 num den).1,i64 (M9 num den).2]):=by
 have l1:=JV h1;have l2:=JV h2;by_cases hd:den=0
 ·subst hd;refine pF Tryz.func287 ?_;conv=>whnf
  refine vb8 ?_;(repeat intro hh);all_goals simp[M9]
 ·have hg:Nat.gcd num.natAbs den.natAbs≠0:=Gx va5;have Nh:M9 num den=ab (decide (num<0) != decide (den<0)) (num.natAbs / Nat.gcd num.natAbs den.natAbs) (den.natAbs / Nat.gcd num.natAbs den.natAbs):=by simp[M9,hd]
  have c3:=ny num.natAbs den.natAbs l1 l2;generalize Nat.gcd num.natAbs den.natAbs=g at *
  have q1:num.natAbs / g<18446744073709551616:=Nat.lt_of_le_of_lt (Nat.div_le_self _ _) l1;have q2:den.natAbs / g<18446744073709551616:=Nat.lt_of_le_of_lt (Nat.div_le_self _ _) l2;have c4:=xb (decide (num<0) != decide (den<0)) (num.natAbs / g) (den.natAbs / g) va5 va5;rw[zB _ q1,zB _ q2,<- Nh]at c4;refine pF Tryz.func287 ?_;conv=>whnf
  (repeat' ((first|refine va0 (fun hh=>?_) fun hh=>?_|refine kR ?_|((try refine .inl ?_;conv=>whnf);(try refine⟨false,?_⟩;conv=>whnf);refine⟨_,by first|assumption|exact L1 num h1|exact L1 den h2,?_⟩)|fail)<;>first|exact hh.elim|conv=>whnf));rw[gX _ _ l1,gX _ _ l2];try exact va1
def D1(n lo hi:Int):Bool:=decide (lo<=n) && decide (n<=hi)
abbrev frs(l:List (Int×Int)):AV := .sl 2 ((0:Int),(0:Int)) eF l
def r7(x:Int×Int):Bool:=decide (1<=x.2) && decide (x.2<=4611686018427387903) && decide (-4611686018427387903<=x.1) && decide (x.1<=4611686018427387903) && decide (Nat.gcd x.1.natAbs x.2.natAbs=1)
theorem F6(x:Int×Int):r7 x=true↔1<=x.2/\x.2<=4611686018427387903 /\ -4611686018427387903<=x.1/\x.1<=4611686018427387903/\Nat.gcd x.1.natAbs x.2.natAbs=1:=by
 simp only[r7,zA2,zA3];exact⟨fun⟨⟨⟨⟨a,b⟩,c⟩,d⟩,e⟩=>⟨a,b,c,d,e⟩,fun⟨a,b,c,d,e⟩=>⟨⟨⟨⟨a,b⟩,c⟩,d⟩,e⟩⟩
theorem xd(x:Int×Int):r7 x=false↔¬ (1<=x.2/\x.2<=4611686018427387903 /\ -4611686018427387903<=x.1/\x.1<=4611686018427387903/\Nat.gcd x.1.natAbs x.2.natAbs=1):=by
 rw[<- F6];simp
theorem zC{α:Type}(p:α->Bool)(d:α)(l:List α)(k:Nat)(hk:k<l.length)(h:p (l.getD k d)=false):l.all p=false:=by
 refine List.all_eq_false.2 ⟨l.getD k d,by simp[List.getD,hk],by simpa using h⟩
theorem zD{α:Type}(p:α->Bool)(d:α)(l:List α)(h:∀ i,i<l.length->p (l.getD i d)=true):l.all p=true:=by
 refine List.all_eq_true.2 fun x hx=>?_
 obtain⟨i,hi,rfl⟩:=List.getElem_of_mem hx;have:=h i hi;simpa[List.getD,hi]using this
theorem JW(l:List (Int×Int))(hl:l.length<2^40):va6 197 [frs l] (.bool (l.all r7)):=by
 refine pF Tryz.func197 ?_;conv=>whnf
 refine Or.inr ⟨Nat,[7],[],[],fun k=>[i64 k],fun _=>[],fun _=>[],fun k=>l.length-k,fun k=>k<=l.length/\∀ i,i<k->r7 (l.getD i (0,0))=true,?_⟩;conv=>whnf
 refine⟨⟨0,?_⟩,?_⟩
 ·(conv=>whnf);exact kK ⟨by simp,rfl,rfl,rfl⟩
 ·intro k hk;conv=>whnf
  refine⟨fun h=>?_,fun h=>?_⟩
  ·have h:=zA1 h;conv=>whnf
   have hg:l.getD (Int.toNat (k:Int)) (0,0)=l.getD k (0,0):=rfl;refine⟨⟨va5,va5⟩,?_⟩;rw[hg];have bad:r7 (l.getD k (0,0))=false->l.all r7=false:=zC r7 (0,0) l k va5;have good:r7 (l.getD k (0,0))=true->∀ i,i<k+1->r7 (l.getD i (0,0))=true:=fun h i hi=>by
    by_cases e:i=k
    ·subst e;exact h
    ·exact hk.2 i va5
   have v1:=xd (l.getD k (0,0));have v2:=F6 (l.getD k (0,0));generalize l.getD k (0,0)=x at bad good v1 v2 ⊢;obtain⟨n,d⟩:=x;simp only[]at v1 v2;by_cases hb:1<=d/\d<=4611686018427387903 /\ -4611686018427387903<=n/\n<=4611686018427387903
   rotate_left
   ·have hf:=v1.2 (fun h=>hb ⟨h.1,h.2.1,h.2.2.1,h.2.2.2.1⟩);conv=>whnf
    (repeat' ((first|refine va0 (fun hh=>?_) fun hh=>?_|refine kR ?_|fail)<;>first|exact hh.elim|conv=>whnf));all_goals (rw[bad hf])
   conv=>whnf
   have i1:G7 n:=by unfold G7;omega
   have i2:G7 d:=by unfold G7;omega
   have c3:=ny n.natAbs d.natAbs va5 va5;(repeat' ((first|refine va0 (fun hh=>?_) fun hh=>?_|refine kR ?_|((try refine .inl ?_;conv=>whnf);(try refine⟨false,?_⟩;conv=>whnf);refine⟨_,by first|assumption|exact L1 n i1|exact L1 d i2,?_⟩)|fail)<;>first|exact hh.elim|conv=>whnf))
   ·rw[bad (v1.2 fun h=>by omega)]
   ·refine⟨k+1,?_⟩;conv=>whnf
    refine kK ⟨⟨Nat.sub_lt_sub_left va5 (Nat.lt_succ_self k),va5,good (v2.2 ⟨hb.1,hb.2.1,hb.2.2.1,hb.2.2.2,va5⟩)⟩,?_,rfl,rfl⟩;rw[C7 _ va5 va5];rfl
  ·have h:=zA0 h;conv=>whnf
   congr 1
   exact(zD r7 (0,0) l fun i hi=>hk.2 i va5).symm
theorem uM(l:List (Int×Int))(hl:l.length<2^40):va6 197 [.slc 2 (l.map eF)] (.bool (l.all r7)) :=
 PC.last (args:=[]) (JW l hl) (.slc 2 (0,0) eF l)
theorem Gy(a:Int×Int):va6 197 [.slc 2 [eF a]] (.bool (r7 a)):=by
 have:=uM [a] va9;simpa using this
theorem uN(a b:Int×Int):va6 197 [.slc 2 [eF a,eF b]] (.bool (r7 a && r7 b)):=by
 have:=uM [a,b] va9;simpa using this
theorem JX(a:Int×Int):va6 156 [fr a] (i64 (if r7 a then 0 else 8)):=by
 refine pF Tryz.func156 ?_;conv=>whnf
 (repeat' ((first|refine va0 (fun hh=>?_) fun hh=>?_|refine kR ?_|((try refine .inl ?_;conv=>whnf);(try refine⟨false,?_⟩;conv=>whnf);refine⟨_,by exact Gy a,?_⟩)|fail)<;>first|exact hh.elim|conv=>whnf));all_goals simp_all
def bR(a b:Int×Int):Int:=if a.1*b.2<b.1*a.2 then -1 else if a.1*b.2=b.1*a.2 then 0 else 1
theorem lW{a b:Int×Int}(ha:r7 a=true)(hb:r7 b=true)(h:a.1*b.2=b.1*a.2):a=b:=by
 rw[F6]at ha hb;obtain⟨n,d⟩:=a;obtain⟨m,e⟩:=b;simp only[]at *
 have c1:Nat.Coprime n.natAbs d.natAbs:=ha.2.2.2.2;have c2:Nat.Coprime m.natAbs e.natAbs:=hb.2.2.2.2;have h':n.natAbs*e.natAbs=m.natAbs*d.natAbs:=by rw[<- Int.natAbs_mul,<- Int.natAbs_mul,h]
 have d1:d.natAbs ∣ e.natAbs:=c1.symm.dvd_of_dvd_mul_left ⟨m.natAbs,by rw[h',Nat.mul_comm]⟩;have d2:e.natAbs ∣ d.natAbs:=c2.symm.dvd_of_dvd_mul_left ⟨n.natAbs,by rw[<- h',Nat.mul_comm]⟩;have Mu:d=e:=by have:=Nat.dvd_antisymm d1 d2;omega
 subst Mu;have:n=m:=Int.eq_of_mul_eq_mul_right va5 h;rw[this]
theorem rz(a b:Int×Int)(ha:r7 a=true)(hb:r7 b=true):va6 198 [fr a,fr b] (i64 (bR a b)):=by
 have heq:=lW ha hb;rw[F6]at ha hb;obtain⟨n,d⟩:=a;obtain⟨m,e⟩:=b;simp only[]at *
 have i1:G7 n:=by unfold G7;omega
 have i2:G7 d:=by unfold G7;omega
 have i3:G7 m:=by unfold G7;omega
 have i4:G7 e:=by unfold G7;omega
 have p1:=Z1 n.natAbs e.natAbs va5 va5;have p2:=Z1 m.natAbs d.natAbs va5 va5;have hx:n.natAbs*e.natAbs<340282366920938463463374607431768211456:=Nat.lt_of_le_of_lt (Nat.mul_le_mul (show n.natAbs<=4611686018427387903 by omega) (show e.natAbs<=4611686018427387903 by omega)) va8;have hy:m.natAbs*d.natAbs<340282366920938463463374607431768211456:=Nat.lt_of_le_of_lt (Nat.mul_le_mul (show m.natAbs<=4611686018427387903 by omega) (show d.natAbs<=4611686018427387903 by omega)) va8;have FT:((n.natAbs*e.natAbs:Nat):Int)=if n<0 then -(n*e)else n*e:=by
  rw[Int.natCast_mul,show((e.natAbs:Nat):Int)=e by omega];split
  ·rw[show((n.natAbs:Nat):Int) = -n by omega,Int.neg_mul]
  ·rw[show((n.natAbs:Nat):Int)=n by omega]
 have hsy:((m.natAbs*d.natAbs:Nat):Int)=if m<0 then -(m*d)else m*d:=by
  rw[Int.natCast_mul,show((d.natAbs:Nat):Int)=d by omega];split
  ·rw[show((m.natAbs:Nat):Int) = -m by omega,Int.neg_mul]
  ·rw[show((m.natAbs:Nat):Int)=m by omega]
 have l1:=xa (n.natAbs*e.natAbs) (m.natAbs*d.natAbs) hx hy;have l2:=xa (m.natAbs*d.natAbs) (n.natAbs*e.natAbs) hy hx;have s1:0<n->0<n*e:=fun h=>Int.mul_pos h va5
 have s2:n<0->n*e<0:=fun h=>Int.mul_neg_of_neg_of_pos h va5
 have s3:0<m->0<m*d:=fun h=>Int.mul_pos h va5
 have s4:m<0->m*d<0:=fun h=>Int.mul_neg_of_neg_of_pos h va5
 have s5:n=0->n*e=0:=fun h=>by rw[h,Int.zero_mul]
 have s6:m=0->m*d=0:=fun h=>by rw[h,Int.zero_mul]
 have a0s:n*e=m*d->n=m/\d=e:=fun h=>by have:=heq h;simpa using this
 have a0t:n=m->d=e->n*e=m*d:=fun h1 h2=>by rw[h1,h2]
 have hc:bR (n,d) (m,e)=if n*e<m*d then -1 else if n*e=m*d then 0 else 1:=rfl
 generalize n.natAbs*e.natAbs=x at *
 generalize m.natAbs*d.natAbs=y at *
 generalize n*e=X at *
 generalize m*d=Y at *
 refine pF Tryz.func198 ?_;conv=>whnf
 (repeat' ((first|refine va0 (fun hh=>?_) fun hh=>?_|refine kR ?_|((try refine .inl ?_;conv=>whnf);(try refine⟨false,?_⟩;conv=>whnf);refine⟨_,by first|assumption|exact L1 n i1|exact L1 d i2|exact L1 m i3|exact L1 e i4,?_⟩)|fail)<;>first|exact hh.elim|conv=>whnf));all_goals
  clear p1 p2 l1 l2 heq ha hb hx hy i1 i2 i3 i4;rw[hc]
  congr 1
  clear hc;try simp only[reduceCtorEq,or_false]at *
  split at FT<;>split at hsy<;>(refine Eq.symm ?_)<;>first
   | (rw[if_pos va5];done)
   | (rw[if_neg va5,if_pos va5];done)
   | (rw[if_neg va5,if_neg va5];done)
   | (exfalso;omega)
abbrev X2:Type:=(Int×Int)×(Int×Int)
abbrev sp(s:X2):AV := .agg [i64 s.1.1,i64 s.1.2,i64 s.2.1,i64 s.2.2]
abbrev eS(s:X2):List AV:=[i64 s.1.1,i64 s.1.2,i64 s.2.1,i64 s.2.2]
abbrev YF(l:List X2):AV := .sl 4 (((0:Int),(0:Int)),((0:Int),(0:Int))) eS l
def z7(s:X2):Bool:=r7 s.1 && r7 s.2 && decide (bR s.1 s.2<=0)
theorem zE(l:List X2)(hl:l.length<2^40):va6 145 [YF l] (.bool (l.all z7)):=by
 refine pF Tryz.func145 ?_;conv=>whnf
 refine Or.inr ⟨Nat,[7],[],[],fun k=>[i64 k],fun _=>[],fun _=>[],fun k=>l.length-k,fun k=>k<=l.length/\∀ i,i<k->z7 (l.getD i ((0,0),(0,0)))=true,?_⟩;conv=>whnf
 refine⟨⟨0,?_⟩,?_⟩
 ·(conv=>whnf);exact kK ⟨by simp,rfl,rfl,rfl⟩
 ·intro k hk;conv=>whnf
  refine⟨fun h=>?_,fun h=>?_⟩
  ·have h:=zA1 h;conv=>whnf
   have hg:l.getD (Int.toNat (k:Int)) ((0,0),(0,0))=l.getD k ((0,0),(0,0)):=rfl;refine⟨⟨va5,va5⟩,?_⟩;rw[hg];have bad:z7 (l.getD k ((0,0),(0,0)))=false->l.all z7=false:=zC z7 _ l k va5;have good:z7 (l.getD k ((0,0),(0,0)))=true->∀ i,i<k+1->z7 (l.getD i ((0,0),(0,0)))=true:=fun h i hi=>by
    by_cases e:i=k
    ·subst e;exact h
    ·exact hk.2 i va5
   generalize l.getD k ((0,0),(0,0))=x at bad good ⊢;obtain⟨⟨n,d⟩,⟨m,e⟩⟩:=x;have v:=uN (n,d) (m,e);conv=>whnf
   (repeat' ((first|refine va0 (fun hh=>?_) fun hh=>?_|refine kR ?_|((try refine .inl ?_;conv=>whnf);(try refine⟨false,?_⟩;conv=>whnf);refine⟨_,by assumption,?_⟩)|fail)<;>first|exact hh.elim|conv=>whnf))
   ·rw[bad (by simp only[z7];rcases hh with h|h<;>simp[h])]
   ·have o:=rz (n,d) (m,e) hh.1 hh.2;have Xm:z7 ((n,d),(m,e))=decide (bR (n,d) (m,e)<=0):=by simp[z7,hh.1,hh.2]
    generalize bR (n,d) (m,e)=c at o Xm;(repeat' ((first|refine va0 (fun hh=>?_) fun hh=>?_|refine kR ?_|((try refine .inl ?_;conv=>whnf);(try refine⟨false,?_⟩;conv=>whnf);refine⟨_,by assumption,?_⟩)|fail)<;>first|exact hh.elim|conv=>whnf))
    ·rw[bad (by rw[Xm];exact zA5 va5)]
    ·refine⟨k+1,?_⟩;conv=>whnf
     refine kK ⟨⟨Nat.sub_lt_sub_left va5 (Nat.lt_succ_self k),va5,good (by rw[Xm];exact zA4 va5)⟩,?_,rfl,rfl⟩;rw[C7 _ va5 va5];rfl
  ·have h:=zA0 h;conv=>whnf
   congr 1
   exact(zD z7 _ l fun i hi=>hk.2 i va5).symm
theorem uO(a:X2):va6 145 [.slc 4 [eS a]] (.bool (z7 a)):=by
 have:=PC.last (args:=[]) (zE [a] va9) (.slc 4 _ eS [a]);simpa using this
theorem nz(a b:X2):va6 145 [.slc 4 [eS a,eS b]] (.bool (z7 a && z7 b)):=by
 have:=PC.last (args:=[]) (zE [a,b] va9) (.slc 4 _ eS [a,b]);simpa using this
theorem cL(a:X2):va6 141 [sp a] (i64 (if z7 a then 0 else 8)):=by
 refine pF Tryz.func141 ?_;conv=>whnf
 (repeat' ((first|refine va0 (fun hh=>?_) fun hh=>?_|refine kR ?_|((try refine .inl ?_;conv=>whnf);(try refine⟨false,?_⟩;conv=>whnf);refine⟨_,by exact uO a,?_⟩)|fail)<;>first|exact hh.elim|conv=>whnf));all_goals simp_all

end Go.Proofs.Tryz.My
