/- Helper lemmas. -/
import Derived.Test.YtdpnpdjnaimgaaaGreatMzExB
set_option linter.unusedVariables false
set_option linter.unusedSimpArgs false
set_option maxRecDepth 100000
set_option maxHeartbeats 0
namespace Go.Proofs.Tryz.My
open Go Go.Ev
theorem a1n(a b:Nat)(ha:a<170141183460469231731687303715884105728)(hb:b<170141183460469231731687303715884105728):va6 254 [pr a,pr b] (pr (Nat.gcd a b)):=by
 refine pF Tryz.func254 ?_;conv=>whnf
 refine Or.inr ⟨Nat×Nat,[],[2,3],[],fun _=>[],fun i=>[cW i.1,cW i.2],fun _=>[],fun i=>i.2,fun i=>Nat.gcd i.1 i.2=Nat.gcd a b/\i.1<170141183460469231731687303715884105728/\i.2<170141183460469231731687303715884105728,?_⟩;conv=>whnf
 refine⟨⟨(a,b),?_⟩,?_⟩
 ·(conv=>whnf);exact kK ⟨⟨rfl,ha,hb⟩,rfl,rfl,rfl⟩
 ·rintro⟨x,y⟩ ⟨h1,h2,h3⟩;simp only[]at h1 h2 h3;conv=>whnf
  refine⟨va4,?_⟩;by_cases hy:y=0
  ·subst hy;conv=>whnf
   refine vb8 ?_;(repeat intro hh);show pr x=_
   rw[<- h1,Nat.gcd_zero_right]
  ·have cc:=a0M x y va5 va5 h3;conv=>whnf
   refine vb7 ?_;(repeat intro hh);refine⟨(y,x % y),?_⟩;conv=>whnf
   refine kK ⟨⟨Nat.mod_lt _ va5,?_,h3,?_⟩,rfl,rfl,rfl⟩
   ·show Nat.gcd y (x % y)=_
    rw[<- h1,Nat.gcd_comm x y,Nat.gcd_rec y x,Nat.gcd_comm]
   ·exact Nat.lt_of_le_of_lt (Nat.mod_le x y) h2
def a12(sg:Int)(n d:Nat):(Int×Int)×Bool:=if n<=4611686018427387903/\d<=4611686018427387903 then((if sg<0 then -(n:Int)else(n:Int),(d:Int)),true)else((0,0),false)
def a08(sg:Int)(N D:Nat):(Int×Int)×Bool:=a12 sg (N / Nat.gcd N D) (D / Nat.gcd N D)
theorem a0r(sg:Int)(N D:Nat)(hN:N<170141183460469231731687303715884105728)(hD:D<170141183460469231731687303715884105728)(hD0:0<D):va6 298 [i64 sg,pr N,pr D] (.tup [fr (a08 sg N D).1,.bool (a08 sg N D).2]):=by
 have hg:0<Nat.gcd N D:=Nat.gcd_pos_of_pos_right _ hD0;have c1:=a1n N D hN hD;have hle:Nat.gcd N D<=D:=Nat.gcd_le_right _ hD0;have c2:=a0M N (Nat.gcd N D) va5 hg va5;have c3:=a0M D (Nat.gcd N D) va5 hg va5;have hl:a08 sg N D=a12 sg (N / Nat.gcd N D) (D / Nat.gcd N D):=rfl;have q1:N / Nat.gcd N D<340282366920938463463374607431768211456:=Nat.lt_of_le_of_lt (Nat.div_le_self _ _) va5;have q2:D / Nat.gcd N D<340282366920938463463374607431768211456:=Nat.lt_of_le_of_lt (Nat.div_le_self _ _) va5;rw[hl];generalize N / Nat.gcd N D=n at *
 generalize D / Nat.gcd N D=d at *
 have bad:¬ (n<=4611686018427387903/\d<=4611686018427387903)->a12 sg n d=((0,0),false):=fun h=>by simp only[a12,h,if_false]
 refine pF Tryz.func298 ?_;conv=>whnf
 (repeat' ((first|refine va0 (fun hh=>?_) fun hh=>?_|refine kR ?_|((try refine .inl ?_;conv=>whnf);(try refine⟨false,?_⟩;conv=>whnf);refine⟨_,by assumption,?_⟩)|fail)<;>first|exact hh.elim|conv=>whnf))
 ·rw[bad va5]
 ·rw[bad va5]
 ·rw[bad va5]
 ·rw[bad va5]
 ·have h1:n<=4611686018427387903/\d<=4611686018427387903:=by omega
  have e1:n % 18446744073709551616=n:=by omega
  have e2:d % 18446744073709551616=d:=by omega
  rw[e1,e2,wi (n:Int) va5 va5,wi (d:Int) va5 va5,wi _ va5 va5];simp[a12,h1,hh]
 ·have h1:n<=4611686018427387903/\d<=4611686018427387903:=by omega
  have e1:n % 18446744073709551616=n:=by omega
  have e2:d % 18446744073709551616=d:=by omega
  rw[e1,e2,wi (n:Int) va5 va5,wi (d:Int) va5 va5];have hh':¬ sg<0:=by omega
  simp[a12,h1,hh']
theorem a4e(x:Int×Int)(b:Bool):va6 329 [fr x,.bool b] (.tup [fr (if b then x else(0,0)),i64 (if b then 0 else 4)]):=by
 refine pF Tryz.func329 ?_;conv=>whnf
 (repeat' ((first|refine va0 (fun hh=>?_) fun hh=>?_|refine kR ?_|fail)<;>first|exact hh.elim|conv=>whnf));all_goals simp_all
theorem a2R(a b:Int):cw a*cw b=if a=0∨b=0 then 0 else if (decide (a<0) != decide (b<0))=true then -1 else 1:=by
 unfold cw;by_cases h1:a<0<;>by_cases h2:b<0<;>by_cases h3:0<a<;>by_cases h4:0<b<;>simp[h1,h2,h3,h4]<;>omega
theorem a3A(num den:Int)(hd:den≠0):M9 num den=(if (a08 (cw num*cw den) num.natAbs den.natAbs).2 then(a08 (cw num*cw den) num.natAbs den.natAbs).1 else(0,0),if (a08 (cw num*cw den) num.natAbs den.natAbs).2 then 0 else 4):=by
 unfold M9 a08;rw[if_neg hd,a2R];by_cases h0:num=0
 ·subst h0;simp[ab,a12];split<;>simp
 ·unfold ab a12;have:¬ (num=0∨den=0):=by omega
  rw[if_neg this];generalize (decide (num<0) != decide (den<0))=b;split<;>cases b<;>simp
theorem a3B(num den:Int)(h1:G7 num)(h2:G7 den):va6 322 [i64 num,i64 den] (.tup [fr (M9 num den).1,i64 (M9 num den).2]):=by
 have l1:=JV h1;have l2:=JV h2;by_cases hd:den=0
 ·subst hd;refine pF Tryz.func322 ?_;conv=>whnf
  refine vb8 ?_;(repeat intro hh);all_goals simp[M9]
 ·rw[a3A num den hd];have hsg:G7 (cw num*cw den):=by rw[a2R];unfold G7;split<;>(try split)<;>omega
  have c1:=a0r (cw num*cw den) num.natAbs den.natAbs va5 va5 va5;rw[zB _ l1,zB _ l2]at c1;have c2:=a4e (a08 (cw num*cw den) num.natAbs den.natAbs).1 (a08 (cw num*cw den) num.natAbs den.natAbs).2;generalize a08 (cw num*cw den) num.natAbs den.natAbs=x at *
  refine pF Tryz.func322 ?_;conv=>whnf
  (repeat' ((first|refine va0 (fun hh=>?_) fun hh=>?_|refine kR ?_|((try refine .inl ?_;conv=>whnf);(try refine⟨false,?_⟩;conv=>whnf);refine⟨_,by first|exact cn num|exact cn den|exact o5 num h1|exact o5 den h2,?_⟩)|fail)<;>first|exact hh.elim|conv=>whnf));have e:IntKind.i64.wrap (cw num*cw den)=cw num*cw den:=C7 _ hsg.1 hsg.2;rw[e];try exact va1
theorem a0N(x:Int×Int)(h1:G7 x.1)(h2:G7 x.2):va6 205 [fr x] (.bool (r7 x)):=by
 have v1:=xd x;have v2:=F6 x;obtain⟨n,d⟩:=x;simp only[]at v1 v2 h1 h2;have c1:=a1n n.natAbs d.natAbs (by unfold G7 at h1;omega) (by unfold G7 at h2;omega);have l1:=JV h1;have l2:=JV h2;rw[zB _ l1,zB _ l2]at c1;have YH:d≠0->Nat.gcd n.natAbs d.natAbs<18446744073709551616:=fun h=>Nat.lt_of_le_of_lt (Nat.gcd_le_right _ va5) l2
 refine pF Tryz.func205 ?_;conv=>whnf
 (repeat' ((first|refine va0 (fun hh=>?_) fun hh=>?_|refine kR ?_|((try refine .inl ?_;conv=>whnf);(try refine⟨false,?_⟩;conv=>whnf);refine⟨_,by first|assumption|exact o5 n h1|exact o5 d h2,?_⟩)|fail)<;>first|exact hh.elim|conv=>whnf))
 ·rw[v1.2 va5]
 ·rw[v1.2 va5]
 ·rw[v1.2 va5]
 ·rw[v1.2 va5]
 ·congr 1
  have hg:=YH va5;by_cases hv:Nat.gcd n.natAbs d.natAbs=1
  ·rw[v2.2 ⟨va5,va5,va5,va5,hv⟩,hv];rfl
  ·rw[v1.2 (fun h=>hv h.2.2.2.2)];have:decide ((((Nat.gcd n.natAbs d.natAbs) % 18446744073709551616:Nat):Int)=1)=false:=zA5 va5;rw[this,Bool.false_and,Bool.and_false]
theorem dn(a b:Int×Int)(ha:r7 a=true)(hb:r7 b=true):va6 257 [fr a,fr b] (i64 (bR a b)):=by
 rw[F6]at ha hb;obtain⟨n,d⟩:=a;obtain⟨m,e⟩:=b;simp only[]at *
 have i1:G7 n:=by unfold G7;omega
 have i2:G7 d:=by unfold G7;omega
 have i3:G7 m:=by unfold G7;omega
 have i4:G7 e:=by unfold G7;omega
 have p1:=cz n.natAbs e.natAbs va5 va5;have p2:=cz m.natAbs d.natAbs va5 va5;have hx:n.natAbs*e.natAbs<340282366920938463463374607431768211456:=Nat.lt_of_le_of_lt (Nat.mul_le_mul (show n.natAbs<=4611686018427387903 by omega) (show e.natAbs<=4611686018427387903 by omega)) va8;have hy:m.natAbs*d.natAbs<340282366920938463463374607431768211456:=Nat.lt_of_le_of_lt (Nat.mul_le_mul (show m.natAbs<=4611686018427387903 by omega) (show d.natAbs<=4611686018427387903 by omega)) va8;have FT:((n.natAbs*e.natAbs:Nat):Int)=if n<0 then -(n*e)else n*e:=by
  rw[Int.natCast_mul,show((e.natAbs:Nat):Int)=e by omega];split
  ·rw[show((n.natAbs:Nat):Int) = -n by omega,Int.neg_mul]
  ·rw[show((n.natAbs:Nat):Int)=n by omega]
 have hsy:((m.natAbs*d.natAbs:Nat):Int)=if m<0 then -(m*d)else m*d:=by
  rw[Int.natCast_mul,show((d.natAbs:Nat):Int)=d by omega];split
  ·rw[show((m.natAbs:Nat):Int) = -m by omega,Int.neg_mul]
  ·rw[show((m.natAbs:Nat):Int)=m by omega]
 have l1:=a1m (n.natAbs*e.natAbs) (m.natAbs*d.natAbs) hx hy;have s1:0<n->0<n*e:=fun h=>Int.mul_pos h va5
 have s2:n<0->n*e<0:=fun h=>Int.mul_neg_of_neg_of_pos h va5
 have s3:0<m->0<m*d:=fun h=>Int.mul_pos h va5
 have s4:m<0->m*d<0:=fun h=>Int.mul_neg_of_neg_of_pos h va5
 have s5:n=0->n*e=0:=fun h=>by rw[h,Int.zero_mul]
 have s6:m=0->m*d=0:=fun h=>by rw[h,Int.zero_mul]
 have hc:bR (n,d) (m,e)=if n*e<m*d then -1 else if n*e=m*d then 0 else 1:=rfl
 generalize n.natAbs*e.natAbs=x at *
 generalize m.natAbs*d.natAbs=y at *
 generalize n*e=X at *
 generalize m*d=Y at *
 have g1:=cn n;have g2:=cn m;have g3:=cn (cw n-cw m);have r1:cw n=if n<0 then -1 else if 0<n then 1 else 0:=rfl
 have r2:cw m=if m<0 then -1 else if 0<m then 1 else 0:=rfl
 have r3:cw (cw n-cw m)=if cw n-cw m<0 then -1 else if 0<cw n-cw m then 1 else 0:=rfl
 generalize cw n=sn at *
 generalize cw m=sm at *
 generalize cw (sn-sm)=sd at *
 have e1:IntKind.i64.wrap (sn-sm)=sn-sm:=wi _ (by split at r1<;>(try split at r1)<;>split at r2<;>(try split at r2)<;>omega) (by split at r1<;>(try split at r1)<;>split at r2<;>(try split at r2)<;>omega);have e2:IntKind.i64.wrap (0-sn)=0-sn:=wi _ (by split at r1<;>(try split at r1)<;>omega) (by split at r1<;>(try split at r1)<;>omega);refine pF Tryz.func257 ?_;conv=>whnf
 (repeat' ((first|refine va0 (fun hh=>?_) fun hh=>?_|refine kR ?_|((try refine .inl ?_;conv=>whnf);(try refine⟨false,?_⟩;conv=>whnf);refine⟨_,by assumption,?_⟩)|fail)<;>first|exact hh.elim|conv=>whnf))
 ·rw[e1];refine vb7 ?_;(repeat intro hh);rw[hc]
  congr 1
  split at r1<;>(try split at r1)<;>split at r2<;>(try split at r2)<;>first
   | (rw[if_pos va5];omega)
   | (rw[if_neg va5,if_pos va5];omega)
   | (rw[if_neg va5,if_neg va5];omega)
 ·(repeat' ((first|refine va0 (fun hh=>?_) fun hh=>?_|refine kR ?_|((try refine .inl ?_;conv=>whnf);(try refine⟨false,?_⟩;conv=>whnf);refine⟨_,by first|assumption|exact o5 n i1|exact o5 d i2|exact o5 m i3|exact o5 e i4,?_⟩)|fail)<;>first|exact hh.elim|conv=>whnf))
  case' refine_2.refine_2.refine_1=>((repeat' ((first|refine aU fun hh=>?_|refine aV fun hh=>?_|refine aS (fun hh=>?_) fun hh=>?_|refine kR ?_|((try refine .inl ?_;conv=>whnf);(try refine⟨false,?_⟩;conv=>whnf);refine⟨_,by assumption,?_⟩)|fail)<;>conv=>whnf));rw[e2];(repeat' ((first|refine aU fun hh=>?_|refine aV fun hh=>?_|refine aS (fun hh=>?_) fun hh=>?_|refine kR ?_|fail)<;>conv=>whnf)))
  case' refine_2.refine_2.refine_2=>(repeat' ((first|refine va0 (fun hh=>?_) fun hh=>?_|refine kR ?_|((try refine .inl ?_;conv=>whnf);(try refine⟨false,?_⟩;conv=>whnf);refine⟨_,by assumption,?_⟩)|fail)<;>first|exact hh.elim|conv=>whnf))
  all_goals
   rw[hc]
   congr 1
   clear hc p1 p2 l1 g1 g2 g3 r3 i1 i2 i3 i4 ha hb;try simp only[reduceCtorEq,or_false,and_true]at *
   split at r1<;>(try split at r1)<;>split at r2<;>(try split at r2)<;>split at FT<;>split at hsy<;>first
    | (exfalso;omega)
    | (rw[if_pos va5];first|done|omega)
    | (rw[if_neg va5,if_pos va5];first|done|omega)
    | (rw[if_neg va5,if_neg va5];first|done|omega)
theorem kG(a:X2)(h1:G7 a.1.1)(h2:G7 a.1.2)(h3:G7 a.2.1)(h4:G7 a.2.2):va6 209 [sp a] (.bool (z7 a)):=by
 have v1:=a0N a.1 h1 h2;have v2:=a0N a.2 h3 h4;have o:=dn a.1 a.2;have hs:z7 a=(r7 a.1 && r7 a.2 && decide (bR a.1 a.2<=0)):=rfl;rw[hs];cases e1:r7 a.1
 ·rw[e1]at v1;refine pF Tryz.func209 ?_;conv=>whnf
  refine vb7 ?_;(repeat intro hh);all_goals simp
 ·cases e2:r7 a.2
  ·rw[e1]at v1;rw[e2]at v2;refine pF Tryz.func209 ?_;conv=>whnf
   refine vb7 ?_;(repeat intro hh);all_goals simp
  ·rw[e1]at v1;rw[e2]at v2;have o:=o e1 e2;refine pF Tryz.func209 ?_;conv=>whnf
   refine vb7 ?_;(repeat intro hh);all_goals simp
abbrev okF(r:(Int×Int)×Int):AV := .tup [fr r.1,.bool (decide (r.2=0))]
theorem a3C{sg:Int}{N D:Nat}(hD:0<D){r:(Int×Int)×Int}(hr:r=M9 (if sg<0 then -(N:Int)else(N:Int)) (D:Int)):a08 sg N D=(r.1,decide (r.2=0)):=by
 rw[hr,bm va5];unfold a08;have e1:(if sg<0 then -(N:Int)else(N:Int)).natAbs=N:=by split<;>omega
 rw[e1,Int.natAbs_natCast];unfold a12 ab;have hg:0<Nat.gcd N D:=Nat.gcd_pos_of_pos_right _ hD;by_cases hc:N / Nat.gcd N D<=4611686018427387903/\D / Nat.gcd N D<=4611686018427387903
 ·simp only[hc,and_self,if_true];by_cases hs:sg<0
  ·by_cases hn:N=0
   ·subst hn;simp[hs]
   ·have : -(N:Int)<0:=by omega
    simp[hs,this];intro h;omega
  ·have:¬ (N:Int)<0:=by omega
   simp[hs,this]
 ·simp only[hc,if_false];simp
theorem a4f(a:Int×Int)(h:r7 a=true):va6 262 [fr a] (fr (CY a)):=by
 have:=(F6 a).1 h;refine pF Tryz.func262 ?_;conv=>whnf
 refine vb8 ?_;(repeat intro hh);rw[wi _ va5 va5,show 0-a.1 = -a.1 by omega];rfl
theorem oo(n:Int):(n<0/\cw n = -1)∨(n=0/\cw n=0)∨(0<n/\cw n=1):=by
 unfold cw;by_cases h1:n<0
 ·simp[h1]
 ·by_cases h2:0<n
  ·simp[h1,h2]
  ·right;left;simp[h1,h2];omega
theorem a13(n:Int)(k:Int)(hk:0<=k):((n.natAbs*k.natAbs:Nat):Int)=if n<0 then -(n*k)else n*k:=by
 rw[Int.natCast_mul,show((k.natAbs:Nat):Int)=k by omega];split
 ·rw[show((n.natAbs:Nat):Int) = -n by omega,Int.neg_mul]
 ·rw[show((n.natAbs:Nat):Int)=n by omega]
theorem a3D(a b:Int×Int)(ha:r7 a=true)(hb:r7 b=true):va6 261 [fr a,fr b] (okF (lZ a b)):=by
 have va:=(F6 a).1 ha;have vb:=(F6 b).1 hb;have hdef:lZ a b=M9 (a.1*b.2+b.1*a.2) (a.2*b.2):=rfl;obtain⟨n,d⟩:=a;obtain⟨m,e⟩:=b;simp only[]at *
 have i1:G7 n:=by unfold G7;omega
 have i2:G7 d:=by unfold G7;omega
 have i3:G7 m:=by unfold G7;omega
 have i4:G7 e:=by unfold G7;omega
 have p1:=cz n.natAbs e.natAbs va5 va5;have p2:=cz m.natAbs d.natAbs va5 va5;have p3:=cz d.natAbs e.natAbs va5 va5;have hx:n.natAbs*e.natAbs<=4611686018427387903*4611686018427387903:=Nat.mul_le_mul va5 va5;have hy:m.natAbs*d.natAbs<=4611686018427387903*4611686018427387903:=Nat.mul_le_mul va5 va5;have hd:d.natAbs*e.natAbs<=4611686018427387903*4611686018427387903:=Nat.mul_le_mul va5 va5;have aC:0<d.natAbs*e.natAbs:=Nat.mul_pos va5 va5;have kx:=a13 n e va5;have ky:=a13 m d va5;have kd:=a13 d e va5;rw[if_neg va5]at kd;rw[<- kd]at hdef;have c2:=a1m (n.natAbs*e.natAbs) (m.natAbs*d.natAbs) va5 va5;have low:=fun(sg:Int) (N:Nat) (h:n*e+m*d=if sg<0 then -(N:Int)else(N:Int))=>a3C (sg:=sg) (N:=N) aC (r:=lZ (n,d) (m,e)) (by rw[hdef,h])
 generalize lZ (n,d) (m,e)=res at *
 have z1:n=0->n*e=0:=fun h=>by rw[h,Int.zero_mul]
 have z2:m=0->m*d=0:=fun h=>by rw[h,Int.zero_mul]
 generalize n.natAbs*e.natAbs=X at *
 generalize m.natAbs*d.natAbs=Y at *
 generalize d.natAbs*e.natAbs=D at *
 generalize n*e=NX at *
 generalize m*d=MY at *
 have cl:=fun(sg:Int) (N:Nat) (hN:N<170141183460469231731687303715884105728)=>a0r sg N D hN va5 aC
 have sn:=oo n;have sm:=oo m;have g1:=cn n;have g2:=cn m;generalize cw n=s at *
 generalize cw m=t at *
 clear hdef kd ha hb;have yH:IntKind.i64.wrap (s*t)=s*t:=by
  rcases sn with ⟨_,h⟩|⟨_,h⟩|⟨_,h⟩<;>rcases sm with ⟨_,h'⟩|⟨_,h'⟩|⟨_,h'⟩<;>subst h<;>subst h'<;>decide
 have hst2:IntKind.i64.wrap (s+t)=s+t:=by
  rcases sn with ⟨_,h⟩|⟨_,h⟩|⟨_,h⟩<;>rcases sm with ⟨_,h'⟩|⟨_,h'⟩|⟨_,h'⟩<;>subst h<;>subst h'<;>decide
 have hdiff:0<=s*t↔¬ ((n<0/\0<m)∨(0<n/\m<0)):=by
  rcases sn with ⟨_,h⟩|⟨_,h⟩|⟨_,h⟩<;>rcases sm with ⟨_,h'⟩|⟨_,h'⟩|⟨_,h'⟩<;>subst h<;>subst h'<;>omega
 have c2u:=fun _:Unit=>c2
 clear c2;refine pF Tryz.func261 ?_;conv=>whnf
 (repeat' ((first|refine va0 (fun hh=>?_) fun hh=>?_|refine kR ?_|((try refine .inl ?_;conv=>whnf);(try refine⟨false,?_⟩;conv=>whnf);refine⟨_,by first|assumption|exact o5 n i1|exact o5 d i2|exact o5 m i3|exact o5 e i4,?_⟩)|fail)<;>first|exact hh.elim|conv=>whnf))
 ·rw[yH]at hh;have hs:=hdiff.1 hh;have l:=low (s+t) (X+Y) (by rw[Int.natCast_add,kx,ky];split<;>split<;>split<;>omega);have c:=cl (s+t) (X+Y) va5;rw[l]at c;have cp:=a0y X Y va5;refine vb7 ?_;(repeat intro hh);rw[hst2];try exact va1
 ·rw[yH]at hh;have hs:(n<0/\0<m)∨(0<n/\m<0):=by
   rcases Classical.em ((n<0/\0<m)∨(0<n/\m<0))with h|h
   ·exact h
   ·exact absurd (hdiff.2 h) hh
  clear hh yH hst2 hdiff;(repeat' ((first|refine va0 (fun hh=>?_) fun hh=>?_|refine kR ?_|((try refine .inl ?_;conv=>whnf);(try refine⟨false,?_⟩;conv=>whnf);refine⟨_,by exact c2u (),?_⟩)|fail)<;>first|exact hh.elim|conv=>whnf))
  ·have l:=low t (Y-X) (by split at kx<;>split at ky<;>split<;>omega);have c:=cl t (Y-X) va5;rw[l]at c;have cp:=a0L Y X va5 va5;try exact va1
  ·have l:=low s (X-Y) (by split at kx<;>split at ky<;>split<;>omega);have c:=cl s (X-Y) va5;rw[l]at c;have cp:=a0L X Y va5 va5;try exact va1
theorem a4g(n m:Int):((n.natAbs*m.natAbs:Nat):Int)=if (n<0/\0<m)∨(0<n/\m<0)then -(n*m)else n*m:=by
 rw[Int.natCast_mul];by_cases h1:n<0
 ·rw[show((n.natAbs:Nat):Int) = -n by omega];by_cases h2:m<0
  ·rw[show((m.natAbs:Nat):Int) = -m by omega,if_neg va5];grind
  ·rw[show((m.natAbs:Nat):Int)=m by omega];by_cases h3:m=0
   ·subst h3;simp
   ·rw[if_pos va5];grind
 ·rw[show((n.natAbs:Nat):Int)=n by omega];by_cases h2:m<0
  ·rw[show((m.natAbs:Nat):Int) = -m by omega];by_cases h3:n=0
   ·subst h3;simp
   ·rw[if_pos va5];grind
  ·rw[show((m.natAbs:Nat):Int)=m by omega,if_neg va5]
theorem a3E(n m:Int):cw n*cw m<0↔(n<0/\0<m)∨(0<n/\m<0):=by
 rcases oo n with ⟨_,h⟩|⟨_,h⟩|⟨_,h⟩<;>rcases oo m with ⟨_,h'⟩|⟨_,h'⟩|⟨_,h'⟩<;>rw[h,h']<;>omega
theorem a2B(n m:Int):IntKind.i64.wrap (cw n*cw m)=cw n*cw m:=by
 rcases oo n with ⟨_,h⟩|⟨_,h⟩|⟨_,h⟩<;>rcases oo m with ⟨_,h'⟩|⟨_,h'⟩|⟨_,h'⟩<;>rw[h,h']<;>decide
theorem a0l(a b:Int×Int)(ha:r7 a=true)(hb:r7 b=true):va6 263 [fr a,fr b] (okF (gC a b)):=by
 have va:=(F6 a).1 ha;have vb:=(F6 b).1 hb;have hdef:gC a b=M9 (a.1*b.1) (a.2*b.2):=rfl;obtain⟨n,d⟩:=a;obtain⟨m,e⟩:=b;simp only[]at *
 have i1:G7 n:=by unfold G7;omega
 have i2:G7 d:=by unfold G7;omega
 have i3:G7 m:=by unfold G7;omega
 have i4:G7 e:=by unfold G7;omega
 have p1:=cz n.natAbs m.natAbs va5 va5;have p3:=cz d.natAbs e.natAbs va5 va5;have hx:n.natAbs*m.natAbs<=4611686018427387903*4611686018427387903:=Nat.mul_le_mul va5 va5;have hd:d.natAbs*e.natAbs<=4611686018427387903*4611686018427387903:=Nat.mul_le_mul va5 va5;have aC:0<d.natAbs*e.natAbs:=Nat.mul_pos va5 va5;have kx:=a4g n m;have kd:=a13 d e va5;rw[if_neg va5]at kd;rw[<- kd]at hdef;have sp:=a3E n m;have spi:=a2B n m;have l:=a3C (sg:=cw n*cw m) (N:=n.natAbs*m.natAbs) aC (r:=gC (n,d) (m,e)) (by
  rw[hdef,kx]
  congr 1
  by_cases h:(n<0/\0<m)∨(0<n/\m<0)
  ·rw[if_pos h,if_pos (sp.2 h)];omega
  ·rw[if_neg h,if_neg (fun k=>h (sp.1 k))])
 have c:=a0r (cw n*cw m) (n.natAbs*m.natAbs) (d.natAbs*e.natAbs) va5 va5 aC;rw[l]at c;have g1:=cn n;have g2:=cn m;generalize gC (n,d) (m,e)=res at *
 generalize n.natAbs*m.natAbs=X at *
 generalize d.natAbs*e.natAbs=D at *
 generalize cw n=s at *
 generalize cw m=t at *
 refine pF Tryz.func263 ?_;conv=>whnf
 (repeat' ((first|refine va0 (fun hh=>?_) fun hh=>?_|refine kR ?_|((try refine .inl ?_;conv=>whnf);(try refine⟨false,?_⟩;conv=>whnf);refine⟨_,by first|assumption|exact o5 n i1|exact o5 d i2|exact o5 m i3|exact o5 e i4,?_⟩)|fail)<;>first|exact hh.elim|conv=>whnf));rw[spi];try exact va1
theorem a0m(a b:Int×Int)(ha:r7 a=true)(hb:r7 b=true):va6 301 [fr a,fr b] (fr (X6 a b)):=by
 have c:=dn a b ha hb;rw[NL ha hb];generalize bR a b=x at *
 refine pF Tryz.func301 ?_;conv=>whnf
 (repeat' ((first|refine va0 (fun hh=>?_) fun hh=>?_|refine kR ?_|((try refine .inl ?_;conv=>whnf);(try refine⟨false,?_⟩;conv=>whnf);refine⟨_,by assumption,?_⟩)|fail)<;>first|exact hh.elim|conv=>whnf))
 ·rw[if_pos hh]
 ·rw[if_neg hh]
theorem a0z(a b:Int×Int)(ha:r7 a=true)(hb:r7 b=true):va6 302 [fr a,fr b] (fr (X7 a b)):=by
 have c:=dn a b ha hb;rw[a4c ha hb];generalize bR a b=x at *
 refine pF Tryz.func302 ?_;conv=>whnf
 (repeat' ((first|refine va0 (fun hh=>?_) fun hh=>?_|refine kR ?_|((try refine .inl ?_;conv=>whnf);(try refine⟨false,?_⟩;conv=>whnf);refine⟨_,by assumption,?_⟩)|fail)<;>first|exact hh.elim|conv=>whnf))
 ·rw[if_pos hh]
 ·rw[if_neg hh]
def a1L(a b c d:(Int×Int)×Int):X2×Int:=if a.2=0/\b.2=0/\c.2=0/\d.2=0 then((X6 (X6 (X6 a.1 b.1) c.1) d.1,X7 (X7 (X7 a.1 b.1) c.1) d.1),0)else(zS,4)
theorem a28{op:Int×Int->Int×Int->(Int×Int)×Int}{p q r s:X2}(hp:∃ x,jN x (op p.1 p.2))(hq:∃ x,jN x (op q.1 q.2))(hr:∃ x,jN x (op r.1 r.2))(hs:∃ x,jN x (op s.1 s.2)) :
  N1 op [p,q,r,s]=a1L (op p.1 p.2) (op q.1 q.2) (op r.1 r.2) (op s.1 s.2):=by
 obtain⟨_,hp⟩:=hp;obtain⟨_,hq⟩:=hq;obtain⟨_,hr⟩:=hr;obtain⟨_,hs⟩:=hs;simp only[N1,O1,a1L];by_cases h1:(op p.1 p.2).2=0
 ·by_cases h2:(op q.1 q.2).2=0
  ·by_cases h3:(op r.1 r.2).2=0
   ·by_cases h4:(op s.1 s.2).2=0
    ·simp[h1,h2,h3,h4]
    ·have:=hs.bad h4;simp[h1,h2,h3,h4,this]
   ·have:=hr.bad h3;simp[h1,h2,h3,this]
  ·have:=hq.bad h2;simp[h1,h2,this]
 ·have:=hp.bad h1;simp[h1,this]
theorem a3F(a:Int×Int):X6 a a=a:=by unfold X6;split<;>rfl
theorem a3G(a:Int×Int):X7 a a=a:=by unfold X7;split<;>rfl
theorem a14(a1 a2 b1 b2 c1 c2 d1 d2:Int)(x y z:Bool):va6 264 [.agg [i64 a1,i64 a2,i64 b1,i64 b2,i64 c1,i64 c2,i64 d1,i64 d2],.agg [.bool false,.bool x,.bool y,.bool z]] (.tup [sp zS,i64 4]):=by
 refine pF Tryz.func264 ?_;conv=>whnf
 refine Or.inl ⟨5,?_⟩;conv=>whnf
 refine⟨fun _=>?_,fun h=>absurd h va8⟩;conv=>whnf
 refine⟨⟨va8,va8⟩,?_⟩;conv=>whnf
 refine⟨fun _=>?_,fun h=>absurd h va8⟩;conv=>whnf
theorem a15(a1 a2 b1 b2 c1 c2 d1 d2:Int)(y z:Bool):va6 264 [.agg [i64 a1,i64 a2,i64 b1,i64 b2,i64 c1,i64 c2,i64 d1,i64 d2],.agg [.bool true,.bool false,.bool y,.bool z]] (.tup [sp zS,i64 4]):=by
 refine pF Tryz.func264 ?_;conv=>whnf
 refine Or.inl ⟨5,?_⟩;conv=>whnf
 refine⟨fun _=>?_,fun h=>absurd h va8⟩;conv=>whnf
 refine⟨⟨va8,va8⟩,?_⟩;conv=>whnf
 refine⟨fun h=>absurd h va8,fun _=>?_⟩;conv=>whnf
 rw[show IntKind.i64.wrap (0+1)=1 from by decide];refine⟨fun _=>?_,fun h=>absurd h va8⟩;conv=>whnf
 refine⟨⟨va8,va8⟩,?_⟩;conv=>whnf
 refine⟨fun _=>?_,fun h=>absurd h va8⟩;conv=>whnf
theorem a16(a1 a2 b1 b2 c1 c2 d1 d2:Int)(z:Bool):va6 264 [.agg [i64 a1,i64 a2,i64 b1,i64 b2,i64 c1,i64 c2,i64 d1,i64 d2],.agg [.bool true,.bool true,.bool false,.bool z]] (.tup [sp zS,i64 4]):=by
 refine pF Tryz.func264 ?_;conv=>whnf
 refine Or.inl ⟨5,?_⟩;conv=>whnf
 refine⟨fun _=>?_,fun h=>absurd h va8⟩;conv=>whnf
 refine⟨⟨va8,va8⟩,?_⟩;conv=>whnf
 refine⟨fun h=>absurd h va8,fun _=>?_⟩;conv=>whnf
 rw[show IntKind.i64.wrap (0+1)=1 from by decide];refine⟨fun _=>?_,fun h=>absurd h va8⟩;conv=>whnf
 refine⟨⟨va8,va8⟩,?_⟩;conv=>whnf
 refine⟨fun h=>absurd h va8,fun _=>?_⟩;conv=>whnf
 rw[show IntKind.i64.wrap (1+1)=2 from by decide];refine⟨fun _=>?_,fun h=>absurd h va8⟩;conv=>whnf
 refine⟨⟨va8,va8⟩,?_⟩;conv=>whnf
 refine⟨fun _=>?_,fun h=>absurd h va8⟩;conv=>whnf
theorem a17(a1 a2 b1 b2 c1 c2 d1 d2:Int):va6 264 [.agg [i64 a1,i64 a2,i64 b1,i64 b2,i64 c1,i64 c2,i64 d1,i64 d2],.agg [.bool true,.bool true,.bool true,.bool false]] (.tup [sp zS,i64 4]):=by
 refine pF Tryz.func264 ?_;conv=>whnf
 refine Or.inl ⟨5,?_⟩;conv=>whnf
 refine⟨fun _=>?_,fun h=>absurd h va8⟩;conv=>whnf
 refine⟨⟨va8,va8⟩,?_⟩;conv=>whnf
 refine⟨fun h=>absurd h va8,fun _=>?_⟩;conv=>whnf
 rw[show IntKind.i64.wrap (0+1)=1 from by decide];refine⟨fun _=>?_,fun h=>absurd h va8⟩;conv=>whnf
 refine⟨⟨va8,va8⟩,?_⟩;conv=>whnf
 refine⟨fun h=>absurd h va8,fun _=>?_⟩;conv=>whnf
 rw[show IntKind.i64.wrap (1+1)=2 from by decide];refine⟨fun _=>?_,fun h=>absurd h va8⟩;conv=>whnf
 refine⟨⟨va8,va8⟩,?_⟩;conv=>whnf
 refine⟨fun h=>absurd h va8,fun _=>?_⟩;conv=>whnf
 rw[show IntKind.i64.wrap (2+1)=3 from by decide];refine⟨fun _=>?_,fun h=>absurd h va8⟩;conv=>whnf
 refine⟨⟨va8,va8⟩,?_⟩;conv=>whnf
 refine⟨fun _=>?_,fun h=>absurd h va8⟩;conv=>whnf
theorem a2C(a1 a2 b1 b2 c1 c2 d1 d2:Int)(x1 x2 x3 y1 y2 y3:Int×Int)
  (l0:va6 301 [fr (a1,a2),fr (a1,a2)] (fr (a1,a2))) (g0:va6 302 [fr (a1,a2),fr (a1,a2)] (fr (a1,a2)))
  (l1:va6 301 [fr (a1,a2),fr (b1,b2)] (fr x1)) (g1:va6 302 [fr (a1,a2),fr (b1,b2)] (fr y1))
  (l2:va6 301 [fr x1,fr (c1,c2)] (fr x2)) (g2:va6 302 [fr y1,fr (c1,c2)] (fr y2))
  (l3:va6 301 [fr x2,fr (d1,d2)] (fr x3)) (g3:va6 302 [fr y2,fr (d1,d2)] (fr y3)) :
  va6 264 [.agg [i64 a1,i64 a2,i64 b1,i64 b2,i64 c1,i64 c2,i64 d1,i64 d2],.agg [.bool true,.bool true,.bool true,.bool true]] (.tup [sp (x3,y3),i64 0]):=by
 refine pF Tryz.func264 ?_;conv=>whnf
 refine Or.inl ⟨5,?_⟩;conv=>whnf
 refine⟨fun _=>?_,fun h=>absurd h va8⟩;conv=>whnf
 refine⟨⟨va8,va8⟩,?_⟩;conv=>whnf
 refine⟨fun h=>absurd h va8,fun _=>?_⟩;conv=>whnf
 rw[show IntKind.i64.wrap (0+1)=1 from by decide];refine⟨fun _=>?_,fun h=>absurd h va8⟩;conv=>whnf
 refine⟨⟨va8,va8⟩,?_⟩;conv=>whnf
 refine⟨fun h=>absurd h va8,fun _=>?_⟩;conv=>whnf
 rw[show IntKind.i64.wrap (1+1)=2 from by decide];refine⟨fun _=>?_,fun h=>absurd h va8⟩;conv=>whnf
 refine⟨⟨va8,va8⟩,?_⟩;conv=>whnf
 refine⟨fun h=>absurd h va8,fun _=>?_⟩;conv=>whnf
 rw[show IntKind.i64.wrap (2+1)=3 from by decide];refine⟨fun _=>?_,fun h=>absurd h va8⟩;conv=>whnf
 refine⟨⟨va8,va8⟩,?_⟩;conv=>whnf
 refine⟨fun h=>absurd h va8,fun _=>?_⟩;conv=>whnf
 rw[show IntKind.i64.wrap (3+1)=4 from by decide];refine⟨fun h=>absurd h va8,fun _=>?_⟩;conv=>whnf
 refine Or.inl ⟨5,?_⟩;conv=>whnf
 refine⟨fun _=>?_,fun h=>absurd h va8⟩;conv=>whnf
 refine⟨va4,?_⟩;conv=>whnf
 refine⟨⟨va8,va8⟩,?_⟩;conv=>whnf
 refine⟨_,l0,?_⟩;conv=>whnf
 refine⟨⟨va8,va8⟩,?_⟩;conv=>whnf
 refine⟨_,g0,?_⟩;conv=>whnf
 refine⟨va4,?_⟩;conv=>whnf
 rw[show IntKind.i64.wrap (0+1)=1 from by decide];refine⟨fun _=>?_,fun h=>absurd h va8⟩;conv=>whnf
 refine⟨va4,?_⟩;conv=>whnf
 refine⟨⟨va8,va8⟩,?_⟩;conv=>whnf
 refine⟨_,l1,?_⟩;conv=>whnf
 refine⟨⟨va8,va8⟩,?_⟩;conv=>whnf
 refine⟨_,g1,?_⟩;conv=>whnf
 refine⟨va4,?_⟩;conv=>whnf
 rw[show IntKind.i64.wrap (1+1)=2 from by decide];refine⟨fun _=>?_,fun h=>absurd h va8⟩;conv=>whnf
 refine⟨va4,?_⟩;conv=>whnf
 refine⟨⟨va8,va8⟩,?_⟩;conv=>whnf
 refine⟨_,l2,?_⟩;conv=>whnf
 refine⟨⟨va8,va8⟩,?_⟩;conv=>whnf
 refine⟨_,g2,?_⟩;conv=>whnf
 refine⟨va4,?_⟩;conv=>whnf
 rw[show IntKind.i64.wrap (2+1)=3 from by decide];refine⟨fun _=>?_,fun h=>absurd h va8⟩;conv=>whnf
 refine⟨va4,?_⟩;conv=>whnf
 refine⟨⟨va8,va8⟩,?_⟩;conv=>whnf
 refine⟨_,l3,?_⟩;conv=>whnf
 refine⟨⟨va8,va8⟩,?_⟩;conv=>whnf
 refine⟨_,g3,?_⟩;conv=>whnf
 refine⟨va4,?_⟩;conv=>whnf
 rw[show IntKind.i64.wrap (3+1)=4 from by decide];refine⟨fun h=>absurd h va8,fun _=>?_⟩;conv=>whnf
theorem a4h(a b c d:(Int×Int)×Int)(ha:a.2=0->r7 a.1=true)(hb:b.2=0->r7 b.1=true)(hc:c.2=0->r7 c.1=true)(hd:d.2=0->r7 d.1=true) :
  va6 264 [.agg [i64 a.1.1,i64 a.1.2,i64 b.1.1,i64 b.1.2,i64 c.1.1,i64 c.1.2,i64 d.1.1,i64 d.1.2],.agg [.bool (decide (a.2=0)),.bool (decide (b.2=0)),.bool (decide (c.2=0)),.bool (decide (d.2=0))]] (.tup [sp (a1L a b c d).1,i64 (a1L a b c d).2]):=by
 obtain⟨⟨a1,a2⟩,ae⟩:=a;obtain⟨⟨b1,b2⟩,be⟩:=b;obtain⟨⟨c1,c2⟩,ce⟩:=c;obtain⟨⟨d1,d2⟩,de⟩:=d;simp only[]at *
 unfold a1L;by_cases za:ae=0
 rotate_left
 ·rw[if_neg (fun h=>za h.1),zA5 za];exact a14 a1 a2 b1 b2 c1 c2 d1 d2 _ _ _
 by_cases zb:be=0
 rotate_left
 ·rw[if_neg (fun h=>zb h.2.1),zA4 za,zA5 zb];exact a15 a1 a2 b1 b2 c1 c2 d1 d2 _ _
 by_cases zc:ce=0
 rotate_left
 ·rw[if_neg (fun h=>zc h.2.2.1),zA4 za,zA4 zb,zA5 zc];exact a16 a1 a2 b1 b2 c1 c2 d1 d2 _
 by_cases zd:de=0
 rotate_left
 ·rw[if_neg (fun h=>zd h.2.2.2),zA4 za,zA4 zb,zA4 zc,zA5 zd];exact a17 a1 a2 b1 b2 c1 c2 d1 d2
 rw[if_pos ⟨za,zb,zc,zd⟩,zA4 za,zA4 zb,zA4 zc,zA4 zd];have va:=ha za;have vb:=hb zb;have vc:=hc zc;have vd:=hd zd;have l0:=a0m (a1,a2) (a1,a2) va va;have g0:=a0z (a1,a2) (a1,a2) va va;rw[a3F]at l0;rw[a3G]at g0;have vl1:=kQ va vb;have vg1:=kS va vb;have vl2:=kQ vl1 vc;have vg2:=kS vg1 vc;exact a2C a1 a2 b1 b2 c1 c2 d1 d2 _ _ _ _ _ _ l0 g0 (a0m _ _ va vb) (a0z _ _ va vb) (a0m _ _ vl1 vc) (a0z _ _ vg1 vc) (a0m _ _ vl2 vd) (a0z _ _ vg2 vd)
theorem a4i{a b:X2}(ha:z7 a=true)(hb:z7 b=true):P0 a b=a1L (gC a.1 b.1) (gC a.1 b.2) (gC a.2 b.1) (gC a.2 b.2):=by
 obtain⟨a1,a2,a3⟩:=T6.1 ha;obtain⟨b1,b2,b3⟩:=T6.1 hb;have h:=a28 (op:=gC) (p:=(a.1,b.1)) (q:=(a.1,b.2)) (r:=(a.2,b.1)) (s:=(a.2,b.2)) ⟨_,nb a1 b1⟩ ⟨_,nb a1 b2⟩ ⟨_,nb a2 b1⟩ ⟨_,nb a2 b2⟩;unfold P0;rw[ha,hb];exact h
theorem a18(a b:X2)(h1:G7 a.1.1)(h2:G7 a.1.2)(h3:G7 a.2.1)(h4:G7 a.2.2)(k1:G7 b.1.1)(k2:G7 b.1.2)(k3:G7 b.2.1)(k4:G7 b.2.2):va6 214 [sp a,sp b] (.tup [sp (P0 a b).1,i64 (P0 a b).2]):=by
 have c1:=kG a h1 h2 h3 h4;have c2:=kG b k1 k2 k3 k4;have no:z7 a=false∨z7 b=false->P0 a b=(zS,8):=fun h=>by unfold P0;rcases h with h|h<;>simp[h]
 cases ha:z7 a
 ·rw[no (.inl ha)];rw[ha]at c1;refine pF Tryz.func214 ?_;conv=>whnf
  try exact va1
  all_goals simp
 cases hb:z7 b
 ·rw[no (.inr hb)];rw[ha]at c1;rw[hb]at c2;refine pF Tryz.func214 ?_;conv=>whnf
  try exact va1
  all_goals simp
 rw[ha]at c1;rw[hb]at c2;obtain⟨a1,a2,a3⟩:=T6.1 ha;obtain⟨b1,b2,b3⟩:=T6.1 hb;rw[a4i ha hb];have o1:=a0l a.1 b.1 a1 b1;have o2:=a0l a.1 b.2 a1 b2;have o3:=a0l a.2 b.1 a2 b1;have o4:=a0l a.2 b.2 a2 b2;have cf:=a4h (gC a.1 b.1) (gC a.1 b.2) (gC a.2 b.1) (gC a.2 b.2) (mg _ _ a1 b1) (mg _ _ a1 b2) (mg _ _ a2 b1) (mg _ _ a2 b2);generalize gC a.1 b.1=r1 at *
 generalize gC a.1 b.2=r2 at *
 generalize gC a.2 b.1=r3 at *
 generalize gC a.2 b.2=r4 at *
 refine pF Tryz.func214 ?_;conv=>whnf
 try exact va1
abbrev I4(s:X2):Prop:=G7 s.1.1/\G7 s.1.2/\G7 s.2.1/\G7 s.2.2
theorem a3H(a b:X2)(ha:I4 a)(hb:I4 b):va6 214 [sp a,sp b] (.tup [sp (P0 a b).1,i64 (P0 a b).2]):=a18 a b ha.1 ha.2.1 ha.2.2.1 ha.2.2.2 hb.1 hb.2.1 hb.2.2.1 hb.2.2.2

end Go.Proofs.Tryz.My
