/- Helper lemmas. -/
import Derived.Test.YtacahppoighegaaGreatMzExB
set_option linter.unusedVariables false
set_option linter.unusedSimpArgs false
set_option maxRecDepth 100000
set_option maxHeartbeats 0
namespace Go.Proofs.Tryz.My
open Go Go.Ev
theorem ue(a b:Nat)(ha:a<170141183460469231731687303715884105728)(hb:b<170141183460469231731687303715884105728):va6 245 [pr a,pr b] (pr (Nat.gcd a b)):=by
 refine vb4 Tryz.func245 ?_;refine Or.inr ⟨Nat×Nat,[],[2,3],[],fun _=>[],fun i=>[cW i.1,cW i.2],fun _=>[],fun i=>i.2,fun i=>Nat.gcd i.1 i.2=Nat.gcd a b/\i.1<170141183460469231731687303715884105728/\i.2<170141183460469231731687303715884105728,vb3 ?_⟩;refine⟨⟨(a,b),?_⟩,?_⟩
 ·(conv=>whnf);exact kK ⟨⟨rfl,ha,hb⟩,rfl,rfl,rfl⟩
 ·rintro⟨x,y⟩ ⟨h1,h2,h3⟩;simp only[]at h1 h2 h3;conv=>whnf
  refine⟨va4,?_⟩;by_cases hy:y=0
  ·subst hy;conv=>whnf
   refine ve4 ?_;intros;show pr x=_
   rw[<- h1,Nat.gcd_zero_right]
  ·have cc:=pJ x y va5 va5 h3;conv=>whnf
   refine vc6 ?_;intros;refine⟨(y,x % y),vb3 ?_⟩;refine kK ⟨⟨Nat.mod_lt _ va5,?_,h3,?_⟩,rfl,rfl,rfl⟩
   ·show Nat.gcd y (x % y)=_
    rw[<- h1,Nat.gcd_comm x y,Nat.gcd_rec y x,Nat.gcd_comm]
   ·exact Nat.lt_of_le_of_lt (Nat.mod_le x y) h2
def zQ(sg:Int)(n d:Nat):(Int×Int)×Bool:=if n<=4611686018427387903/\d<=4611686018427387903 then((if sg<0 then -(n:Int)else(n:Int),(d:Int)),true)else((0,0),false)
def rA(sg:Int)(N D:Nat):(Int×Int)×Bool:=zQ sg (N / Nat.gcd N D) (D / Nat.gcd N D)
theorem my(sg:Int)(N D:Nat)(hN:N<170141183460469231731687303715884105728)(hD:D<170141183460469231731687303715884105728)(hD0:0<D):va6 251 [i64 sg,pr N,pr D] (.tup [fr (rA sg N D).1,.bool (rA sg N D).2]):=by
 have hg:0<Nat.gcd N D:=Nat.gcd_pos_of_pos_right _ hD0;have c1:=ue N D hN hD;have hle:Nat.gcd N D<=D:=Nat.gcd_le_right _ hD0;have c2:=pJ N (Nat.gcd N D) va5 hg va5;have c3:=pJ D (Nat.gcd N D) va5 hg va5;have hl:rA sg N D=zQ sg (N / Nat.gcd N D) (D / Nat.gcd N D):=rfl;have q1:N / Nat.gcd N D<340282366920938463463374607431768211456:=Nat.lt_of_le_of_lt (Nat.div_le_self _ _) va5;have q2:D / Nat.gcd N D<340282366920938463463374607431768211456:=Nat.lt_of_le_of_lt (Nat.div_le_self _ _) va5;rw[hl];generalize N / Nat.gcd N D=n at *
 generalize D / Nat.gcd N D=d at *
 have bad:¬ (n<=4611686018427387903/\d<=4611686018427387903)->zQ sg n d=((0,0),false):=fun h=>by simp only[zQ,h,if_false]
 refine vb4 Tryz.func251 ?_;refine vd1 ?_ ?_ ?_ ?_ ?_ ?_<;>(repeat intro hh)
 ·rw[bad va5]
 ·rw[bad va5]
 ·rw[bad va5]
 ·rw[bad va5]
 ·have h1:n<=4611686018427387903/\d<=4611686018427387903:=by omega
  have e1:n % 18446744073709551616=n:=by omega
  have e2:d % 18446744073709551616=d:=by omega
  rw[e1,e2,wi (n:Int) va5 va5,wi (d:Int) va5 va5,wi _ va5 va5];simp[zQ,h1,hh]
 ·have h1:n<=4611686018427387903/\d<=4611686018427387903:=by omega
  have e1:n % 18446744073709551616=n:=by omega
  have e2:d % 18446744073709551616=d:=by omega
  rw[e1,e2,wi (n:Int) va5 va5,wi (d:Int) va5 va5];have hh':¬ sg<0:=by omega
  simp[zQ,h1,hh']
theorem QU(x:Int×Int)(b:Bool):va6 278 [fr x,.bool b] (.tup [fr (if b then x else(0,0)),i64 (if b then 0 else 4)]):=by
 refine vb4 Tryz.func278 ?_;refine ve5 ?_ ?_<;>intros
 all_goals simp_all
theorem Hj(a b:Int):bt a*bt b=if a=0∨b=0 then 0 else if (decide (a<0) != decide (b<0))=true then -1 else 1:=by
 unfold bt;by_cases h1:a<0<;>by_cases h2:b<0<;>by_cases h3:0<a<;>by_cases h4:0<b<;>simp[h1,h2,h3,h4]<;>omega
theorem Ni(num den:Int)(hd:den≠0):G9 num den=(if (rA (bt num*bt den) num.natAbs den.natAbs).2 then(rA (bt num*bt den) num.natAbs den.natAbs).1 else(0,0),if (rA (bt num*bt den) num.natAbs den.natAbs).2 then 0 else 4):=by
 unfold G9 rA;rw[if_neg hd,Hj];by_cases h0:num=0
 ·subst h0;simp[X7,zQ];split<;>simp
 ·unfold X7 zQ;have:¬ (num=0∨den=0):=by omega
  rw[if_neg this];generalize (decide (num<0) != decide (den<0))=b;split<;>cases b<;>simp
theorem Nj(num den:Int)(h1:A4 num)(h2:A4 den):va6 268 [i64 num,i64 den] (.tup [fr (G9 num den).1,i64 (G9 num den).2]):=by
 have l1:=pD h1;have l2:=pD h2;by_cases hd:den=0
 ·subst hd;refine vb4 Tryz.func268 ?_;refine ve4 ?_;intros;all_goals simp[G9]
 ·rw[Ni num den hd];have hsg:A4 (bt num*bt den):=by rw[Hj];unfold A4;split<;>(try split)<;>omega
  have c1:=my (bt num*bt den) num.natAbs den.natAbs va5 va5 va5;rw[eC _ l1,eC _ l2]at c1;have c2:=QU (rA (bt num*bt den) num.natAbs den.natAbs).1 (rA (bt num*bt den) num.natAbs den.natAbs).2;generalize rA (bt num*bt den) num.natAbs den.natAbs=x at *
  refine vb4 Tryz.func268 ?_;have cZ:=bg num;have cZ:=bg den;have cZ:=M9 num h1;have cZ:=M9 den h2;refine vc6 ?_;intros;have e:IntKind.i64.wrap (bt num*bt den)=bt num*bt den:=z5 _ hsg.1 hsg.2;rw[e];try exact va1
theorem pN(x:Int×Int)(h1:A4 x.1)(h2:A4 x.2):va6 220 [fr x] (.bool (o7 x)):=by
 have v1:=nI x;have v2:=A7 x;obtain⟨n,d⟩:=x;simp only[]at v1 v2 h1 h2;have c1:=ue n.natAbs d.natAbs (by unfold A4 at h1;omega) (by unfold A4 at h2;omega);have l1:=pD h1;have l2:=pD h2;rw[eC _ l1,eC _ l2]at c1;have hgl:d≠0->Nat.gcd n.natAbs d.natAbs<18446744073709551616:=fun h=>Nat.lt_of_le_of_lt (Nat.gcd_le_right _ va5) l2
 refine vb4 Tryz.func220 ?_;have cZ:=M9 n h1;have cZ:=M9 d h2;refine vd0 ?_ ?_ ?_ ?_ ?_<;>intros
 ·rw[v1.2 va5]
 ·rw[v1.2 va5]
 ·rw[v1.2 va5]
 ·rw[v1.2 va5]
 ·congr 1
  have hg:=hgl va5;by_cases hv:Nat.gcd n.natAbs d.natAbs=1
  ·rw[v2.2 ⟨va5,va5,va5,va5,hv⟩,hv];rfl
  ·rw[v1.2 (fun h=>hv h.2.2.2.2)];have:decide ((((Nat.gcd n.natAbs d.natAbs) % 18446744073709551616:Nat):Int)=1)=false:=zA5 va5;rw[this,Bool.false_and,Bool.and_false]
theorem bT(a b:Int×Int)(ha:o7 a=true)(hb:o7 b=true):va6 221 [fr a,fr b] (i64 (W6 a b)):=by
 rw[A7]at ha hb;obtain⟨n,d⟩:=a;obtain⟨m,e⟩:=b;simp only[]at *
 have i1:A4 n:=by unfold A4;omega
 have i2:A4 d:=by unfold A4;omega
 have i3:A4 m:=by unfold A4;omega
 have i4:A4 e:=by unfold A4;omega
 have p1:=bQ n.natAbs e.natAbs va5 va5;have p2:=bQ m.natAbs d.natAbs va5 va5;have hx:n.natAbs*e.natAbs<340282366920938463463374607431768211456:=Nat.lt_of_le_of_lt (Nat.mul_le_mul (show n.natAbs<=4611686018427387903 by omega) (show e.natAbs<=4611686018427387903 by omega)) va8;have hy:m.natAbs*d.natAbs<340282366920938463463374607431768211456:=Nat.lt_of_le_of_lt (Nat.mul_le_mul (show m.natAbs<=4611686018427387903 by omega) (show d.natAbs<=4611686018427387903 by omega)) va8;have Ej:((n.natAbs*e.natAbs:Nat):Int)=if n<0 then -(n*e)else n*e:=by
  rw[Int.natCast_mul,show((e.natAbs:Nat):Int)=e by omega];split
  ·rw[show((n.natAbs:Nat):Int) = -n by omega,Int.neg_mul]
  ·rw[show((n.natAbs:Nat):Int)=n by omega]
 have hsy:((m.natAbs*d.natAbs:Nat):Int)=if m<0 then -(m*d)else m*d:=by
  rw[Int.natCast_mul,show((d.natAbs:Nat):Int)=d by omega];split
  ·rw[show((m.natAbs:Nat):Int) = -m by omega,Int.neg_mul]
  ·rw[show((m.natAbs:Nat):Int)=m by omega]
 have l1:=tP (n.natAbs*e.natAbs) (m.natAbs*d.natAbs) hx hy;have s1:0<n->0<n*e:=fun h=>Int.mul_pos h va5
 have s2:n<0->n*e<0:=fun h=>Int.mul_neg_of_neg_of_pos h va5
 have s3:0<m->0<m*d:=fun h=>Int.mul_pos h va5
 have s4:m<0->m*d<0:=fun h=>Int.mul_neg_of_neg_of_pos h va5
 have s5:n=0->n*e=0:=fun h=>by rw[h,Int.zero_mul]
 have s6:m=0->m*d=0:=fun h=>by rw[h,Int.zero_mul]
 have hc:W6 (n,d) (m,e)=if n*e<m*d then -1 else if n*e=m*d then 0 else 1:=rfl
 generalize n.natAbs*e.natAbs=x at *
 generalize m.natAbs*d.natAbs=y at *
 generalize n*e=X at *
 generalize m*d=Y at *
 have g1:=bg n;have g2:=bg m;have g3:=bg (bt n-bt m);have r1:bt n=if n<0 then -1 else if 0<n then 1 else 0:=rfl
 have r2:bt m=if m<0 then -1 else if 0<m then 1 else 0:=rfl
 have r3:bt (bt n-bt m)=if bt n-bt m<0 then -1 else if 0<bt n-bt m then 1 else 0:=rfl
 generalize bt n=sn at *
 generalize bt m=sm at *
 generalize bt (sn-sm)=sd at *
 have e1:IntKind.i64.wrap (sn-sm)=sn-sm:=wi _ (by split at r1<;>(try split at r1)<;>split at r2<;>(try split at r2)<;>omega) (by split at r1<;>(try split at r1)<;>split at r2<;>(try split at r2)<;>omega);have e2:IntKind.i64.wrap (0-sn)=0-sn:=wi _ (by split at r1<;>(try split at r1)<;>omega) (by split at r1<;>(try split at r1)<;>omega);refine vb4 Tryz.func221 ?_;refine vc7 ?_ ?_<;>intros
 ·rw[e1];refine vc6 ?_;intros;rw[hc]
  congr 1
  split at r1<;>(try split at r1)<;>split at r2<;>(try split at r2)<;>first
   | (rw[if_pos va5];omega)
   | (rw[if_neg va5,if_pos va5];omega)
   | (rw[if_neg va5,if_neg va5];omega)
 ·(repeat' ((first|refine va0 (fun hh=>?_) fun hh=>?_|refine kR ?_|((try refine .inl ?_;conv=>whnf);(try refine⟨false,?_⟩;conv=>whnf);refine⟨_,by first|assumption|exact M9 n i1|exact M9 d i2|exact M9 m i3|exact M9 e i4,?_⟩)|fail)<;>first|exact hh.elim|conv=>whnf))
  case' refine_2.refine_2.refine_1=>((repeat' ((first|refine aU fun hh=>?_|refine aV fun hh=>?_|refine aS (fun hh=>?_) fun hh=>?_|refine kR ?_|((try refine .inl ?_;conv=>whnf);(try refine⟨false,?_⟩;conv=>whnf);refine⟨_,by assumption,?_⟩)|fail)<;>conv=>whnf));rw[e2];(repeat' ((first|refine aU fun hh=>?_|refine aV fun hh=>?_|refine aS (fun hh=>?_) fun hh=>?_|refine kR ?_|fail)<;>conv=>whnf)))
  case' refine_2.refine_2.refine_2=>(repeat' ((first|refine va0 (fun hh=>?_) fun hh=>?_|refine kR ?_|((try refine .inl ?_;conv=>whnf);(try refine⟨false,?_⟩;conv=>whnf);refine⟨_,by assumption,?_⟩)|fail)<;>first|exact hh.elim|conv=>whnf))
  all_goals
   rw[hc]
   congr 1
   clear hc p1 p2 l1 g1 g2 g3 r3 i1 i2 i3 i4 ha hb;try simp only[reduceCtorEq,or_false,and_true]at *
   split at r1<;>(try split at r1)<;>split at r2<;>(try split at r2)<;>split at Ej<;>split at hsy<;>first
    | (exfalso;omega)
    | (rw[if_pos va5];first|done|omega)
    | (rw[if_neg va5,if_pos va5];first|done|omega)
    | (rw[if_neg va5,if_neg va5];first|done|omega)
theorem cE(a:V3)(h1:A4 a.1.1)(h2:A4 a.1.2)(h3:A4 a.2.1)(h4:A4 a.2.2):va6 178 [sp a] (.bool (y9 a)):=by
 have v1:=pN a.1 h1 h2;have v2:=pN a.2 h3 h4;have o:=bT a.1 a.2;have hs:y9 a=(o7 a.1 && o7 a.2 && decide (W6 a.1 a.2<=0)):=rfl;rw[hs];cases e1:o7 a.1
 ·rw[e1]at v1;refine vb4 Tryz.func178 ?_;refine vc6 ?_;intros;all_goals simp
 ·cases e2:o7 a.2
  ·rw[e1]at v1;rw[e2]at v2;refine vb4 Tryz.func178 ?_;refine vc6 ?_;intros;all_goals simp
  ·rw[e1]at v1;rw[e2]at v2;have o:=o e1 e2;refine vb4 Tryz.func178 ?_;refine vc6 ?_;intros;all_goals simp
abbrev okF(r:(Int×Int)×Int):AV := .tup [fr r.1,.bool (decide (r.2=0))]
theorem Nk{sg:Int}{N D:Nat}(hD:0<D){r:(Int×Int)×Int}(hr:r=G9 (if sg<0 then -(N:Int)else(N:Int)) (D:Int)):rA sg N D=(r.1,decide (r.2=0)):=by
 rw[hr,aF va5];unfold rA;have e1:(if sg<0 then -(N:Int)else(N:Int)).natAbs=N:=by split<;>omega
 rw[e1,Int.natAbs_natCast];unfold zQ X7;have hg:0<Nat.gcd N D:=Nat.gcd_pos_of_pos_right _ hD;by_cases hc:N / Nat.gcd N D<=4611686018427387903/\D / Nat.gcd N D<=4611686018427387903
 ·simp only[hc,and_self,if_true];by_cases hs:sg<0
  ·by_cases hn:N=0
   ·subst hn;simp[hs]
   ·have : -(N:Int)<0:=by omega
    simp[hs,this];intro h;omega
  ·have:¬ (N:Int)<0:=by omega
   simp[hs,this]
 ·simp only[hc,if_false];simp
theorem QV(a:Int×Int)(h:o7 a=true):va6 226 [fr a] (fr (tW a)):=by
 have:=(A7 a).1 h;refine vb4 Tryz.func226 ?_;refine ve4 ?_;intros;rw[wi _ va5 va5,show 0-a.1 = -a.1 by omega];rfl
theorem dU(n:Int):(n<0/\bt n = -1)∨(n=0/\bt n=0)∨(0<n/\bt n=1):=by
 unfold bt;by_cases h1:n<0
 ·simp[h1]
 ·by_cases h2:0<n
  ·simp[h1,h2]
  ·right;left;simp[h1,h2];omega
theorem zR(n:Int)(k:Int)(hk:0<=k):((n.natAbs*k.natAbs:Nat):Int)=if n<0 then -(n*k)else n*k:=by
 rw[Int.natCast_mul,show((k.natAbs:Nat):Int)=k by omega];split
 ·rw[show((n.natAbs:Nat):Int) = -n by omega,Int.neg_mul]
 ·rw[show((n.natAbs:Nat):Int)=n by omega]
theorem Nl(a b:Int×Int)(ha:o7 a=true)(hb:o7 b=true):va6 225 [fr a,fr b] (okF (iW a b)):=by
 have va:=(A7 a).1 ha;have vb:=(A7 b).1 hb;have Jk:iW a b=G9 (a.1*b.2+b.1*a.2) (a.2*b.2):=rfl;obtain⟨n,d⟩:=a;obtain⟨m,e⟩:=b;simp only[]at *
 have i1:A4 n:=by unfold A4;omega
 have i2:A4 d:=by unfold A4;omega
 have i3:A4 m:=by unfold A4;omega
 have i4:A4 e:=by unfold A4;omega
 have p1:=bQ n.natAbs e.natAbs va5 va5;have p2:=bQ m.natAbs d.natAbs va5 va5;have p3:=bQ d.natAbs e.natAbs va5 va5;have hx:n.natAbs*e.natAbs<=4611686018427387903*4611686018427387903:=Nat.mul_le_mul va5 va5;have hy:m.natAbs*d.natAbs<=4611686018427387903*4611686018427387903:=Nat.mul_le_mul va5 va5;have hd:d.natAbs*e.natAbs<=4611686018427387903*4611686018427387903:=Nat.mul_le_mul va5 va5;have W0:0<d.natAbs*e.natAbs:=Nat.mul_pos va5 va5;have kx:=zR n e va5;have ky:=zR m d va5;have kd:=zR d e va5;rw[if_neg va5]at kd;rw[<- kd]at Jk;have c2:=tP (n.natAbs*e.natAbs) (m.natAbs*d.natAbs) va5 va5;have low:=fun(sg:Int) (N:Nat) (h:n*e+m*d=if sg<0 then -(N:Int)else(N:Int))=>Nk (sg:=sg) (N:=N) W0 (r:=iW (n,d) (m,e)) (by rw[Jk,h])
 generalize iW (n,d) (m,e)=res at *
 have z1:n=0->n*e=0:=fun h=>by rw[h,Int.zero_mul]
 have z2:m=0->m*d=0:=fun h=>by rw[h,Int.zero_mul]
 generalize n.natAbs*e.natAbs=X at *
 generalize m.natAbs*d.natAbs=Y at *
 generalize d.natAbs*e.natAbs=D at *
 generalize n*e=NX at *
 generalize m*d=MY at *
 have cl:=fun(sg:Int) (N:Nat) (hN:N<170141183460469231731687303715884105728)=>my sg N D hN va5 W0
 have sn:=dU n;have sm:=dU m;have g1:=bg n;have g2:=bg m;generalize bt n=s at *
 generalize bt m=t at *
 clear Jk kd ha hb;have rP:IntKind.i64.wrap (s*t)=s*t:=by
  rcases sn with ⟨_,h⟩|⟨_,h⟩|⟨_,h⟩<;>rcases sm with ⟨_,h'⟩|⟨_,h'⟩|⟨_,h'⟩<;>subst h<;>subst h'<;>decide
 have Yb:IntKind.i64.wrap (s+t)=s+t:=by
  rcases sn with ⟨_,h⟩|⟨_,h⟩|⟨_,h⟩<;>rcases sm with ⟨_,h'⟩|⟨_,h'⟩|⟨_,h'⟩<;>subst h<;>subst h'<;>decide
 have Nm:0<=s*t↔¬ ((n<0/\0<m)∨(0<n/\m<0)):=by
  rcases sn with ⟨_,h⟩|⟨_,h⟩|⟨_,h⟩<;>rcases sm with ⟨_,h'⟩|⟨_,h'⟩|⟨_,h'⟩<;>subst h<;>subst h'<;>omega
 have c2u:=fun _:Unit=>c2
 clear c2;refine vb4 Tryz.func225 ?_;have cZ:=M9 n i1;have cZ:=M9 d i2;have cZ:=M9 m i3;have cZ:=M9 e i4;refine vc7 ?_ ?_<;>(repeat intro hh)
 ·rw[rP]at hh;have hs:=Nm.1 hh;have l:=low (s+t) (X+Y) (by rw[Int.natCast_add,kx,ky];split<;>split<;>split<;>omega);have c:=cl (s+t) (X+Y) va5;rw[l]at c;have cp:=nO X Y va5;refine vc6 ?_;(repeat intro hh);rw[Yb];try exact va1
 ·rw[rP]at hh;have hs:(n<0/\0<m)∨(0<n/\m<0):=by
   rcases Classical.em ((n<0/\0<m)∨(0<n/\m<0))with h|h
   ·exact h
   ·exact absurd (Nm.2 h) hh
  clear hh rP Yb Nm;have cZ:=c2u ();refine vc7 ?_ ?_<;>(repeat intro hh)
  ·have l:=low t (Y-X) (by split at kx<;>split at ky<;>split<;>omega);have c:=cl t (Y-X) va5;rw[l]at c;have cp:=pI Y X va5 va5;try exact va1
  ·have l:=low s (X-Y) (by split at kx<;>split at ky<;>split<;>omega);have c:=cl s (X-Y) va5;rw[l]at c;have cp:=pI X Y va5 va5;try exact va1
theorem QW(n m:Int):((n.natAbs*m.natAbs:Nat):Int)=if (n<0/\0<m)∨(0<n/\m<0)then -(n*m)else n*m:=by
 rw[Int.natCast_mul];by_cases h1:n<0
 ·rw[show((n.natAbs:Nat):Int) = -n by omega];by_cases h2:m<0
  ·rw[show((m.natAbs:Nat):Int) = -m by omega,if_neg va5];grind
  ·rw[show((m.natAbs:Nat):Int)=m by omega];by_cases h3:m=0
   ·subst h3;simp
   ·rw[if_pos va5];grind
 ·rw[show((n.natAbs:Nat):Int)=n by omega];by_cases h2:m<0
  ·rw[show((m.natAbs:Nat):Int) = -m by omega];by_cases h3:n=0
   ·subst h3;simp
   ·rw[if_pos va5];grind
  ·rw[show((m.natAbs:Nat):Int)=m by omega,if_neg va5]
theorem Nn(n m:Int):bt n*bt m<0↔(n<0/\0<m)∨(0<n/\m<0):=by
 rcases dU n with ⟨_,h⟩|⟨_,h⟩|⟨_,h⟩<;>rcases dU m with ⟨_,h'⟩|⟨_,h'⟩|⟨_,h'⟩<;>rw[h,h']<;>omega
theorem Fh(n m:Int):IntKind.i64.wrap (bt n*bt m)=bt n*bt m:=by
 rcases dU n with ⟨_,h⟩|⟨_,h⟩|⟨_,h⟩<;>rcases dU m with ⟨_,h'⟩|⟨_,h'⟩|⟨_,h'⟩<;>rw[h,h']<;>decide
theorem kM(a b:Int×Int)(ha:o7 a=true)(hb:o7 b=true):va6 227 [fr a,fr b] (okF (Z4 a b)):=by
 have va:=(A7 a).1 ha;have vb:=(A7 b).1 hb;have Jk:Z4 a b=G9 (a.1*b.1) (a.2*b.2):=rfl;obtain⟨n,d⟩:=a;obtain⟨m,e⟩:=b;simp only[]at *
 have i1:A4 n:=by unfold A4;omega
 have i2:A4 d:=by unfold A4;omega
 have i3:A4 m:=by unfold A4;omega
 have i4:A4 e:=by unfold A4;omega
 have p1:=bQ n.natAbs m.natAbs va5 va5;have p3:=bQ d.natAbs e.natAbs va5 va5;have hx:n.natAbs*m.natAbs<=4611686018427387903*4611686018427387903:=Nat.mul_le_mul va5 va5;have hd:d.natAbs*e.natAbs<=4611686018427387903*4611686018427387903:=Nat.mul_le_mul va5 va5;have W0:0<d.natAbs*e.natAbs:=Nat.mul_pos va5 va5;have kx:=QW n m;have kd:=zR d e va5;rw[if_neg va5]at kd;rw[<- kd]at Jk;have sp:=Nn n m;have spi:=Fh n m;have l:=Nk (sg:=bt n*bt m) (N:=n.natAbs*m.natAbs) W0 (r:=Z4 (n,d) (m,e)) (by
  rw[Jk,kx]
  congr 1
  by_cases h:(n<0/\0<m)∨(0<n/\m<0)
  ·rw[if_pos h,if_pos (sp.2 h)];omega
  ·rw[if_neg h,if_neg (fun k=>h (sp.1 k))])
 have c:=my (bt n*bt m) (n.natAbs*m.natAbs) (d.natAbs*e.natAbs) va5 va5 W0;rw[l]at c;have g1:=bg n;have g2:=bg m;generalize Z4 (n,d) (m,e)=res at *
 generalize n.natAbs*m.natAbs=X at *
 generalize d.natAbs*e.natAbs=D at *
 generalize bt n=s at *
 generalize bt m=t at *
 refine vb4 Tryz.func227 ?_;have cZ:=M9 n i1;have cZ:=M9 d i2;have cZ:=M9 m i3;have cZ:=M9 e i4;refine vc6 ?_;intros;rw[spi];try exact va1
theorem kN(a b:Int×Int)(ha:o7 a=true)(hb:o7 b=true):va6 254 [fr a,fr b] (fr (U7 a b)):=by
 have c:=bT a b ha hb;rw[Hi ha hb];generalize W6 a b=x at *
 refine vb4 Tryz.func254 ?_;refine vc7 ?_ ?_<;>(repeat intro hh)
 ·rw[if_pos hh]
 ·rw[if_neg hh]
theorem nW(a b:Int×Int)(ha:o7 a=true)(hb:o7 b=true):va6 255 [fr a,fr b] (fr (S7 a b)):=by
 have c:=bT a b ha hb;rw[QQ ha hb];generalize W6 a b=x at *
 refine vb4 Tryz.func255 ?_;refine vc7 ?_ ?_<;>(repeat intro hh)
 ·rw[if_pos hh]
 ·rw[if_neg hh]
def xG(a b c d:(Int×Int)×Int):V3×Int:=if a.2=0/\b.2=0/\c.2=0/\d.2=0 then((U7 (U7 (U7 a.1 b.1) c.1) d.1,S7 (S7 (S7 a.1 b.1) c.1) d.1),0)else(zS,4)
theorem Jl{op:Int×Int->Int×Int->(Int×Int)×Int}{p q r s:V3}(hp:∃ x,iY x (op p.1 p.2))(hq:∃ x,iY x (op q.1 q.2))(hr:∃ x,iY x (op r.1 r.2))(hs:∃ x,iY x (op s.1 s.2)) :
  O6 op [p,q,r,s]=xG (op p.1 p.2) (op q.1 q.2) (op r.1 r.2) (op s.1 s.2):=by
 obtain⟨_,hp⟩:=hp;obtain⟨_,hq⟩:=hq;obtain⟨_,hr⟩:=hr;obtain⟨_,hs⟩:=hs;simp only[O6,O3,xG];by_cases h1:(op p.1 p.2).2=0
 ·by_cases h2:(op q.1 q.2).2=0
  ·by_cases h3:(op r.1 r.2).2=0
   ·by_cases h4:(op s.1 s.2).2=0
    ·simp[h1,h2,h3,h4]
    ·have:=hs.bad h4;simp[h1,h2,h3,h4,this]
   ·have:=hr.bad h3;simp[h1,h2,h3,this]
  ·have:=hq.bad h2;simp[h1,h2,this]
 ·have:=hp.bad h1;simp[h1,this]
theorem No(a:Int×Int):U7 a a=a:=by unfold U7;split<;>rfl
theorem Np(a:Int×Int):S7 a a=a:=by unfold S7;split<;>rfl
theorem zT(a1 a2 b1 b2 c1 c2 d1 d2:Int)(x y z:Bool):va6 228 [.agg [i64 a1,i64 a2,i64 b1,i64 b2,i64 c1,i64 c2,i64 d1,i64 d2],.agg [.bool false,.bool x,.bool y,.bool z]] (.tup [sp zS,i64 4]):=by
 refine vb4 Tryz.func228 ?_;refine Or.inl ⟨5,vb3 ?_⟩;refine⟨fun _=>?_,fun h=>absurd h va8⟩;conv=>whnf
 refine⟨⟨va8,va8⟩,vb3 ?_⟩;refine⟨fun _=>?_,fun h=>absurd h va8⟩;conv=>whnf
theorem zU(a1 a2 b1 b2 c1 c2 d1 d2:Int)(y z:Bool):va6 228 [.agg [i64 a1,i64 a2,i64 b1,i64 b2,i64 c1,i64 c2,i64 d1,i64 d2],.agg [.bool true,.bool false,.bool y,.bool z]] (.tup [sp zS,i64 4]):=by
 refine vb4 Tryz.func228 ?_;refine Or.inl ⟨5,vb3 ?_⟩;refine⟨fun _=>?_,fun h=>absurd h va8⟩;conv=>whnf
 refine⟨⟨va8,va8⟩,vb3 ?_⟩;refine⟨fun h=>absurd h va8,fun _=>?_⟩;conv=>whnf
 rw[show IntKind.i64.wrap (0+1)=1 from by decide];refine⟨fun _=>?_,fun h=>absurd h va8⟩;conv=>whnf
 refine⟨⟨va8,va8⟩,vb3 ?_⟩;refine⟨fun _=>?_,fun h=>absurd h va8⟩;conv=>whnf
theorem zV(a1 a2 b1 b2 c1 c2 d1 d2:Int)(z:Bool):va6 228 [.agg [i64 a1,i64 a2,i64 b1,i64 b2,i64 c1,i64 c2,i64 d1,i64 d2],.agg [.bool true,.bool true,.bool false,.bool z]] (.tup [sp zS,i64 4]):=by
 refine vb4 Tryz.func228 ?_;refine Or.inl ⟨5,vb3 ?_⟩;refine⟨fun _=>?_,fun h=>absurd h va8⟩;conv=>whnf
 refine⟨⟨va8,va8⟩,vb3 ?_⟩;refine⟨fun h=>absurd h va8,fun _=>?_⟩;conv=>whnf
 rw[show IntKind.i64.wrap (0+1)=1 from by decide];refine⟨fun _=>?_,fun h=>absurd h va8⟩;conv=>whnf
 refine⟨⟨va8,va8⟩,vb3 ?_⟩;refine⟨fun h=>absurd h va8,fun _=>?_⟩;conv=>whnf
 rw[show IntKind.i64.wrap (1+1)=2 from by decide];refine⟨fun _=>?_,fun h=>absurd h va8⟩;conv=>whnf
 refine⟨⟨va8,va8⟩,vb3 ?_⟩;refine⟨fun _=>?_,fun h=>absurd h va8⟩;conv=>whnf
theorem zW(a1 a2 b1 b2 c1 c2 d1 d2:Int):va6 228 [.agg [i64 a1,i64 a2,i64 b1,i64 b2,i64 c1,i64 c2,i64 d1,i64 d2],.agg [.bool true,.bool true,.bool true,.bool false]] (.tup [sp zS,i64 4]):=by
 refine vb4 Tryz.func228 ?_;refine Or.inl ⟨5,vb3 ?_⟩;refine⟨fun _=>?_,fun h=>absurd h va8⟩;conv=>whnf
 refine⟨⟨va8,va8⟩,vb3 ?_⟩;refine⟨fun h=>absurd h va8,fun _=>?_⟩;conv=>whnf
 rw[show IntKind.i64.wrap (0+1)=1 from by decide];refine⟨fun _=>?_,fun h=>absurd h va8⟩;conv=>whnf
 refine⟨⟨va8,va8⟩,vb3 ?_⟩;refine⟨fun h=>absurd h va8,fun _=>?_⟩;conv=>whnf
 rw[show IntKind.i64.wrap (1+1)=2 from by decide];refine⟨fun _=>?_,fun h=>absurd h va8⟩;conv=>whnf
 refine⟨⟨va8,va8⟩,vb3 ?_⟩;refine⟨fun h=>absurd h va8,fun _=>?_⟩;conv=>whnf
 rw[show IntKind.i64.wrap (2+1)=3 from by decide];refine⟨fun _=>?_,fun h=>absurd h va8⟩;conv=>whnf
 refine⟨⟨va8,va8⟩,vb3 ?_⟩;refine⟨fun _=>?_,fun h=>absurd h va8⟩;conv=>whnf
theorem Fi(a1 a2 b1 b2 c1 c2 d1 d2:Int)(x1 x2 x3 y1 y2 y3:Int×Int)
  (l0:va6 254 [fr (a1,a2),fr (a1,a2)] (fr (a1,a2))) (g0:va6 255 [fr (a1,a2),fr (a1,a2)] (fr (a1,a2)))
  (l1:va6 254 [fr (a1,a2),fr (b1,b2)] (fr x1)) (g1:va6 255 [fr (a1,a2),fr (b1,b2)] (fr y1))
  (l2:va6 254 [fr x1,fr (c1,c2)] (fr x2)) (g2:va6 255 [fr y1,fr (c1,c2)] (fr y2))
  (l3:va6 254 [fr x2,fr (d1,d2)] (fr x3)) (g3:va6 255 [fr y2,fr (d1,d2)] (fr y3)) :
  va6 228 [.agg [i64 a1,i64 a2,i64 b1,i64 b2,i64 c1,i64 c2,i64 d1,i64 d2],.agg [.bool true,.bool true,.bool true,.bool true]] (.tup [sp (x3,y3),i64 0]):=by
 refine vb4 Tryz.func228 ?_;refine Or.inl ⟨5,vb3 ?_⟩;refine⟨fun _=>?_,fun h=>absurd h va8⟩;conv=>whnf
 refine⟨⟨va8,va8⟩,vb3 ?_⟩;refine⟨fun h=>absurd h va8,fun _=>?_⟩;conv=>whnf
 rw[show IntKind.i64.wrap (0+1)=1 from by decide];refine⟨fun _=>?_,fun h=>absurd h va8⟩;conv=>whnf
 refine⟨⟨va8,va8⟩,vb3 ?_⟩;refine⟨fun h=>absurd h va8,fun _=>?_⟩;conv=>whnf
 rw[show IntKind.i64.wrap (1+1)=2 from by decide];refine⟨fun _=>?_,fun h=>absurd h va8⟩;conv=>whnf
 refine⟨⟨va8,va8⟩,vb3 ?_⟩;refine⟨fun h=>absurd h va8,fun _=>?_⟩;conv=>whnf
 rw[show IntKind.i64.wrap (2+1)=3 from by decide];refine⟨fun _=>?_,fun h=>absurd h va8⟩;conv=>whnf
 refine⟨⟨va8,va8⟩,vb3 ?_⟩;refine⟨fun h=>absurd h va8,fun _=>?_⟩;conv=>whnf
 rw[show IntKind.i64.wrap (3+1)=4 from by decide];refine⟨fun h=>absurd h va8,fun _=>?_⟩;conv=>whnf
 refine Or.inl ⟨5,vb3 ?_⟩;refine⟨fun _=>?_,fun h=>absurd h va8⟩;conv=>whnf
 refine⟨va4,vb3 ?_⟩;refine⟨⟨va8,va8⟩,vb3 ?_⟩;refine⟨_,l0,vb3 ?_⟩;refine⟨⟨va8,va8⟩,vb3 ?_⟩;refine⟨_,g0,vb3 ?_⟩;refine⟨va4,vb3 ?_⟩;rw[show IntKind.i64.wrap (0+1)=1 from by decide];refine⟨fun _=>?_,fun h=>absurd h va8⟩;conv=>whnf
 refine⟨va4,vb3 ?_⟩;refine⟨⟨va8,va8⟩,vb3 ?_⟩;refine⟨_,l1,vb3 ?_⟩;refine⟨⟨va8,va8⟩,vb3 ?_⟩;refine⟨_,g1,vb3 ?_⟩;refine⟨va4,vb3 ?_⟩;rw[show IntKind.i64.wrap (1+1)=2 from by decide];refine⟨fun _=>?_,fun h=>absurd h va8⟩;conv=>whnf
 refine⟨va4,vb3 ?_⟩;refine⟨⟨va8,va8⟩,vb3 ?_⟩;refine⟨_,l2,vb3 ?_⟩;refine⟨⟨va8,va8⟩,vb3 ?_⟩;refine⟨_,g2,vb3 ?_⟩;refine⟨va4,vb3 ?_⟩;rw[show IntKind.i64.wrap (2+1)=3 from by decide];refine⟨fun _=>?_,fun h=>absurd h va8⟩;conv=>whnf
 refine⟨va4,vb3 ?_⟩;refine⟨⟨va8,va8⟩,vb3 ?_⟩;refine⟨_,l3,vb3 ?_⟩;refine⟨⟨va8,va8⟩,vb3 ?_⟩;refine⟨_,g3,vb3 ?_⟩;refine⟨va4,vb3 ?_⟩;rw[show IntKind.i64.wrap (3+1)=4 from by decide];refine⟨fun h=>absurd h va8,fun _=>?_⟩;conv=>whnf
theorem QX(a b c d:(Int×Int)×Int)(ha:a.2=0->o7 a.1=true)(hb:b.2=0->o7 b.1=true)(hc:c.2=0->o7 c.1=true)(hd:d.2=0->o7 d.1=true) :
  va6 228 [.agg [i64 a.1.1,i64 a.1.2,i64 b.1.1,i64 b.1.2,i64 c.1.1,i64 c.1.2,i64 d.1.1,i64 d.1.2],.agg [.bool (decide (a.2=0)),.bool (decide (b.2=0)),.bool (decide (c.2=0)),.bool (decide (d.2=0))]] (.tup [sp (xG a b c d).1,i64 (xG a b c d).2]):=by
 obtain⟨⟨a1,a2⟩,ae⟩:=a;obtain⟨⟨b1,b2⟩,be⟩:=b;obtain⟨⟨c1,c2⟩,ce⟩:=c;obtain⟨⟨d1,d2⟩,de⟩:=d;simp only[]at *
 unfold xG;by_cases za:ae=0
 rotate_left
 ·rw[if_neg (fun h=>za h.1),zA5 za];exact zT a1 a2 b1 b2 c1 c2 d1 d2 _ _ _
 by_cases zb:be=0
 rotate_left
 ·rw[if_neg (fun h=>zb h.2.1),zA4 za,zA5 zb];exact zU a1 a2 b1 b2 c1 c2 d1 d2 _ _
 by_cases zc:ce=0
 rotate_left
 ·rw[if_neg (fun h=>zc h.2.2.1),zA4 za,zA4 zb,zA5 zc];exact zV a1 a2 b1 b2 c1 c2 d1 d2 _
 by_cases zd:de=0
 rotate_left
 ·rw[if_neg (fun h=>zd h.2.2.2),zA4 za,zA4 zb,zA4 zc,zA5 zd];exact zW a1 a2 b1 b2 c1 c2 d1 d2
 rw[if_pos ⟨za,zb,zc,zd⟩,zA4 za,zA4 zb,zA4 zc,zA4 zd];have va:=ha za;have vb:=hb zb;have vc:=hc zc;have vd:=hd zd;have l0:=kN (a1,a2) (a1,a2) va va;have g0:=nW (a1,a2) (a1,a2) va va;rw[No]at l0;rw[Np]at g0;have vl1:=eE va vb;have vg1:=eH va vb;have vl2:=eE vl1 vc;have vg2:=eH vg1 vc;exact Fi a1 a2 b1 b2 c1 c2 d1 d2 _ _ _ _ _ _ l0 g0 (kN _ _ va vb) (nW _ _ va vb) (kN _ _ vl1 vc) (nW _ _ vg1 vc) (kN _ _ vl2 vd) (nW _ _ vg2 vd)
theorem QY{a b:V3}(ha:y9 a=true)(hb:y9 b=true):W7 a b=xG (Z4 a.1 b.1) (Z4 a.1 b.2) (Z4 a.2 b.1) (Z4 a.2 b.2):=by
 obtain⟨a1,a2,a3⟩:=L3.1 ha;obtain⟨b1,b2,b3⟩:=L3.1 hb;have h:=Jl (op:=Z4) (p:=(a.1,b.1)) (q:=(a.1,b.2)) (r:=(a.2,b.1)) (s:=(a.2,b.2)) ⟨_,dT a1 b1⟩ ⟨_,dT a1 b2⟩ ⟨_,dT a2 b1⟩ ⟨_,dT a2 b2⟩;unfold W7;rw[ha,hb];exact h
theorem zX(a b:V3)(h1:A4 a.1.1)(h2:A4 a.1.2)(h3:A4 a.2.1)(h4:A4 a.2.2)(k1:A4 b.1.1)(k2:A4 b.1.2)(k3:A4 b.2.1)(k4:A4 b.2.2):va6 183 [sp a,sp b] (.tup [sp (W7 a b).1,i64 (W7 a b).2]):=by
 have c1:=cE a h1 h2 h3 h4;have c2:=cE b k1 k2 k3 k4;have no:y9 a=false∨y9 b=false->W7 a b=(zS,8):=fun h=>by unfold W7;rcases h with h|h<;>simp[h]
 cases ha:y9 a
 ·rw[no (.inl ha)];rw[ha]at c1;refine pF Tryz.func183 ?_;conv=>whnf
  try exact va1
  all_goals simp
 cases hb:y9 b
 ·rw[no (.inr hb)];rw[ha]at c1;rw[hb]at c2;refine pF Tryz.func183 ?_;conv=>whnf
  try exact va1
  all_goals simp
 rw[ha]at c1;rw[hb]at c2;obtain⟨a1,a2,a3⟩:=L3.1 ha;obtain⟨b1,b2,b3⟩:=L3.1 hb;rw[QY ha hb];have o1:=kM a.1 b.1 a1 b1;have o2:=kM a.1 b.2 a1 b2;have o3:=kM a.2 b.1 a2 b1;have o4:=kM a.2 b.2 a2 b2;have cf:=QX (Z4 a.1 b.1) (Z4 a.1 b.2) (Z4 a.2 b.1) (Z4 a.2 b.2) (gV _ _ a1 b1) (gV _ _ a1 b2) (gV _ _ a2 b1) (gV _ _ a2 b2);generalize Z4 a.1 b.1=r1 at *
 generalize Z4 a.1 b.2=r2 at *
 generalize Z4 a.2 b.1=r3 at *
 generalize Z4 a.2 b.2=r4 at *
 refine pF Tryz.func183 ?_;conv=>whnf
 try exact va1
abbrev I4(s:V3):Prop:=A4 s.1.1/\A4 s.1.2/\A4 s.2.1/\A4 s.2.2
theorem Nq(a b:V3)(ha:I4 a)(hb:I4 b):va6 183 [sp a,sp b] (.tup [sp (W7 a b).1,i64 (W7 a b).2]):=zX a b ha.1 ha.2.1 ha.2.2.1 ha.2.2.2 hb.1 hb.2.1 hb.2.2.1 hb.2.2.2

end Go.Proofs.Tryz.My
