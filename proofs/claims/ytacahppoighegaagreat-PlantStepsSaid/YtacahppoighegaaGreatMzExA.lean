/- Helper lemmas. -/
import Derived.Test.YtacahppoighegaaGreatEvSix
import Derived.Test.YtacahppoighegaaGreatChecked
set_option linter.unusedVariables false
set_option linter.unusedSimpArgs false
set_option maxRecDepth 100000
set_option maxHeartbeats 0
namespace Go.Proofs.Tryz.My
open Go Go.Ev
theorem hmE:Tryz.prog.follows .mixedOrders=true:=by kernel_rfl
theorem hm:Tryz.prog.follows .mixedOrders=true:=hmE
abbrev va6:=PC Tryz.prog
abbrev va7:=PW Tryz.prog
theorem pF{f:FuncId}{fn:Func}{args:List AV}{res:AV}(hf:Tryz.prog.funcs[f]? = some fn)(h:GS Tryz.prog fn args res)(g:(fn.name == "runtime.NumGoroutine")=false:=by kernel_rfl):va6 f args res:=Ca hm hf g h
theorem pW{f:FuncId}{fn:Func}{args:List AV}{ins o9:List Row}{res:AV}(hf:Tryz.prog.funcs[f]? = some fn)(h:zA Tryz.prog fn args ins res o9)(g:(fn.name == "runtime.NumGoroutine")=false:=by kernel_rfl):va7 f args ins res o9:=Cb hm hf g h
theorem vb4{f:FuncId}{fn:Func}{args:List AV}{res:AV}{R:Prop}(hf:Tryz.prog.funcs[f]?=some fn)(k:R)(h:vb0 R->GS Tryz.prog fn args res:=by(intro vb2;(conv=>whnf);exact vb2.o))(g:(fn.name == "runtime.NumGoroutine")=false:=by kernel_rfl):va6 f args res:=pF hf (h ⟨k⟩) g
theorem vb5{f:FuncId}{fn:Func}{args:List AV}{ins outs:List Row}{res:AV}{R:Prop}(hf:Tryz.prog.funcs[f]?=some fn)(k:R)(h:vb0 R->zA Tryz.prog fn args ins res outs:=by(intro vb2;refine⟨by kernel_rfl,?_⟩;(conv=>whnf);exact vb2.o))(g:(fn.name == "runtime.NumGoroutine")=false:=by kernel_rfl):va7 f args ins res outs:=pW hf (h ⟨k⟩) g
theorem M0(n:Int)(h:A4 n):va6 231 [i64 n] (u64 n.natAbs):=by
 unfold A4 at h;refine vb4 Tryz.func231 ?_;refine⟨fun h=>?_,fun h=>?_⟩
 ·have h:=zA1 h;conv=>whnf
  congr 1
  rw[gQ,gQ];omega
 ·have h:=zA0 h;conv=>whnf
  congr 1
  rw[gQ];omega
theorem pC(a b:Nat)(ha:a<18446744073709551616)(hb:b<18446744073709551616):va6 230 [u64 a,u64 b] (u64 (Nat.gcd a b)):=by
 refine vb4 Tryz.func230 ?_;refine Or.inr ⟨Nat×Nat,[0,1],[],[],fun i=>[u64 i.1,u64 i.2],fun _=>[],fun _=>[],fun i=>i.2,fun i=>Nat.gcd i.1 i.2=Nat.gcd a b/\i.1<18446744073709551616/\i.2<18446744073709551616,vb3 ?_⟩;refine⟨⟨(a,b),?_⟩,?_⟩
 ·(conv=>whnf);exact kK ⟨⟨rfl,ha,hb⟩,rfl,rfl,rfl⟩
 ·rintro⟨x,y⟩ ⟨h1,h2,h3⟩;conv=>whnf
  refine⟨fun h=>?_,fun h=>?_⟩
  ·have h:y≠0:=by
    have h:¬ ((y:Int)=0):=by simpa using h
    omega
   conv=>whnf
   refine⟨va4,vb3 ?_⟩;refine⟨by show(y:Int)≠0;omega,vb3 ?_⟩;refine⟨va4,vb3 ?_⟩;refine⟨(y,x % y),vb3 ?_⟩;refine kK ⟨⟨Nat.mod_lt _ va5,?_,h3,?_⟩,?_,rfl,rfl⟩
   ·show Nat.gcd y (x % y)=_
    rw[<- h1,Nat.gcd_comm x y,Nat.gcd_rec y x,Nat.gcd_comm]
   ·exact Nat.lt_of_le_of_lt (Nat.mod_le x y) h2
   ·show [AV.int .u64 (y:Int),AV.int .u64 ((x:Int).tmod (y:Int))]=[u64 y,u64 (x % y)]
    rw[Mq]
  ·have h:y=0:=by
    have h:((y:Int)=0):=by simpa using h
    omega
   conv=>whnf
   subst h
   congr 1
   rw[<- h1];simp
theorem gT(x y:Nat):x<y↔(x / 18446744073709551616<y / 18446744073709551616∨(x / 18446744073709551616=y / 18446744073709551616/\x % 18446744073709551616<y % 18446744073709551616)):=by omega
theorem zG(x y:Nat)(hx:x<340282366920938463463374607431768211456)(hy:y<340282366920938463463374607431768211456):va6 256 [pr x,pr y] (.bool (decide (x<y))):=by
 refine vb4 Tryz.func256 ?_;refine ve6 ?_ ?_ ?_<;>intros
 all_goals
  congr 1
  refine Eq.symm ?_;first
   | (refine zA4 ?_;rw[gT];omega)
   | (refine zA5 ?_;rw[gT];omega)
   | (refine decide_eq_decide.2 ?_;rw[gT];omega)
theorem gU(x y:Nat)(hx:x<18446744073709551616)(hy:y<18446744073709551616):va6 262 [u64 x,u64 y] (.tup [u64 (x*y / 18446744073709551616),u64 (x*y % 18446744073709551616)]):=by
 refine vb4 Tryz.func262 ?_;obtain⟨m1,m2,m3,m4⟩:=Go.Lib.mul64_hi x y hx hy;have e1:x / 4294967296*(y % 4294967296) % 18446744073709551616=x / 4294967296*(y % 4294967296):=Nat.mod_eq_of_lt va5;have e2:x % 4294967296*(y / 4294967296) % 18446744073709551616=x % 4294967296*(y / 4294967296):=Nat.mod_eq_of_lt va5;have z8:x*y / 18446744073709551616<18446744073709551616:=by
  have:x*y<=18446744073709551615*18446744073709551615:=Nat.mul_le_mul va5 va5;omega
 rw[<- m4]at z8;have e3:x / 4294967296*(y / 4294967296) % 18446744073709551616=x / 4294967296*(y / 4294967296):=Nat.mod_eq_of_lt va5;have e4:(x / 4294967296*(y / 4294967296)+(x / 4294967296*(y % 4294967296)+x % 4294967296*(y % 4294967296) / 4294967296) / 4294967296) % 18446744073709551616=x / 4294967296*(y / 4294967296)+(x / 4294967296*(y % 4294967296)+x % 4294967296*(y % 4294967296) / 4294967296) / 4294967296:=Nat.mod_eq_of_lt va5;simp only[rU,jU _ hx,jU _ hy,tu,nF,Nat.mod_eq_of_lt m1,e1,Nat.mod_eq_of_lt m2,jU _ m2,e2,Nat.mod_eq_of_lt m3,e3,e4,Nat.mod_eq_of_lt z8];rw[m4]
theorem ax(x y:Nat)(hx:x<18446744073709551616)(hy:y<18446744073709551616):va6 238 [u64 x,u64 y] (pr (x*y)):=by
 refine vb4 Tryz.func238 ?_
 (first|(refine Or.inl ?_;(conv=>whnf);refine⟨_,gU x y hx hy,?_⟩)|refine⟨_,gU x y hx hy,?_⟩)
 conv=>whnf
def X7(neg:Bool)(N D:Nat):(Int×Int)×Int:=if N<=4611686018427387903/\D<=4611686018427387903 then((if neg then -(N:Int)else N,D),0)else((0,0),4)
theorem zH(neg:Bool)(N D:Nat)(hN:N<340282366920938463463374607431768211456)(hD:D<340282366920938463463374607431768211456):va6 237 [.bool neg,pr N,pr D] (.tup [fr (X7 neg N D).1,i64 (X7 neg N D).2]):=by
 refine vb4 Tryz.func237 ?_;have bad:¬ (N<=4611686018427387903/\D<=4611686018427387903)->X7 neg N D=((0,0),4):=fun h=>by simp[X7,h]
 refine ve8 ?_ ?_ ?_ ?_ ?_ ?_<;>(repeat intro hh)
 ·rw[bad va5]
 ·rw[bad va5]
 ·rw[bad va5]
 ·rw[bad va5]
 ·have h1:N<=4611686018427387903/\D<=4611686018427387903:=by omega
  have e1:N % 18446744073709551616=N:=by omega
  have e2:D % 18446744073709551616=D:=by omega
  rw[e1,e2,wi (N:Int) va5 va5,wi (D:Int) va5 va5,wi _ va5 va5];subst hh;simp[X7,h1]
 ·have h1:N<=4611686018427387903/\D<=4611686018427387903:=by omega
  have e1:N % 18446744073709551616=N:=by omega
  have e2:D % 18446744073709551616=D:=by omega
  rw[e1,e2,wi (N:Int) va5 va5,wi (D:Int) va5 va5];subst hh;simp[X7,h1]
theorem eC(n:Nat)(h:n<18446744073709551616):pr n = .agg [.int .u64 0,u64 n]:=by
 have e1:n / 18446744073709551616=0:=by omega
 have e2:n % 18446744073709551616=n:=by omega
 show AV.agg [u64 (n / 18446744073709551616),u64 (n % 18446744073709551616)]=_
 rw[e1,e2];rfl
def G9(num den:Int):(Int×Int)×Int:=if den=0 then((0,0),10)else X7 (decide (num<0) != decide (den<0)) (num.natAbs / Nat.gcd num.natAbs den.natAbs) (den.natAbs / Nat.gcd num.natAbs den.natAbs)
theorem pD{n:Int}(h:A4 n):n.natAbs<18446744073709551616:=by unfold A4 at h;omega
theorem IQ{a b:Nat}(h:b≠0):Nat.gcd a b≠0:=fun e=>h (Nat.eq_zero_of_gcd_eq_zero_right e)
theorem Qy(num den:Int)(h1:A4 num)(h2:A4 den):va6 271 [i64 num,i64 den] (.tup [fr (G9 num den).1,i64 (G9 num den).2]):=by
 have l1:=pD h1;have l2:=pD h2;by_cases hd:den=0
 ·subst hd;refine vb4 Tryz.func271 ?_;refine ve4 ?_;intros;all_goals simp[G9]
 ·have hg:Nat.gcd num.natAbs den.natAbs≠0:=IQ va5;have Py:G9 num den=X7 (decide (num<0) != decide (den<0)) (num.natAbs / Nat.gcd num.natAbs den.natAbs) (den.natAbs / Nat.gcd num.natAbs den.natAbs):=by simp[G9,hd]
  have c3:=pC num.natAbs den.natAbs l1 l2;generalize Nat.gcd num.natAbs den.natAbs=g at *
  have q1:num.natAbs / g<18446744073709551616:=Nat.lt_of_le_of_lt (Nat.div_le_self _ _) l1;have q2:den.natAbs / g<18446744073709551616:=Nat.lt_of_le_of_lt (Nat.div_le_self _ _) l2;have c4:=zH (decide (num<0) != decide (den<0)) (num.natAbs / g) (den.natAbs / g) va5 va5;rw[eC _ q1,eC _ q2,<- Py]at c4;refine vb4 Tryz.func271 ?_;have cZ:=M0 num h1;have cZ:=M0 den h2;refine vc6 ?_;intros;rw[jn _ _ l1,jn _ _ l2];try exact va1
def B6(n lo hi:Int):Bool:=decide (lo<=n) && decide (n<=hi)
abbrev frs(l:List (Int×Int)):AV := .sl 2 ((0:Int),(0:Int)) eF l
def o7(x:Int×Int):Bool:=decide (1<=x.2) && decide (x.2<=4611686018427387903) && decide (-4611686018427387903<=x.1) && decide (x.1<=4611686018427387903) && decide (Nat.gcd x.1.natAbs x.2.natAbs=1)
theorem A7(x:Int×Int):o7 x=true↔1<=x.2/\x.2<=4611686018427387903 /\ -4611686018427387903<=x.1/\x.1<=4611686018427387903/\Nat.gcd x.1.natAbs x.2.natAbs=1:=by
 simp only[o7,zA2,zA3];exact⟨fun⟨⟨⟨⟨a,b⟩,c⟩,d⟩,e⟩=>⟨a,b,c,d,e⟩,fun⟨a,b,c,d,e⟩=>⟨⟨⟨⟨a,b⟩,c⟩,d⟩,e⟩⟩
theorem nI(x:Int×Int):o7 x=false↔¬ (1<=x.2/\x.2<=4611686018427387903 /\ -4611686018427387903<=x.1/\x.1<=4611686018427387903/\Nat.gcd x.1.natAbs x.2.natAbs=1):=by
 rw[<- A7];simp
theorem Cj{α:Type}(p:α->Bool)(d:α)(l:List α)(k:Nat)(hk:k<l.length)(h:p (l.getD k d)=false):l.all p=false:=by
 refine List.all_eq_false.2 ⟨l.getD k d,by simp[List.getD,hk],by simpa using h⟩
theorem Ck{α:Type}(p:α->Bool)(d:α)(l:List α)(h:∀ i,i<l.length->p (l.getD i d)=true):l.all p=true:=by
 refine List.all_eq_true.2 fun x hx=>?_
 obtain⟨i,hi,rfl⟩:=List.getElem_of_mem hx;have:=h i hi;simpa[List.getD,hi]using this
theorem MH(l:List (Int×Int))(hl:l.length<2^40):va6 189 [frs l] (.bool (l.all o7)):=by
 refine vb4 Tryz.func189 ?_;refine Or.inr ⟨Nat,[7],[],[],fun k=>[i64 k],fun _=>[],fun _=>[],fun k=>l.length-k,fun k=>k<=l.length/\∀ i,i<k->o7 (l.getD i (0,0))=true,vb3 ?_⟩;refine⟨⟨0,?_⟩,?_⟩
 ·(conv=>whnf);exact kK ⟨by simp,rfl,rfl,rfl⟩
 ·intro k hk;conv=>whnf
  refine⟨fun h=>?_,fun h=>?_⟩
  ·have h:=zA1 h;conv=>whnf
   have hg:l.getD (Int.toNat (k:Int)) (0,0)=l.getD k (0,0):=rfl;refine⟨⟨va5,va5⟩,?_⟩;rw[hg];have bad:o7 (l.getD k (0,0))=false->l.all o7=false:=Cj o7 (0,0) l k va5;have MI:o7 (l.getD k (0,0))=true->∀ i,i<k+1->o7 (l.getD i (0,0))=true:=fun h i hi=>by
    by_cases e:i=k
    ·subst e;exact h
    ·exact hk.2 i va5
   have v1:=nI (l.getD k (0,0));have v2:=A7 (l.getD k (0,0));generalize l.getD k (0,0)=x at bad MI v1 v2 ⊢;obtain⟨n,d⟩:=x;simp only[]at v1 v2;by_cases hb:1<=d/\d<=4611686018427387903 /\ -4611686018427387903<=n/\n<=4611686018427387903
   rotate_left
   ·have hf:=v1.2 (fun h=>hb ⟨h.1,h.2.1,h.2.2.1,h.2.2.2.1⟩);conv=>whnf
    refine ve7 ?_ ?_ ?_ ?_<;>intros
    all_goals (rw[bad hf])
   conv=>whnf
   have i1:A4 n:=by unfold A4;omega
   have i2:A4 d:=by unfold A4;omega
   have c3:=pC n.natAbs d.natAbs va5 va5;have cZ:=M0 n i1;have cZ:=M0 d i2;refine vc7 ?_ ?_<;>intros
   ·rw[bad (v1.2 fun h=>by omega)]
   ·refine⟨k+1,vb3 ?_⟩;refine kK ⟨⟨Nat.sub_lt_sub_left va5 (Nat.lt_succ_self k),va5,MI (v2.2 ⟨hb.1,hb.2.1,hb.2.2.1,hb.2.2.2,va5⟩)⟩,?_,rfl,rfl⟩;rw[z5 _ va5 va5];rfl
  ·have h:=zA0 h;conv=>whnf
   congr 1
   exact(Ck o7 (0,0) l fun i hi=>hk.2 i va5).symm
theorem xt(l:List (Int×Int))(hl:l.length<2^40):va6 189 [.slc 2 (l.map eF)] (.bool (l.all o7)) :=
 PC.last (args:=[]) (MH l hl) (.slc 2 (0,0) eF l)
theorem IS(a:Int×Int):va6 189 [.slc 2 [eF a]] (.bool (o7 a)):=by
 have:=xt [a] va9;simpa using this
theorem xu(a b:Int×Int):va6 189 [.slc 2 [eF a,eF b]] (.bool (o7 a && o7 b)):=by
 have:=xt [a,b] va9;simpa using this
theorem MJ(a:Int×Int):va6 145 [fr a] (i64 (if o7 a then 0 else 8)):=by
 refine vb4 Tryz.func145 ?_;have cZ:=IS a;refine vc7 ?_ ?_<;>intros
 all_goals simp_all
def W6(a b:Int×Int):Int:=if a.1*b.2<b.1*a.2 then -1 else if a.1*b.2=b.1*a.2 then 0 else 1
theorem nJ{a b:Int×Int}(ha:o7 a=true)(hb:o7 b=true)(h:a.1*b.2=b.1*a.2):a=b:=by
 rw[A7]at ha hb;obtain⟨n,d⟩:=a;obtain⟨m,e⟩:=b;simp only[]at *
 have c1:Nat.Coprime n.natAbs d.natAbs:=ha.2.2.2.2;have c2:Nat.Coprime m.natAbs e.natAbs:=hb.2.2.2.2;have h':n.natAbs*e.natAbs=m.natAbs*d.natAbs:=by rw[<- Int.natAbs_mul,<- Int.natAbs_mul,h]
 have d1:d.natAbs ∣ e.natAbs:=c1.symm.dvd_of_dvd_mul_left ⟨m.natAbs,by rw[h',Nat.mul_comm]⟩;have d2:e.natAbs ∣ d.natAbs:=c2.symm.dvd_of_dvd_mul_left ⟨n.natAbs,by rw[<- h',Nat.mul_comm]⟩;have Er:d=e:=by have:=Nat.dvd_antisymm d1 d2;omega
 subst Er;have:n=m:=Int.eq_of_mul_eq_mul_right va5 h;rw[this]
theorem tM(a b:Int×Int)(ha:o7 a=true)(hb:o7 b=true):va6 232 [fr a,fr b] (i64 (W6 a b)):=by
 have heq:=nJ ha hb;rw[A7]at ha hb;obtain⟨n,d⟩:=a;obtain⟨m,e⟩:=b;simp only[]at *
 have i1:A4 n:=by unfold A4;omega
 have i2:A4 d:=by unfold A4;omega
 have i3:A4 m:=by unfold A4;omega
 have i4:A4 e:=by unfold A4;omega
 have p1:=ax n.natAbs e.natAbs va5 va5;have p2:=ax m.natAbs d.natAbs va5 va5;have hx:n.natAbs*e.natAbs<340282366920938463463374607431768211456:=Nat.lt_of_le_of_lt (Nat.mul_le_mul (show n.natAbs<=4611686018427387903 by omega) (show e.natAbs<=4611686018427387903 by omega)) va8;have hy:m.natAbs*d.natAbs<340282366920938463463374607431768211456:=Nat.lt_of_le_of_lt (Nat.mul_le_mul (show m.natAbs<=4611686018427387903 by omega) (show d.natAbs<=4611686018427387903 by omega)) va8;have Ej:((n.natAbs*e.natAbs:Nat):Int)=if n<0 then -(n*e)else n*e:=by
  rw[Int.natCast_mul,show((e.natAbs:Nat):Int)=e by omega];split
  ·rw[show((n.natAbs:Nat):Int) = -n by omega,Int.neg_mul]
  ·rw[show((n.natAbs:Nat):Int)=n by omega]
 have hsy:((m.natAbs*d.natAbs:Nat):Int)=if m<0 then -(m*d)else m*d:=by
  rw[Int.natCast_mul,show((d.natAbs:Nat):Int)=d by omega];split
  ·rw[show((m.natAbs:Nat):Int) = -m by omega,Int.neg_mul]
  ·rw[show((m.natAbs:Nat):Int)=m by omega]
 have l1:=zG (n.natAbs*e.natAbs) (m.natAbs*d.natAbs) hx hy;have l2:=zG (m.natAbs*d.natAbs) (n.natAbs*e.natAbs) hy hx;have s1:0<n->0<n*e:=fun h=>Int.mul_pos h va5
 have s2:n<0->n*e<0:=fun h=>Int.mul_neg_of_neg_of_pos h va5
 have s3:0<m->0<m*d:=fun h=>Int.mul_pos h va5
 have s4:m<0->m*d<0:=fun h=>Int.mul_neg_of_neg_of_pos h va5
 have s5:n=0->n*e=0:=fun h=>by rw[h,Int.zero_mul]
 have s6:m=0->m*d=0:=fun h=>by rw[h,Int.zero_mul]
 have a3Y:n*e=m*d->n=m/\d=e:=fun h=>by have:=heq h;simpa using this
 have a3Z:n=m->d=e->n*e=m*d:=fun h1 h2=>by rw[h1,h2]
 have hc:W6 (n,d) (m,e)=if n*e<m*d then -1 else if n*e=m*d then 0 else 1:=rfl
 generalize n.natAbs*e.natAbs=x at *
 generalize m.natAbs*d.natAbs=y at *
 generalize n*e=X at *
 generalize m*d=Y at *
 refine vb4 Tryz.func232 ?_;have cZ:=M0 n i1;have cZ:=M0 d i2;have cZ:=M0 m i3;have cZ:=M0 e i4;refine vd3 ?_ ?_ ?_ ?_ ?_ ?_ ?_ ?_ ?_<;>intros
 all_goals
  clear p1 p2 l1 l2 heq ha hb hx hy i1 i2 i3 i4;rw[hc]
  congr 1
  clear hc;try simp only[reduceCtorEq,or_false]at *
  split at Ej<;>split at hsy<;>(refine Eq.symm ?_)<;>first
   | (rw[if_pos va5];done)
   | (rw[if_neg va5,if_pos va5];done)
   | (rw[if_neg va5,if_neg va5];done)
   | (exfalso;omega)
abbrev V3:Type:=(Int×Int)×(Int×Int)
abbrev sp(s:V3):AV := .agg [i64 s.1.1,i64 s.1.2,i64 s.2.1,i64 s.2.2]
abbrev eS(s:V3):List AV:=[i64 s.1.1,i64 s.1.2,i64 s.2.1,i64 s.2.2]
abbrev sps(l:List V3):AV := .sl 4 (((0:Int),(0:Int)),((0:Int),(0:Int))) eS l
def y9(s:V3):Bool:=o7 s.1 && o7 s.2 && decide (W6 s.1 s.2<=0)
theorem Cl(l:List V3)(hl:l.length<2^40):va6 191 [sps l] (.bool (l.all y9)):=by
 refine vb4 Tryz.func191 ?_;refine Or.inr ⟨Nat,[7],[],[],fun k=>[i64 k],fun _=>[],fun _=>[],fun k=>l.length-k,fun k=>k<=l.length/\∀ i,i<k->y9 (l.getD i ((0,0),(0,0)))=true,vb3 ?_⟩;refine⟨⟨0,?_⟩,?_⟩
 ·(conv=>whnf);exact kK ⟨by simp,rfl,rfl,rfl⟩
 ·intro k hk;conv=>whnf
  refine⟨fun h=>?_,fun h=>?_⟩
  ·have h:=zA1 h;conv=>whnf
   have hg:l.getD (Int.toNat (k:Int)) ((0,0),(0,0))=l.getD k ((0,0),(0,0)):=rfl;refine⟨⟨va5,va5⟩,?_⟩;rw[hg];have bad:y9 (l.getD k ((0,0),(0,0)))=false->l.all y9=false:=Cj y9 _ l k va5;have MI:y9 (l.getD k ((0,0),(0,0)))=true->∀ i,i<k+1->y9 (l.getD i ((0,0),(0,0)))=true:=fun h i hi=>by
    by_cases e:i=k
    ·subst e;exact h
    ·exact hk.2 i va5
   generalize l.getD k ((0,0),(0,0))=x at bad MI ⊢;obtain⟨⟨n,d⟩,⟨m,e⟩⟩:=x;have v:=xu (n,d) (m,e);conv=>whnf
   refine vc7 ?_ ?_<;>(repeat intro hh)
   ·rw[bad (by simp only[y9];rcases hh with h|h<;>simp[h])]
   ·have o:=tM (n,d) (m,e) hh.1 hh.2;have hsb:y9 ((n,d),(m,e))=decide (W6 (n,d) (m,e)<=0):=by simp[y9,hh.1,hh.2]
    generalize W6 (n,d) (m,e)=c at o hsb;refine vc7 ?_ ?_<;>(repeat intro hh)
    ·rw[bad (by rw[hsb];exact zA5 va5)]
    ·refine⟨k+1,vb3 ?_⟩;refine kK ⟨⟨Nat.sub_lt_sub_left va5 (Nat.lt_succ_self k),va5,MI (by rw[hsb];exact zA4 va5)⟩,?_,rfl,rfl⟩;rw[z5 _ va5 va5];rfl
  ·have h:=zA0 h;conv=>whnf
   congr 1
   exact(Ck y9 _ l fun i hi=>hk.2 i va5).symm
theorem xw(a:V3):va6 191 [.slc 4 [eS a]] (.bool (y9 a)):=by
 have:=PC.last (args:=[]) (Cl [a] va9) (.slc 4 _ eS [a]);simpa using this
theorem pE(a b:V3):va6 191 [.slc 4 [eS a,eS b]] (.bool (y9 a && y9 b)):=by
 have:=PC.last (args:=[]) (Cl [a,b] va9) (.slc 4 _ eS [a,b]);simpa using this
theorem dH(a:V3):va6 150 [sp a] (i64 (if y9 a then 0 else 8)):=by
 refine vb4 Tryz.func150 ?_;have cZ:=xw a;refine vc7 ?_ ?_<;>intros
 all_goals simp_all

end Go.Proofs.Tryz.My
