/- Helper lemmas. -/
import Derived.Test.YtacahppoighegaaGreatMzExC
set_option linter.unusedVariables false
set_option linter.unusedSimpArgs false
set_option maxRecDepth 100000
set_option maxHeartbeats 0
namespace Go.Proofs.Tryz.My
open Go Go.Ev
structure vV (y u e q r:Nat):Prop where
 eq:q*(y / 4294967296)+r=u
 up:(u*4294967296+e) / y<=q
 le:q<=4294967297
theorem xz{y u e:Nat}(hy:9223372036854775808<=y)(Wv:y<18446744073709551616)(hu:u<y)(he:e<4294967296):vV y u e (u / (y / 4294967296)) (u % (y / 4294967296)):=by
 have h0:0<y / 4294967296:=by omega
 have h1:u / (y / 4294967296)*(y / 4294967296)+u % (y / 4294967296)=u:=Nat.div_add_mod' u (y / 4294967296);have Zs:y=y / 4294967296*4294967296+y % 4294967296:=by omega
 refine⟨h1,?_,?_⟩
 ·have hm:=Nat.mod_lt u h0;generalize u / (y / 4294967296)=q at *
  generalize u % (y / 4294967296)=r at *
  generalize hp:y / 4294967296=p at *
  have hd:u*4294967296+e<(q+1)*y:=by
   have e1:(q+1)*y=(q+1)*p*4294967296+(q+1)*(y % 4294967296):=by
    generalize y % 4294967296=m at Zs;rw[Zs,Nat.mul_add,Nat.mul_assoc]
   have e2:(q+1)*p=q*p+p:=by rw[Nat.add_mul,Nat.one_mul]
   omega
  exact Nat.le_of_lt_succ ((Nat.div_lt_iff_lt_mul va5).2 hd)
 ·have hm:=Nat.mod_lt u h0;generalize u / (y / 4294967296)=q at *
  generalize u % (y / 4294967296)=r at *
  generalize hp:y / 4294967296=p at *
  have ji:2147483648<=p:=by omega
  refine Nat.le_of_lt_succ (Nat.lt_of_not_le fun hq=>?_);have:4294967298*p<=q*p:=Nat.mul_le_mul_right p hq;omega
theorem zJ{y u e:Nat}(hy:0<y)(hu:u<y)(he:e<4294967296):(u*4294967296+e) / y<4294967296:=by
 refine(Nat.div_lt_iff_lt_mul hy).2 ?_;have:(u+1)*4294967296<=y*4294967296:=Nat.mul_le_mul_right _ hu;rw[Nat.mul_comm 4294967296 y];omega
theorem Hb{y u e q r:Nat}(h:vV y u e q r)(hy:0<y):q*(y % 4294967296) > 4294967296*r+e↔(u*4294967296+e) / y<q:=by
 have Zs:y=y / 4294967296*4294967296+y % 4294967296:=by omega
 rw[Nat.div_lt_iff_lt_mul hy];have e1:q*y=q*(y / 4294967296)*4294967296+q*(y % 4294967296):=by
  generalize y % 4294967296=m at *
  generalize y / 4294967296=p at *
  rw[Zs,Nat.mul_add,Nat.mul_assoc]
 have:=h.eq;omega
theorem tT{y u e q r:Nat}(h:vV y u e q r)(hy:0<y)(hn:q*(y % 4294967296)<=4294967296*r+e):q=(u*4294967296+e) / y:=by
 have h1:¬ (u*4294967296+e) / y<q:=fun h2=>by
  have:=(Hb h hy).2 h2;omega
 have:=h.up;omega
theorem Cq{y u e q r:Nat}(h:vV y u e (q+1) r)(hy:0<y)(hu:u<y)(he:e<4294967296)(hc:4294967296<=q+1∨(q+1)*(y % 4294967296) > 4294967296*r+e):vV y u e q (r+y / 4294967296):=by
 have ht:=zJ hy hu he;have hq:(u*4294967296+e) / y<q+1:=by
  rcases hc with hc|hc
  ·exact zB5 ht hc
  ·exact(Hb h hy).1 hc
 have h1:=h.eq;have hle:=h.le;refine⟨?_,Nat.le_of_lt_succ hq,va5⟩;have:(q+1)*(y / 4294967296)=q*(y / 4294967296)+y / 4294967296:=by rw[Nat.add_mul,Nat.one_mul]
 omega
theorem xA{y u e q r:Nat}(h:vV y u e q r)(hy:0<y)(hq:q<=4294967296)(hr:4294967296<=r):q=(u*4294967296+e) / y:=by
 refine tT h hy ?_;have:q*(y % 4294967296)<=4294967296*4294967295:=Nat.mul_le_mul hq va5;omega
theorem Cr{y u e:Nat}(hy:0<y)(Wv:y<18446744073709551616):(u*4294967296 % 18446744073709551616+e+(18446744073709551616-(u*4294967296+e) / y*y % 18446744073709551616)) % 18446744073709551616=(u*4294967296+e) % y:=by
 have h1:=Nat.div_add_mod' (u*4294967296+e) y;have h2:=Nat.mod_lt (u*4294967296+e) hy;generalize (u*4294967296+e) / y*y=m at *
 omega
theorem tU{y v w q r f:Nat}(hy:0<y)(h1:q*y+r=v)(h2:w=v*4294967296+f):q*4294967296+(r*4294967296+f) / y=w / y/\(r*4294967296+f) % y=w % y:=by
 have e1:w=(r*4294967296+f)+y*(q*4294967296):=by
  have:y*(q*4294967296)=q*y*4294967296:=by rw[Nat.mul_left_comm,<- Nat.mul_assoc]
  rw[this,h2];omega
 have k1:=Nat.add_mul_div_left (r*4294967296+f) (q*4294967296) hy;have k2:=Nat.add_mul_mod_self_left (r*4294967296+f) y (q*4294967296);rw[<- e1]at k1 k2;exact⟨(Nat.add_comm _ _).trans k1.symm,k2.symm⟩
theorem EX{y u e f w:Nat}(hy:0<y)(hw:w=(u*4294967296+e)*4294967296+f):(u*4294967296+e) / y*4294967296+((u*4294967296+e) % y*4294967296+f) / y=w / y/\((u*4294967296+e) % y*4294967296+f) % y=w % y :=
 tU hy (Nat.div_add_mod' _ _) hw
def bu(x:Nat):Nat:=if x=0 then 0 else Nat.log2 x+1
theorem QK{x m:Nat}(h1:2^m<=x)(h2:x<2^(m+1)):bu x=m+1:=by
 have h0:x≠0:=by have:=Nat.pow_pos (n:=m) (show 0<2 by omega);omega
 unfold bu;rw[if_neg h0,(Nat.log2_eq_iff h0).2 ⟨h1,h2⟩]
theorem jX{x:Nat}(h:x≠0):∃ m,bu x=m+1/\2^m<=x/\x<2^(m+1):=by
 refine⟨Nat.log2 x,by simp[bu,h],?_⟩;exact(Nat.log2_eq_iff h).1 rfl
theorem mr(x k:Nat)(h:x / 2^k≠0):bu x=k+bu (x / 2^k):=by
 obtain⟨m,e,h1,h2⟩:=jX h;have hk:0<2^k:=Nat.pow_pos va5;rw[e,QK (m:=m+k) (x:=x)]
 ·omega
 ·rw[Nat.pow_add];exact(Nat.le_div_iff_mul_le hk).1 h1
 ·have:=(Nat.div_lt_iff_lt_mul hk).1 h2;rw[show m+k+1=m+1+k by omega,Nat.pow_add];exact this
theorem zK{x k:Nat}(h:x<2^k):bu x<=k:=by
 by_cases h0:x=0
 ·subst h0;simp[bu]
 ·obtain⟨m,e,h1,h2⟩:=jX h0;have:m<k:=(Nat.pow_lt_pow_iff_right (a:=2) va5).1 (Nat.lt_of_le_of_lt h1 h);omega
theorem XV(n:Nat)(h:n<256):IntKind.u8.wrap (n:Int)=n:=by simp[IntKind.wrap,IntKind.bits,IntKind.signed];omega
theorem QL(a:Nat):((a:Nat):Int).fdiv (2^min (Int.toNat 16) IntKind.u64.bits)=((a / 65536:Nat):Int):=qJ a 16 va5
theorem UG(a:Nat):((a:Nat):Int).fdiv (2^min (Int.toNat 8) IntKind.u64.bits)=((a / 256:Nat):Int):=qJ a 8 va5
theorem cM{s:ByteArray}(ht:∀ i,i<256->pg s i=bu i)(x k i:Nat)(hi:i<256)(hk:k<=56)(hx:x<18446744073709551616)(he:bu x=k+bu i):IntKind.i64.wrap ((k:Int)+IntKind.i64.wrap (pg s i))=bu x:=by
 have:bu i<=8:=zK hi;rw[ht i hi,wi (bu i:Int) va5 va5,wi _ va5 va5,he];omega
theorem MT(x:Nat)(hx:x<18446744073709551616):va6 283 [u64 x] (i64 (bu x)):=by
 have Zt:x / 4294967296≠0->bu x=32+bu (x / 4294967296):=mr x 32;have Zu:∀ y,y / 65536≠0->bu y=16+bu (y / 65536):=fun y=>mr y 16
 have s8:∀ y,y / 256≠0->bu y=8+bu (y / 256):=fun y=>mr y 8
 refine vb4 Tryz.func283 ?_;refine ve9 ?_ ?_ ?_ ?_ ?_ ?_ ?_ ?_<;>intros
 all_goals
  generalize hs:(ByteArray.mk _)=s;have h1:s.size=256:=by subst hs;kernel_rfl
  have h2:∀ i,i<256->pg s i=bu i:=by subst hs;decide +kernel
  clear hs;simp only[rU,QL,UG]at *
  rw[XV _ va5];refine⟨⟨va5,va5⟩,vb3 ?_⟩;rw[Int.toNat_natCast]
  congr 1
 ·refine cM h2 x 56 _ va5 va5 hx ?_;rw[Zt va5,Zu _ va5,s8 _ va5];omega
 ·refine cM h2 x 48 _ va5 va5 hx ?_;rw[Zt va5,Zu _ va5];omega
 ·refine cM h2 x 40 _ va5 va5 hx ?_;rw[Zt va5,s8 _ va5];omega
 ·refine cM h2 x 32 _ va5 va5 hx ?_;rw[Zt va5]
 ·refine cM h2 x 24 _ va5 va5 hx ?_;rw[Zu _ va5,s8 _ va5];omega
 ·refine cM h2 x 16 _ va5 va5 hx ?_;rw[Zu _ va5]
 ·refine cM h2 x 8 _ va5 va5 hx ?_;rw[s8 _ va5]
 ·refine cM h2 x 0 _ va5 va5 hx ?_;omega
theorem nP(x:Nat)(hx:x<18446744073709551616):va6 282 [u64 x] (i64 (64-bu x:Nat)):=by
 have h:=zK (x:=x) (k:=64) hx;refine vb4 Tryz.func282 ?_;have cZ:=MT x hx;refine vc6 ?_;intros;rw[wi _ va5 va5]
 congr 1
 omega
theorem IZ{y:Nat}(h0:0<y)(h:y<18446744073709551616):64-bu y<=63/\9223372036854775808<=y*2^(64-bu y)/\y*2^(64-bu y)<18446744073709551616:=by
 obtain⟨m,e,h1,h2⟩:=jX (x:=y) va5;have hl:bu y<=64:=zK (k:=64) h;rw[e]at hl ⊢;refine⟨va5,?_,?_⟩
 ·have:2^m*2^(64-(m+1))<=y*2^(64-(m+1)):=Nat.mul_le_mul_right _ h1;rw[<- Nat.pow_add,show m+(64-(m+1))=63 by omega]at this;exact this
 ·have:y*2^(64-(m+1))<2^(m+1)*2^(64-(m+1)):=Nat.mul_lt_mul_of_pos_right h2 (Nat.pow_pos va5);rw[<- Nat.pow_add,show m+1+(64-(m+1))=64 by omega]at this;exact this
theorem XW{hi lo s:Nat}(hs:s<=63)(h2:lo<18446744073709551616)(h3:hi*2^s<18446744073709551616) :
  bits .or .u64 (IntKind.u64.wrap ((hi:Int)*2^min (Int.toNat (s:Int)) IntKind.u64.bits)) ((lo:Int).fdiv (2^min (Int.toNat ((64-s:Nat):Int)) IntKind.u64.bits))=((hi*2^s+lo / 2^(64-s):Nat):Int):=by
 have hb:lo / 2^(64-s)<2^s:=by
  rw[Nat.div_lt_iff_lt_mul (Nat.pow_pos va5),<- Nat.pow_add,show s+(64-s)=64 by omega];exact h2
 rw[Mp _ _ va5,qJ _ _ va5,Nat.mod_eq_of_lt h3,IK _ _ h3 (Nat.lt_of_le_of_lt (Nat.div_le_self _ _) h2),Nat.mul_comm hi,Nat.two_pow_add_eq_or_of_lt hb]
theorem EY{hi lo T D W r:Nat}(h:D*W+r=lo*T):(hi*W+lo)*T=(hi*T+D)*W+r:=by
 rw[Nat.add_mul,Nat.add_mul,Nat.mul_right_comm,Nat.add_assoc,h]
theorem UH{hi lo s:Nat}(hs:s<=63):(hi*18446744073709551616+lo)*2^s=(hi*2^s+lo / 2^(64-s))*18446744073709551616+lo*2^s % 18446744073709551616:=by
 have e:lo*2^s / 18446744073709551616=lo / 2^(64-s):=by
  have:18446744073709551616=2^(64-s)*2^s:=by rw[<- Nat.pow_add,show 64-s+s=64 by omega]
  rw[this,Nat.mul_div_mul_right _ _ (Nat.pow_pos va5)]
 have h:=Nat.div_add_mod' (lo*2^s) 18446744073709551616;rw[e]at h;exact EY h
theorem XX{hi lo y s:Nat}(hs:s<=63)(h1:hi<y)(h2:lo<18446744073709551616):hi*2^s+lo / 2^(64-s)<y*2^s:=by
 have hb:lo / 2^(64-s)<2^s:=by
  rw[Nat.div_lt_iff_lt_mul (Nat.pow_pos va5),<- Nat.pow_add,show s+(64-s)=64 by omega];exact h2
 have:(hi+1)*2^s<=y*2^s:=Nat.mul_le_mul_right _ h1;rw[Nat.add_mul,Nat.one_mul]at this;omega
theorem Hc{q Z r A:Nat}(hq:q<4294967296)(hZ:Z<4294967296)(hr:r<4294967296)(hA:A<4294967296) :
  IntKind.u64.wrap ((q:Int)*(Z:Int))=((q*Z:Nat):Int)/\IntKind.u64.wrap (IntKind.u64.wrap (4294967296*(r:Int))+(A:Int))=((4294967296*r+A:Nat):Int):=by
 have:q*Z<=4294967295*4294967295:=Nat.mul_le_mul va5 va5;refine⟨by rw[tu,Nat.mod_eq_of_lt va5],?_⟩;have e:IntKind.u64.wrap (4294967296*(r:Int))=((4294967296*r % 18446744073709551616:Nat):Int):=tu 4294967296 r;rw[e,nF,Nat.mod_eq_of_lt (a:=4294967296*r) va5,Nat.mod_eq_of_lt va5]
theorem jY{q Q:Nat}(h:q=Q+1)(hq:Q<18446744073709551616):IntKind.u64.wrap ((q:Int)-1)=(Q:Int):=by
 subst h;rw[show((Q+1:Nat):Int)-1=(Q:Int)by omega,wu _ hq]
theorem qN{r P:Nat}(hr:r<4294967296)(hP:P<4294967296):IntKind.u64.wrap ((r:Int)+(P:Int))=((r+P:Nat):Int):=by
 rw[nF,Nat.mod_eq_of_lt va5]
theorem nQ{q Z r A:Nat}(h:((q*Z:Nat):Int) > ((4294967296*r+A:Nat):Int)):0<q:=by
 rcases Nat.eq_zero_or_pos q with h0|h0
 ·subst h0;simp at h;omega
 ·exact h0
theorem nR{Y U A q r:Nat}(h:vV Y U A q r):q<=4294967297:=h.le
theorem EZ(hi lo y s Y U L A C P Z Q1 R1 Q0 quo rem:Nat)(hl:va6 282 [u64 y] (i64 s))(n1:s<=63)(h1:hi<y)(h2:lo<18446744073709551616)(h3:y<18446744073709551616)(hz:hi≠0)
  (e1:IntKind.u64.wrap ((y:Int)*2^min (Int.toNat (s:Int)) IntKind.u64.bits)=(Y:Int))
  (e2:bits .or .u64 (IntKind.u64.wrap ((hi:Int)*2^min (Int.toNat (s:Int)) IntKind.u64.bits)) ((lo:Int).fdiv (2^min (Int.toNat ((64-s:Nat):Int)) IntKind.u64.bits))=(U:Int))
  (e3:IntKind.u64.wrap ((lo:Int)*2^min (Int.toNat (s:Int)) IntKind.u64.bits)=(L:Int)) (e4:IntKind.u64.wrap (64-(s:Int))=((64-s:Nat):Int))
  (p1:((Y:Nat):Int).fdiv (2^min (Int.toNat 32) IntKind.u64.bits)=(P:Int)) (p2:bits .and .u64 (Y:Int) 4294967295=(Z:Int))
  (p3:((L:Nat):Int).fdiv (2^min (Int.toNat 32) IntKind.u64.bits)=(A:Int)) (p4:bits .and .u64 (L:Int) 4294967295=(C:Int))
  (f1:IntKind.u64.wrap ((U:Int).tdiv (P:Int))=((U / P:Nat):Int)) (f2:IntKind.u64.wrap ((U:Int)-IntKind.u64.wrap (((U / P:Nat):Int)*(P:Int)))=((U % P:Nat):Int))
  (f3:IntKind.u64.wrap ((R1:Int).tdiv (P:Int))=((R1 / P:Nat):Int)) (f4:IntKind.u64.wrap ((R1:Int)-IntKind.u64.wrap (((R1 / P:Nat):Int)*(P:Int)))=((R1 % P:Nat):Int))
  (b1:2147483648<=P) (b2:P<4294967296) (b3:Z<4294967296) (b4:A<4294967296) (b5:C<4294967296)
  (x1:∀ q r,vV Y U A q r->q*Z<=4294967296*r+A->q=Q1) (x2:∀ q r,vV Y U A (q+1) r->(4294967296<=q+1∨(q+1)*Z > 4294967296*r+A)->vV Y U A q (r+P)) (x3:∀ q r,vV Y U A q r->q<=4294967296->4294967296<=r->q=Q1) (x4:vV Y U A (U / P) (U % P)) (x5:Unit->Q1<4294967296)
  (y1:∀ q r,vV Y R1 C q r->q*Z<=4294967296*r+C->q=Q0) (y2:∀ q r,vV Y R1 C (q+1) r->(4294967296<=q+1∨(q+1)*Z > 4294967296*r+C)->vV Y R1 C q (r+P)) (y3:∀ q r,vV Y R1 C q r->q<=4294967296->4294967296<=r->q=Q0) (y4:vV Y R1 C (R1 / P) (R1 % P)) (y5:Unit->Q0<4294967296)
  (r1:IntKind.u64.wrap (IntKind.u64.wrap (IntKind.u64.wrap ((U:Int)*4294967296)+(A:Int))-IntKind.u64.wrap ((Q1:Int)*(Y:Int)))=(R1:Int))
  (r2:(IntKind.u64.wrap (IntKind.u64.wrap (IntKind.u64.wrap ((R1:Int)*4294967296)+(C:Int))-IntKind.u64.wrap ((Q0:Int)*(Y:Int)))).fdiv (2^min (Int.toNat (s:Int)) IntKind.u64.bits)=(rem:Int))
  (g1:IntKind.u64.wrap (IntKind.u64.wrap ((Q1:Int)*4294967296)+(Q0:Int))=(quo:Int)) :
  va6 281 [u64 hi,u64 lo,u64 y] (.tup [u64 quo,u64 rem]):=by
 refine vb4 Tryz.func281 ?_;refine vc6 ?_;intros;rw[wu s va5];refine⟨va5,vb3 ?_⟩;refine⟨va5,vb3 ?_⟩;rw[e4];refine⟨va5,vb3 ?_⟩;refine⟨va5,vb3 ?_⟩;rw[e1,e2,e3,p1,p2,p3,p4];refine⟨va5,vb3 ?_⟩;rw[f1,f2];refine Or.inr ⟨Nat×Nat,[15,16],[],[],fun i=>[u64 i.1,u64 i.2],fun _=>[],fun _=>[],fun i=>i.1,fun i=>vV Y U A i.1 i.2/\i.2<4294967296,vb3 ?_⟩;refine⟨⟨(U / P,U % P),?_⟩,?_⟩
 ·(conv=>whnf);exact kK ⟨⟨x4,zB5 (Nat.mod_lt _ va5) va5⟩,rfl,rfl,rfl⟩
 ·rintro⟨q,r⟩ ⟨hd,hr⟩;simp only[]at hd hr;have hq:=nR hd;conv=>whnf
  refine⟨fun c1=>?_,fun c1=>?_⟩
  ·replace c1:=zA1 c1
   conv=>whnf
   obtain⟨q,rfl⟩:∃ k,q=k+1:=⟨q-1,va5⟩
   have hd':=x2 q r hd (Or.inl va5);have hs:=qN hr b2;have hn:=jY (q:=q+1) rfl va5;rw[hs];refine⟨fun c2=>?_,fun c2=>?_⟩
   ·replace c2:=zA1 c2
    conv=>whnf
    have hQ:=x3 q (r+P) hd' va5 va5;subst hQ;rw[hn];rw[r1];refine⟨va5,vb3 ?_⟩;rw[f3,f4];clear hd hr hq c1;refine Or.inr ⟨Nat×Nat,[18,16],[],[],fun i=>[u64 i.1,u64 i.2],fun _=>[],fun _=>[],fun i=>i.1,fun i=>vV Y R1 C i.1 i.2/\i.2<4294967296,vb3 ?_⟩;refine⟨⟨(R1 / P,R1 % P),?_⟩,?_⟩
    ·(conv=>whnf);exact kK ⟨⟨y4,zB5 (Nat.mod_lt _ va5) va5⟩,rfl,rfl,rfl⟩
    ·rintro⟨q0,r0⟩ ⟨hd,hr⟩;simp only[]at hd hr;have hq:=nR hd;conv=>whnf
     refine⟨fun c1=>?_,fun c1=>?_⟩
     ·replace c1:=zA1 c1
      conv=>whnf
      obtain⟨q0,rfl⟩:∃ k,q0=k+1:=⟨q0-1,va5⟩
      have hd':=y2 q0 r0 hd (Or.inl va5);have hs:=qN hr b2;have hn:=jY (q:=q0+1) rfl va5;rw[hs];refine⟨fun c2=>?_,fun c2=>?_⟩
      ·replace c2:=zA1 c2
       conv=>whnf
       have hQ:=y3 q0 (r0+P) hd' va5 va5;subst hQ;rw[hn];refine⟨va5,vb3 ?_⟩;rw[r2,g1]
      ·replace c2:=zA0 c2
       conv=>whnf
       refine⟨(q0,r0+P),vb3 ?_⟩;refine kK ⟨⟨Nat.lt_succ_self _,hd',va5⟩,?_,rfl,rfl⟩;show [AV.int .u64 (IntKind.u64.wrap (((q0+1:Nat):Int)-1)),AV.int .u64 ((r0+P:Nat):Int)]=_
       rw[hn]
     ·replace c1:=zA0 c1
      have MU:=Hc (q:=q0) (Z:=Z) (r:=r0) (A:=C) va5 b3 hr (by assumption);conv=>whnf
      rw[MU.1,MU.2];refine⟨fun c3=>?_,fun c3=>?_⟩
      ·replace c3:=zA1 c3
       conv=>whnf
       obtain⟨q0,rfl⟩:∃ k,q0=k+1:=⟨q0-1,by have:=nQ c3;omega⟩
       have hd':=y2 q0 r0 hd (Or.inr va5);have hs:=qN hr b2;have hn:=jY (q:=q0+1) rfl va5;rw[hs];refine⟨fun c2=>?_,fun c2=>?_⟩
       ·replace c2:=zA1 c2
        conv=>whnf
        have hQ:=y3 q0 (r0+P) hd' va5 va5;subst hQ;rw[hn];refine⟨va5,vb3 ?_⟩;rw[r2,g1]
       ·replace c2:=zA0 c2
        conv=>whnf
        refine⟨(q0,r0+P),vb3 ?_⟩;refine kK ⟨⟨Nat.lt_succ_self _,hd',va5⟩,?_,rfl,rfl⟩;show [AV.int .u64 (IntKind.u64.wrap (((q0+1:Nat):Int)-1)),AV.int .u64 ((r0+P:Nat):Int)]=_
        rw[hn]
      ·replace c3:=zA0 c3
       conv=>whnf
       have hQ:=y1 q0 r0 hd va5;subst hQ;refine⟨va5,vb3 ?_⟩;rw[r2,g1]
   ·replace c2:=zA0 c2
    conv=>whnf
    refine⟨(q,r+P),vb3 ?_⟩;refine kK ⟨⟨Nat.lt_succ_self _,hd',va5⟩,?_,rfl,rfl⟩;show [AV.int .u64 (IntKind.u64.wrap (((q+1:Nat):Int)-1)),AV.int .u64 ((r+P:Nat):Int)]=_
    rw[hn]
  ·replace c1:=zA0 c1
   have MU:=Hc (q:=q) (Z:=Z) (r:=r) (A:=A) va5 b3 hr (by assumption);conv=>whnf
   rw[MU.1,MU.2];refine⟨fun c3=>?_,fun c3=>?_⟩
   ·replace c3:=zA1 c3
    conv=>whnf
    obtain⟨q,rfl⟩:∃ k,q=k+1:=⟨q-1,by have:=nQ c3;omega⟩
    have hd':=x2 q r hd (Or.inr va5);have hs:=qN hr b2;have hn:=jY (q:=q+1) rfl va5;rw[hs];refine⟨fun c2=>?_,fun c2=>?_⟩
    ·replace c2:=zA1 c2
     conv=>whnf
     have hQ:=x3 q (r+P) hd' va5 va5;subst hQ;rw[hn];rw[r1];refine⟨va5,vb3 ?_⟩;rw[f3,f4];clear hd hr hq c1;refine Or.inr ⟨Nat×Nat,[18,16],[],[],fun i=>[u64 i.1,u64 i.2],fun _=>[],fun _=>[],fun i=>i.1,fun i=>vV Y R1 C i.1 i.2/\i.2<4294967296,vb3 ?_⟩;refine⟨⟨(R1 / P,R1 % P),?_⟩,?_⟩
     ·(conv=>whnf);exact kK ⟨⟨y4,zB5 (Nat.mod_lt _ va5) va5⟩,rfl,rfl,rfl⟩
     ·rintro⟨q0,r0⟩ ⟨hd,hr⟩;simp only[]at hd hr;have hq:=nR hd;conv=>whnf
      refine⟨fun c1=>?_,fun c1=>?_⟩
      ·replace c1:=zA1 c1
       conv=>whnf
       obtain⟨q0,rfl⟩:∃ k,q0=k+1:=⟨q0-1,va5⟩
       have hd':=y2 q0 r0 hd (Or.inl va5);have hs:=qN hr b2;have hn:=jY (q:=q0+1) rfl va5;rw[hs];refine⟨fun c2=>?_,fun c2=>?_⟩
       ·replace c2:=zA1 c2
        conv=>whnf
        have hQ:=y3 q0 (r0+P) hd' va5 va5;subst hQ;rw[hn];refine⟨va5,vb3 ?_⟩;rw[r2,g1]
       ·replace c2:=zA0 c2
        conv=>whnf
        refine⟨(q0,r0+P),vb3 ?_⟩;refine kK ⟨⟨Nat.lt_succ_self _,hd',va5⟩,?_,rfl,rfl⟩;show [AV.int .u64 (IntKind.u64.wrap (((q0+1:Nat):Int)-1)),AV.int .u64 ((r0+P:Nat):Int)]=_
        rw[hn]
      ·replace c1:=zA0 c1
       have MU:=Hc (q:=q0) (Z:=Z) (r:=r0) (A:=C) va5 b3 hr (by assumption);conv=>whnf
       rw[MU.1,MU.2];refine⟨fun c3=>?_,fun c3=>?_⟩
       ·replace c3:=zA1 c3
        conv=>whnf
        obtain⟨q0,rfl⟩:∃ k,q0=k+1:=⟨q0-1,by have:=nQ c3;omega⟩
        have hd':=y2 q0 r0 hd (Or.inr va5);have hs:=qN hr b2;have hn:=jY (q:=q0+1) rfl va5;rw[hs];refine⟨fun c2=>?_,fun c2=>?_⟩
        ·replace c2:=zA1 c2
         conv=>whnf
         have hQ:=y3 q0 (r0+P) hd' va5 va5;subst hQ;rw[hn];refine⟨va5,vb3 ?_⟩;rw[r2,g1]
        ·replace c2:=zA0 c2
         conv=>whnf
         refine⟨(q0,r0+P),vb3 ?_⟩;refine kK ⟨⟨Nat.lt_succ_self _,hd',va5⟩,?_,rfl,rfl⟩;show [AV.int .u64 (IntKind.u64.wrap (((q0+1:Nat):Int)-1)),AV.int .u64 ((r0+P:Nat):Int)]=_
         rw[hn]
       ·replace c3:=zA0 c3
        conv=>whnf
        have hQ:=y1 q0 r0 hd va5;subst hQ;refine⟨va5,vb3 ?_⟩;rw[r2,g1]
    ·replace c2:=zA0 c2
     conv=>whnf
     refine⟨(q,r+P),vb3 ?_⟩;refine kK ⟨⟨Nat.lt_succ_self _,hd',va5⟩,?_,rfl,rfl⟩;show [AV.int .u64 (IntKind.u64.wrap (((q+1:Nat):Int)-1)),AV.int .u64 ((r+P:Nat):Int)]=_
     rw[hn]
   ·replace c3:=zA0 c3
    conv=>whnf
    have hQ:=x1 q r hd va5;subst hQ;rw[r1];refine⟨va5,vb3 ?_⟩;rw[f3,f4];clear hd hr hq c1;refine Or.inr ⟨Nat×Nat,[18,16],[],[],fun i=>[u64 i.1,u64 i.2],fun _=>[],fun _=>[],fun i=>i.1,fun i=>vV Y R1 C i.1 i.2/\i.2<4294967296,vb3 ?_⟩;refine⟨⟨(R1 / P,R1 % P),?_⟩,?_⟩
    ·(conv=>whnf);exact kK ⟨⟨y4,zB5 (Nat.mod_lt _ va5) va5⟩,rfl,rfl,rfl⟩
    ·rintro⟨q0,r0⟩ ⟨hd,hr⟩;simp only[]at hd hr;have hq:=nR hd;conv=>whnf
     refine⟨fun c1=>?_,fun c1=>?_⟩
     ·replace c1:=zA1 c1
      conv=>whnf
      obtain⟨q0,rfl⟩:∃ k,q0=k+1:=⟨q0-1,va5⟩
      have hd':=y2 q0 r0 hd (Or.inl va5);have hs:=qN hr b2;have hn:=jY (q:=q0+1) rfl va5;rw[hs];refine⟨fun c2=>?_,fun c2=>?_⟩
      ·replace c2:=zA1 c2
       conv=>whnf
       have hQ:=y3 q0 (r0+P) hd' va5 va5;subst hQ;rw[hn];refine⟨va5,vb3 ?_⟩;rw[r2,g1]
      ·replace c2:=zA0 c2
       conv=>whnf
       refine⟨(q0,r0+P),vb3 ?_⟩;refine kK ⟨⟨Nat.lt_succ_self _,hd',va5⟩,?_,rfl,rfl⟩;show [AV.int .u64 (IntKind.u64.wrap (((q0+1:Nat):Int)-1)),AV.int .u64 ((r0+P:Nat):Int)]=_
       rw[hn]
     ·replace c1:=zA0 c1
      have MU:=Hc (q:=q0) (Z:=Z) (r:=r0) (A:=C) va5 b3 hr (by assumption);conv=>whnf
      rw[MU.1,MU.2];refine⟨fun c3=>?_,fun c3=>?_⟩
      ·replace c3:=zA1 c3
       conv=>whnf
       obtain⟨q0,rfl⟩:∃ k,q0=k+1:=⟨q0-1,by have:=nQ c3;omega⟩
       have hd':=y2 q0 r0 hd (Or.inr va5);have hs:=qN hr b2;have hn:=jY (q:=q0+1) rfl va5;rw[hs];refine⟨fun c2=>?_,fun c2=>?_⟩
       ·replace c2:=zA1 c2
        conv=>whnf
        have hQ:=y3 q0 (r0+P) hd' va5 va5;subst hQ;rw[hn];refine⟨va5,vb3 ?_⟩;rw[r2,g1]
       ·replace c2:=zA0 c2
        conv=>whnf
        refine⟨(q0,r0+P),vb3 ?_⟩;refine kK ⟨⟨Nat.lt_succ_self _,hd',va5⟩,?_,rfl,rfl⟩;show [AV.int .u64 (IntKind.u64.wrap (((q0+1:Nat):Int)-1)),AV.int .u64 ((r0+P:Nat):Int)]=_
        rw[hn]
      ·replace c3:=zA0 c3
       conv=>whnf
       have hQ:=y1 q0 r0 hd va5;subst hQ;refine⟨va5,vb3 ?_⟩;rw[r2,g1]
theorem QM{u P:Nat}(hu:u<18446744073709551616):IntKind.u64.wrap ((u:Int).tdiv (P:Int))=((u / P:Nat):Int)/\IntKind.u64.wrap ((u:Int)-IntKind.u64.wrap (((u / P:Nat):Int)*(P:Int)))=((u % P:Nat):Int):=by
 have hd:=Nat.div_add_mod' u P;refine⟨jn _ _ va5,?_⟩;rw[tu,Nat.mod_eq_of_lt va5,xm _ _ va5]
 congr 1
 omega
theorem UI{p q:Nat}(hp:p<4294967296)(hq:q<4294967296):IntKind.u64.wrap (IntKind.u64.wrap ((p:Int)*4294967296)+(q:Int))=((p*4294967296+q:Nat):Int):=by
 have e:IntKind.u64.wrap ((p:Int)*4294967296)=((p*4294967296 % 18446744073709551616:Nat):Int):=tu p 4294967296;rw[e,nF]
 congr 1
 omega
theorem xB{u e q Y:Nat}(he:e<4294967296):IntKind.u64.wrap (IntKind.u64.wrap (IntKind.u64.wrap ((u:Int)*4294967296)+(e:Int))-IntKind.u64.wrap ((q:Int)*(Y:Int)))=(((u*4294967296 % 18446744073709551616+e+(18446744073709551616-q*Y % 18446744073709551616)) % 18446744073709551616:Nat):Int):=by
 have e1:IntKind.u64.wrap ((u:Int)*4294967296)=((u*4294967296 % 18446744073709551616:Nat):Int):=tu u 4294967296;rw[e1,tu,nF,xm _ _ (Nat.le_of_lt (Nat.mod_lt _ va5))]
 congr 1
 omega
theorem MV(hi lo y:Nat)(h1:hi<y)(h2:lo<18446744073709551616)(h3:y<18446744073709551616):va6 281 [u64 hi,u64 lo,u64 y] (.tup [u64 ((hi*18446744073709551616+lo) / y),u64 ((hi*18446744073709551616+lo) % y)]):=by
 by_cases hz:hi=0
 ·subst hz;refine vb4 Tryz.func281 ?_;refine ve4 ?_;intros;rw[jn _ _ h2,Mq,Nat.zero_mul,Nat.zero_add]
 have hl:=nP y h3;obtain⟨n1,n2,n3⟩:=IZ va5 h3;generalize 64-bu y=s at *
 have e1:IntKind.u64.wrap ((y:Int)*2^min (Int.toNat (s:Int)) IntKind.u64.bits)=((y*2^s:Nat):Int):=by rw[Mp _ _ va5,Nat.mod_eq_of_lt n3]
 have e2:=XW n1 h2 (Nat.lt_of_le_of_lt (Nat.mul_le_mul_right _ (Nat.le_of_lt h1)) n3);have e3:IntKind.u64.wrap ((lo:Int)*2^min (Int.toNat (s:Int)) IntKind.u64.bits)=((lo*2^s % 18446744073709551616:Nat):Int):=Mp _ _ va5;have e4:IntKind.u64.wrap (64-(s:Int))=((64-s:Nat):Int):=by rw[show 64-(s:Int)=((64-s:Nat):Int)by omega,wu _ va5]
 have a1:=UH (hi:=hi) (lo:=lo) n1;have a2:=XX n1 h1 h2;have a3:lo*2^s % 18446744073709551616<18446744073709551616:=Nat.mod_lt _ va5;have e5:=qJ ((hi*18446744073709551616+lo) % y*2^s) s va5;rw[Nat.mul_div_cancel _ (Nat.pow_pos va5),<- Nat.mul_mod_mul_right]at e5;have e6:=Nat.mul_div_mul_right (hi*18446744073709551616+lo) y (Nat.pow_pos (n:=s) (show 0<2 by omega));rw[a1]at e5 e6;clear a1;obtain⟨Y,hY⟩:∃ Y,Y=y*2^s:=⟨_,rfl⟩
 rw[<- hY]at n2 n3 e1 a2 e5 e6;obtain⟨U,hU⟩:∃ U,U=hi*2^s+lo / 2^(64-s):=⟨_,rfl⟩
 rw[<- hU]at e2 a2 e5 e6;obtain⟨L,hL⟩:∃ L,L=lo*2^s % 18446744073709551616:=⟨_,rfl⟩
 rw[<- hL]at e3 a3 e5 e6;clear hY hU hL;obtain⟨t1,t2⟩:=EX (y:=Y) (u:=U) (e:=L / 4294967296) (f:=L % 4294967296) (w:=U*18446744073709551616+L) va5 va5;rw[<- t1]at e6;rw[<- t2]at e5;clear t1 t2;have l1:L / 4294967296<4294967296:=by omega
 have l2:L % 4294967296<4294967296:=by omega
 have m1:=Nat.mod_lt (U*4294967296+L / 4294967296) (show 0<Y by omega);have r1:=Cr (y:=Y) (u:=U) (e:=L / 4294967296) va5 n3;have d1:=xz n2 n3 a2 l1;have d2:=xz n2 n3 m1 l2;have r2:=Cr (y:=Y) (u:=(U*4294967296+L / 4294967296) % Y) (e:=L % 4294967296) va5 n3;have g1:=zJ (show 0<Y by omega) a2 l1;have g2:=zJ (show 0<Y by omega) m1 l2;have fd:=fun u (hu:u<Y)=>QM (P:=Y / 4294967296) (Nat.lt_trans hu n3)
 have WH:0<Y:=by omega
 refine EZ hi lo y s Y U L (L / 4294967296) (L % 4294967296) (Y / 4294967296) (Y % 4294967296) ((U*4294967296+L / 4294967296) / Y) ((U*4294967296+L / 4294967296) % Y) _ _ _ hl n1 h1 h2 h3 hz e1 e2 e3 e4
  (rU _) (jU _ n3) (rU _) (jU _ a3) (fd U a2).1 (fd U a2).2 (fd _ m1).1 (fd _ m1).2 va5 va5 va5 l1 l2
  (fun q r h hn=>tT h WH hn) (fun q r h hc=>Cq h WH a2 l1 hc) (fun q r h hq hr=>xA h WH hq hr) d1 (fun _=>g1)
  (fun q r h hn=>tT h WH hn) (fun q r h hc=>Cq h WH m1 l2 hc) (fun q r h hq hr=>xA h WH hq hr) d2 (fun _=>g2)
  ?_ ?_ ?_
 ·rw[xB l1,r1]
 ·rw[xB l2,r2,e5]
 ·rw[<- e6];exact UI g1 g2

end Go.Proofs.Tryz.My
