/- Helper lemmas. -/
import Derived.Test.YtdpnpdjnaimgaaaGreatMzExA
set_option linter.unusedVariables false
set_option linter.unusedSimpArgs false
set_option maxRecDepth 100000
set_option maxHeartbeats 0
namespace Go.Proofs.Tryz.My
open Go Go.Ev
theorem o5(n:Int)(h:G7 n):va6 255 [i64 n] (u64 n.natAbs):=by
 unfold G7 at h;refine pF Tryz.func255 ?_;conv=>whnf
 refine⟨fun h=>?_,fun h=>?_⟩
 ·have h:=zA1 h;conv=>whnf
  congr 1
  rw[lT,lT];omega
 ·have h:=zA0 h;conv=>whnf
  congr 1
  rw[lT];omega
def cw(n:Int):Int:=if n<0 then -1 else if 0<n then 1 else 0
theorem cn(n:Int):va6 294 [i64 n] (i64 (cw n)):=by
 refine pF Tryz.func294 ?_;conv=>whnf
 (repeat' ((first|refine va0 (fun hh=>?_) fun hh=>?_|refine kR ?_|fail)<;>first|exact hh.elim|conv=>whnf));all_goals
  congr 1
  unfold cw;omega
theorem cz(x y:Nat)(hx:x<18446744073709551616)(hy:y<18446744073709551616):va6 295 [u64 x,u64 y] (pr (x*y)):=by
 refine pF Tryz.func295 ?_;conv=>whnf
 (first|(refine Or.inl ?_;(conv=>whnf);refine⟨_,lV x y hx hy,?_⟩)|refine⟨_,lV x y hx hy,?_⟩)
 conv=>whnf
theorem a1m(x y:Nat)(hx:x<340282366920938463463374607431768211456)(hy:y<340282366920938463463374607431768211456):va6 296 [pr x,pr y] (.bool (decide (x<y))):=by
 refine pF Tryz.func296 ?_;conv=>whnf
 (repeat' ((first|refine va0 (fun hh=>?_) fun hh=>?_|refine kR ?_|fail)<;>first|exact hh.elim|conv=>whnf));all_goals
  congr 1
  refine Eq.symm ?_;first
   | (refine zA4 ?_;rw[ry];omega)
   | (refine zA5 ?_;rw[ry];omega)
   | (refine decide_eq_decide.2 ?_;rw[ry];omega)
theorem zI(x y c:Nat)(hc:c<=1):va6 318 [u64 x,u64 y,u64 c] (.tup [u64 ((x+y+c) % 18446744073709551616),u64 ((x+y+c) / 18446744073709551616)]) :=
 JF Tryz.func318 va4 va4 va4 va4 x y c hc
theorem Ke(x y c:Nat)(hc:c<=1):va6 319 [u64 x,u64 y,u64 c] (.tup [u64 ((x+18446744073709551616-y-c) % 18446744073709551616),u64 (if x<y+c then 1 else 0)]) :=
 JH Tryz.func319 va4 va4 va4 va4 x y c hc
theorem a0y(x y:Nat)(h:x+y<340282366920938463463374607431768211456):va6 299 [pr x,pr y] (pr (x+y)):=by
 refine pF Tryz.func299 ?_;conv=>whnf
 (first|(refine Or.inl ?_;(conv=>whnf);refine⟨_,zI (x % 18446744073709551616) (y % 18446744073709551616) 0 va5,?_⟩)|refine⟨_,zI (x % 18446744073709551616) (y % 18446744073709551616) 0 va5,?_⟩)
 conv=>whnf
 rw[a0x,a0x];have e1:(x % 18446744073709551616+y % 18446744073709551616+0) % 18446744073709551616=(x+y) % 18446744073709551616:=by omega
 have e2:((x / 18446744073709551616+y / 18446744073709551616) % 18446744073709551616+(x % 18446744073709551616+y % 18446744073709551616+0) / 18446744073709551616) % 18446744073709551616=(x+y) / 18446744073709551616:=by omega
 rw[e1,e2]
theorem a0L(x y:Nat)(hx:x<340282366920938463463374607431768211456)(h:y<=x):va6 300 [pr x,pr y] (pr (x-y)):=by
 refine pF Tryz.func300 ?_;conv=>whnf
 (first|(refine Or.inl ?_;(conv=>whnf);refine⟨_,Ke (x % 18446744073709551616) (y % 18446744073709551616) 0 va5,?_⟩)|refine⟨_,Ke (x % 18446744073709551616) (y % 18446744073709551616) 0 va5,?_⟩)
 conv=>whnf
 rw[Ew _ _ va5,Ew _ _ (by split<;>omega)];have e1:(x % 18446744073709551616+18446744073709551616-y % 18446744073709551616-0) % 18446744073709551616=(x-y) % 18446744073709551616:=by omega
 have e2:((x / 18446744073709551616+(18446744073709551616-y / 18446744073709551616)) % 18446744073709551616+(18446744073709551616-(if x % 18446744073709551616<y % 18446744073709551616+0 then 1 else 0))) % 18446744073709551616=(x-y) / 18446744073709551616:=by split<;>omega
 rw[e1,e2]
theorem a21(x c:Nat)(hc:c<18446744073709551616)(h:x+c<340282366920938463463374607431768211456):va6 299 [pr x,.agg [.int .u64 0,u64 c]] (pr (x+c)):=by
 rw[<- zB c hc];exact a0y x c h
theorem a1K(a:Nat)(ha:a<18446744073709551616):bits .and .u64 (a:Int) 1=((a % 2:Nat):Int):=by
 have:=CE a 1 ha va8;rw[Nat.and_one_is_mod]at this;exact this
theorem a4b(x:Nat)(i:Nat)(hx:x<340282366920938463463374607431768211456)(hi:i<128):va6 321 [pr x,i64 i] (u64 (x / 2^i % 2)):=by
 refine pF Tryz.func321 ?_;conv=>whnf
 refine⟨fun h=>?_,fun h=>?_⟩
 ·have h:=zA1 h;conv=>whnf
  have e:IntKind.i64.wrap ((i:Int)-64)=((i-64:Nat):Int):=by rw[wi _ va5 va5];omega
  rw[e];refine⟨va5,?_⟩;conv=>whnf
  rw[uH _ _ va5,a1K _ (Nat.lt_of_le_of_lt (Nat.div_le_self _ _) va5)]
  congr 3
  have e2:2^i=18446744073709551616*2^(i-64):=by rw[show 18446744073709551616=2^64 by decide,<- Nat.pow_add];congr 1;omega
  rw[e2,Nat.div_div_eq_div_mul]
 ·have h:=zA0 h;conv=>whnf
  refine⟨va5,?_⟩;conv=>whnf
  rw[uH _ _ va5,a1K _ (Nat.lt_of_le_of_lt (Nat.div_le_self _ _) va5)];have e2:18446744073709551616=2^i*(2*2^(63-i)):=by
   rw[show 18446744073709551616=2^64 by decide,<- Nat.pow_succ',<- Nat.pow_add];congr 1;omega
  have e3:x % 18446744073709551616 / 2^i % 2=x / 2^i % 2:=by rw[e2,Nat.mod_mul_right_div_self,Nat.mod_mul_right_mod]
  rw[e3]
theorem a3z(a:Nat)(k:Nat):a / 2^k=2*(a / 2^(k+1))+a / 2^k % 2:=by
 have:a / 2^(k+1)=a / 2^k / 2:=by rw[Nat.pow_succ,Nat.div_div_eq_div_mul]
 omega
theorem a27(a b k:Nat)(hb:0<b):(b<=2*(a / 2^(k+1) % b)+a / 2^k % 2->a / 2^k / b=2*(a / 2^(k+1) / b)+1/\a / 2^k % b=2*(a / 2^(k+1) % b)+a / 2^k % 2-b) /\
  (2*(a / 2^(k+1) % b)+a / 2^k % 2<b->a / 2^k / b=2*(a / 2^(k+1) / b)/\a / 2^k % b=2*(a / 2^(k+1) % b)+a / 2^k % 2):=by
 have h1:=a3z a k;have h2:=Nat.div_add_mod (a / 2^(k+1)) b;have h3:=Nat.mod_lt (a / 2^(k+1)) hb;have h4:a / 2^k % 2<2:=Nat.mod_lt _ va5;generalize a / 2^(k+1) % b=r at *
 generalize hq:a / 2^(k+1) / b=q at *
 generalize a / 2^(k+1)=t at *
 generalize a / 2^k % 2=c at *
 generalize a / 2^k=s at *
 have hs:s=b*(2*q)+(2*r+c):=by rw[h1,<- h2,Nat.mul_add,Nat.mul_left_comm];omega
 constructor
 ·intro h;have hs2:s=b*(2*q+1)+(2*r+c-b):=by rw[hs,Nat.mul_add,Nat.mul_one];omega
  constructor
  ·rw[hs2,Nat.mul_add_div hb,Nat.div_eq_of_lt va5]
  ·rw[hs2,Nat.mul_add_mod,Nat.mod_eq_of_lt va5]
 ·intro h
  constructor
  ·rw[hs,Nat.mul_add_div hb,Nat.div_eq_of_lt va5];omega
  ·rw[hs,Nat.mul_add_mod,Nat.mod_eq_of_lt va5]
abbrev cW(n:Nat):Row := .cells 321 [u64 (n / 18446744073709551616),u64 (n % 18446744073709551616)]
theorem a0M(a b:Nat)(ha:a<340282366920938463463374607431768211456)(hb:0<b)(dA:b<170141183460469231731687303715884105728):va6 293 [pr a,pr b] (.tup [pr (a / b),pr (a % b)]):=by
 refine pF Tryz.func293 ?_;conv=>whnf
 refine Or.inr ⟨Nat,[8],[6,7],[],fun k=>[i64 ((k:Int)-1)],fun k=>[cW (a / 2^k / b),cW (a / 2^k % b)],fun _=>[],fun k=>k,fun k=>k<=128,?_⟩;conv=>whnf
 refine⟨⟨128,?_⟩,?_⟩
 ·have e:a / 2^128=0:=Nat.div_eq_of_lt (by rw[show(2:Nat)^128=340282366920938463463374607431768211456 by decide];exact ha);conv=>whnf
  refine kK ⟨va5,rfl,?_,rfl⟩;show [cW 0,cW 0]=[cW (a / 2^128 / b),cW (a / 2^128 % b)]
  rw[e,Nat.zero_div,Nat.zero_mod]
 ·intro k hk;conv=>whnf
  refine⟨fun h=>?_,fun h=>?_⟩
  ·have h:=zA1 h;obtain⟨k,rfl⟩:∃ j,k=j+1:=⟨k-1,va5⟩
   have ps:=a27 a b k hb;have hq:a / 2^(k+1) / b<=340282366920938463463374607431768211456:=by
    have:=Nat.div_le_self (a / 2^(k+1)) b;have:=Nat.div_le_self a (2^(k+1));omega
   have It:a / 2^k / b<340282366920938463463374607431768211456:=by
    have:=Nat.div_le_self (a / 2^k) b;have:=Nat.div_le_self a (2^k);omega
   have hr:=Nat.mod_lt (a / 2^(k+1)) hb;have hc:a / 2^k % 2<2:=Nat.mod_lt _ va5;have hbit:=a4b a k ha va5;have e1:((k+1:Nat):Int)-1=k:=by omega
   conv=>whnf
   rw[e1];generalize gq:a / 2^k / b=q' at *
   generalize gr:a / 2^k % b=r' at *
   generalize a / 2^(k+1) / b=q at *
   generalize a / 2^(k+1) % b=r at *
   generalize a / 2^k % 2=c at *
   conv=>whnf
   have hqq:q+q<340282366920938463463374607431768211456:=by
    by_cases uq:b<=2*r+c
    ·have:=(ps.1 uq).1;omega
    ·have:=(ps.2 va5).1;omega
   have m1:=a0L (r+r+c) b;(repeat' ((first|refine va0 (fun hh=>?_) fun hh=>?_|refine kR ?_|((try refine .inl ?_;conv=>whnf);(try refine⟨false,?_⟩;conv=>whnf);refine⟨_,by first|assumption|exact a0y r r va5|exact a21 (r+r) c va5 va5|exact a0y q q hqq|exact a1m (r+r+c) b va5 va5,?_⟩)|fail)<;>first|exact hh.elim|conv=>whnf))
   ·(repeat' ((first|refine va0 (fun hh=>?_) fun hh=>?_|refine kR ?_|((try refine .inl ?_;conv=>whnf);(try refine⟨false,?_⟩;conv=>whnf);refine⟨_,by exact m1 va5 va5,?_⟩)|fail)<;>first|exact hh.elim|conv=>whnf));refine⟨k,?_⟩;obtain⟨p1,p2⟩:=ps.1 va5;conv=>whnf
    refine kK ⟨⟨Nat.lt_succ_self k,Nat.le_of_succ_le hk⟩,?_,?_,rfl⟩
    ·rw[wi _ va5 va5]
    ·have e2:IntKind.u64.wrap ((((q+q) % 18446744073709551616:Nat):Int)+1)=((q' % 18446744073709551616:Nat):Int):=by
      rw[lT];omega
     have e3:(q+q) / 18446744073709551616=q' / 18446744073709551616:=by omega
     have e4:r+r+c-b=r':=by omega
     show _=[cW (a / 2^k / b),cW (a / 2^k % b)]
     rw[e2,e3,e4,gq,gr]
   ·refine⟨k,?_⟩;obtain⟨p1,p2⟩:=ps.2 va5;conv=>whnf
    refine kK ⟨⟨Nat.lt_succ_self k,Nat.le_of_succ_le hk⟩,?_,?_,rfl⟩
    ·rw[wi _ va5 va5]
    ·have e3:q+q=q':=by omega
     have e4:r+r+c=r':=by omega
     show _=[cW (a / 2^k / b),cW (a / 2^k % b)]
     rw[e3,e4,gq,gr]
  ·have h:=zA0 h;have:k=0:=by omega
   subst this;conv=>whnf
   refine vb8 ?_;(repeat intro hh);rw[Nat.pow_zero,Nat.div_one]

end Go.Proofs.Tryz.My
