/- A helper text: contracts of functions of the program, and plain lemmas. -/
import Derived.Test.YtdpnpdjnaimgaaaGreatEvSix
import Derived.Test.YtdpnpdjnaimgaaaGreatMzEx4
set_option maxRecDepth 100000
set_option maxHeartbeats 0
set_option linter.unusedVariables false
set_option linter.unusedSimpArgs false
namespace Go.Proofs.Tryz.My
open Go Go.Ev
structure Dig (y u e q r:Nat):Prop where
 eq:q * (y / 4294967296) + r=u
 up:(u * 4294967296 + e) / y<=q
 le:q<=4294967297
theorem a4h {y u e:Nat} (hy:9223372036854775808<=y) (hy2:y < 18446744073709551616) (hu:u < y) (he:e < 4294967296):Dig y u e (u / (y / 4294967296)) (u % (y / 4294967296)):=by
 have h0:0 < y / 4294967296:=by omega
 have h1:u / (y / 4294967296) * (y / 4294967296) + u % (y / 4294967296)=u:=Nat.div_add_mod' u (y / 4294967296)
 have hyd:y=y / 4294967296 * 4294967296 + y % 4294967296:=by omega
 refine ⟨h1,?_,?_⟩
 ·have hm:=Nat.mod_lt u h0
  generalize u / (y / 4294967296)=q at *
  generalize u % (y / 4294967296)=r at *
  generalize hp:y / 4294967296=p at *
  have hd:u * 4294967296 + e < (q + 1) * y:=by
   have e1:(q + 1) * y=(q + 1) * p * 4294967296 + (q + 1) * (y % 4294967296):=by
    generalize y % 4294967296=m at hyd
    rw [hyd,Nat.mul_add,Nat.mul_assoc]
   have e2:(q + 1) * p=q * p + p:=by rw [Nat.add_mul,Nat.one_mul]
   omega
  exact Nat.le_of_lt_succ ((Nat.div_lt_iff_lt_mul (by omega)).2 hd)
 ·have hm:=Nat.mod_lt u h0
  generalize u / (y / 4294967296)=q at *
  generalize u % (y / 4294967296)=r at *
  generalize hp:y / 4294967296=p at *
  have hpl:2147483648<=p:=by omega
  refine Nat.le_of_lt_succ (Nat.lt_of_not_le fun hq => ?_)
  have:4294967298 * p<=q * p:=Nat.mul_le_mul_right p hq
  omega
theorem a5y {y u e:Nat} (hy:0 < y) (hu:u < y) (he:e < 4294967296):(u * 4294967296 + e) / y < 4294967296:=by
 refine (Nat.div_lt_iff_lt_mul hy).2 ?_
 have:(u + 1) * 4294967296<=y * 4294967296:=Nat.mul_le_mul_right _ hu
 rw [Nat.mul_comm 4294967296 y]
 omega
theorem a9w {y u e q r:Nat} (h:Dig y u e q r) (hy:0 < y):q * (y % 4294967296) > 4294967296 * r + e↔(u * 4294967296 + e) / y < q:=by
 have hyd:y=y / 4294967296 * 4294967296 + y % 4294967296:=by omega
 rw [Nat.div_lt_iff_lt_mul hy]
 have e1:q * y=q * (y / 4294967296) * 4294967296 + q * (y % 4294967296):=by
  generalize y % 4294967296=m at *
  generalize y / 4294967296=p at *
  rw [hyd,Nat.mul_add,Nat.mul_assoc]
 have:=h.eq
 omega
theorem a2V {y u e q r:Nat} (h:Dig y u e q r) (hy:0 < y) (hn:q * (y % 4294967296)<=4294967296 * r + e):q=(u * 4294967296 + e) / y:=by
 have h1:¬ (u * 4294967296 + e) / y < q:=fun h2=>by
  have:=(a9w h hy).2 h2
  omega
 have:=h.up
 omega
theorem a6V {y u e q r:Nat} (h:Dig y u e (q + 1) r) (hy:0 < y) (hu:u < y) (he:e < 4294967296) (hc:4294967296<=q + 1∨(q + 1) * (y % 4294967296) > 4294967296 * r + e):Dig y u e q (r + y / 4294967296):=by
 have ht:=a5y hy hu he
 have hq:(u * 4294967296 + e) / y < q + 1:=by
  rcases hc with hc | hc
  ·exact Nat.lt_of_lt_of_le ht hc
  ·exact (a9w h hy).1 hc
 have h1:=h.eq
 have hle:=h.le
 refine ⟨?_,Nat.le_of_lt_succ hq,by omega⟩
 have:(q + 1) * (y / 4294967296)=q * (y / 4294967296) + y / 4294967296:=by rw [Nat.add_mul,Nat.one_mul]
 omega
theorem a4i {y u e q r:Nat} (h:Dig y u e q r) (hy:0 < y) (hq:q<=4294967296) (hr:4294967296<=r):q=(u * 4294967296 + e) / y:=by
 refine a2V h hy ?_
 have:q * (y % 4294967296)<=4294967296 * 4294967295:=Nat.mul_le_mul hq (by omega)
 omega
theorem a6W {y u e:Nat} (hy:0 < y) (hy2:y < 18446744073709551616):(u * 4294967296 % 18446744073709551616 + e + (18446744073709551616 - (u * 4294967296 + e) / y * y % 18446744073709551616)) % 18446744073709551616=(u * 4294967296 + e) % y:=by
 have h1:=Nat.div_add_mod' (u * 4294967296 + e) y
 have h2:=Nat.mod_lt (u * 4294967296 + e) hy
 generalize (u * 4294967296 + e) / y * y=m at *
 omega
theorem a2W {y v w q r f:Nat} (hy:0 < y) (h1:q * y + r=v) (h2:w=v * 4294967296 + f):q * 4294967296 + (r * 4294967296 + f) / y=w / y/\(r * 4294967296 + f) % y=w % y:=by
 have e1:w=(r * 4294967296 + f) + y * (q * 4294967296):=by
  have:y * (q * 4294967296)=q * y * 4294967296:=by rw [Nat.mul_left_comm,<- Nat.mul_assoc]
  rw [this,h2]
  omega
 have k1:=Nat.add_mul_div_left (r * 4294967296 + f) (q * 4294967296) hy
 have k2:=Nat.add_mul_mod_self_left (r * 4294967296 + f) y (q * 4294967296)
 rw [<- e1] at k1 k2
 exact ⟨(Nat.add_comm _ _).trans k1.symm,k2.symm⟩
theorem a8E {y u e f w:Nat} (hy:0 < y) (hw:w=(u * 4294967296 + e) * 4294967296 + f):(u * 4294967296 + e) / y * 4294967296 + ((u * 4294967296 + e) % y * 4294967296 + f) / y=w / y/\((u * 4294967296 + e) % y * 4294967296 + f) % y=w % y :=
 a2W hy (Nat.div_add_mod' _ _) hw
def lenN (x:Nat):Nat:=if x=0 then 0 else Nat.log2 x + 1
theorem b3v {x m:Nat} (h1:2 ^ m<=x) (h2:x < 2 ^ (m + 1)):lenN x=m + 1:=by
 have h0:x≠0:=by have:=Nat.pow_pos (n:=m) (show 0 < 2 by omega); omega
 unfold lenN
 rw [if_neg h0,(Nat.log2_eq_iff h0).2 ⟨h1,h2⟩]
theorem X6 {x:Nat} (h:x≠0):∃ m,lenN x=m + 1/\2 ^ m<=x/\x < 2 ^ (m + 1):=by
 refine ⟨Nat.log2 x,by simp [lenN,h],?_⟩
 exact (Nat.log2_eq_iff h).1 rfl
theorem a0C (x k:Nat) (h:x / 2 ^ k≠0):lenN x=k + lenN (x / 2 ^ k):=by
 obtain ⟨m,e,h1,h2⟩:=X6 h
 have hk:0 < 2 ^ k:=Nat.pow_pos (by omega)
 rw [e,b3v (m:=m + k) (x:=x)]
 ·omega
 ·rw [Nat.pow_add]
  exact (Nat.le_div_iff_mul_le hk).1 h1
 ·have:=(Nat.div_lt_iff_lt_mul hk).1 h2
  rw [show m + k + 1=m + 1 + k by omega,Nat.pow_add]
  exact this
theorem a5z {x k:Nat} (h:x < 2 ^ k):lenN x<=k:=by
 by_cases h0:x=0
 ·subst h0; simp [lenN]
 ·obtain ⟨m,e,h1,h2⟩:=X6 h0
  have:m < k:=(Nat.pow_lt_pow_iff_right (a:=2) (by omega)).1 (Nat.lt_of_le_of_lt h1 h)
  omega
theorem b5p (n:Nat) (h:n < 256):IntKind.u8.wrap (n:Int)=n:=by simp [IntKind.wrap,IntKind.bits,IntKind.signed]; omega
theorem b3w (a:Nat):((a:Nat):Int).fdiv (2 ^ min (Int.toNat 16) IntKind.u64.bits)=((a / 65536:Nat):Int):=a37 a 16 (by omega)
theorem b4H (a:Nat):((a:Nat):Int).fdiv (2 ^ min (Int.toNat 8) IntKind.u64.bits)=((a / 256:Nat):Int):=a37 a 8 (by omega)
theorem J4 {s:ByteArray} (ht:∀ i,i < 256->a1g s i=lenN i) (x k i:Nat) (hi:i < 256) (hk:k<=56) (hx:x < 18446744073709551616) (he:lenN x=k + lenN i):IntKind.i64.wrap ((k:Int) + IntKind.i64.wrap (a1g s i))=lenN x:=by
 have:lenN i<=8:=a5z hi
 rw [ht i hi,wi (lenN i:Int) (by omega) (by omega),wi _ (by omega) (by omega),he]
 omega
theorem b1Z (x:Nat) (hx:x < 18446744073709551616):PC Tryz.prog 331 [u64 x] (i64 (lenN x)):=by
 have s32:x / 4294967296≠0->lenN x=32 + lenN (x / 4294967296):=a0C x 32
 have s16:∀ y,y / 65536≠0->lenN y=16 + lenN (y / 65536):=fun y=>a0C y 16
 have s8:∀ y,y / 256≠0->lenN y=8 + lenN (y / 256):=fun y=>a0C y 8
 refine a7 hm Tryz.func331 (by kernel_rfl) ?_
 conv=>whnf
 (repeat' first|(refine ansS (fun hh=>?_) (fun hh=>?_)<;>(try simp only [ansX] at hh)<;>first|(exfalso;first|omega|(simp [*] at hh;done)|(revert hh;decide))|exact absurd (by assumption) hh|conv=>whnf)|((first|refine kR ?_|refine aB ?_|refine aL ?_|refine aN ?_|fail);conv=>whnf))
 all_goals
  generalize hs:(ByteArray.mk _)=s
  have h1:s.size=256:=by subst hs; kernel_rfl
  have h2:∀ i,i < 256->a1g s i=lenN i:=by subst hs; decide +kernel
  clear hs
  simp only [a2c,b3w,b4H] at *
  rw [b5p _ (by omega)]
  refine ⟨⟨by omega,by omega⟩,?_⟩
  conv=>whnf
  rw [Int.toNat_natCast]
  congr 1
 ·refine J4 h2 x 56 _ (by omega) (by omega) hx ?_
  rw [s32 (by omega),s16 _ (by omega),s8 _ (by omega)]; omega
 ·refine J4 h2 x 48 _ (by omega) (by omega) hx ?_
  rw [s32 (by omega),s16 _ (by omega)]; omega
 ·refine J4 h2 x 40 _ (by omega) (by omega) hx ?_
  rw [s32 (by omega),s8 _ (by omega)]; omega
 ·refine J4 h2 x 32 _ (by omega) (by omega) hx ?_
  rw [s32 (by omega)]
 ·refine J4 h2 x 24 _ (by omega) (by omega) hx ?_
  rw [s16 _ (by omega),s8 _ (by omega)]; omega
 ·refine J4 h2 x 16 _ (by omega) (by omega) hx ?_
  rw [s16 _ (by omega)]
 ·refine J4 h2 x 8 _ (by omega) (by omega) hx ?_
  rw [s8 _ (by omega)]
 ·refine J4 h2 x 0 _ (by omega) (by omega) hx ?_
  omega
theorem a0Z (x:Nat) (hx:x < 18446744073709551616):PC Tryz.prog 328 [u64 x] (i64 (64 - lenN x:Nat)):=by
 have h:=a5z (x:=x) (k:=64) hx
 refine a7 hm Tryz.func328 (by kernel_rfl) ?_
 conv=>whnf
 (repeat' first|(refine ansS (fun hh=>?_) (fun hh=>?_)<;>(try simp only [ansX] at hh)<;>first|(exfalso;first|omega|(simp [*] at hh;done)|(revert hh;decide))|exact absurd (by assumption) hh|conv=>whnf)|((first|refine kR ?_|refine aB ?_|refine aL ?_|refine aN ?_|((try (refine Or.inl ?_;conv=>whnf));(try (refine ⟨false,?_⟩;conv=>whnf));refine ⟨_,by exact b1Z x hx,?_⟩)|fail);conv=>whnf))
 rw [wi _ (by omega) (by omega)]
 congr 1
 omega
theorem b0q {y:Nat} (h0:0 < y) (h:y < 18446744073709551616):64 - lenN y<=63/\9223372036854775808<=y * 2 ^ (64 - lenN y)/\y * 2 ^ (64 - lenN y) < 18446744073709551616:=by
 obtain ⟨m,e,h1,h2⟩:=X6 (x:=y) (by omega)
 have hl:lenN y<=64:=a5z (k:=64) h
 rw [e] at hl ⊢
 refine ⟨by omega,?_,?_⟩
 ·have:2 ^ m * 2 ^ (64 - (m + 1))<=y * 2 ^ (64 - (m + 1)):=Nat.mul_le_mul_right _ h1
  rw [<- Nat.pow_add,show m + (64 - (m + 1))=63 by omega] at this
  exact this
 ·have:y * 2 ^ (64 - (m + 1)) < 2 ^ (m + 1) * 2 ^ (64 - (m + 1)):=Nat.mul_lt_mul_of_pos_right h2 (Nat.pow_pos (by omega))
  rw [<- Nat.pow_add,show m + 1 + (64 - (m + 1))=64 by omega] at this
  exact this
theorem b5q {hi lo s:Nat} (hs:s<=63) (h2:lo < 18446744073709551616) (h3:hi * 2 ^ s < 18446744073709551616) :
  bits .or .u64 (IntKind.u64.wrap ((hi:Int) * 2 ^ min (Int.toNat (s:Int)) IntKind.u64.bits)) ((lo:Int).fdiv (2 ^ min (Int.toNat ((64 - s:Nat):Int)) IntKind.u64.bits))=((hi * 2 ^ s + lo / 2 ^ (64 - s):Nat):Int):=by
 have hb:lo / 2 ^ (64 - s) < 2 ^ s:=by
  rw [Nat.div_lt_iff_lt_mul (Nat.pow_pos (by omega)),<- Nat.pow_add,show s + (64 - s)=64 by omega]
  exact h2
 rw [b1x _ _ (by omega),a37 _ _ (by omega),Nat.mod_eq_of_lt h3,b0k _ _ h3 (Nat.lt_of_le_of_lt (Nat.div_le_self _ _) h2),Nat.mul_comm hi,Nat.two_pow_add_eq_or_of_lt hb]
theorem a8F {hi lo T D W r:Nat} (h:D * W + r=lo * T):(hi * W + lo) * T=(hi * T + D) * W + r:=by
 rw [Nat.add_mul,Nat.add_mul,Nat.mul_right_comm,Nat.add_assoc,h]
theorem b4I {hi lo s:Nat} (hs:s<=63):(hi * 18446744073709551616 + lo) * 2 ^ s=(hi * 2 ^ s + lo / 2 ^ (64 - s)) * 18446744073709551616 + lo * 2 ^ s % 18446744073709551616:=by
 have e:lo * 2 ^ s / 18446744073709551616=lo / 2 ^ (64 - s):=by
  have:18446744073709551616=2 ^ (64 - s) * 2 ^ s:=by rw [<- Nat.pow_add,show 64 - s + s=64 by omega]
  rw [this,Nat.mul_div_mul_right _ _ (Nat.pow_pos (by omega))]
 have h:=Nat.div_add_mod' (lo * 2 ^ s) 18446744073709551616
 rw [e] at h
 exact a8F h
theorem b5r {hi lo y s:Nat} (hs:s<=63) (h1:hi < y) (h2:lo < 18446744073709551616):hi * 2 ^ s + lo / 2 ^ (64 - s) < y * 2 ^ s:=by
 have hb:lo / 2 ^ (64 - s) < 2 ^ s:=by
  rw [Nat.div_lt_iff_lt_mul (Nat.pow_pos (by omega)),<- Nat.pow_add,show s + (64 - s)=64 by omega]
  exact h2
 have:(hi + 1) * 2 ^ s<=y * 2 ^ s:=Nat.mul_le_mul_right _ h1
 rw [Nat.add_mul,Nat.one_mul] at this
 omega
theorem a9x {q Z r A:Nat} (hq:q < 4294967296) (hZ:Z < 4294967296) (hr:r < 4294967296) (hA:A < 4294967296) :
  IntKind.u64.wrap ((q:Int) * (Z:Int))=((q * Z:Nat):Int)/\IntKind.u64.wrap (IntKind.u64.wrap (4294967296 * (r:Int)) + (A:Int))=((4294967296 * r + A:Nat):Int):=by
 have:q * Z<=4294967295 * 4294967295:=Nat.mul_le_mul (by omega) (by omega)
 refine ⟨by rw [a2D,Nat.mod_eq_of_lt (by omega)],?_⟩
 have e:IntKind.u64.wrap (4294967296 * (r:Int))=((4294967296 * r % 18446744073709551616:Nat):Int):=a2D 4294967296 r
 rw [e,a2E,Nat.mod_eq_of_lt (a:=4294967296 * r) (by omega),Nat.mod_eq_of_lt (by omega)]
theorem X7 {q Q:Nat} (h:q=Q + 1) (hq:Q < 18446744073709551616):IntKind.u64.wrap ((q:Int) - 1)=(Q:Int):=by
 subst h
 rw [show ((Q + 1:Nat):Int) - 1=(Q:Int) by omega,wu _ hq]
theorem a1U {r P:Nat} (hr:r < 4294967296) (hP:P < 4294967296):IntKind.u64.wrap ((r:Int) + (P:Int))=((r + P:Nat):Int):=by
 rw [a2E,Nat.mod_eq_of_lt (by omega)]
theorem a00 {q Z r A:Nat} (h:((q * Z:Nat):Int) > ((4294967296 * r + A:Nat):Int)):0 < q:=by
 rcases Nat.eq_zero_or_pos q with h0 | h0
 ·subst h0; simp at h; omega
 ·exact h0
theorem a01 {Y U A q r:Nat} (h:Dig Y U A q r):q<=4294967297:=h.le
theorem a8G (hi lo y s Y U L A C P Z Q1 R1 Q0 quo rem:Nat) (hl:PC Tryz.prog 328 [u64 y] (i64 s)) (n1:s<=63) (h1:hi < y) (h2:lo < 18446744073709551616) (h3:y < 18446744073709551616) (hz:hi≠0)
  (e1:IntKind.u64.wrap ((y:Int) * 2 ^ min (Int.toNat (s:Int)) IntKind.u64.bits)=(Y:Int))
  (e2:bits .or .u64 (IntKind.u64.wrap ((hi:Int) * 2 ^ min (Int.toNat (s:Int)) IntKind.u64.bits)) ((lo:Int).fdiv (2 ^ min (Int.toNat ((64 - s:Nat):Int)) IntKind.u64.bits))=(U:Int))
  (e3:IntKind.u64.wrap ((lo:Int) * 2 ^ min (Int.toNat (s:Int)) IntKind.u64.bits)=(L:Int)) (e4:IntKind.u64.wrap (64 - (s:Int))=((64 - s:Nat):Int))
  (p1:((Y:Nat):Int).fdiv (2 ^ min (Int.toNat 32) IntKind.u64.bits)=(P:Int)) (p2:bits .and .u64 (Y:Int) 4294967295=(Z:Int))
  (p3:((L:Nat):Int).fdiv (2 ^ min (Int.toNat 32) IntKind.u64.bits)=(A:Int)) (p4:bits .and .u64 (L:Int) 4294967295=(C:Int))
  (f1:IntKind.u64.wrap ((U:Int).tdiv (P:Int))=((U / P:Nat):Int)) (f2:IntKind.u64.wrap ((U:Int) - IntKind.u64.wrap (((U / P:Nat):Int) * (P:Int)))=((U % P:Nat):Int))
  (f3:IntKind.u64.wrap ((R1:Int).tdiv (P:Int))=((R1 / P:Nat):Int)) (f4:IntKind.u64.wrap ((R1:Int) - IntKind.u64.wrap (((R1 / P:Nat):Int) * (P:Int)))=((R1 % P:Nat):Int))
  (b1:2147483648<=P) (b2:P < 4294967296) (b3:Z < 4294967296) (b4:A < 4294967296) (b5:C < 4294967296)
  (x1:∀ q r,Dig Y U A q r->q * Z<=4294967296 * r + A->q=Q1) (x2:∀ q r,Dig Y U A (q + 1) r->(4294967296<=q + 1∨(q + 1) * Z > 4294967296 * r + A)->Dig Y U A q (r + P)) (x3:∀ q r,Dig Y U A q r->q<=4294967296->4294967296<=r->q=Q1) (x4:Dig Y U A (U / P) (U % P)) (x5:Unit->Q1 < 4294967296)
  (y1:∀ q r,Dig Y R1 C q r->q * Z<=4294967296 * r + C->q=Q0) (y2:∀ q r,Dig Y R1 C (q + 1) r->(4294967296<=q + 1∨(q + 1) * Z > 4294967296 * r + C)->Dig Y R1 C q (r + P)) (y3:∀ q r,Dig Y R1 C q r->q<=4294967296->4294967296<=r->q=Q0) (y4:Dig Y R1 C (R1 / P) (R1 % P)) (y5:Unit->Q0 < 4294967296)
  (r1:IntKind.u64.wrap (IntKind.u64.wrap (IntKind.u64.wrap ((U:Int) * 4294967296) + (A:Int)) - IntKind.u64.wrap ((Q1:Int) * (Y:Int)))=(R1:Int))
  (r2:(IntKind.u64.wrap (IntKind.u64.wrap (IntKind.u64.wrap ((R1:Int) * 4294967296) + (C:Int)) - IntKind.u64.wrap ((Q0:Int) * (Y:Int)))).fdiv (2 ^ min (Int.toNat (s:Int)) IntKind.u64.bits)=(rem:Int))
  (g1:IntKind.u64.wrap (IntKind.u64.wrap ((Q1:Int) * 4294967296) + (Q0:Int))=(quo:Int)) :
  PC Tryz.prog 320 [u64 hi,u64 lo,u64 y] (.tup [u64 quo,u64 rem]):=by
 refine a7 hm Tryz.func320 (by kernel_rfl) ?_
 conv=>whnf
 (repeat' first|(refine ansS (fun hh=>?_) (fun hh=>?_)<;>(try simp only [ansX] at hh)<;>first|(exfalso;first|omega|(simp [*] at hh;done)|(revert hh;decide))|exact absurd (by assumption) hh|conv=>whnf)|((first|refine kR ?_|refine aB ?_|refine aL ?_|refine aN ?_|((try (refine Or.inl ?_;conv=>whnf));(try (refine ⟨false,?_⟩;conv=>whnf));refine ⟨_,by exact hl,?_⟩)|fail);conv=>whnf))
 rw [wu s (by omega)]
 refine ⟨by omega,?_⟩
 conv=>whnf
 refine ⟨by omega,?_⟩
 conv=>whnf
 rw [e4]
 refine ⟨by omega,?_⟩
 conv=>whnf
 refine ⟨by omega,?_⟩
 conv=>whnf
 rw [e1,e2,e3,p1,p2,p3,p4]
 refine ⟨by omega,?_⟩
 conv=>whnf
 rw [f1,f2]
 refine Or.inr ⟨Nat×Nat,[15,16],[],[],fun i=>[u64 i.1,u64 i.2],fun _=>[],fun _=>[],fun i=>i.1,fun i=>Dig Y U A i.1 i.2/\i.2 < 4294967296,?_⟩
 conv=>whnf
 refine ⟨⟨(U / P,U % P),?_⟩,?_⟩
 ·(conv=>whnf)
  exact ⟨⟨⟨x4,Nat.lt_of_lt_of_le (Nat.mod_lt _ (by omega)) (by omega)⟩,rfl,rfl,rfl⟩,by kernel_rfl,by kernel_rfl⟩
 ·rintro ⟨q,r⟩ ⟨hd,hr⟩
  simp only [] at hd hr
  have hq:=a01 hd
  conv=>whnf
  refine ⟨fun c1 => ?_,fun c1 => ?_⟩
  ·replace c1:=of_decide_eq_true c1
   conv=>whnf
   obtain ⟨q,rfl⟩:∃ k,q=k + 1:=⟨q - 1,by omega⟩
   have hd':=x2 q r hd (Or.inl (by omega))
   have hs:=a1U hr b2
   have hn:=X7 (q:=q + 1) rfl (by omega)
   rw [hs]
   refine ⟨fun c2 => ?_,fun c2 => ?_⟩
   ·replace c2:=of_decide_eq_true c2
    conv=>whnf
    have hQ:=x3 q (r + P) hd' (by omega) (by omega)
    subst hQ
    rw [hn]
    rw [r1]
    refine ⟨by omega,?_⟩
    conv=>whnf
    rw [f3,f4]
    clear hd hr hq c1
    refine Or.inr ⟨Nat×Nat,[18,16],[],[],fun i=>[u64 i.1,u64 i.2],fun _=>[],fun _=>[],fun i=>i.1,fun i=>Dig Y R1 C i.1 i.2/\i.2 < 4294967296,?_⟩
    conv=>whnf
    refine ⟨⟨(R1 / P,R1 % P),?_⟩,?_⟩
    ·(conv=>whnf)
     exact ⟨⟨⟨y4,Nat.lt_of_lt_of_le (Nat.mod_lt _ (by omega)) (by omega)⟩,rfl,rfl,rfl⟩,by kernel_rfl,by kernel_rfl⟩
    ·rintro ⟨q0,r0⟩ ⟨hd,hr⟩
     simp only [] at hd hr
     have hq:=a01 hd
     conv=>whnf
     refine ⟨fun c1 => ?_,fun c1 => ?_⟩
     ·replace c1:=of_decide_eq_true c1
      conv=>whnf
      obtain ⟨q0,rfl⟩:∃ k,q0=k + 1:=⟨q0 - 1,by omega⟩
      have hd':=y2 q0 r0 hd (Or.inl (by omega))
      have hs:=a1U hr b2
      have hn:=X7 (q:=q0 + 1) rfl (by omega)
      rw [hs]
      refine ⟨fun c2 => ?_,fun c2 => ?_⟩
      ·replace c2:=of_decide_eq_true c2
       conv=>whnf
       have hQ:=y3 q0 (r0 + P) hd' (by omega) (by omega)
       subst hQ
       rw [hn]
       refine ⟨by omega,?_⟩
       conv=>whnf
       rw [r2,g1]
      ·replace c2:=of_decide_eq_false c2
       conv=>whnf
       refine ⟨(q0,r0 + P),?_⟩
       conv=>whnf
       refine ⟨⟨⟨Nat.lt_succ_self _,hd',by omega⟩,?_,rfl,rfl⟩,by kernel_rfl,by kernel_rfl⟩
       show [AV.int .u64 (IntKind.u64.wrap (((q0 + 1:Nat):Int) - 1)),AV.int .u64 ((r0 + P:Nat):Int)]=_
       rw [hn]
     ·replace c1:=of_decide_eq_false c1
      have hcu:=a9x (q:=q0) (Z:=Z) (r:=r0) (A:=C) (by omega) b3 hr (by assumption)
      conv=>whnf
      rw [hcu.1,hcu.2]
      refine ⟨fun c3 => ?_,fun c3 => ?_⟩
      ·replace c3:=of_decide_eq_true c3
       conv=>whnf
       obtain ⟨q0,rfl⟩:∃ k,q0=k + 1:=⟨q0 - 1,by have:=a00 c3; omega⟩
       have hd':=y2 q0 r0 hd (Or.inr (by omega))
       have hs:=a1U hr b2
       have hn:=X7 (q:=q0 + 1) rfl (by omega)
       rw [hs]
       refine ⟨fun c2 => ?_,fun c2 => ?_⟩
       ·replace c2:=of_decide_eq_true c2
        conv=>whnf
        have hQ:=y3 q0 (r0 + P) hd' (by omega) (by omega)
        subst hQ
        rw [hn]
        refine ⟨by omega,?_⟩
        conv=>whnf
        rw [r2,g1]
       ·replace c2:=of_decide_eq_false c2
        conv=>whnf
        refine ⟨(q0,r0 + P),?_⟩
        conv=>whnf
        refine ⟨⟨⟨Nat.lt_succ_self _,hd',by omega⟩,?_,rfl,rfl⟩,by kernel_rfl,by kernel_rfl⟩
        show [AV.int .u64 (IntKind.u64.wrap (((q0 + 1:Nat):Int) - 1)),AV.int .u64 ((r0 + P:Nat):Int)]=_
        rw [hn]
      ·replace c3:=of_decide_eq_false c3
       conv=>whnf
       have hQ:=y1 q0 r0 hd (by omega)
       subst hQ
       refine ⟨by omega,?_⟩
       conv=>whnf
       rw [r2,g1]
   ·replace c2:=of_decide_eq_false c2
    conv=>whnf
    refine ⟨(q,r + P),?_⟩
    conv=>whnf
    refine ⟨⟨⟨Nat.lt_succ_self _,hd',by omega⟩,?_,rfl,rfl⟩,by kernel_rfl,by kernel_rfl⟩
    show [AV.int .u64 (IntKind.u64.wrap (((q + 1:Nat):Int) - 1)),AV.int .u64 ((r + P:Nat):Int)]=_
    rw [hn]
  ·replace c1:=of_decide_eq_false c1
   have hcu:=a9x (q:=q) (Z:=Z) (r:=r) (A:=A) (by omega) b3 hr (by assumption)
   conv=>whnf
   rw [hcu.1,hcu.2]
   refine ⟨fun c3 => ?_,fun c3 => ?_⟩
   ·replace c3:=of_decide_eq_true c3
    conv=>whnf
    obtain ⟨q,rfl⟩:∃ k,q=k + 1:=⟨q - 1,by have:=a00 c3; omega⟩
    have hd':=x2 q r hd (Or.inr (by omega))
    have hs:=a1U hr b2
    have hn:=X7 (q:=q + 1) rfl (by omega)
    rw [hs]
    refine ⟨fun c2 => ?_,fun c2 => ?_⟩
    ·replace c2:=of_decide_eq_true c2
     conv=>whnf
     have hQ:=x3 q (r + P) hd' (by omega) (by omega)
     subst hQ
     rw [hn]
     rw [r1]
     refine ⟨by omega,?_⟩
     conv=>whnf
     rw [f3,f4]
     clear hd hr hq c1
     refine Or.inr ⟨Nat×Nat,[18,16],[],[],fun i=>[u64 i.1,u64 i.2],fun _=>[],fun _=>[],fun i=>i.1,fun i=>Dig Y R1 C i.1 i.2/\i.2 < 4294967296,?_⟩
     conv=>whnf
     refine ⟨⟨(R1 / P,R1 % P),?_⟩,?_⟩
     ·(conv=>whnf)
      exact ⟨⟨⟨y4,Nat.lt_of_lt_of_le (Nat.mod_lt _ (by omega)) (by omega)⟩,rfl,rfl,rfl⟩,by kernel_rfl,by kernel_rfl⟩
     ·rintro ⟨q0,r0⟩ ⟨hd,hr⟩
      simp only [] at hd hr
      have hq:=a01 hd
      conv=>whnf
      refine ⟨fun c1 => ?_,fun c1 => ?_⟩
      ·replace c1:=of_decide_eq_true c1
       conv=>whnf
       obtain ⟨q0,rfl⟩:∃ k,q0=k + 1:=⟨q0 - 1,by omega⟩
       have hd':=y2 q0 r0 hd (Or.inl (by omega))
       have hs:=a1U hr b2
       have hn:=X7 (q:=q0 + 1) rfl (by omega)
       rw [hs]
       refine ⟨fun c2 => ?_,fun c2 => ?_⟩
       ·replace c2:=of_decide_eq_true c2
        conv=>whnf
        have hQ:=y3 q0 (r0 + P) hd' (by omega) (by omega)
        subst hQ
        rw [hn]
        refine ⟨by omega,?_⟩
        conv=>whnf
        rw [r2,g1]
       ·replace c2:=of_decide_eq_false c2
        conv=>whnf
        refine ⟨(q0,r0 + P),?_⟩
        conv=>whnf
        refine ⟨⟨⟨Nat.lt_succ_self _,hd',by omega⟩,?_,rfl,rfl⟩,by kernel_rfl,by kernel_rfl⟩
        show [AV.int .u64 (IntKind.u64.wrap (((q0 + 1:Nat):Int) - 1)),AV.int .u64 ((r0 + P:Nat):Int)]=_
        rw [hn]
      ·replace c1:=of_decide_eq_false c1
       have hcu:=a9x (q:=q0) (Z:=Z) (r:=r0) (A:=C) (by omega) b3 hr (by assumption)
       conv=>whnf
       rw [hcu.1,hcu.2]
       refine ⟨fun c3 => ?_,fun c3 => ?_⟩
       ·replace c3:=of_decide_eq_true c3
        conv=>whnf
        obtain ⟨q0,rfl⟩:∃ k,q0=k + 1:=⟨q0 - 1,by have:=a00 c3; omega⟩
        have hd':=y2 q0 r0 hd (Or.inr (by omega))
        have hs:=a1U hr b2
        have hn:=X7 (q:=q0 + 1) rfl (by omega)
        rw [hs]
        refine ⟨fun c2 => ?_,fun c2 => ?_⟩
        ·replace c2:=of_decide_eq_true c2
         conv=>whnf
         have hQ:=y3 q0 (r0 + P) hd' (by omega) (by omega)
         subst hQ
         rw [hn]
         refine ⟨by omega,?_⟩
         conv=>whnf
         rw [r2,g1]
        ·replace c2:=of_decide_eq_false c2
         conv=>whnf
         refine ⟨(q0,r0 + P),?_⟩
         conv=>whnf
         refine ⟨⟨⟨Nat.lt_succ_self _,hd',by omega⟩,?_,rfl,rfl⟩,by kernel_rfl,by kernel_rfl⟩
         show [AV.int .u64 (IntKind.u64.wrap (((q0 + 1:Nat):Int) - 1)),AV.int .u64 ((r0 + P:Nat):Int)]=_
         rw [hn]
       ·replace c3:=of_decide_eq_false c3
        conv=>whnf
        have hQ:=y1 q0 r0 hd (by omega)
        subst hQ
        refine ⟨by omega,?_⟩
        conv=>whnf
        rw [r2,g1]
    ·replace c2:=of_decide_eq_false c2
     conv=>whnf
     refine ⟨(q,r + P),?_⟩
     conv=>whnf
     refine ⟨⟨⟨Nat.lt_succ_self _,hd',by omega⟩,?_,rfl,rfl⟩,by kernel_rfl,by kernel_rfl⟩
     show [AV.int .u64 (IntKind.u64.wrap (((q + 1:Nat):Int) - 1)),AV.int .u64 ((r + P:Nat):Int)]=_
     rw [hn]
   ·replace c3:=of_decide_eq_false c3
    conv=>whnf
    have hQ:=x1 q r hd (by omega)
    subst hQ
    rw [r1]
    refine ⟨by omega,?_⟩
    conv=>whnf
    rw [f3,f4]
    clear hd hr hq c1
    refine Or.inr ⟨Nat×Nat,[18,16],[],[],fun i=>[u64 i.1,u64 i.2],fun _=>[],fun _=>[],fun i=>i.1,fun i=>Dig Y R1 C i.1 i.2/\i.2 < 4294967296,?_⟩
    conv=>whnf
    refine ⟨⟨(R1 / P,R1 % P),?_⟩,?_⟩
    ·(conv=>whnf)
     exact ⟨⟨⟨y4,Nat.lt_of_lt_of_le (Nat.mod_lt _ (by omega)) (by omega)⟩,rfl,rfl,rfl⟩,by kernel_rfl,by kernel_rfl⟩
    ·rintro ⟨q0,r0⟩ ⟨hd,hr⟩
     simp only [] at hd hr
     have hq:=a01 hd
     conv=>whnf
     refine ⟨fun c1 => ?_,fun c1 => ?_⟩
     ·replace c1:=of_decide_eq_true c1
      conv=>whnf
      obtain ⟨q0,rfl⟩:∃ k,q0=k + 1:=⟨q0 - 1,by omega⟩
      have hd':=y2 q0 r0 hd (Or.inl (by omega))
      have hs:=a1U hr b2
      have hn:=X7 (q:=q0 + 1) rfl (by omega)
      rw [hs]
      refine ⟨fun c2 => ?_,fun c2 => ?_⟩
      ·replace c2:=of_decide_eq_true c2
       conv=>whnf
       have hQ:=y3 q0 (r0 + P) hd' (by omega) (by omega)
       subst hQ
       rw [hn]
       refine ⟨by omega,?_⟩
       conv=>whnf
       rw [r2,g1]
      ·replace c2:=of_decide_eq_false c2
       conv=>whnf
       refine ⟨(q0,r0 + P),?_⟩
       conv=>whnf
       refine ⟨⟨⟨Nat.lt_succ_self _,hd',by omega⟩,?_,rfl,rfl⟩,by kernel_rfl,by kernel_rfl⟩
       show [AV.int .u64 (IntKind.u64.wrap (((q0 + 1:Nat):Int) - 1)),AV.int .u64 ((r0 + P:Nat):Int)]=_
       rw [hn]
     ·replace c1:=of_decide_eq_false c1
      have hcu:=a9x (q:=q0) (Z:=Z) (r:=r0) (A:=C) (by omega) b3 hr (by assumption)
      conv=>whnf
      rw [hcu.1,hcu.2]
      refine ⟨fun c3 => ?_,fun c3 => ?_⟩
      ·replace c3:=of_decide_eq_true c3
       conv=>whnf
       obtain ⟨q0,rfl⟩:∃ k,q0=k + 1:=⟨q0 - 1,by have:=a00 c3; omega⟩
       have hd':=y2 q0 r0 hd (Or.inr (by omega))
       have hs:=a1U hr b2
       have hn:=X7 (q:=q0 + 1) rfl (by omega)
       rw [hs]
       refine ⟨fun c2 => ?_,fun c2 => ?_⟩
       ·replace c2:=of_decide_eq_true c2
        conv=>whnf
        have hQ:=y3 q0 (r0 + P) hd' (by omega) (by omega)
        subst hQ
        rw [hn]
        refine ⟨by omega,?_⟩
        conv=>whnf
        rw [r2,g1]
       ·replace c2:=of_decide_eq_false c2
        conv=>whnf
        refine ⟨(q0,r0 + P),?_⟩
        conv=>whnf
        refine ⟨⟨⟨Nat.lt_succ_self _,hd',by omega⟩,?_,rfl,rfl⟩,by kernel_rfl,by kernel_rfl⟩
        show [AV.int .u64 (IntKind.u64.wrap (((q0 + 1:Nat):Int) - 1)),AV.int .u64 ((r0 + P:Nat):Int)]=_
        rw [hn]
      ·replace c3:=of_decide_eq_false c3
       conv=>whnf
       have hQ:=y1 q0 r0 hd (by omega)
       subst hQ
       refine ⟨by omega,?_⟩
       conv=>whnf
       rw [r2,g1]
theorem b3x {u P:Nat} (hu:u < 18446744073709551616):IntKind.u64.wrap ((u:Int).tdiv (P:Int))=((u / P:Nat):Int)/\IntKind.u64.wrap ((u:Int) - IntKind.u64.wrap (((u / P:Nat):Int) * (P:Int)))=((u % P:Nat):Int):=by
 have hd:=Nat.div_add_mod' u P
 refine ⟨V4 _ _ (by omega),?_⟩
 rw [a2D,Nat.mod_eq_of_lt (by omega),a9o _ _ (by omega)]
 congr 1
 omega
theorem b4J {p q:Nat} (hp:p < 4294967296) (hq:q < 4294967296):IntKind.u64.wrap (IntKind.u64.wrap ((p:Int) * 4294967296) + (q:Int))=((p * 4294967296 + q:Nat):Int):=by
 have e:IntKind.u64.wrap ((p:Int) * 4294967296)=((p * 4294967296 % 18446744073709551616:Nat):Int):=a2D p 4294967296
 rw [e,a2E]
 congr 1
 omega
theorem a4j {u e q Y:Nat} (he:e < 4294967296):IntKind.u64.wrap (IntKind.u64.wrap (IntKind.u64.wrap ((u:Int) * 4294967296) + (e:Int)) - IntKind.u64.wrap ((q:Int) * (Y:Int)))=(((u * 4294967296 % 18446744073709551616 + e + (18446744073709551616 - q * Y % 18446744073709551616)) % 18446744073709551616:Nat):Int):=by
 have e1:IntKind.u64.wrap ((u:Int) * 4294967296)=((u * 4294967296 % 18446744073709551616:Nat):Int):=a2D u 4294967296
 rw [e1,a2D,a2E,a9o _ _ (Nat.le_of_lt (Nat.mod_lt _ (by omega)))]
 congr 1
 omega
theorem b10 (hi lo y:Nat) (h1:hi < y) (h2:lo < 18446744073709551616) (h3:y < 18446744073709551616):PC Tryz.prog 320 [u64 hi,u64 lo,u64 y] (.tup [u64 ((hi * 18446744073709551616 + lo) / y),u64 ((hi * 18446744073709551616 + lo) % y)]):=by
 by_cases hz:hi=0
 ·subst hz
  refine a7 hm Tryz.func320 (by kernel_rfl) ?_
  conv=>whnf
  (repeat' first|(refine ansS (fun hh=>?_) (fun hh=>?_)<;>(try simp only [ansX] at hh)<;>first|(exfalso;first|omega|(simp [*] at hh;done)|(revert hh;decide))|exact absurd (by assumption) hh|conv=>whnf)|((first|refine kR ?_|refine aB ?_|refine aL ?_|refine aN ?_|fail);conv=>whnf))
  rw [V4 _ _ h2,b1y,Nat.zero_mul,Nat.zero_add]
 have hl:=a0Z y h3
 obtain ⟨n1,n2,n3⟩:=b0q (by omega) h3
 generalize 64 - lenN y=s at *
 have e1:IntKind.u64.wrap ((y:Int) * 2 ^ min (Int.toNat (s:Int)) IntKind.u64.bits)=((y * 2 ^ s:Nat):Int):=by rw [b1x _ _ (by omega),Nat.mod_eq_of_lt n3]
 have e2:=b5q n1 h2 (Nat.lt_of_le_of_lt (Nat.mul_le_mul_right _ (Nat.le_of_lt h1)) n3)
 have e3:IntKind.u64.wrap ((lo:Int) * 2 ^ min (Int.toNat (s:Int)) IntKind.u64.bits)=((lo * 2 ^ s % 18446744073709551616:Nat):Int):=b1x _ _ (by omega)
 have e4:IntKind.u64.wrap (64 - (s:Int))=((64 - s:Nat):Int):=by rw [show 64 - (s:Int)=((64 - s:Nat):Int) by omega,wu _ (by omega)]
 have a1:=b4I (hi:=hi) (lo:=lo) n1
 have a2:=b5r n1 h1 h2
 have a3:lo * 2 ^ s % 18446744073709551616 < 18446744073709551616:=Nat.mod_lt _ (by omega)
 have e5:=a37 ((hi * 18446744073709551616 + lo) % y * 2 ^ s) s (by omega)
 rw [Nat.mul_div_cancel _ (Nat.pow_pos (by omega)),<- Nat.mul_mod_mul_right] at e5
 have e6:=Nat.mul_div_mul_right (hi * 18446744073709551616 + lo) y (Nat.pow_pos (n:=s) (show 0 < 2 by omega))
 rw [a1] at e5 e6
 clear a1
 obtain ⟨Y,hY⟩:∃ Y,Y=y * 2 ^ s:=⟨_,rfl⟩
 rw [<- hY] at n2 n3 e1 a2 e5 e6
 obtain ⟨U,hU⟩:∃ U,U=hi * 2 ^ s + lo / 2 ^ (64 - s):=⟨_,rfl⟩
 rw [<- hU] at e2 a2 e5 e6
 obtain ⟨L,hL⟩:∃ L,L=lo * 2 ^ s % 18446744073709551616:=⟨_,rfl⟩
 rw [<- hL] at e3 a3 e5 e6
 clear hY hU hL
 obtain ⟨t1,t2⟩:=a8E (y:=Y) (u:=U) (e:=L / 4294967296) (f:=L % 4294967296) (w:=U * 18446744073709551616 + L) (by omega) (by omega)
 rw [<- t1] at e6
 rw [<- t2] at e5
 clear t1 t2
 have l1:L / 4294967296 < 4294967296:=by omega
 have l2:L % 4294967296 < 4294967296:=by omega
 have m1:=Nat.mod_lt (U * 4294967296 + L / 4294967296) (show 0 < Y by omega)
 have r1:=a6W (y:=Y) (u:=U) (e:=L / 4294967296) (by omega) n3
 have d1:=a4h n2 n3 a2 l1
 have d2:=a4h n2 n3 m1 l2
 have r2:=a6W (y:=Y) (u:=(U * 4294967296 + L / 4294967296) % Y) (e:=L % 4294967296) (by omega) n3
 have g1:=a5y (show 0 < Y by omega) a2 l1
 have g2:=a5y (show 0 < Y by omega) m1 l2
 have fd:=fun u (hu:u < Y)=>b3x (P:=Y / 4294967296) (Nat.lt_trans hu n3)
 have hy0:0 < Y:=by omega
 refine a8G hi lo y s Y U L (L / 4294967296) (L % 4294967296) (Y / 4294967296) (Y % 4294967296) ((U * 4294967296 + L / 4294967296) / Y) ((U * 4294967296 + L / 4294967296) % Y) _ _ _ hl n1 h1 h2 h3 hz e1 e2 e3 e4
  (a2c _) (X2 _ n3) (a2c _) (X2 _ a3) (fd U a2).1 (fd U a2).2 (fd _ m1).1 (fd _ m1).2 (by omega) (by omega) (by omega) l1 l2
  (fun q r h hn=>a2V h hy0 hn) (fun q r h hc=>a6V h hy0 a2 l1 hc) (fun q r h hq hr=>a4i h hy0 hq hr) d1 (fun _=>g1)
  (fun q r h hn=>a2V h hy0 hn) (fun q r h hc=>a6V h hy0 m1 l2 hc) (fun q r h hq hr=>a4i h hy0 hq hr) d2 (fun _=>g2)
  ?_ ?_ ?_
 ·rw [a4j l1,r1]
 ·rw [a4j l2,r2,e5]
 ·rw [<- e6]
  exact b4J g1 g2

end Go.Proofs.Tryz.My
