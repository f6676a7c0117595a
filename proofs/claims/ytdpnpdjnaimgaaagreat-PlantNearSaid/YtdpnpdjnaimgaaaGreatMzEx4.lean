/- A helper text: contracts of functions of the program, and plain lemmas. -/
import Derived.Test.YtdpnpdjnaimgaaaGreatEvSix
import Derived.Test.YtdpnpdjnaimgaaaGreatMzFq
import Derived.Test.YtdpnpdjnaimgaaaGreatMzExA
import Derived.Test.YtdpnpdjnaimgaaaGreatMzRf1
set_option maxRecDepth 100000
set_option maxHeartbeats 0
set_option linter.unusedVariables false
set_option linter.unusedSimpArgs false
namespace Go.Proofs.Tryz.My
open Go Go.Ev
theorem b3u (x y:Nat) (h:x + y < 340282366920938463463374607431768211456):PC Tryz.prog 290 [pr x,pr y] (pr (x + y)):=by
 refine a7 hm Tryz.func290 (by kernel_rfl) ?_
 conv=>whnf
 (repeat' first|(refine ansS (fun hh=>?_) (fun hh=>?_)<;>(try simp only [ansX] at hh)<;>first|(exfalso;first|omega|(simp [*] at hh;done)|(revert hh;decide))|exact absurd (by assumption) hh|conv=>whnf)|((first|refine kR ?_|refine aB ?_|refine aL ?_|refine aN ?_|((try (refine Or.inl ?_;conv=>whnf));(try (refine ⟨false,?_⟩;conv=>whnf));refine ⟨_,by exact a6T (x % 18446744073709551616) (y % 18446744073709551616) 0 (by omega),?_⟩)|fail);conv=>whnf))
 rw [a2E,a2E]
 have e1:(x % 18446744073709551616 + y % 18446744073709551616 + 0) % 18446744073709551616=(x + y) % 18446744073709551616:=by omega
 have e2:((x / 18446744073709551616 + y / 18446744073709551616) % 18446744073709551616 + (x % 18446744073709551616 + y % 18446744073709551616 + 0) / 18446744073709551616) % 18446744073709551616=(x + y) / 18446744073709551616:=by omega
 rw [e1,e2]
theorem a9v (x y:Nat) (hx:x < 340282366920938463463374607431768211456) (h:y<=x):PC Tryz.prog 291 [pr x,pr y] (pr (x - y)):=by
 refine a7 hm Tryz.func291 (by kernel_rfl) ?_
 conv=>whnf
 (repeat' first|(refine ansS (fun hh=>?_) (fun hh=>?_)<;>(try simp only [ansX] at hh)<;>first|(exfalso;first|omega|(simp [*] at hh;done)|(revert hh;decide))|exact absurd (by assumption) hh|conv=>whnf)|((first|refine kR ?_|refine aB ?_|refine aL ?_|refine aN ?_|((try (refine Or.inl ?_;conv=>whnf));(try (refine ⟨false,?_⟩;conv=>whnf));refine ⟨_,by exact b1U (x % 18446744073709551616) (y % 18446744073709551616) 0 (by omega),?_⟩)|fail);conv=>whnf))
 rw [a9o _ _ (by omega),a9o _ _ (by split<;>omega)]
 have e1:(x % 18446744073709551616 + 18446744073709551616 - y % 18446744073709551616 - 0) % 18446744073709551616=(x - y) % 18446744073709551616:=by omega
 have e2:((x / 18446744073709551616 + (18446744073709551616 - y / 18446744073709551616)) % 18446744073709551616 + (18446744073709551616 - (if x % 18446744073709551616 < y % 18446744073709551616 + 0 then 1 else 0))) % 18446744073709551616=(x - y) / 18446744073709551616:=by split<;>omega
 rw [e1,e2]
theorem b1X (a:Int×Int) (h:b9 a=true):PC Tryz.prog 251 [fr a] (fr (-a.1,a.2)):=by
 have:=(t8 a).1 h
 refine a7 hm Tryz.func251 (by kernel_rfl) ?_
 conv=>whnf
 (repeat' first|(refine ansS (fun hh=>?_) (fun hh=>?_)<;>(try simp only [ansX] at hh)<;>first|(exfalso;first|omega|(simp [*] at hh;done)|(revert hh;decide))|exact absurd (by assumption) hh|conv=>whnf)|((first|refine kR ?_|refine aB ?_|refine aL ?_|refine aN ?_|fail);conv=>whnf))
 rw [wi _ (by omega) (by omega),show 0 - a.1 = -a.1 by omega]
def b5o (a:Int×Int):Int×Int:=if a.1 < 0 then (-a.2,-a.1) else (a.2,a.1)
theorem b1Y (a b:Int×Int) (ha:b9 a=true) (hb:b9 b=true):PC Tryz.prog 147 [fr a,fr b] (.tup [fr (mulF a b).1,i64 (mulF a b).2]):=by
 rw [b3s ha hb]
 have va:=(t8 a).1 ha
 have vb:=(t8 b).1 hb
 obtain ⟨n,d⟩:=a
 obtain ⟨m,e⟩:=b
 simp only [] at *
 have i1:I64 n:=by unfold I64; omega
 have i2:I64 d:=by unfold I64; omega
 have i3:I64 m:=by unfold I64; omega
 have i4:I64 e:=by unfold I64; omega
 have c1:=a1m n.natAbs e.natAbs (by omega) (by omega)
 have c2:=a1m m.natAbs d.natAbs (by omega) (by omega)
 have hg0:0 < Nat.gcd n.natAbs e.natAbs:=Nat.gcd_pos_of_pos_right _ (by omega)
 have hh0:0 < Nat.gcd m.natAbs d.natAbs:=Nat.gcd_pos_of_pos_right _ (by omega)
 generalize Nat.gcd n.natAbs e.natAbs=g at *
 generalize Nat.gcd m.natAbs d.natAbs=h at *
 have l1:n.natAbs / g<=4611686018427387903:=Nat.le_trans (Nat.div_le_self _ _) (by omega)
 have l2:e.natAbs / g<=4611686018427387903:=Nat.le_trans (Nat.div_le_self _ _) (by omega)
 have l3:m.natAbs / h<=4611686018427387903:=Nat.le_trans (Nat.div_le_self _ _) (by omega)
 have l4:d.natAbs / h<=4611686018427387903:=Nat.le_trans (Nat.div_le_self _ _) (by omega)
 have p1:=F8 (n.natAbs / g) (m.natAbs / h) (by omega) (by omega)
 have p2:=F8 (d.natAbs / h) (e.natAbs / g) (by omega) (by omega)
 have hx:n.natAbs / g * (m.natAbs / h) < 340282366920938463463374607431768211456:=Nat.lt_of_le_of_lt (Nat.mul_le_mul l1 l3) (by decide)
 have hy:d.natAbs / h * (e.natAbs / g) < 340282366920938463463374607431768211456:=Nat.lt_of_le_of_lt (Nat.mul_le_mul l4 l2) (by decide)
 have cm:=a5v (decide (n < 0) != decide (m < 0)) _ _ hx hy
 refine a7 hm Tryz.func147 (by kernel_rfl) ?_
 conv=>whnf
 (repeat' first|(refine ansS (fun hh=>?_) (fun hh=>?_)<;>(try simp only [ansX] at hh)<;>first|(exfalso;first|omega|(simp [*] at hh;done)|(revert hh;decide))|exact absurd (by assumption) hh|conv=>whnf)|((first|refine kR ?_|refine aB ?_|refine aL ?_|refine aN ?_|((try (refine Or.inl ?_;conv=>whnf));(try (refine ⟨false,?_⟩;conv=>whnf));refine ⟨_,by first | exact w8 n i1 | exact w8 d i2 | exact w8 m i3 | exact w8 e i4 | exact c1 | exact c2,?_⟩)|fail);conv=>whnf))
 rw [V4 _ _ (by omega),V4 _ _ (by omega)]
 (repeat' first|(refine ansS (fun hh=>?_) (fun hh=>?_)<;>(try simp only [ansX] at hh)<;>first|(exfalso;first|omega|(simp [*] at hh;done)|(revert hh;decide))|exact absurd (by assumption) hh|conv=>whnf)|((first|refine kR ?_|refine aB ?_|refine aL ?_|refine aN ?_|((try (refine Or.inl ?_;conv=>whnf));(try (refine ⟨false,?_⟩;conv=>whnf));refine ⟨_,by first | exact p1 | exact w8 d i2 | exact w8 e i4,?_⟩)|fail);conv=>whnf))
 rw [V4 _ _ (by omega),V4 _ _ (by omega)]
 (repeat' first|(refine ansS (fun hh=>?_) (fun hh=>?_)<;>(try simp only [ansX] at hh)<;>first|(exfalso;first|omega|(simp [*] at hh;done)|(revert hh;decide))|exact absurd (by assumption) hh|conv=>whnf)|((first|refine kR ?_|refine aB ?_|refine aL ?_|refine aN ?_|((try (refine Or.inl ?_;conv=>whnf));(try (refine ⟨false,?_⟩;conv=>whnf));refine ⟨_,by first | exact p2 | exact cm,?_⟩)|fail);conv=>whnf))

end Go.Proofs.Tryz.My
