/- A helper text: contracts of functions of the program, and plain lemmas. -/
import Derived.Test.YtdpnpdjnaimgaaaGreatEvSix
import Derived.Test.YtdpnpdjnaimgaaaGreatMzGeA
import Derived.Test.YtdpnpdjnaimgaaaGreatMzEaA
import Derived.Test.YtdpnpdjnaimgaaaGreatMzRfC
import Derived.Test.YtdpnpdjnaimgaaaGreatMzGn0
set_option maxRecDepth 100000
set_option maxHeartbeats 0
set_option linter.unusedVariables false
set_option linter.unusedSimpArgs false
namespace Go.Proofs.Tryz.My
open Go Go.Ev
abbrev u8 (n:Int):AV := .int .u8 n
def verV (s t:SpT):Int:=if (a1Y s t).2=0 then (if (a1Y s t).1=s then 1 else 3) else 2
def decF (s t:SpT):Int×Int:=if k7 s && k7 t then (verV s t,0) else (0,2)
theorem b0C (s:SpT) (lo hi:Int×Int):PC Tryz.prog 94 [sp s,fr lo,fr hi] (.tup [u8 (decF s (lo,hi)).1,i64 (decF s (lo,hi)).2]):=by
 have c1:=L0 s
 have c2:=L0 (lo,hi)
 have c3:=b3E s (lo,hi)
 unfold decF verV
 generalize a1Y s (lo,hi)=m at *
 cases h1:k7 s
 ·rw [h1] at c1
  refine a7 hm Tryz.func94 (by kernel_rfl) ?_
  conv=>whnf
  (repeat' first|(refine ansS (fun hh=>?_) (fun hh=>?_)<;>(try simp only [ansX] at hh)<;>first|(exfalso;first|omega|(simp [*] at hh;done)|(revert hh;decide))|exact absurd (by assumption) hh|conv=>whnf)|((first|refine kR ?_|refine aB ?_|refine aL ?_|refine aN ?_|((try (refine Or.inl ?_;conv=>whnf));(try (refine ⟨false,?_⟩;conv=>whnf));refine ⟨_,by first | exact c1 | exact c2,?_⟩)|fail);conv=>whnf))
  all_goals simp
 cases h2:k7 (lo,hi)
 ·rw [h1] at c1
  rw [h2] at c2
  refine a7 hm Tryz.func94 (by kernel_rfl) ?_
  conv=>whnf
  (repeat' first|(refine ansS (fun hh=>?_) (fun hh=>?_)<;>(try simp only [ansX] at hh)<;>first|(exfalso;first|omega|(simp [*] at hh;done)|(revert hh;decide))|exact absurd (by assumption) hh|conv=>whnf)|((first|refine kR ?_|refine aB ?_|refine aL ?_|refine aN ?_|((try (refine Or.inl ?_;conv=>whnf));(try (refine ⟨false,?_⟩;conv=>whnf));refine ⟨_,by first | exact c1 | exact c2,?_⟩)|fail);conv=>whnf))
  all_goals simp
 rw [h1] at c1
 rw [h2] at c2
 obtain ⟨⟨⟨m1,m2⟩,⟨m3,m4⟩⟩,me⟩:=m
 obtain ⟨⟨s1,s2⟩,⟨s3,s4⟩⟩:=s
 by_cases h3:me=0
 ·by_cases h4:((m1,m2),(m3,m4))=((s1,s2),(s3,s4))
  ·obtain ⟨rfl,rfl,rfl,rfl⟩:m1=s1/\m2=s2/\m3=s3/\m4=s4:=by simpa [and_assoc] using h4
   refine a7 hm Tryz.func94 (by kernel_rfl) ?_
   conv=>whnf
   (repeat' first|(refine ansS (fun hh=>?_) (fun hh=>?_)<;>(try simp only [ansX] at hh)<;>first|(exfalso;first|omega|(simp [*] at hh;done)|(revert hh;decide))|exact absurd (by assumption) hh|conv=>whnf)|((first|refine kR ?_|refine aB ?_|refine aL ?_|refine aN ?_|((try (refine Or.inl ?_;conv=>whnf));(try (refine ⟨false,?_⟩;conv=>whnf));refine ⟨_,by first | exact c1 | exact c2 | exact c3,?_⟩)|fail);conv=>whnf))
   all_goals simp [h3]
  ·have h5:¬ (m1=s1/\m2=s2/\m3=s3/\m4=s4):=fun h=>h4 (by simp [h])
   refine a7 hm Tryz.func94 (by kernel_rfl) ?_
   conv=>whnf
   (repeat' first|(refine ansS (fun hh=>?_) (fun hh=>?_)<;>(try simp only [ansX] at hh)<;>first|(exfalso;first|omega|(simp [*] at hh;done)|(revert hh;decide))|exact absurd (by assumption) hh|conv=>whnf)|((first|refine kR ?_|refine aB ?_|refine aL ?_|refine aN ?_|((try (refine Or.inl ?_;conv=>whnf));(try (refine ⟨false,?_⟩;conv=>whnf));refine ⟨_,by first | exact c1 | exact c2 | exact c3,?_⟩)|fail);conv=>whnf))
   all_goals first | (simp_all; done) | (exfalso; simp at hh; grind)
 ·refine a7 hm Tryz.func94 (by kernel_rfl) ?_
  conv=>whnf
  (repeat' first|(refine ansS (fun hh=>?_) (fun hh=>?_)<;>(try simp only [ansX] at hh)<;>first|(exfalso;first|omega|(simp [*] at hh;done)|(revert hh;decide))|exact absurd (by assumption) hh|conv=>whnf)|((first|refine kR ?_|refine aB ?_|refine aL ?_|refine aN ?_|((try (refine Or.inl ?_;conv=>whnf));(try (refine ⟨false,?_⟩;conv=>whnf));refine ⟨_,by first | exact c1 | exact c2 | exact c3,?_⟩)|fail);conv=>whnf))
  all_goals simp [h3]
abbrev GauT:Type:=((((Int×Int)×SpT)×(Int×Int))×(Int×Int))
abbrev gThr (g:GauT):Int:=g.1.1.1.1
abbrev gNoi (g:GauT):Int:=g.1.1.1.2
abbrev gSc (g:GauT):SpT:=g.1.1.2
abbrev gTol (g:GauT):SpT:=(g.1.2,g.2)
abbrev eG (g:GauT):List AV:=[i64 (gThr g),i64 (gNoi g),i64 (gSc g).1.1,i64 (gSc g).1.2,i64 (gSc g).2.1,i64 (gSc g).2.2,i64 g.1.2.1,i64 g.1.2.2,i64 g.2.1,i64 g.2.2]
abbrev gau (g:GauT):AV := .agg (eG g)
def smB (a:Int×Int):Bool:=decide (-1000000<=a.1) && decide (a.1<=1000000) && decide (a.2<=1000000)
def gauB (g:GauT):Bool:=n8 (gThr g) 1 255 && n8 (gNoi g) 0 64 && k7 (gSc g) && k7 (gTol g) && decide (0 < (gSc g).1.1) && (smB (gSc g).1 && smB (gSc g).2 && smB g.1.2 && smB g.2)
abbrev IG (g:GauT):Prop:=I64 (gThr g)/\I64 (gNoi g)/\I4 (gSc g)/\I4 (gTol g)

end Go.Proofs.Tryz.My
