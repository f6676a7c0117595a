/- Helper lemmas. -/
import Derived.Test.YtdpnpdjnaimgaaaGreatMzGn0
set_option linter.unusedVariables false
set_option linter.unusedSimpArgs false
set_option maxRecDepth 100000
set_option maxHeartbeats 0
namespace Go.Proofs.Tryz.My
open Go Go.Ev
abbrev u8 (n:Int):AV := .int .u8 n
def mr (s t:X2):Int:=if (rN s t).2=0 then (if (rN s t).1=s then 1 else 3) else 2
def xl (s t:X2):Int×Int:=if z7 s && z7 t then (mr s t,0) else (0,2)
theorem GQ (s:X2) (lo hi:Int×Int):PC Tryz.prog 94 [sp s,fr lo,fr hi] (.tup [u8 (xl s (lo,hi)).1,i64 (xl s (lo,hi)).2]):=by
 have c1:=cL s
 have c2:=cL (lo,hi)
 have c3:=NN s (lo,hi)
 unfold xl mr
 generalize rN s (lo,hi)=m at *
 cases h1:z7 s
 ·rw [h1] at c1
  refine pF Tryz.func94 ?_
  conv=>whnf
  (repeat' ((first|refine aU fun hh=>?_|refine aV fun hh=>?_|refine aS (fun hh=>?_) fun hh=>?_|refine kR ?_|((try refine Or.inl ?_;conv=>whnf);(try refine ⟨false,?_⟩;conv=>whnf);refine ⟨_,by first|exact c1|exact c2,?_⟩)|fail)<;>conv=>whnf))
  all_goals simp
 cases h2:z7 (lo,hi)
 ·rw [h1] at c1
  rw [h2] at c2
  refine pF Tryz.func94 ?_
  conv=>whnf
  (repeat' ((first|refine aU fun hh=>?_|refine aV fun hh=>?_|refine aS (fun hh=>?_) fun hh=>?_|refine kR ?_|((try refine Or.inl ?_;conv=>whnf);(try refine ⟨false,?_⟩;conv=>whnf);refine ⟨_,by first|exact c1|exact c2,?_⟩)|fail)<;>conv=>whnf))
  all_goals simp
 rw [h1] at c1
 rw [h2] at c2
 obtain ⟨⟨⟨m1,m2⟩,⟨m3,m4⟩⟩,me⟩:=m
 obtain ⟨⟨s1,s2⟩,⟨s3,s4⟩⟩:=s
 by_cases h3:me=0
 ·by_cases h4:((m1,m2),(m3,m4))=((s1,s2),(s3,s4))
  ·obtain ⟨rfl,rfl,rfl,rfl⟩:m1=s1/\m2=s2/\m3=s3/\m4=s4:=by simpa [and_assoc] using h4
   refine pF Tryz.func94 ?_
   conv=>whnf
   (repeat' ((first|refine aU fun hh=>?_|refine aV fun hh=>?_|refine aS (fun hh=>?_) fun hh=>?_|refine kR ?_|((try refine Or.inl ?_;conv=>whnf);(try refine ⟨false,?_⟩;conv=>whnf);refine ⟨_,by first|exact c1|exact c2|exact c3,?_⟩)|fail)<;>conv=>whnf))
   all_goals simp [h3]
  ·have h5:¬ (m1=s1/\m2=s2/\m3=s3/\m4=s4):=fun h=>h4 (by simp [h])
   refine pF Tryz.func94 ?_
   conv=>whnf
   (repeat' ((first|refine aU fun hh=>?_|refine aV fun hh=>?_|refine aS (fun hh=>?_) fun hh=>?_|refine kR ?_|((try refine Or.inl ?_;conv=>whnf);(try refine ⟨false,?_⟩;conv=>whnf);refine ⟨_,by first|exact c1|exact c2|exact c3,?_⟩)|fail)<;>conv=>whnf))
   all_goals first|(simp_all;done)|(exfalso;simp at hh;grind)
 ·refine pF Tryz.func94 ?_
  conv=>whnf
  (repeat' ((first|refine aU fun hh=>?_|refine aV fun hh=>?_|refine aS (fun hh=>?_) fun hh=>?_|refine kR ?_|((try refine Or.inl ?_;conv=>whnf);(try refine ⟨false,?_⟩;conv=>whnf);refine ⟨_,by first|exact c1|exact c2|exact c3,?_⟩)|fail)<;>conv=>whnf))
  all_goals simp [h3]
abbrev x8:Type:=((((Int×Int)×X2)×(Int×Int))×(Int×Int))
abbrev H8 (g:x8):Int:=g.1.1.1.1
abbrev D9 (g:x8):Int:=g.1.1.1.2
abbrev J5 (g:x8):X2:=g.1.1.2
abbrev kV (g:x8):X2:=(g.1.2,g.2)
abbrev eG (g:x8):List AV:=[i64 (H8 g),i64 (D9 g),i64 (J5 g).1.1,i64 (J5 g).1.2,i64 (J5 g).2.1,i64 (J5 g).2.2,i64 g.1.2.1,i64 g.1.2.2,i64 g.2.1,i64 g.2.2]
abbrev Ta (g:x8):AV := .agg (eG g)
def Iw (a:Int×Int):Bool:=decide (-1000000<=a.1) && decide (a.1<=1000000) && decide (a.2<=1000000)
def S6 (g:x8):Bool:=D1 (H8 g) 1 255 && D1 (D9 g) 0 64 && z7 (J5 g) && z7 (kV g) && decide (0 < (J5 g).1.1) && (Iw (J5 g).1 && Iw (J5 g).2 && Iw g.1.2 && Iw g.2)

end Go.Proofs.Tryz.My
