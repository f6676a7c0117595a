/- Helper lemmas. -/
import Derived.Test.YtpmmjoccamogdaaGreatMyGn0
set_option linter.unusedVariables false
set_option linter.unusedSimpArgs false
set_option maxRecDepth 100000
set_option maxHeartbeats 0
namespace Go.Proofs.Tryz.My
open Go Go.Ev
abbrev u8 (n:Int):AV := .int .u8 n
def Bk (s t:S6):Int:=if (mB s t).2=0 then (if (mB s t).1=s then 1 else 3) else 2
def oo (s t:S6):Int×Int:=if x9 s && x9 t then (Bk s t,0) else (0,2)
theorem vE (s:S6) (lo hi:Int×Int):PC Tryz.prog 30 [sp s,fr lo,fr hi] (.tup [u8 (oo s (lo,hi)).1,i64 (oo s (lo,hi)).2]):=by
 have c1:=W6 s
 have c2:=W6 (lo,hi)
 have c3:=Bd s (lo,hi)
 unfold oo Bk
 generalize mB s (lo,hi)=m at *
 cases h1:x9 s
 ·rw [h1] at c1
  refine pF Tryz.func30 ?_
  conv=>whnf
  (repeat' ((first|refine aU fun hh=>?_|refine aV fun hh=>?_|refine aS (fun hh=>?_) fun hh=>?_|refine kR ?_|((try refine Or.inl ?_;conv=>whnf);(try refine ⟨false,?_⟩;conv=>whnf);refine ⟨_,by first|exact c1|exact c2,?_⟩)|fail)<;>conv=>whnf))
  all_goals simp
 cases h2:x9 (lo,hi)
 ·rw [h1] at c1
  rw [h2] at c2
  refine pF Tryz.func30 ?_
  conv=>whnf
  (repeat' ((first|refine aU fun hh=>?_|refine aV fun hh=>?_|refine aS (fun hh=>?_) fun hh=>?_|refine kR ?_|((try refine Or.inl ?_;conv=>whnf);(try refine ⟨false,?_⟩;conv=>whnf);refine ⟨_,by first|exact c1|exact c2,?_⟩)|fail)<;>conv=>whnf))
  all_goals simp
 rw [h1] at c1
 rw [h2] at c2
 obtain ⟨⟨⟨m1,m2⟩,⟨m3,m4⟩⟩,me⟩:=m
 obtain ⟨⟨s1,s2⟩,⟨s3,s4⟩⟩:=s
 by_cases h3:me=0
 ·by_cases h4:((m1,m2),(m3,m4))=((s1,s2),(s3,s4))
  ·obtain ⟨rfl,rfl,rfl,rfl⟩:m1=s1/\m2=s2/\m3=s3/\m4=s4:=by simpa [and_assoc] using h4
   refine pF Tryz.func30 ?_
   conv=>whnf
   (repeat' ((first|refine aU fun hh=>?_|refine aV fun hh=>?_|refine aS (fun hh=>?_) fun hh=>?_|refine kR ?_|((try refine Or.inl ?_;conv=>whnf);(try refine ⟨false,?_⟩;conv=>whnf);refine ⟨_,by first|exact c1|exact c2|exact c3,?_⟩)|fail)<;>conv=>whnf))
   all_goals simp [h3]
  ·have h5:¬ (m1=s1/\m2=s2/\m3=s3/\m4=s4):=fun h=>h4 (by simp [h])
   refine pF Tryz.func30 ?_
   conv=>whnf
   (repeat' ((first|refine aU fun hh=>?_|refine aV fun hh=>?_|refine aS (fun hh=>?_) fun hh=>?_|refine kR ?_|((try refine Or.inl ?_;conv=>whnf);(try refine ⟨false,?_⟩;conv=>whnf);refine ⟨_,by first|exact c1|exact c2|exact c3,?_⟩)|fail)<;>conv=>whnf))
   all_goals first|(simp_all;done)|(exfalso;simp at hh;grind)
 ·refine pF Tryz.func30 ?_
  conv=>whnf
  (repeat' ((first|refine aU fun hh=>?_|refine aV fun hh=>?_|refine aS (fun hh=>?_) fun hh=>?_|refine kR ?_|((try refine Or.inl ?_;conv=>whnf);(try refine ⟨false,?_⟩;conv=>whnf);refine ⟨_,by first|exact c1|exact c2|exact c3,?_⟩)|fail)<;>conv=>whnf))
  all_goals simp [h3]
abbrev H4:Type:=((((Int×Int)×S6)×(Int×Int))×(Int×Int))
abbrev K4 (g:H4):Int:=g.1.1.1.1
abbrev J2 (g:H4):Int:=g.1.1.1.2
abbrev K7 (g:H4):S6:=g.1.1.2
abbrev kj (g:H4):S6:=(g.1.2,g.2)
abbrev eG (g:H4):List AV:=[i64 (K4 g),i64 (J2 g),i64 (K7 g).1.1,i64 (K7 g).1.2,i64 (K7 g).2.1,i64 (K7 g).2.2,i64 g.1.2.1,i64 g.1.2.2,i64 g.2.1,i64 g.2.2]
abbrev DF (g:H4):AV := .agg (eG g)
def Ch (a:Int×Int):Bool:=decide (-1000000<=a.1) && decide (a.1<=1000000) && decide (a.2<=1000000)
def N3 (g:H4):Bool:=A0 (K4 g) 1 255 && A0 (J2 g) 0 64 && x9 (K7 g) && x9 (kj g) && decide (0 < (K7 g).1.1) && (Ch (K7 g).1 && Ch (K7 g).2 && Ch g.1.2 && Ch g.2)

end Go.Proofs.Tryz.My
