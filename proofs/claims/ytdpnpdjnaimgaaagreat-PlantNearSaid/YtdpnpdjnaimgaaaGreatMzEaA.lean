/- A helper text: contracts of functions of the program, and plain lemmas. -/
import Derived.Test.YtdpnpdjnaimgaaaGreatEvSix
import Derived.Test.YtdpnpdjnaimgaaaGreatMzExB
set_option maxRecDepth 100000
set_option maxHeartbeats 0
set_option linter.unusedVariables false
set_option linter.unusedSimpArgs false
namespace Go.Proofs.Tryz.My
open Go Go.Ev
def a1X (op:Int×Int->Int×Int->(Int×Int)×Int) (a b:Int×Int):(Int×Int)×Int:=if b9 a && b9 b then op a b else ((0,0),8)
theorem b3D (D:FuncId) (op:Int×Int->Int×Int->(Int×Int)×Int) (hD:∀ a b,b9 a=true->b9 b=true->PC Tryz.prog D [fr a,fr b] (.tup [fr (op a b).1,i64 (op a b).2])) (a b:Int×Int) :
  PC Tryz.prog 317 [fr a,fr b,.fn (.func D) [] []] (.tup [fr (a1X op a b).1,i64 (a1X op a b).2]):=by
 have c:=a4d a b
 have h:a1X op a b=if b9 a && b9 b then op a b else ((0,0),8):=rfl
 rw [h]
 cases ha:b9 a
 ·rw [ha] at c
  refine a7 hm Tryz.func317 (by kernel_rfl) ?_
  conv=>whnf
  (repeat' first|(refine ansS (fun hh=>?_) (fun hh=>?_)<;>(try simp only [ansX] at hh)<;>first|(exfalso;first|omega|(simp [*] at hh;done)|(revert hh;decide))|exact absurd (by assumption) hh|conv=>whnf)|((first|refine kR ?_|refine aB ?_|refine aL ?_|refine aN ?_|((try (refine Or.inl ?_;conv=>whnf));(try (refine ⟨false,?_⟩;conv=>whnf));refine ⟨_,by exact c,?_⟩)|fail);conv=>whnf))
  all_goals simp
 cases hb:b9 b
 ·rw [ha,hb] at c
  refine a7 hm Tryz.func317 (by kernel_rfl) ?_
  conv=>whnf
  (repeat' first|(refine ansS (fun hh=>?_) (fun hh=>?_)<;>(try simp only [ansX] at hh)<;>first|(exfalso;first|omega|(simp [*] at hh;done)|(revert hh;decide))|exact absurd (by assumption) hh|conv=>whnf)|((first|refine kR ?_|refine aB ?_|refine aL ?_|refine aN ?_|((try (refine Or.inl ?_;conv=>whnf));(try (refine ⟨false,?_⟩;conv=>whnf));refine ⟨_,by exact c,?_⟩)|fail);conv=>whnf))
  all_goals simp
 rw [ha,hb] at c
 have c2:=hD a b ha hb
 generalize op a b=r at *
 refine a7 hm Tryz.func317 (by kernel_rfl) ?_
 conv=>whnf
 (repeat' first|(refine ansS (fun hh=>?_) (fun hh=>?_)<;>(try simp only [ansX] at hh)<;>first|(exfalso;first|omega|(simp [*] at hh;done)|(revert hh;decide))|exact absurd (by assumption) hh|conv=>whnf)|((first|refine kR ?_|refine aB ?_|refine aL ?_|refine aN ?_|((try (refine Or.inl ?_;conv=>whnf));(try (refine ⟨false,?_⟩;conv=>whnf));refine ⟨_,by first | exact c | exact c2,?_⟩)|fail);conv=>whnf))
 all_goals simp
theorem b4L (a b:Int×Int):PC Tryz.prog 288 [fr a,fr b] (.tup [fr (a1X addF a b).1,i64 (a1X addF a b).2]):=by
 have c:=b3D 250 addF b11 a b
 generalize a1X addF a b=r at *
 refine a7 hm Tryz.func288 (by kernel_rfl) ?_
 conv=>whnf
 (repeat' first|(refine ansS (fun hh=>?_) (fun hh=>?_)<;>(try simp only [ansX] at hh)<;>first|(exfalso;first|omega|(simp [*] at hh;done)|(revert hh;decide))|exact absurd (by assumption) hh|conv=>whnf)|((first|refine kR ?_|refine aB ?_|refine aL ?_|refine aN ?_|((try (refine Or.inl ?_;conv=>whnf));(try (refine ⟨false,?_⟩;conv=>whnf));refine ⟨_,by exact c,?_⟩)|fail);conv=>whnf))
def a1Y (a b:SpT):SpT×Int:=if k7 a && k7 b then (if k7 (greF a.1 b.1,lesF a.2 b.2) then ((greF a.1 b.1,lesF a.2 b.2),0) else (zS,6)) else (zS,8)
theorem b3E (a b:SpT):PC Tryz.prog 149 [sp a,sp b] (.tup [sp (a1Y a b).1,i64 (a1Y a b).2]):=by
 have c:=a1n a b
 have h:a1Y a b=if k7 a && k7 b then (if k7 (greF a.1 b.1,lesF a.2 b.2) then ((greF a.1 b.1,lesF a.2 b.2),0) else (zS,6)) else (zS,8):=rfl
 rw [h]
 cases ha:k7 a
 ·rw [ha] at c
  refine a7 hm Tryz.func149 (by kernel_rfl) ?_
  conv=>whnf
  (repeat' first|(refine ansS (fun hh=>?_) (fun hh=>?_)<;>(try simp only [ansX] at hh)<;>first|(exfalso;first|omega|(simp [*] at hh;done)|(revert hh;decide))|exact absurd (by assumption) hh|conv=>whnf)|((first|refine kR ?_|refine aB ?_|refine aL ?_|refine aN ?_|((try (refine Or.inl ?_;conv=>whnf));(try (refine ⟨false,?_⟩;conv=>whnf));refine ⟨_,by exact c,?_⟩)|fail);conv=>whnf))
  all_goals simp
 cases hb:k7 b
 ·rw [ha,hb] at c
  refine a7 hm Tryz.func149 (by kernel_rfl) ?_
  conv=>whnf
  (repeat' first|(refine ansS (fun hh=>?_) (fun hh=>?_)<;>(try simp only [ansX] at hh)<;>first|(exfalso;first|omega|(simp [*] at hh;done)|(revert hh;decide))|exact absurd (by assumption) hh|conv=>whnf)|((first|refine kR ?_|refine aB ?_|refine aL ?_|refine aN ?_|((try (refine Or.inl ?_;conv=>whnf));(try (refine ⟨false,?_⟩;conv=>whnf));refine ⟨_,by exact c,?_⟩)|fail);conv=>whnf))
  all_goals simp
 rw [ha,hb] at c
 obtain ⟨a1,a2,_⟩:=L9.1 ha
 obtain ⟨b1,b2,_⟩:=L9.1 hb
 have c2:=a20 a.1 b.1 a1 b1
 have c3:=a4l a.2 b.2 a2 b2
 have c4:=a4e (greF a.1 b.1,lesF a.2 b.2)
 generalize greF a.1 b.1=x at *
 generalize lesF a.2 b.2=y at *
 cases hs:k7 (x,y)
 ·rw [hs] at c4
  refine a7 hm Tryz.func149 (by kernel_rfl) ?_
  conv=>whnf
  (repeat' first|(refine ansS (fun hh=>?_) (fun hh=>?_)<;>(try simp only [ansX] at hh)<;>first|(exfalso;first|omega|(simp [*] at hh;done)|(revert hh;decide))|exact absurd (by assumption) hh|conv=>whnf)|((first|refine kR ?_|refine aB ?_|refine aL ?_|refine aN ?_|((try (refine Or.inl ?_;conv=>whnf));(try (refine ⟨false,?_⟩;conv=>whnf));refine ⟨_,by first | exact c | exact c2 | exact c3 | exact c4,?_⟩)|fail);conv=>whnf))
  all_goals simp
 ·rw [hs] at c4
  refine a7 hm Tryz.func149 (by kernel_rfl) ?_
  conv=>whnf
  (repeat' first|(refine ansS (fun hh=>?_) (fun hh=>?_)<;>(try simp only [ansX] at hh)<;>first|(exfalso;first|omega|(simp [*] at hh;done)|(revert hh;decide))|exact absurd (by assumption) hh|conv=>whnf)|((first|refine kR ?_|refine aB ?_|refine aL ?_|refine aN ?_|((try (refine Or.inl ?_;conv=>whnf));(try (refine ⟨false,?_⟩;conv=>whnf));refine ⟨_,by first | exact c | exact c2 | exact c3 | exact c4,?_⟩)|fail);conv=>whnf))
  all_goals simp
def insB (s t:SpT):Bool:=decide ((a1Y s t).2=0) && decide ((a1Y s t).1=s)
def InR (s:SpT) (u:Rat):Prop:=qv s.1<=u/\u<=qv s.2
abbrev sme (x:SpT×Int):AV := .agg [i64 x.1.1.1,i64 x.1.1.2,i64 x.1.2.1,i64 x.1.2.2,i64 x.2]
def b5L (op:SpT->SpT->SpT×Int) (x:SpT×Int) (s:SpT):SpT×Int:=if x.2=0 then op x.1 s else x
def bus (s c:SpT):SpT×Int:=subS c s
theorem b3F {a b:SpT} (h:(mulS a b).2=0):k7 a=true/\k7 b=true/\k7 (mulS a b).1=true:=by
 unfold mulS at h ⊢
 cases ha:k7 a<;>cases hb:k7 b<;>rw [ha,hb] at h<;>simp at h
 exact ⟨rfl,rfl,(b14 a6Z _ (a21 ha hb) (by simp [allP]) h).1⟩

end Go.Proofs.Tryz.My
