/- A helper text: contracts of functions of the program, and plain lemmas. -/
import Derived.Test.YtdpnpdjnaimgaaaGreatEvSix
import Derived.Test.YtdpnpdjnaimgaaaGreatMzWbA
import Derived.Test.YtdpnpdjnaimgaaaGreatMzBqX
set_option maxRecDepth 100000
set_option maxHeartbeats 0
set_option linter.unusedVariables false
set_option linter.unusedSimpArgs false
namespace Go.Proofs.Tryz.My
open Go Go.Ev
theorem D9 (lo hi n:Int):PC Tryz.prog 60 [i64 lo,i64 hi,i64 n] (.bool (decide (lo<=n) && decide (n<=hi))):=a3o lo hi n
theorem a58 (l:LineT):PC Tryz.prog 18 [lin l] (i64 (S5 l)):=by
 have c1:=L4 l.belt
 have c2:=a1e l
 unfold S5
 by_cases h1:D2 l.belt=true
 ·rw [if_pos h1] at c1 ⊢
  by_cases h2:(1<=l.lag/\l.lag<=100)/\(1<=l.keep/\l.keep<=32)
  ·rw [if_pos h2]
   refine a7 hm Tryz.func18 (by kernel_rfl) ?_
   conv=>whnf
   (repeat' first|(refine ansS (fun hh=>?_) (fun hh=>?_)<;>(try simp only [ansX] at hh)<;>first|(exfalso;first|omega|(simp [*] at hh;done)|(revert hh;decide))|exact absurd (by assumption) hh|conv=>whnf)|((first|refine kR ?_|refine aB ?_|refine aL ?_|refine aN ?_|((try (refine Or.inl ?_;conv=>whnf));(try (refine ⟨false,?_⟩;conv=>whnf));refine ⟨_,by first | exact c1 | exact c2 | exact D9 _ _ _,?_⟩)|fail);conv=>whnf))
   all_goals rfl
  ·rw [if_neg h2]
   refine a7 hm Tryz.func18 (by kernel_rfl) ?_
   conv=>whnf
   (repeat' first|(refine ansS (fun hh=>?_) (fun hh=>?_)<;>(try simp only [ansX] at hh)<;>first|(exfalso;first|omega|(simp [*] at hh;done)|(revert hh;decide))|exact absurd (by assumption) hh|conv=>whnf)|((first|refine kR ?_|refine aB ?_|refine aL ?_|refine aN ?_|((try (refine Or.inl ?_;conv=>whnf));(try (refine ⟨false,?_⟩;conv=>whnf));refine ⟨_,by first | exact c1 | exact c2 | exact D9 _ _ _,?_⟩)|fail);conv=>whnf))
   all_goals (exfalso; omega)
 ·rw [if_neg h1] at c1 ⊢
  refine a7 hm Tryz.func18 (by kernel_rfl) ?_
  conv=>whnf
  (repeat' first|(refine ansS (fun hh=>?_) (fun hh=>?_)<;>(try simp only [ansX] at hh)<;>first|(exfalso;first|omega|(simp [*] at hh;done)|(revert hh;decide))|exact absurd (by assumption) hh|conv=>whnf)|((first|refine kR ?_|refine aB ?_|refine aL ?_|refine aN ?_|((try (refine Or.inl ?_;conv=>whnf));(try (refine ⟨false,?_⟩;conv=>whnf));refine ⟨_,by first | exact c1 | exact c2,?_⟩)|fail);conv=>whnf))
def IB4 (b:BeltT):Prop:=I64 b.step
def IL4 (l:LineT):Prop:=I64 l.belt.step/\I64 l.al.1/\I64 l.al.2
abbrev b5E (b:BeltT):AV := .agg [i64 b.step,i64 b.slip,i64 b.gate,i64 b.len,i64 0,i64 0,.nils]
abbrev a9M (l:LineT):AV := .agg [i64 l.belt.step,i64 l.belt.slip,i64 l.belt.gate,i64 l.belt.len,i64 l.lag,i64 l.keep,i64 l.p,i64 l.q,i64 l.al.1,i64 l.al.2,
 i64 l.belt.step,i64 l.belt.slip,i64 l.belt.gate,i64 l.belt.len,i64 0,i64 0,.nils,i64 l.keep,.nils,.nils,i64 0,.nils,i64 0,i64 0,.ff,.nils]
abbrev b5F:LineT:=⟨⟨0,0,0,0⟩,0,0,0,0,(0,0)⟩
abbrev noW:AV:=a9M b5F
theorem a7H (b:BeltT) (h:D2 b=true):PC Tryz.prog 54 [bel b] (.tup [b5E b,i64 0]):=by
 have c1:=L4 b
 rw [if_pos h] at c1
 refine a7 hm Tryz.func54 (by kernel_rfl) ?_
 conv=>whnf
 (repeat' first|(refine ansS (fun hh=>?_) (fun hh=>?_)<;>(try simp only [ansX] at hh)<;>first|(exfalso;first|omega|(simp [*] at hh;done)|(revert hh;decide))|exact absurd (by assumption) hh|conv=>whnf)|((first|refine kR ?_|refine aB ?_|refine aL ?_|refine aN ?_|((try (refine Or.inl ?_;conv=>whnf));(try (refine ⟨false,?_⟩;conv=>whnf));refine ⟨_,by exact c1,?_⟩)|fail);conv=>whnf))
 all_goals rfl
theorem b30 {k:Int} (h:1<=k/\k<=32):newK k=k/\newE k=0:=by
 have e:n8 k 1 32=true:=by
  unfold n8
  rw [decide_eq_true h.1,decide_eq_true h.2]; rfl
 unfold newK newE
 rw [if_pos e,if_pos e]
 exact ⟨rfl,rfl⟩
theorem b31 (l:LineT) (h:S5 l=0):PC Tryz.prog 16 [lin l] (.tup [a9M l,i64 0]):=by
 have c1:=a58 l
 rw [h] at c1
 obtain ⟨h1,h2,h3⟩:=N7 h
 have c2:=a7H l.belt h1
 have c3:=b4X l.keep
 have e:=b30 h2.2
 rw [e.1,e.2] at c3
 refine a7 hm Tryz.func16 (by kernel_rfl) ?_
 conv=>whnf
 (repeat' first|(refine ansS (fun hh=>?_) (fun hh=>?_)<;>(try simp only [ansX] at hh)<;>first|(exfalso;first|omega|(simp [*] at hh;done)|(revert hh;decide))|exact absurd (by assumption) hh|conv=>whnf)|((first|refine kR ?_|refine aB ?_|refine aL ?_|refine aN ?_|((try (refine Or.inl ?_;conv=>whnf));(try (refine ⟨false,?_⟩;conv=>whnf));refine ⟨_,by first | exact c1 | exact c2 | exact c3 | exact a7E,?_⟩)|fail);conv=>whnf))
 all_goals rfl
structure OkayW (w:WorldT):Prop where
 b:Okay w.books
 t:w.track.parts.length < 2 ^ 20
 h:w.things.length < 2 ^ 20
structure Room (w:WorldT) (c:Int):Prop where
 n:IntKind.i64.wrap (w.track.count - c)=w.track.count - c
 l:IntKind.i64.wrap (w.line.belt.step - w.line.belt.slip)=w.line.belt.step - w.line.belt.slip
 m:IntKind.i64.wrap (w.line.belt.step + w.line.belt.slip)=w.line.belt.step + w.line.belt.slip
 nl:IntKind.i64.wrap (IntKind.i64.wrap (w.track.count - c) * IntKind.i64.wrap (w.line.belt.step - w.line.belt.slip))=(w.track.count - c) * (w.line.belt.step - w.line.belt.slip)
 nm:IntKind.i64.wrap (IntKind.i64.wrap (w.track.count - c) * IntKind.i64.wrap (w.line.belt.step + w.line.belt.slip))=(w.track.count - c) * (w.line.belt.step + w.line.belt.slip)
 b:IntKind.i64.wrap (w.books.next - 1)=w.books.next - 1
def b5J (w:WorldT):Bool:=b4W w.books && (decide (w.track.parts.length<=50) && decide (w.things.length<=50))

end Go.Proofs.Tryz.My
