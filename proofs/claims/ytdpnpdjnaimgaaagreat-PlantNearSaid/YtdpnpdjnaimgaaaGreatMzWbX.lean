/- Helper lemmas. -/
import Derived.Test.YtdpnpdjnaimgaaaGreatMzWbA
set_option linter.unusedVariables false
set_option linter.unusedSimpArgs false
set_option maxRecDepth 100000
set_option maxHeartbeats 0
namespace Go.Proofs.Tryz.My
open Go Go.Ev
theorem Q8 (lo hi n:Int):PC Tryz.prog 60 [i64 lo,i64 hi,i64 n] (.bool (decide (lo<=n) && decide (n<=hi))):=sN lo hi n
theorem aJ (l:A5):PC Tryz.prog 18 [jP l] (i64 (J3 l)):=by
 have c1:=aI l.n8
 have c2:=mQ l
 unfold J3
 by_cases h1:O2 l.n8=true
 ·rw [if_pos h1] at c1 ⊢
  by_cases h2:(1<=l.lag/\l.lag<=100)/\(1<=l.keep/\l.keep<=32)
  ·rw [if_pos h2]
   refine pF Tryz.func18 ?_
   conv=>whnf
   (repeat' ((first|refine aU fun hh=>?_|refine aV fun hh=>?_|refine aS (fun hh=>?_) fun hh=>?_|refine kR ?_|((try refine Or.inl ?_;conv=>whnf);(try refine ⟨false,?_⟩;conv=>whnf);refine ⟨_,by first|exact c1|exact c2|exact Q8 _ _ _,?_⟩)|fail)<;>conv=>whnf))
   all_goals rfl
  ·rw [if_neg h2]
   refine pF Tryz.func18 ?_
   conv=>whnf
   (repeat' ((first|refine aU fun hh=>?_|refine aV fun hh=>?_|refine aS (fun hh=>?_) fun hh=>?_|refine kR ?_|((try refine Or.inl ?_;conv=>whnf);(try refine ⟨false,?_⟩;conv=>whnf);refine ⟨_,by first|exact c1|exact c2|exact Q8 _ _ _,?_⟩)|fail)<;>conv=>whnf))
   all_goals (exfalso;omega)
 ·rw [if_neg h1] at c1 ⊢
  refine pF Tryz.func18 ?_
  conv=>whnf
  (repeat' ((first|refine aU fun hh=>?_|refine aV fun hh=>?_|refine aS (fun hh=>?_) fun hh=>?_|refine kR ?_|((try refine Or.inl ?_;conv=>whnf);(try refine ⟨false,?_⟩;conv=>whnf);refine ⟨_,by first|exact c1|exact c2,?_⟩)|fail)<;>conv=>whnf))
abbrev UH (b:G3):AV := .agg [i64 b.step,i64 b.A0,i64 b.y9,i64 b.len,i64 0,i64 0,.nils]
abbrev Fp (l:A5):AV := .agg [i64 l.n8.step,i64 l.n8.A0,i64 l.n8.y9,i64 l.n8.len,i64 l.lag,i64 l.keep,i64 l.p,i64 l.q,i64 l.al.1,i64 l.al.2,
 i64 l.n8.step,i64 l.n8.A0,i64 l.n8.y9,i64 l.n8.len,i64 0,i64 0,.nils,i64 l.keep,.nils,.nils,i64 0,.nils,i64 0,i64 0,.ff,.nils]
theorem AR (b:G3) (h:O2 b=true):PC Tryz.prog 54 [r6 b] (.tup [UH b,i64 0]):=by
 have c1:=aI b
 rw [if_pos h] at c1
 refine pF Tryz.func54 ?_
 conv=>whnf
 (repeat' ((first|refine aU fun hh=>?_|refine aV fun hh=>?_|refine aS (fun hh=>?_) fun hh=>?_|refine kR ?_|((try refine Or.inl ?_;conv=>whnf);(try refine ⟨false,?_⟩;conv=>whnf);refine ⟨_,by exact c1,?_⟩)|fail)<;>conv=>whnf))
 all_goals rfl
theorem Ox {k:Int} (h:1<=k/\k<=32):KG k=k/\KH k=0:=by
 have e:D1 k 1 32=true:=by
  unfold D1
  rw [decide_eq_true h.1,decide_eq_true h.2];rfl
 unfold KG KH
 rw [if_pos e,if_pos e]
 exact ⟨rfl,rfl⟩
theorem qg (l:A5) (h:J3 l=0):PC Tryz.prog 16 [jP l] (.tup [Fp l,i64 0]):=by
 have c1:=aJ l
 rw [h] at c1
 obtain ⟨h1,h2,h3⟩:=K3 h
 have c2:=AR l.n8 h1
 have c3:=Rj l.keep
 have e:=Ox h2.2
 rw [e.1,e.2] at c3
 refine pF Tryz.func16 ?_
 conv=>whnf
 (repeat' ((first|refine aU fun hh=>?_|refine aV fun hh=>?_|refine aS (fun hh=>?_) fun hh=>?_|refine kR ?_|((try refine Or.inl ?_;conv=>whnf);(try refine ⟨false,?_⟩;conv=>whnf);refine ⟨_,by first|exact c1|exact c2|exact c3|exact AJ,?_⟩)|fail)<;>conv=>whnf))
 all_goals rfl
structure px (w:n9):Prop where
 b:G8 w.l9
 t:w.o8.k9.length < 2 ^ 20
 h:w.n6.length < 2 ^ 20
structure Room (w:n9) (c:Int):Prop where
 n:IntKind.i64.wrap (w.o8.count - c)=w.o8.count - c
 l:IntKind.i64.wrap (w.line.n8.step - w.line.n8.A0)=w.line.n8.step - w.line.n8.A0
 m:IntKind.i64.wrap (w.line.n8.step + w.line.n8.A0)=w.line.n8.step + w.line.n8.A0
 nl:IntKind.i64.wrap (IntKind.i64.wrap (w.o8.count - c) * IntKind.i64.wrap (w.line.n8.step - w.line.n8.A0))=(w.o8.count - c) * (w.line.n8.step - w.line.n8.A0)
 nm:IntKind.i64.wrap (IntKind.i64.wrap (w.o8.count - c) * IntKind.i64.wrap (w.line.n8.step + w.line.n8.A0))=(w.o8.count - c) * (w.line.n8.step + w.line.n8.A0)
 b:IntKind.i64.wrap (w.l9.next - 1)=w.l9.next - 1

end Go.Proofs.Tryz.My
