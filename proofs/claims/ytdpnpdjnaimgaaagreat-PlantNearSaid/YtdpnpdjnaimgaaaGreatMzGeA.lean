/- A helper text: contracts of functions of the program, and plain lemmas. -/
import Derived.Test.YtdpnpdjnaimgaaaGreatEvSix
import Derived.Test.YtdpnpdjnaimgaaaGreatMzGaX
import Derived.Test.YtdpnpdjnaimgaaaGreatMzRfC
set_option maxRecDepth 100000
set_option maxHeartbeats 0
set_option linter.unusedVariables false
set_option linter.unusedSimpArgs false
namespace Go.Proofs.Tryz.My
open Go Go.Ev
def edgF (p:List Int) (thr a noise d:Int):SpT×Int:=if y8 p then (if askE p thr a noise then E4 p thr a noise d else (zS,2)) else (zS,50)
def widE (p:List Int) (thr noise:Int):SpT×Int:=if y8 p then (if askE p thr 0 noise then widF p thr noise else (zS,2)) else (zS,50)
theorem a9B (p:List Int) (thr a noise d:Int) (hd:a1W d) (hl:p.length < 2 ^ 40):PC Tryz.prog 195 [ints p,i64 thr,i64 a,i64 noise,i64 d] (.tup [sp (edgF p thr a noise d).1,i64 (edgF p thr a noise d).2]):=by
 have ca:=b0z p thr a noise hl
 unfold edgF
 cases hp:y8 p
 ·rw [hp] at ca
  refine a7 hm Tryz.func195 (by kernel_rfl) ?_
  conv=>whnf
  (repeat' first|(refine ansS (fun hh=>?_) (fun hh=>?_)<;>(try simp only [ansX] at hh)<;>first|(exfalso;first|omega|(simp [*] at hh;done)|(revert hh;decide))|exact absurd (by assumption) hh|conv=>whnf)|((first|refine kR ?_|refine aB ?_|refine aL ?_|refine aN ?_|((try (refine Or.inl ?_;conv=>whnf));(try (refine ⟨false,?_⟩;conv=>whnf));refine ⟨_,by exact ca,?_⟩)|fail);conv=>whnf))
  all_goals simp
 cases hq:askE p thr a noise
 ·rw [hp,hq] at ca
  refine a7 hm Tryz.func195 (by kernel_rfl) ?_
  conv=>whnf
  (repeat' first|(refine ansS (fun hh=>?_) (fun hh=>?_)<;>(try simp only [ansX] at hh)<;>first|(exfalso;first|omega|(simp [*] at hh;done)|(revert hh;decide))|exact absurd (by assumption) hh|conv=>whnf)|((first|refine kR ?_|refine aB ?_|refine aL ?_|refine aN ?_|((try (refine Or.inl ?_;conv=>whnf));(try (refine ⟨false,?_⟩;conv=>whnf));refine ⟨_,by exact ca,?_⟩)|fail);conv=>whnf))
  all_goals simp
 rw [hp,hq] at ca
 obtain ⟨t1,t2,a1,a2,n1,n2⟩:=a4s hq
 have hlen:=E6 hp
 have h0:p≠[]:=by rintro rfl; simp at hlen
 have w1:=a4t p (-noise) h0 (by omega) (a1w hp) (by omega) (by omega)
 have w2:=a4t p noise h0 (by omega) (a1w hp) (by omega) (by omega)
 have b1:=a27 (movL p (-noise)) thr a d (G5 _ _) (by rw [n5]; omega) a1 (by rw [n5]; omega) hd t1 t2
 have b2:=a27 (movL p noise) thr a d (G5 _ _) (by rw [n5]; omega) a1 (by rw [n5]; omega) hd t1 t2
 have he:E4 p thr a noise d=a4o (brF (movL p (-noise)) thr a d) (brF (movL p noise) thr a d) d:=rfl
 rw [he]
 generalize brF (movL p (-noise)) thr a d=L at *
 generalize brF (movL p noise) thr a d=U at *
 generalize movL p (-noise)=q1 at *
 generalize movL p noise=q2 at *
 have wn:IntKind.i64.wrap (0 - noise) = -noise:=by rw [w64 _ (by omega) (by omega)]; omega
 obtain ⟨L,l⟩:=L
 obtain ⟨U,u⟩:=U
 simp only [] at *
 cases l
 ·refine a7 hm Tryz.func195 (by kernel_rfl) ?_
  conv=>whnf
  (repeat' first|(refine ansS (fun hh=>?_) (fun hh=>?_)<;>(try simp only [ansX] at hh)<;>first|(exfalso;first|omega|(simp [*] at hh;done)|(revert hh;decide))|exact absurd (by assumption) hh|conv=>whnf)|((first|refine kR ?_|refine aB ?_|refine aL ?_|refine aN ?_|((try (refine Or.inl ?_;conv=>whnf));(try (refine ⟨false,?_⟩;conv=>whnf));refine ⟨_,by exact ca,?_⟩)|fail);conv=>whnf))
  rw [wn]
  (first | (refine Or.inl ?_; (conv=>whnf); refine ⟨_,X9 _,?_⟩) | refine ⟨_,X9 _,?_⟩)
  conv=>whnf
  (refine Or.inr ⟨[ ],[ 31 ],by kernel_rfl,?_⟩; (conv=>whnf); refine ⟨[ ],_,_,_,_,⟨ w1,rfl,rfl,by kernel_rfl⟩,?_⟩)
  conv=>whnf
  (first | (refine Or.inl ?_; (conv=>whnf); refine ⟨true,?_⟩) | refine ⟨true,?_⟩)
  conv=>whnf
  refine ⟨_,b1,?_⟩
  conv=>whnf
  (repeat' first|(refine ansS (fun hh=>?_) (fun hh=>?_)<;>(try simp only [ansX] at hh)<;>first|(exfalso;first|omega|(simp [*] at hh;done)|(revert hh;decide))|exact absurd (by assumption) hh|conv=>whnf)|((first|refine kR ?_|refine aB ?_|refine aL ?_|refine aN ?_|fail);conv=>whnf))
  all_goals simp [a4o]
 ·refine a7 hm Tryz.func195 (by kernel_rfl) ?_
  conv=>whnf
  (repeat' first|(refine ansS (fun hh=>?_) (fun hh=>?_)<;>(try simp only [ansX] at hh)<;>first|(exfalso;first|omega|(simp [*] at hh;done)|(revert hh;decide))|exact absurd (by assumption) hh|conv=>whnf)|((first|refine kR ?_|refine aB ?_|refine aL ?_|refine aN ?_|((try (refine Or.inl ?_;conv=>whnf));(try (refine ⟨false,?_⟩;conv=>whnf));refine ⟨_,by exact ca,?_⟩)|fail);conv=>whnf))
  rw [wn]
  (first | (refine Or.inl ?_; (conv=>whnf); refine ⟨_,X9 _,?_⟩) | refine ⟨_,X9 _,?_⟩)
  conv=>whnf
  (refine Or.inr ⟨[ ],[ 31 ],by kernel_rfl,?_⟩; (conv=>whnf); refine ⟨[ ],_,_,_,_,⟨ w1,rfl,rfl,by kernel_rfl⟩,?_⟩)
  conv=>whnf
  (first | (refine Or.inl ?_; (conv=>whnf); refine ⟨true,?_⟩) | refine ⟨true,?_⟩)
  conv=>whnf
  refine ⟨_,b1,?_⟩
  conv=>whnf
  (repeat' first|(refine ansS (fun hh=>?_) (fun hh=>?_)<;>(try simp only [ansX] at hh)<;>first|(exfalso;first|omega|(simp [*] at hh;done)|(revert hh;decide))|exact absurd (by assumption) hh|conv=>whnf)|((first|refine kR ?_|refine aB ?_|refine aL ?_|refine aN ?_|((try (refine Or.inl ?_;conv=>whnf));(try (refine ⟨false,?_⟩;conv=>whnf));refine ⟨_,by exact X9 _,?_⟩)|fail);conv=>whnf))
  (refine Or.inr ⟨[ ],[ 45 ],by kernel_rfl,?_⟩; (conv=>whnf); refine ⟨[ ],_,_,_,_,⟨ w2,rfl,rfl,by kernel_rfl⟩,?_⟩)
  conv=>whnf
  (first | (refine Or.inl ?_; (conv=>whnf); refine ⟨true,?_⟩) | refine ⟨true,?_⟩)
  conv=>whnf
  refine ⟨_,b2,?_⟩
  conv=>whnf
  (repeat' first|(refine ansS (fun hh=>?_) (fun hh=>?_)<;>(try simp only [ansX] at hh)<;>first|(exfalso;first|omega|(simp [*] at hh;done)|(revert hh;decide))|exact absurd (by assumption) hh|conv=>whnf)|((first|refine kR ?_|refine aB ?_|refine aL ?_|refine aN ?_|fail);conv=>whnf))
  all_goals simp [a4o,hh]
theorem b19 (p:List Int) (thr a noise:Int) (hl:p.length < 2 ^ 40):PC Tryz.prog 142 [ints p,i64 thr,i64 a,i64 noise] (.tup [sp (edgF p thr a noise 1).1,i64 (edgF p thr a noise 1).2]):=by
 have c:=a9B p thr a noise 1 (.inl rfl) hl
 generalize edgF p thr a noise 1=r at *
 refine a7 hm Tryz.func142 (by kernel_rfl) ?_
 conv=>whnf
 (repeat' first|(refine ansS (fun hh=>?_) (fun hh=>?_)<;>(try simp only [ansX] at hh)<;>first|(exfalso;first|omega|(simp [*] at hh;done)|(revert hh;decide))|exact absurd (by assumption) hh|conv=>whnf)|((first|refine kR ?_|refine aB ?_|refine aL ?_|refine aN ?_|((try (refine Or.inl ?_;conv=>whnf));(try (refine ⟨false,?_⟩;conv=>whnf));refine ⟨_,by exact c,?_⟩)|fail);conv=>whnf))
theorem b2a (p:List Int) (thr a noise:Int) (hl:p.length < 2 ^ 40):PC Tryz.prog 143 [ints p,i64 thr,i64 a,i64 noise] (.tup [sp (edgF p thr a noise (-1)).1,i64 (edgF p thr a noise (-1)).2]):=by
 have c:=a9B p thr a noise (-1) (.inr rfl) hl
 generalize edgF p thr a noise (-1)=r at *
 refine a7 hm Tryz.func143 (by kernel_rfl) ?_
 conv=>whnf
 (repeat' first|(refine ansS (fun hh=>?_) (fun hh=>?_)<;>(try simp only [ansX] at hh)<;>first|(exfalso;first|omega|(simp [*] at hh;done)|(revert hh;decide))|exact absurd (by assumption) hh|conv=>whnf)|((first|refine kR ?_|refine aB ?_|refine aL ?_|refine aN ?_|((try (refine Or.inl ?_;conv=>whnf));(try (refine ⟨false,?_⟩;conv=>whnf));refine ⟨_,by exact c,?_⟩)|fail);conv=>whnf))
theorem b0A (p:List Int) (thr noise:Int) :
  ((edgF p thr 0 noise 1).2≠0/\widE p thr noise=(zS,(edgF p thr 0 noise 1).2)) ∨
  ((edgF p thr 0 noise 1).2=0/\(edgF p thr ((p.length:Int) - 1) noise (-1)).2=0/\subS (edgF p thr ((p.length:Int) - 1) noise (-1)).1 (edgF p thr 0 noise 1).1=widE p thr noise):=by
 unfold edgF widE
 cases hp:y8 p
 ·left; simp
 cases hq:askE p thr 0 noise
 ·left; simp
 obtain ⟨t1,t2,a1,a2,n1,n2⟩:=a4s hq
 have hlen:=E6 hp
 have hq2:askE p thr ((p.length:Int) - 1) noise=true:=by
  simp only [askE,Bool.and_eq_true,decide_eq_true_eq]; omega
 rw [hq2]
 simp only [if_true]
 rcases a9A (p:=p) (by omega) hlen.2 t1 t2 n1 with ⟨h1,h2⟩ | ⟨h1,h2,_,_,h3,_⟩
 ·left; rw [h1,h2]; simp
 ·right; exact ⟨h1,h2,h3⟩
theorem b0B (p:List Int) (thr noise:Int) (hl:p.length < 2 ^ 40):PC Tryz.prog 90 [ints p,i64 thr,i64 noise] (.tup [sp (widE p thr noise).1,i64 (widE p thr noise).2]):=by
 have c1:=b19 p thr 0 noise hl
 have c2:=b2a p thr ((p.length:Int) - 1) noise hl
 have c3:=a60 (edgF p thr ((p.length:Int) - 1) noise (-1)).1 (edgF p thr 0 noise 1).1
 have wl:IntKind.i64.wrap ((p.length:Int) - 1)=(p.length:Int) - 1:=w64 _ (by omega) (by omega)
 rcases b0A p thr noise with ⟨h1,h2⟩ | ⟨h1,h2,h3⟩
 ·rw [h2]
  generalize edgF p thr 0 noise 1=r at *
  refine a7 hm Tryz.func90 (by kernel_rfl) ?_
  conv=>whnf
  (repeat' first|(refine ansS (fun hh=>?_) (fun hh=>?_)<;>(try simp only [ansX] at hh)<;>first|(exfalso;first|omega|(simp [*] at hh;done)|(revert hh;decide))|exact absurd (by assumption) hh|conv=>whnf)|((first|refine kR ?_|refine aB ?_|refine aL ?_|refine aN ?_|((try (refine Or.inl ?_;conv=>whnf));(try (refine ⟨false,?_⟩;conv=>whnf));refine ⟨_,by exact c1,?_⟩)|fail);conv=>whnf))
  all_goals simp [h1]
 ·rw [h3] at c3
  generalize widE p thr noise=w at *
  generalize edgF p thr 0 noise 1=r at *
  generalize edgF p thr ((p.length:Int) - 1) noise (-1)=s at *
  obtain ⟨r,re⟩:=r
  obtain ⟨s,se⟩:=s
  simp only [] at *
  subst h1
  subst h2
  refine a7 hm Tryz.func90 (by kernel_rfl) ?_
  conv=>whnf
  (repeat' first|(refine ansS (fun hh=>?_) (fun hh=>?_)<;>(try simp only [ansX] at hh)<;>first|(exfalso;first|omega|(simp [*] at hh;done)|(revert hh;decide))|exact absurd (by assumption) hh|conv=>whnf)|((first|refine kR ?_|refine aB ?_|refine aL ?_|refine aN ?_|((try (refine Or.inl ?_;conv=>whnf));(try (refine ⟨false,?_⟩;conv=>whnf));refine ⟨_,by exact c1,?_⟩)|fail);conv=>whnf))
  rw [wl]
  (repeat' first|(refine ansS (fun hh=>?_) (fun hh=>?_)<;>(try simp only [ansX] at hh)<;>first|(exfalso;first|omega|(simp [*] at hh;done)|(revert hh;decide))|exact absurd (by assumption) hh|conv=>whnf)|((first|refine kR ?_|refine aB ?_|refine aL ?_|refine aN ?_|((try (refine Or.inl ?_;conv=>whnf));(try (refine ⟨false,?_⟩;conv=>whnf));refine ⟨_,by first | exact c2 | exact c3,?_⟩)|fail);conv=>whnf))

end Go.Proofs.Tryz.My
