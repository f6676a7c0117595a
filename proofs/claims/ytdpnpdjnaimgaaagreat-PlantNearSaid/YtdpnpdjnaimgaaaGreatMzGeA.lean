/- Helper lemmas. -/
import Derived.Test.YtdpnpdjnaimgaaaGreatMzGaX
set_option linter.unusedVariables false
set_option linter.unusedSimpArgs false
set_option maxRecDepth 100000
set_option maxHeartbeats 0
namespace Go.Proofs.Tryz.My
open Go Go.Ev
def N6 (p:List Int) (thr a a8 d:Int):X2×Int:=if L2 p then (if dF p thr a a8 then X0 p thr a a8 d else (zS,2)) else (zS,50)
def H6 (p:List Int) (thr a8:Int):X2×Int:=if L2 p then (if dF p thr 0 a8 then tM p thr a8 else (zS,2)) else (zS,50)
theorem ER (p:List Int) (thr a a8 d:Int) (hd:hC d) (hl:p.length < 2 ^ 40):PC Tryz.prog 195 [C8 p,i64 thr,i64 a,i64 a8,i64 d] (.tup [sp (N6 p thr a a8 d).1,i64 (N6 p thr a a8 d).2]):=by
 have ca:=GJ p thr a a8 hl
 unfold N6
 cases hp:L2 p
 ·rw [hp] at ca
  refine pF Tryz.func195 ?_
  conv=>whnf
  (repeat' ((first|refine aU fun hh=>?_|refine aV fun hh=>?_|refine aS (fun hh=>?_) fun hh=>?_|refine kR ?_|((try refine Or.inl ?_;conv=>whnf);(try refine ⟨false,?_⟩;conv=>whnf);refine ⟨_,by exact ca,?_⟩)|fail)<;>conv=>whnf))
  all_goals simp
 cases hq:dF p thr a a8
 ·rw [hp,hq] at ca
  refine pF Tryz.func195 ?_
  conv=>whnf
  (repeat' ((first|refine aU fun hh=>?_|refine aV fun hh=>?_|refine aS (fun hh=>?_) fun hh=>?_|refine kR ?_|((try refine Or.inl ?_;conv=>whnf);(try refine ⟨false,?_⟩;conv=>whnf);refine ⟨_,by exact ca,?_⟩)|fail)<;>conv=>whnf))
  all_goals simp
 rw [hp,hq] at ca
 obtain ⟨t1,t2,a1,a2,n1,n2⟩:=ag hq
 have hlen:=M0 hp
 have h0:p≠[]:=by rintro rfl;simp at hlen
 have w1:=vd p (-a8) h0 (by omega) (jr hp) (by omega) (by omega)
 have w2:=vd p a8 h0 (by omega) (jr hp) (by omega) (by omega)
 have b1:=rQ (C6 p (-a8)) thr a d (T7 _ _) (by rw [z8];omega) a1 (by rw [z8];omega) hd t1 t2
 have b2:=rQ (C6 p a8) thr a d (T7 _ _) (by rw [z8];omega) a1 (by rw [z8];omega) hd t1 t2
 have he:X0 p thr a a8 d=uX (Da (C6 p (-a8)) thr a d) (Da (C6 p a8) thr a d) d:=rfl
 rw [he]
 generalize Da (C6 p (-a8)) thr a d=L at *
 generalize Da (C6 p a8) thr a d=U at *
 generalize C6 p (-a8)=q1 at *
 generalize C6 p a8=q2 at *
 have wn:IntKind.i64.wrap (0 - a8) = -a8:=by rw [C7 _ (by omega) (by omega)];omega
 obtain ⟨L,l⟩:=L
 obtain ⟨U,u⟩:=U
 simp only [] at *
 cases l
 ·refine pF Tryz.func195 ?_
  conv=>whnf
  (repeat' ((first|refine aU fun hh=>?_|refine aV fun hh=>?_|refine aS (fun hh=>?_) fun hh=>?_|refine kR ?_|((try refine Or.inl ?_;conv=>whnf);(try refine ⟨false,?_⟩;conv=>whnf);refine ⟨_,by exact ca,?_⟩)|fail)<;>conv=>whnf))
  rw [wn]
  (first|(refine Or.inl ?_;(conv=>whnf);refine ⟨_,iS _,?_⟩)|refine ⟨_,iS _,?_⟩)
  conv=>whnf
  (refine Or.inr ⟨[],[31],by kernel_rfl,?_⟩;(conv=>whnf);refine ⟨[],_,_,_,_,⟨w1,rfl,rfl,by kernel_rfl⟩,?_⟩)
  conv=>whnf
  (first|(refine Or.inl ?_;(conv=>whnf);refine ⟨true,?_⟩)|refine ⟨true,?_⟩)
  conv=>whnf
  refine ⟨_,b1,?_⟩
  conv=>whnf
  (repeat' ((first|refine aU fun hh=>?_|refine aV fun hh=>?_|refine aS (fun hh=>?_) fun hh=>?_|refine kR ?_|fail)<;>conv=>whnf))
  all_goals simp [uX]
 ·refine pF Tryz.func195 ?_
  conv=>whnf
  (repeat' ((first|refine aU fun hh=>?_|refine aV fun hh=>?_|refine aS (fun hh=>?_) fun hh=>?_|refine kR ?_|((try refine Or.inl ?_;conv=>whnf);(try refine ⟨false,?_⟩;conv=>whnf);refine ⟨_,by exact ca,?_⟩)|fail)<;>conv=>whnf))
  rw [wn]
  (first|(refine Or.inl ?_;(conv=>whnf);refine ⟨_,iS _,?_⟩)|refine ⟨_,iS _,?_⟩)
  conv=>whnf
  (refine Or.inr ⟨[],[31],by kernel_rfl,?_⟩;(conv=>whnf);refine ⟨[],_,_,_,_,⟨w1,rfl,rfl,by kernel_rfl⟩,?_⟩)
  conv=>whnf
  (first|(refine Or.inl ?_;(conv=>whnf);refine ⟨true,?_⟩)|refine ⟨true,?_⟩)
  conv=>whnf
  refine ⟨_,b1,?_⟩
  conv=>whnf
  (repeat' ((first|refine aU fun hh=>?_|refine aV fun hh=>?_|refine aS (fun hh=>?_) fun hh=>?_|refine kR ?_|((try refine Or.inl ?_;conv=>whnf);(try refine ⟨false,?_⟩;conv=>whnf);refine ⟨_,by exact iS _,?_⟩)|fail)<;>conv=>whnf))
  (refine Or.inr ⟨[],[45],by kernel_rfl,?_⟩;(conv=>whnf);refine ⟨[],_,_,_,_,⟨w2,rfl,rfl,by kernel_rfl⟩,?_⟩)
  conv=>whnf
  (first|(refine Or.inl ?_;(conv=>whnf);refine ⟨true,?_⟩)|refine ⟨true,?_⟩)
  conv=>whnf
  refine ⟨_,b2,?_⟩
  conv=>whnf
  (repeat' ((first|refine aU fun hh=>?_|refine aV fun hh=>?_|refine aS (fun hh=>?_) fun hh=>?_|refine kR ?_|fail)<;>conv=>whnf))
  all_goals simp [uX,hh]
theorem Ku (p:List Int) (thr a a8:Int) (hl:p.length < 2 ^ 40):PC Tryz.prog 142 [C8 p,i64 thr,i64 a,i64 a8] (.tup [sp (N6 p thr a a8 1).1,i64 (N6 p thr a a8 1).2]):=by
 have c:=ER p thr a a8 1 (.inl rfl) hl
 generalize N6 p thr a a8 1=r at *
 refine pF Tryz.func142 ?_
 conv=>whnf
 (repeat' ((first|refine aU fun hh=>?_|refine aV fun hh=>?_|refine aS (fun hh=>?_) fun hh=>?_|refine kR ?_|((try refine Or.inl ?_;conv=>whnf);(try refine ⟨false,?_⟩;conv=>whnf);refine ⟨_,by exact c,?_⟩)|fail)<;>conv=>whnf))
theorem Kv (p:List Int) (thr a a8:Int) (hl:p.length < 2 ^ 40):PC Tryz.prog 143 [C8 p,i64 thr,i64 a,i64 a8] (.tup [sp (N6 p thr a a8 (-1)).1,i64 (N6 p thr a a8 (-1)).2]):=by
 have c:=ER p thr a a8 (-1) (.inr rfl) hl
 generalize N6 p thr a a8 (-1)=r at *
 refine pF Tryz.func143 ?_
 conv=>whnf
 (repeat' ((first|refine aU fun hh=>?_|refine aV fun hh=>?_|refine aS (fun hh=>?_) fun hh=>?_|refine kR ?_|((try refine Or.inl ?_;conv=>whnf);(try refine ⟨false,?_⟩;conv=>whnf);refine ⟨_,by exact c,?_⟩)|fail)<;>conv=>whnf))
theorem GK (p:List Int) (thr a8:Int) :
  ((N6 p thr 0 a8 1).2≠0/\H6 p thr a8=(zS,(N6 p thr 0 a8 1).2)) ∨
  ((N6 p thr 0 a8 1).2=0/\(N6 p thr ((p.length:Int) - 1) a8 (-1)).2=0/\CZ (N6 p thr ((p.length:Int) - 1) a8 (-1)).1 (N6 p thr 0 a8 1).1=H6 p thr a8):=by
 unfold N6 H6
 cases hp:L2 p
 ·left;simp
 cases hq:dF p thr 0 a8
 ·left;simp
 obtain ⟨t1,t2,a1,a2,n1,n2⟩:=ag hq
 have hlen:=M0 hp
 have It:dF p thr ((p.length:Int) - 1) a8=true:=by
  simp only [dF,Bool.and_eq_true,decide_eq_true_eq];omega
 rw [It]
 simp only [if_true]
 rcases qa (p:=p) (by omega) hlen.2 t1 t2 n1 with ⟨h1,h2⟩|⟨h1,h2,_,_,h3,_⟩
 ·left;rw [h1,h2];simp
 ·right;exact ⟨h1,h2,h3⟩
theorem GL (p:List Int) (thr a8:Int) (hl:p.length < 2 ^ 40):PC Tryz.prog 90 [C8 p,i64 thr,i64 a8] (.tup [sp (H6 p thr a8).1,i64 (H6 p thr a8).2]):=by
 have c1:=Ku p thr 0 a8 hl
 have c2:=Kv p thr ((p.length:Int) - 1) a8 hl
 have c3:=zO (N6 p thr ((p.length:Int) - 1) a8 (-1)).1 (N6 p thr 0 a8 1).1
 have wl:IntKind.i64.wrap ((p.length:Int) - 1)=(p.length:Int) - 1:=C7 _ (by omega) (by omega)
 rcases GK p thr a8 with ⟨h1,h2⟩|⟨h1,h2,h3⟩
 ·rw [h2]
  generalize N6 p thr 0 a8 1=r at *
  refine pF Tryz.func90 ?_
  conv=>whnf
  (repeat' ((first|refine aU fun hh=>?_|refine aV fun hh=>?_|refine aS (fun hh=>?_) fun hh=>?_|refine kR ?_|((try refine Or.inl ?_;conv=>whnf);(try refine ⟨false,?_⟩;conv=>whnf);refine ⟨_,by exact c1,?_⟩)|fail)<;>conv=>whnf))
  all_goals simp [h1]
 ·rw [h3] at c3
  generalize H6 p thr a8=w at *
  generalize N6 p thr 0 a8 1=r at *
  generalize N6 p thr ((p.length:Int) - 1) a8 (-1)=s at *
  obtain ⟨r,re⟩:=r
  obtain ⟨s,se⟩:=s
  simp only [] at *
  subst h1
  subst h2
  refine pF Tryz.func90 ?_
  conv=>whnf
  (repeat' ((first|refine aU fun hh=>?_|refine aV fun hh=>?_|refine aS (fun hh=>?_) fun hh=>?_|refine kR ?_|((try refine Or.inl ?_;conv=>whnf);(try refine ⟨false,?_⟩;conv=>whnf);refine ⟨_,by exact c1,?_⟩)|fail)<;>conv=>whnf))
  rw [wl]
  (repeat' ((first|refine aU fun hh=>?_|refine aV fun hh=>?_|refine aS (fun hh=>?_) fun hh=>?_|refine kR ?_|((try refine Or.inl ?_;conv=>whnf);(try refine ⟨false,?_⟩;conv=>whnf);refine ⟨_,by first|exact c2|exact c3,?_⟩)|fail)<;>conv=>whnf))

end Go.Proofs.Tryz.My
