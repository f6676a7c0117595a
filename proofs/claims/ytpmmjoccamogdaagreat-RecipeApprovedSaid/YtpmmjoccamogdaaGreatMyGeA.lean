/- Helper lemmas. -/
import Derived.Test.YtpmmjoccamogdaaGreatMyGaX
set_option linter.unusedVariables false
set_option linter.unusedSimpArgs false
set_option maxRecDepth 100000
set_option maxHeartbeats 0
namespace Go.Proofs.Tryz.My
open Go Go.Ev
def az (p:List Int) (thr a j9 d:Int):S6×Int:=if P6 p then (if gx p thr a j9 then N8 p thr a j9 d else (zS,2)) else (zS,50)
def R3 (p:List Int) (thr j9:Int):S6×Int:=if P6 p then (if gx p thr 0 j9 then lA p thr j9 else (zS,2)) else (zS,50)
theorem tQ (p:List Int) (thr a j9 d:Int) (hd:im d) (hl:p.length < 2 ^ 40):PC Tryz.prog 72 [I7 p,i64 thr,i64 a,i64 j9,i64 d] (.tup [sp (az p thr a j9 d).1,i64 (az p thr a j9 d).2]):=by
 have ca:=vw p thr a j9 hl
 unfold az
 cases hp:P6 p
 ·rw [hp] at ca
  refine pF Tryz.func72 ?_
  conv=>whnf
  (repeat' ((first|refine aU fun hh=>?_|refine aV fun hh=>?_|refine aS (fun hh=>?_) fun hh=>?_|refine kR ?_|((try refine Or.inl ?_;conv=>whnf);(try refine ⟨false,?_⟩;conv=>whnf);refine ⟨_,by exact ca,?_⟩)|fail)<;>conv=>whnf))
  all_goals simp
 cases hq:gx p thr a j9
 ·rw [hp,hq] at ca
  refine pF Tryz.func72 ?_
  conv=>whnf
  (repeat' ((first|refine aU fun hh=>?_|refine aV fun hh=>?_|refine aS (fun hh=>?_) fun hh=>?_|refine kR ?_|((try refine Or.inl ?_;conv=>whnf);(try refine ⟨false,?_⟩;conv=>whnf);refine ⟨_,by exact ca,?_⟩)|fail)<;>conv=>whnf))
  all_goals simp
 rw [hp,hq] at ca
 obtain ⟨t1,t2,a1,a2,n1,n2⟩:=mE hq
 have hlen:=aX hp
 have h0:p≠[]:=by rintro rfl;simp at hlen
 have w1:=mF p (-j9) h0 (by omega) (gB hp) (by omega) (by omega)
 have w2:=mF p j9 h0 (by omega) (gB hp) (by omega) (by omega)
 have b1:=kh (C6 p (-j9)) thr a d (P5 _ _) (by rw [y8];omega) a1 (by rw [y8];omega) hd t1 t2
 have b2:=kh (C6 p j9) thr a d (P5 _ _) (by rw [y8];omega) a1 (by rw [y8];omega) hd t1 t2
 have he:N8 p thr a j9 d=mA (sB (C6 p (-j9)) thr a d) (sB (C6 p j9) thr a d) d:=rfl
 rw [he]
 generalize sB (C6 p (-j9)) thr a d=L at *
 generalize sB (C6 p j9) thr a d=U at *
 generalize C6 p (-j9)=q1 at *
 generalize C6 p j9=q2 at *
 have wn:IntKind.i64.wrap (0 - j9) = -j9:=by rw [L9 _ (by omega) (by omega)];omega
 obtain ⟨L,l⟩:=L
 obtain ⟨U,u⟩:=U
 simp only [] at *
 cases l
 ·refine pF Tryz.func72 ?_
  conv=>whnf
  (repeat' ((first|refine aU fun hh=>?_|refine aV fun hh=>?_|refine aS (fun hh=>?_) fun hh=>?_|refine kR ?_|((try refine Or.inl ?_;conv=>whnf);(try refine ⟨false,?_⟩;conv=>whnf);refine ⟨_,by exact ca,?_⟩)|fail)<;>conv=>whnf))
  rw [wn]
  (first|(refine Or.inl ?_;(conv=>whnf);refine ⟨_,cB _,?_⟩)|refine ⟨_,cB _,?_⟩)
  conv=>whnf
  (refine Or.inr ⟨[],[31],by kernel_rfl,?_⟩;(conv=>whnf);refine ⟨[],_,_,_,_,⟨w1,rfl,rfl,by kernel_rfl⟩,?_⟩)
  conv=>whnf
  (first|(refine Or.inl ?_;(conv=>whnf);refine ⟨true,?_⟩)|refine ⟨true,?_⟩)
  conv=>whnf
  refine ⟨_,b1,?_⟩
  conv=>whnf
  (repeat' ((first|refine aU fun hh=>?_|refine aV fun hh=>?_|refine aS (fun hh=>?_) fun hh=>?_|refine kR ?_|fail)<;>conv=>whnf))
  all_goals simp [mA]
 ·refine pF Tryz.func72 ?_
  conv=>whnf
  (repeat' ((first|refine aU fun hh=>?_|refine aV fun hh=>?_|refine aS (fun hh=>?_) fun hh=>?_|refine kR ?_|((try refine Or.inl ?_;conv=>whnf);(try refine ⟨false,?_⟩;conv=>whnf);refine ⟨_,by exact ca,?_⟩)|fail)<;>conv=>whnf))
  rw [wn]
  (first|(refine Or.inl ?_;(conv=>whnf);refine ⟨_,cB _,?_⟩)|refine ⟨_,cB _,?_⟩)
  conv=>whnf
  (refine Or.inr ⟨[],[31],by kernel_rfl,?_⟩;(conv=>whnf);refine ⟨[],_,_,_,_,⟨w1,rfl,rfl,by kernel_rfl⟩,?_⟩)
  conv=>whnf
  (first|(refine Or.inl ?_;(conv=>whnf);refine ⟨true,?_⟩)|refine ⟨true,?_⟩)
  conv=>whnf
  refine ⟨_,b1,?_⟩
  conv=>whnf
  (repeat' ((first|refine aU fun hh=>?_|refine aV fun hh=>?_|refine aS (fun hh=>?_) fun hh=>?_|refine kR ?_|((try refine Or.inl ?_;conv=>whnf);(try refine ⟨false,?_⟩;conv=>whnf);refine ⟨_,by exact cB _,?_⟩)|fail)<;>conv=>whnf))
  (refine Or.inr ⟨[],[45],by kernel_rfl,?_⟩;(conv=>whnf);refine ⟨[],_,_,_,_,⟨w2,rfl,rfl,by kernel_rfl⟩,?_⟩)
  conv=>whnf
  (first|(refine Or.inl ?_;(conv=>whnf);refine ⟨true,?_⟩)|refine ⟨true,?_⟩)
  conv=>whnf
  refine ⟨_,b2,?_⟩
  conv=>whnf
  (repeat' ((first|refine aU fun hh=>?_|refine aV fun hh=>?_|refine aS (fun hh=>?_) fun hh=>?_|refine kR ?_|fail)<;>conv=>whnf))
  all_goals simp [mA,hh]
theorem yz (p:List Int) (thr a j9:Int) (hl:p.length < 2 ^ 40):PC Tryz.prog 48 [I7 p,i64 thr,i64 a,i64 j9] (.tup [sp (az p thr a j9 1).1,i64 (az p thr a j9 1).2]):=by
 have c:=tQ p thr a j9 1 (.inl rfl) hl
 generalize az p thr a j9 1=r at *
 refine pF Tryz.func48 ?_
 conv=>whnf
 (repeat' ((first|refine aU fun hh=>?_|refine aV fun hh=>?_|refine aS (fun hh=>?_) fun hh=>?_|refine kR ?_|((try refine Or.inl ?_;conv=>whnf);(try refine ⟨false,?_⟩;conv=>whnf);refine ⟨_,by exact c,?_⟩)|fail)<;>conv=>whnf))
theorem yA (p:List Int) (thr a j9:Int) (hl:p.length < 2 ^ 40):PC Tryz.prog 49 [I7 p,i64 thr,i64 a,i64 j9] (.tup [sp (az p thr a j9 (-1)).1,i64 (az p thr a j9 (-1)).2]):=by
 have c:=tQ p thr a j9 (-1) (.inr rfl) hl
 generalize az p thr a j9 (-1)=r at *
 refine pF Tryz.func49 ?_
 conv=>whnf
 (repeat' ((first|refine aU fun hh=>?_|refine aV fun hh=>?_|refine aS (fun hh=>?_) fun hh=>?_|refine kR ?_|((try refine Or.inl ?_;conv=>whnf);(try refine ⟨false,?_⟩;conv=>whnf);refine ⟨_,by exact c,?_⟩)|fail)<;>conv=>whnf))
theorem vA (p:List Int) (thr j9:Int) :
  ((az p thr 0 j9 1).2≠0/\R3 p thr j9=(zS,(az p thr 0 j9 1).2)) ∨
  ((az p thr 0 j9 1).2=0/\(az p thr ((p.length:Int) - 1) j9 (-1)).2=0/\sy (az p thr ((p.length:Int) - 1) j9 (-1)).1 (az p thr 0 j9 1).1=R3 p thr j9):=by
 unfold az R3
 cases hp:P6 p
 ·left;simp
 cases hq:gx p thr 0 j9
 ·left;simp
 obtain ⟨t1,t2,a1,a2,n1,n2⟩:=mE hq
 have hlen:=aX hp
 have zF:gx p thr ((p.length:Int) - 1) j9=true:=by
  simp only [gx,Bool.and_eq_true,decide_eq_true_eq];omega
 rw [zF]
 simp only [if_true]
 rcases tP (p:=p) (by omega) hlen.2 t1 t2 n1 with ⟨h1,h2⟩|⟨h1,h2,_,_,h3,_⟩
 ·left;rw [h1,h2];simp
 ·right;exact ⟨h1,h2,h3⟩
theorem vB (p:List Int) (thr j9:Int) (hl:p.length < 2 ^ 40):PC Tryz.prog 26 [I7 p,i64 thr,i64 j9] (.tup [sp (R3 p thr j9).1,i64 (R3 p thr j9).2]):=by
 have c1:=yz p thr 0 j9 hl
 have c2:=yA p thr ((p.length:Int) - 1) j9 hl
 have c3:=qp (az p thr ((p.length:Int) - 1) j9 (-1)).1 (az p thr 0 j9 1).1
 have wl:IntKind.i64.wrap ((p.length:Int) - 1)=(p.length:Int) - 1:=L9 _ (by omega) (by omega)
 rcases vA p thr j9 with ⟨h1,h2⟩|⟨h1,h2,h3⟩
 ·rw [h2]
  generalize az p thr 0 j9 1=r at *
  refine pF Tryz.func26 ?_
  conv=>whnf
  (repeat' ((first|refine aU fun hh=>?_|refine aV fun hh=>?_|refine aS (fun hh=>?_) fun hh=>?_|refine kR ?_|((try refine Or.inl ?_;conv=>whnf);(try refine ⟨false,?_⟩;conv=>whnf);refine ⟨_,by exact c1,?_⟩)|fail)<;>conv=>whnf))
  all_goals simp [h1]
 ·rw [h3] at c3
  generalize R3 p thr j9=w at *
  generalize az p thr 0 j9 1=r at *
  generalize az p thr ((p.length:Int) - 1) j9 (-1)=s at *
  obtain ⟨r,re⟩:=r
  obtain ⟨s,se⟩:=s
  simp only [] at *
  subst h1
  subst h2
  refine pF Tryz.func26 ?_
  conv=>whnf
  (repeat' ((first|refine aU fun hh=>?_|refine aV fun hh=>?_|refine aS (fun hh=>?_) fun hh=>?_|refine kR ?_|((try refine Or.inl ?_;conv=>whnf);(try refine ⟨false,?_⟩;conv=>whnf);refine ⟨_,by exact c1,?_⟩)|fail)<;>conv=>whnf))
  rw [wl]
  (repeat' ((first|refine aU fun hh=>?_|refine aV fun hh=>?_|refine aS (fun hh=>?_) fun hh=>?_|refine kR ?_|((try refine Or.inl ?_;conv=>whnf);(try refine ⟨false,?_⟩;conv=>whnf);refine ⟨_,by first|exact c2|exact c3,?_⟩)|fail)<;>conv=>whnf))

end Go.Proofs.Tryz.My
