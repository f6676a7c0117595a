/- Helper lemmas. -/
import Derived.Test.YtpmmjoccamogdaaGreatMyExB
set_option linter.unusedVariables false
set_option linter.unusedSimpArgs false
set_option maxRecDepth 100000
set_option maxHeartbeats 0
namespace Go.Proofs.Tryz.My
open Go Go.Ev
def iq (op:Int×Int->Int×Int->(Int×Int)×Int) (a b:Int×Int):(Int×Int)×Int:=if k7 a && k7 b then op a b else ((0,0),8)
theorem Bc (D:FuncId) (op:Int×Int->Int×Int->(Int×Int)×Int) (hD:∀ a b,k7 a=true->k7 b=true->PC Tryz.prog D [fr a,fr b] (.tup [fr (op a b).1,i64 (op a b).2])) (a b:Int×Int) :
  PC Tryz.prog 111 [fr a,fr b,.fn (.func D) [] []] (.tup [fr (iq op a b).1,i64 (iq op a b).2]):=by
 have c:=ml a b
 have h:iq op a b=if k7 a && k7 b then op a b else ((0,0),8):=rfl
 rw [h]
 cases ha:k7 a
 ·rw [ha] at c
  refine pF Tryz.func111 ?_
  conv=>whnf
  (repeat' ((first|refine aU fun hh=>?_|refine aV fun hh=>?_|refine aS (fun hh=>?_) fun hh=>?_|refine kR ?_|((try refine Or.inl ?_;conv=>whnf);(try refine ⟨false,?_⟩;conv=>whnf);refine ⟨_,by exact c,?_⟩)|fail)<;>conv=>whnf))
  all_goals simp
 cases hb:k7 b
 ·rw [ha,hb] at c
  refine pF Tryz.func111 ?_
  conv=>whnf
  (repeat' ((first|refine aU fun hh=>?_|refine aV fun hh=>?_|refine aS (fun hh=>?_) fun hh=>?_|refine kR ?_|((try refine Or.inl ?_;conv=>whnf);(try refine ⟨false,?_⟩;conv=>whnf);refine ⟨_,by exact c,?_⟩)|fail)<;>conv=>whnf))
  all_goals simp
 rw [ha,hb] at c
 have c2:=hD a b ha hb
 generalize op a b=r at *
 refine pF Tryz.func111 ?_
 conv=>whnf
 (repeat' ((first|refine aU fun hh=>?_|refine aV fun hh=>?_|refine aS (fun hh=>?_) fun hh=>?_|refine kR ?_|((try refine Or.inl ?_;conv=>whnf);(try refine ⟨false,?_⟩;conv=>whnf);refine ⟨_,by first|exact c|exact c2,?_⟩)|fail)<;>conv=>whnf))
 all_goals simp
theorem DC (a b:Int×Int):PC Tryz.prog 103 [fr a,fr b] (.tup [fr (iq eZ a b).1,i64 (iq eZ a b).2]):=by
 have c:=Bc 93 eZ yh a b
 generalize iq eZ a b=r at *
 refine pF Tryz.func103 ?_
 conv=>whnf
 (repeat' ((first|refine aU fun hh=>?_|refine aV fun hh=>?_|refine aS (fun hh=>?_) fun hh=>?_|refine kR ?_|((try refine Or.inl ?_;conv=>whnf);(try refine ⟨false,?_⟩;conv=>whnf);refine ⟨_,by exact c,?_⟩)|fail)<;>conv=>whnf))
def mB (a b:S6):S6×Int:=if x9 a && x9 b then (if x9 (W8 a.1 b.1,W7 a.2 b.2) then ((W8 a.1 b.1,W7 a.2 b.2),0) else (zS,6)) else (zS,8)
theorem Bd (a b:S6):PC Tryz.prog 55 [sp a,sp b] (.tup [sp (mB a b).1,i64 (mB a b).2]):=by
 have c:=gi a b
 have h:mB a b=if x9 a && x9 b then (if x9 (W8 a.1 b.1,W7 a.2 b.2) then ((W8 a.1 b.1,W7 a.2 b.2),0) else (zS,6)) else (zS,8):=rfl
 rw [h]
 cases ha:x9 a
 ·rw [ha] at c
  refine pF Tryz.func55 ?_
  conv=>whnf
  (repeat' ((first|refine aU fun hh=>?_|refine aV fun hh=>?_|refine aS (fun hh=>?_) fun hh=>?_|refine kR ?_|((try refine Or.inl ?_;conv=>whnf);(try refine ⟨false,?_⟩;conv=>whnf);refine ⟨_,by exact c,?_⟩)|fail)<;>conv=>whnf))
  all_goals simp
 cases hb:x9 b
 ·rw [ha,hb] at c
  refine pF Tryz.func55 ?_
  conv=>whnf
  (repeat' ((first|refine aU fun hh=>?_|refine aV fun hh=>?_|refine aS (fun hh=>?_) fun hh=>?_|refine kR ?_|((try refine Or.inl ?_;conv=>whnf);(try refine ⟨false,?_⟩;conv=>whnf);refine ⟨_,by exact c,?_⟩)|fail)<;>conv=>whnf))
  all_goals simp
 rw [ha,hb] at c
 obtain ⟨a1,a2,_⟩:=X3.1 ha
 obtain ⟨b1,b2,_⟩:=X3.1 hb
 have c2:=jW a.1 b.1 a1 b1
 have c3:=mw a.2 b.2 a2 b2
 have c4:=mn (W8 a.1 b.1,W7 a.2 b.2)
 generalize W8 a.1 b.1=x at *
 generalize W7 a.2 b.2=y at *
 cases hs:x9 (x,y)
 ·rw [hs] at c4
  refine pF Tryz.func55 ?_
  conv=>whnf
  (repeat' ((first|refine aU fun hh=>?_|refine aV fun hh=>?_|refine aS (fun hh=>?_) fun hh=>?_|refine kR ?_|((try refine Or.inl ?_;conv=>whnf);(try refine ⟨false,?_⟩;conv=>whnf);refine ⟨_,by first|exact c|exact c2|exact c3|exact c4,?_⟩)|fail)<;>conv=>whnf))
  all_goals simp
 ·rw [hs] at c4
  refine pF Tryz.func55 ?_
  conv=>whnf
  (repeat' ((first|refine aU fun hh=>?_|refine aV fun hh=>?_|refine aS (fun hh=>?_) fun hh=>?_|refine kR ?_|((try refine Or.inl ?_;conv=>whnf);(try refine ⟨false,?_⟩;conv=>whnf);refine ⟨_,by first|exact c|exact c2|exact c3|exact c4,?_⟩)|fail)<;>conv=>whnf))
  all_goals simp
theorem Be {a b:S6} (h:(cA a b).2=0):x9 a=true/\x9 b=true/\x9 (cA a b).1=true:=by
 unfold cA at h ⊢
 cases ha:x9 a<;>cases hb:x9 b<;>rw [ha,hb] at h<;>simp at h
 exact ⟨rfl,rfl,(yk qo _ (jX ha hb) (by simp [oc]) h).1⟩

end Go.Proofs.Tryz.My
