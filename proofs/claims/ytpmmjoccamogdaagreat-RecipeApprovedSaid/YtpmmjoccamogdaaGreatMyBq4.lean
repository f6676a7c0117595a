/- Helper lemmas. -/
import Derived.Test.YtpmmjoccamogdaaGreatMyBs1
import Derived.Test.YtpmmjoccamogdaaGreatMyBq1
set_option linter.unusedVariables false
set_option linter.unusedSimpArgs false
set_option maxRecDepth 100000
set_option maxHeartbeats 0
namespace Go.Proofs.Tryz.My
open Go Go.Ev
abbrev aZ (k:Int):AV := .agg [i64 k,.nils,.nils,i64 0,.nils]
def Bq (keep:Int):Int:=if A0 keep 1 32 then keep else 0
def Bs (keep:Int):Int:=if A0 keep 1 32 then 0 else 2
theorem yN (keep:Int):PC Tryz.prog 5 [i64 keep] (.tup [aZ (Bq keep),i64 (Bs keep)]):=by
  refine pF Tryz.func5 ?_
  conv=>whnf
  have c1:PC Tryz.prog 19 [i64 1,i64 32,i64 keep] (.bool (decide (1<=keep) && decide (keep<=32))):=E6 _ _ _
  (repeat' ((first|refine aU fun hh=>?_|refine aV fun hh=>?_|refine aS (fun hh=>?_) fun hh=>?_|refine kR ?_|((try refine Or.inl ?_;conv=>whnf);(try refine ⟨false,?_⟩;conv=>whnf);refine ⟨_,by exact c1,?_⟩)|fail)<;>conv=>whnf))
  all_goals first
    | (have hw:A0 keep 1 32=true:=by simp only [A0,Bool.and_eq_true,decide_eq_true_eq];omega
       unfold Bq Bs
       rw [if_pos hw,if_pos hw])
    | (have hw:¬A0 keep 1 32=true:=by simp only [A0,Bool.and_eq_true,decide_eq_true_eq];omega
       unfold Bq Bs
       rw [if_neg hw,if_neg hw])
   

end Go.Proofs.Tryz.My
