/- Helper lemmas. -/
import Derived.Test.YtdpnpdjnaimgaaaGreatMzBkA
set_option linter.unusedVariables false
set_option linter.unusedSimpArgs false
set_option maxRecDepth 100000
set_option maxHeartbeats 0
namespace Go.Proofs.Tryz.My
open Go Go.Ev
abbrev Tc (x:A9):AV := .agg (eJ x)
abbrev Iz (s:B8):AV := .agg (V9 s)
def rX (g h:x8):Prop:=H8 g=H8 h/\D9 g=D9 h/\(J5 g).1.1=(J5 h).1.1/\(J5 g).1.2=(J5 h).1.2/\(J5 g).2.1=(J5 h).2.1/\(J5 g).2.2=(J5 h).2.2/\g.1.2.1=h.1.2.1/\g.1.2.2=h.1.2.2/\g.2.1=h.2.1/\g.2.2=h.2.2
instance (g h:x8):Decidable (rX g h):=by unfold rX;infer_instance
abbrev mB (k:Int):AV := .agg [i64 k,.nils,.nils,i64 0,.nils]
def KG (keep:Int):Int:=if D1 keep 1 32 then keep else 0
def KH (keep:Int):Int:=if D1 keep 1 32 then 0 else 2
theorem Rj (keep:Int):PC Tryz.prog 55 [i64 keep] (.tup [mB (KG keep),i64 (KH keep)]):=by
  refine pF Tryz.func55 ?_
  conv=>whnf
  have c1:PC Tryz.prog 105 [i64 1,i64 32,i64 keep] (.bool (decide (1<=keep) && decide (keep<=32))):=M1 _ _ _
  (repeat' ((first|refine aU fun hh=>?_|refine aV fun hh=>?_|refine aS (fun hh=>?_) fun hh=>?_|refine kR ?_|((try refine Or.inl ?_;conv=>whnf);(try refine ⟨false,?_⟩;conv=>whnf);refine ⟨_,by exact c1,?_⟩)|fail)<;>conv=>whnf))
  all_goals first
    | (have hw:D1 keep 1 32=true:=by simp only [D1,Bool.and_eq_true,decide_eq_true_eq];omega
       unfold KG KH
       rw [if_pos hw,if_pos hw])
    | (have hw:¬D1 keep 1 32=true:=by simp only [D1,Bool.and_eq_true,decide_eq_true_eq];omega
       unfold KG KH
       rw [if_neg hw,if_neg hw])
   
theorem eN {α:Type} {d:α}:∀ (l:List α) (i:Nat),l.set i (l.getD i d)=l
 | [],_=>rfl
 | a :: l,0=>rfl
 | a :: l,i + 1=>by
  show a :: l.set i (l.getD i d)=_
  rw [eN l i]

end Go.Proofs.Tryz.My
