/- Helper lemmas. -/
import Derived.Test.YtpmmjoccamogdaaGreatMyBj2
set_option linter.unusedVariables false
set_option linter.unusedSimpArgs false
set_option maxRecDepth 100000
set_option maxHeartbeats 0
namespace Go.Proofs.Tryz.My
open Go Go.Ev
def n9:M9:=⟨0,0,0,0,dV,[]⟩
abbrev zz (l:List M9):AV := .sl 15 n9 zb l
theorem zA (l:List M9) (hl:l.length<=150) (hp:∀ i,i < l.length->(l.getD i n9).j8.length<=100):PC Tryz.prog 6 [zz l] (.bool false):=by
 refine pF Tryz.func6 ?_
 conv=>whnf
 refine Or.inr ⟨Nat,[3],[],[],fun k=>[i64 k],fun _=>[],fun _=>[],fun k=>l.length - k,fun k=>k<=l.length,?_⟩
 conv=>whnf
 refine ⟨⟨0,?_⟩,?_⟩
 ·(conv=>whnf)
  exact kK ⟨Nat.zero_le _,rfl,rfl,rfl⟩
 intro k hk
 by_cases cD:k < l.length
 ·have LX:=hp k cD
  have Gk:(l.getD (Int.toNat (k:Int)) n9).j8.length<=100:=LX
  conv=>whnf
  (repeat' ((first|refine aU fun hh=>?_|refine aV fun hh=>?_|refine aS (fun hh=>?_) fun hh=>?_|refine kR ?_|fail)<;>conv=>whnf))
  all_goals
   refine ⟨k + 1,?_⟩
   conv=>whnf
   refine kK ⟨⟨?_,?_⟩,?_,rfl,rfl⟩
   ·show l.length - (k + 1) < l.length - k;omega
   ·show k + 1<=l.length;omega
   ·rw [L9 _ (by omega) (by omega)];rfl
 ·(conv=>whnf)
  (repeat' ((first|refine aU fun hh=>?_|refine aV fun hh=>?_|refine aS (fun hh=>?_) fun hh=>?_|refine kR ?_|fail)<;>conv=>whnf))
  all_goals (first|rfl|(exact congrArg AV.bool (decide_eq_false (by omega))))
theorem zB (l:List M9) (h:¬(l.length<=150/\∀ i,i < l.length->(l.getD i n9).j8.length<=100)):PC Tryz.prog 6 [zz l] (.bool true):=by
 refine pF Tryz.func6 ?_
 conv=>whnf
 refine Or.inr ⟨Nat,[3],[],[],fun k=>[i64 k],fun _=>[],fun _=>[],fun k=>l.length - k,fun k=>k<=l.length/\∀ i,i < k->(l.getD i n9).j8.length<=100,?_⟩
 conv=>whnf
 refine ⟨⟨0,?_⟩,?_⟩
 ·(conv=>whnf)
  exact kK ⟨⟨Nat.zero_le _,fun i hi=>absurd hi (Nat.not_lt_zero i)⟩,rfl,rfl,rfl⟩
 rintro k ⟨hk,u2⟩
 by_cases cD:k < l.length/\k < 150
 ·obtain ⟨JE,zI⟩:=cD
  by_cases hp:(l.getD k n9).j8.length<=100
  ·have Gk:(l.getD (Int.toNat (k:Int)) n9).j8.length<=100:=hp
   conv=>whnf
   (repeat' ((first|refine aU fun hh=>?_|refine aV fun hh=>?_|refine aS (fun hh=>?_) fun hh=>?_|refine kR ?_|fail)<;>conv=>whnf))
   all_goals
    refine ⟨k + 1,?_⟩
    conv=>whnf
    refine kK ⟨⟨?_,?_,?_⟩,?_,rfl,rfl⟩
    ·show l.length - (k + 1) < l.length - k;omega
    ·show k + 1<=l.length;omega
    ·intro i hi
     by_cases e:i=k
     ·rw [e];exact hp
     ·exact u2 i (by omega)
    ·rw [L9 _ (by omega) (by omega)];rfl
  ·have Gk:¬(l.getD (Int.toNat (k:Int)) n9).j8.length<=100:=hp
   conv=>whnf
   (repeat' ((first|refine aU fun hh=>?_|refine aV fun hh=>?_|refine aS (fun hh=>?_) fun hh=>?_|refine kR ?_|fail)<;>conv=>whnf))
   all_goals rfl
 ·have hl:150 < l.length:=by
   rcases Nat.lt_or_ge 150 l.length with q|q
   ·exact q
   ·exact absurd ⟨q,fun i hi=>u2 i (by omega)⟩ h
  conv=>whnf
  (repeat' ((first|refine aU fun hh=>?_|refine aV fun hh=>?_|refine aS (fun hh=>?_) fun hh=>?_|refine kR ?_|fail)<;>conv=>whnf))
  all_goals (first|rfl|(exact congrArg AV.bool (decide_eq_true (by omega))))
theorem zC (h:G5) (a:M9):(y6 h a).entries.length<=h.entries.length + 1:=by
 unfold y6
 split
 ·exact Nat.le_succ _
 split
 ·exact Nat.le_succ _
 split
 ·exact Nat.le_succ _
 split
 ·exact Nat.le_succ _
 split
 ·exact Nat.le_succ _
 split
 ·show (h.entries++[h.active]).length<=_
  simp
 ·exact Nat.le_succ _
theorem vU (h:G5) (a:M9) (i:Nat):((y6 h a).k9.getD i []).length<=(h.k9.getD i []).length + 1:=by
 unfold y6
 split
 ·exact Nat.le_succ _
 split
 ·show ((h.k9++[[]]).getD i []).length<=_
  by_cases e:i < h.k9.length
  ·simp only [List.getD]
   rw [List.getElem?_append_left e]
   exact Nat.le_succ _
  ·simp only [List.getD]
   rw [List.getElem?_append_right (by omega)]
   cases i - h.k9.length<;>simp
 split
 ·show ((h.k9.set a.a8.toNat (Y3 (h.k9.getD a.a8.toNat []) a.b8)).getD i []).length<=_
  by_cases e:a.a8.toNat=i
  ·by_cases hi:i < h.k9.length
   ·rw [e,P7 hi]
    unfold Y3
    split
    ·exact Nat.le_succ _
    ·simp
   ·rw [List.set_eq_of_length_le (by omega)]
    exact Nat.le_succ _
  ·rw [List.getD,List.getElem?_set_ne e]
   exact Nat.le_succ _
 split
 ·exact Nat.le_succ _
 split
 ·exact Nat.le_succ _
 split
 ·exact Nat.le_succ _
 ·exact Nat.le_succ _

end Go.Proofs.Tryz.My
