/- Helper lemmas. -/
import Derived.Test.YtdpnpdjnaimgaaaGreatMzWaA
set_option linter.unusedVariables false
set_option linter.unusedSimpArgs false
set_option maxRecDepth 100000
set_option maxHeartbeats 0
namespace Go.Proofs.Tryz.My
open Go Go.Ev
theorem Rz (j8 a7 n j9:Int) (b9:x8) (tru a8:List Int) (ht:tru.length < 2 ^ 40) (hn:a8.length < 2 ^ 40) (hr:0<=j9/\j9<=255):PC Tryz.prog 29 [k8 ⟨1,j8,a7,n,j9,b9,tru,a8⟩] (i64 (if B2 ⟨1,j8,a7,n,j9,b9,tru,a8⟩=true then 0 else 2)):=by
 have w1:IntKind.i64.wrap ((tru.length:Int) + a8.length)=(tru.length:Int) + a8.length:=C7 _ (by omega) (by omega)
 have w2:IntKind.i64.wrap j9=j9:=C7 _ (by omega) (by omega)
 refine pF Tryz.func29 ?_
 conv=>whnf
 (repeat' ((first|refine aU fun hh=>?_|refine aV fun hh=>?_|refine aS (fun hh=>?_) fun hh=>?_|refine kR ?_|fail)<;>conv=>whnf))
 all_goals
  simp only [w1,w2] at *
  clear w1 w2
  first
   | (rw [if_pos (by unfold B2 Z5;simp only [Bool.and_eq_true,Bool.or_eq_true,decide_eq_true_eq];first|omega|(refine ⟨?_,Or.inl trivial⟩;omega)|(refine ⟨?_,Or.inl rfl⟩;omega)|(simp;omega)|(simp_all;done)|(simp_all;omega)|(intro h;first|omega|(refine ⟨?_,Or.inl trivial⟩;omega)|(refine ⟨?_,Or.inl rfl⟩;omega)|(simp;omega)|(simp_all;done)|(simp_all;omega)))];done)
   | (rw [if_neg (by unfold B2 Z5;simp only [Bool.and_eq_true,Bool.or_eq_true,decide_eq_true_eq];first|omega|(refine ⟨?_,Or.inl trivial⟩;omega)|(refine ⟨?_,Or.inl rfl⟩;omega)|(simp;omega)|(simp_all;done)|(simp_all;omega)|(intro h;first|omega|(refine ⟨?_,Or.inl trivial⟩;omega)|(refine ⟨?_,Or.inl rfl⟩;omega)|(simp;omega)|(simp_all;done)|(simp_all;omega)))];done)
  
theorem RA (j8 a7 n j9:Int) (b9:x8) (tru a8:List Int) (ht:tru.length < 2 ^ 40) (hn:a8.length < 2 ^ 40) (hr:0<=j9/\j9<=255):PC Tryz.prog 29 [k8 ⟨2,j8,a7,n,j9,b9,tru,a8⟩] (i64 (if B2 ⟨2,j8,a7,n,j9,b9,tru,a8⟩=true then 0 else 2)):=by
 have w1:IntKind.i64.wrap ((tru.length:Int) + a8.length)=(tru.length:Int) + a8.length:=C7 _ (by omega) (by omega)
 have w2:IntKind.i64.wrap j9=j9:=C7 _ (by omega) (by omega)
 refine pF Tryz.func29 ?_
 conv=>whnf
 (repeat' ((first|refine aU fun hh=>?_|refine aV fun hh=>?_|refine aS (fun hh=>?_) fun hh=>?_|refine kR ?_|fail)<;>conv=>whnf))
 all_goals
  simp only [w1,w2] at *
  clear w1 w2
  first
   | (rw [if_pos (by unfold B2 Z5;simp only [Bool.and_eq_true,Bool.or_eq_true,decide_eq_true_eq];first|omega|(refine ⟨?_,Or.inl trivial⟩;omega)|(refine ⟨?_,Or.inl rfl⟩;omega)|(simp;omega)|(simp_all;done)|(simp_all;omega)|(intro h;first|omega|(refine ⟨?_,Or.inl trivial⟩;omega)|(refine ⟨?_,Or.inl rfl⟩;omega)|(simp;omega)|(simp_all;done)|(simp_all;omega)))];done)
   | (rw [if_neg (by unfold B2 Z5;simp only [Bool.and_eq_true,Bool.or_eq_true,decide_eq_true_eq];first|omega|(refine ⟨?_,Or.inl trivial⟩;omega)|(refine ⟨?_,Or.inl rfl⟩;omega)|(simp;omega)|(simp_all;done)|(simp_all;omega)|(intro h;first|omega|(refine ⟨?_,Or.inl trivial⟩;omega)|(refine ⟨?_,Or.inl rfl⟩;omega)|(simp;omega)|(simp_all;done)|(simp_all;omega)))];done)
  
theorem RB (j8 a7 n j9:Int) (b9:x8) (tru a8:List Int) (ht:tru.length < 2 ^ 40) (hn:a8.length < 2 ^ 40) (hr:0<=j9/\j9<=255):PC Tryz.prog 29 [k8 ⟨3,j8,a7,n,j9,b9,tru,a8⟩] (i64 (if B2 ⟨3,j8,a7,n,j9,b9,tru,a8⟩=true then 0 else 2)):=by
 have w1:IntKind.i64.wrap ((tru.length:Int) + a8.length)=(tru.length:Int) + a8.length:=C7 _ (by omega) (by omega)
 have w2:IntKind.i64.wrap j9=j9:=C7 _ (by omega) (by omega)
 refine pF Tryz.func29 ?_
 conv=>whnf
 (repeat' ((first|refine aU fun hh=>?_|refine aV fun hh=>?_|refine aS (fun hh=>?_) fun hh=>?_|refine kR ?_|fail)<;>conv=>whnf))
 all_goals
  simp only [w1,w2] at *
  clear w1 w2
  first
   | (rw [if_pos (by unfold B2 Z5;simp only [Bool.and_eq_true,Bool.or_eq_true,decide_eq_true_eq];first|omega|(refine ⟨?_,Or.inl trivial⟩;omega)|(refine ⟨?_,Or.inl rfl⟩;omega)|(simp;omega)|(simp_all;done)|(simp_all;omega)|(intro h;first|omega|(refine ⟨?_,Or.inl trivial⟩;omega)|(refine ⟨?_,Or.inl rfl⟩;omega)|(simp;omega)|(simp_all;done)|(simp_all;omega)))];done)
   | (rw [if_neg (by unfold B2 Z5;simp only [Bool.and_eq_true,Bool.or_eq_true,decide_eq_true_eq];first|omega|(refine ⟨?_,Or.inl trivial⟩;omega)|(refine ⟨?_,Or.inl rfl⟩;omega)|(simp;omega)|(simp_all;done)|(simp_all;omega)|(intro h;first|omega|(refine ⟨?_,Or.inl trivial⟩;omega)|(refine ⟨?_,Or.inl rfl⟩;omega)|(simp;omega)|(simp_all;done)|(simp_all;omega)))];done)
  
theorem RC (j8 a7 n j9:Int) (b9:x8) (tru a8:List Int) (ht:tru.length < 2 ^ 40) (hn:a8.length < 2 ^ 40) (hr:0<=j9/\j9<=255):PC Tryz.prog 29 [k8 ⟨4,j8,a7,n,j9,b9,tru,a8⟩] (i64 (if B2 ⟨4,j8,a7,n,j9,b9,tru,a8⟩=true then 0 else 2)):=by
 have w1:IntKind.i64.wrap ((tru.length:Int) + a8.length)=(tru.length:Int) + a8.length:=C7 _ (by omega) (by omega)
 have w2:IntKind.i64.wrap j9=j9:=C7 _ (by omega) (by omega)
 refine pF Tryz.func29 ?_
 conv=>whnf
 (repeat' ((first|refine aU fun hh=>?_|refine aV fun hh=>?_|refine aS (fun hh=>?_) fun hh=>?_|refine kR ?_|fail)<;>conv=>whnf))
 all_goals
  simp only [w1,w2] at *
  clear w1 w2
  first
   | (rw [if_pos (by unfold B2 Z5;simp only [Bool.and_eq_true,Bool.or_eq_true,decide_eq_true_eq];first|omega|(refine ⟨?_,Or.inl trivial⟩;omega)|(refine ⟨?_,Or.inl rfl⟩;omega)|(simp;omega)|(simp_all;done)|(simp_all;omega)|(intro h;first|omega|(refine ⟨?_,Or.inl trivial⟩;omega)|(refine ⟨?_,Or.inl rfl⟩;omega)|(simp;omega)|(simp_all;done)|(simp_all;omega)))];done)
   | (rw [if_neg (by unfold B2 Z5;simp only [Bool.and_eq_true,Bool.or_eq_true,decide_eq_true_eq];first|omega|(refine ⟨?_,Or.inl trivial⟩;omega)|(refine ⟨?_,Or.inl rfl⟩;omega)|(simp;omega)|(simp_all;done)|(simp_all;omega)|(intro h;first|omega|(refine ⟨?_,Or.inl trivial⟩;omega)|(refine ⟨?_,Or.inl rfl⟩;omega)|(simp;omega)|(simp_all;done)|(simp_all;omega)))];done)
  
theorem RD (j8 a7 n j9:Int) (b9:x8) (tru a8:List Int) (ht:tru.length < 2 ^ 40) (hn:a8.length < 2 ^ 40) (hr:0<=j9/\j9<=255):PC Tryz.prog 29 [k8 ⟨5,j8,a7,n,j9,b9,tru,a8⟩] (i64 (if B2 ⟨5,j8,a7,n,j9,b9,tru,a8⟩=true then 0 else 2)):=by
 have w1:IntKind.i64.wrap ((tru.length:Int) + a8.length)=(tru.length:Int) + a8.length:=C7 _ (by omega) (by omega)
 have w2:IntKind.i64.wrap j9=j9:=C7 _ (by omega) (by omega)
 refine pF Tryz.func29 ?_
 conv=>whnf
 (repeat' ((first|refine aU fun hh=>?_|refine aV fun hh=>?_|refine aS (fun hh=>?_) fun hh=>?_|refine kR ?_|fail)<;>conv=>whnf))
 all_goals
  simp only [w1,w2] at *
  clear w1 w2
  first
   | (rw [if_pos (by unfold B2 Z5;simp only [Bool.and_eq_true,Bool.or_eq_true,decide_eq_true_eq];first|omega|(refine ⟨?_,Or.inl trivial⟩;omega)|(refine ⟨?_,Or.inl rfl⟩;omega)|(simp;omega)|(simp_all;done)|(simp_all;omega)|(intro h;first|omega|(refine ⟨?_,Or.inl trivial⟩;omega)|(refine ⟨?_,Or.inl rfl⟩;omega)|(simp;omega)|(simp_all;done)|(simp_all;omega)))];done)
   | (rw [if_neg (by unfold B2 Z5;simp only [Bool.and_eq_true,Bool.or_eq_true,decide_eq_true_eq];first|omega|(refine ⟨?_,Or.inl trivial⟩;omega)|(refine ⟨?_,Or.inl rfl⟩;omega)|(simp;omega)|(simp_all;done)|(simp_all;omega)|(intro h;first|omega|(refine ⟨?_,Or.inl trivial⟩;omega)|(refine ⟨?_,Or.inl rfl⟩;omega)|(simp;omega)|(simp_all;done)|(simp_all;omega)))];done)
  
theorem RE (j8 a7 n j9:Int) (b9:x8) (tru a8:List Int) (ht:tru.length < 2 ^ 40) (hn:a8.length < 2 ^ 40) (hr:0<=j9/\j9<=255):PC Tryz.prog 29 [k8 ⟨6,j8,a7,n,j9,b9,tru,a8⟩] (i64 (if B2 ⟨6,j8,a7,n,j9,b9,tru,a8⟩=true then 0 else 2)):=by
 have w1:IntKind.i64.wrap ((tru.length:Int) + a8.length)=(tru.length:Int) + a8.length:=C7 _ (by omega) (by omega)
 have w2:IntKind.i64.wrap j9=j9:=C7 _ (by omega) (by omega)
 refine pF Tryz.func29 ?_
 conv=>whnf
 (repeat' ((first|refine aU fun hh=>?_|refine aV fun hh=>?_|refine aS (fun hh=>?_) fun hh=>?_|refine kR ?_|fail)<;>conv=>whnf))
 all_goals
  simp only [w1,w2] at *
  clear w1 w2
  first
   | (rw [if_pos (by unfold B2 Z5;simp only [Bool.and_eq_true,Bool.or_eq_true,decide_eq_true_eq];first|omega|(refine ⟨?_,Or.inl trivial⟩;omega)|(refine ⟨?_,Or.inl rfl⟩;omega)|(simp;omega)|(simp_all;done)|(simp_all;omega)|(intro h;first|omega|(refine ⟨?_,Or.inl trivial⟩;omega)|(refine ⟨?_,Or.inl rfl⟩;omega)|(simp;omega)|(simp_all;done)|(simp_all;omega)))];done)
   | (rw [if_neg (by unfold B2 Z5;simp only [Bool.and_eq_true,Bool.or_eq_true,decide_eq_true_eq];first|omega|(refine ⟨?_,Or.inl trivial⟩;omega)|(refine ⟨?_,Or.inl rfl⟩;omega)|(simp;omega)|(simp_all;done)|(simp_all;omega)|(intro h;first|omega|(refine ⟨?_,Or.inl trivial⟩;omega)|(refine ⟨?_,Or.inl rfl⟩;omega)|(simp;omega)|(simp_all;done)|(simp_all;omega)))];done)
  
theorem RF (j8 a7 n j9:Int) (b9:x8) (tru a8:List Int) (ht:tru.length < 2 ^ 40) (hn:a8.length < 2 ^ 40) (hr:0<=j9/\j9<=255):PC Tryz.prog 29 [k8 ⟨7,j8,a7,n,j9,b9,tru,a8⟩] (i64 (if B2 ⟨7,j8,a7,n,j9,b9,tru,a8⟩=true then 0 else 2)):=by
 have w1:IntKind.i64.wrap ((tru.length:Int) + a8.length)=(tru.length:Int) + a8.length:=C7 _ (by omega) (by omega)
 have w2:IntKind.i64.wrap j9=j9:=C7 _ (by omega) (by omega)
 refine pF Tryz.func29 ?_
 conv=>whnf
 (repeat' ((first|refine aU fun hh=>?_|refine aV fun hh=>?_|refine aS (fun hh=>?_) fun hh=>?_|refine kR ?_|fail)<;>conv=>whnf))
 all_goals
  simp only [w1,w2] at *
  clear w1 w2
  first
   | (rw [if_pos (by unfold B2 Z5;simp only [Bool.and_eq_true,Bool.or_eq_true,decide_eq_true_eq];first|omega|(refine ⟨?_,Or.inl trivial⟩;omega)|(refine ⟨?_,Or.inl rfl⟩;omega)|(simp;omega)|(simp_all;done)|(simp_all;omega)|(intro h;first|omega|(refine ⟨?_,Or.inl trivial⟩;omega)|(refine ⟨?_,Or.inl rfl⟩;omega)|(simp;omega)|(simp_all;done)|(simp_all;omega)))];done)
   | (rw [if_neg (by unfold B2 Z5;simp only [Bool.and_eq_true,Bool.or_eq_true,decide_eq_true_eq];first|omega|(refine ⟨?_,Or.inl trivial⟩;omega)|(refine ⟨?_,Or.inl rfl⟩;omega)|(simp;omega)|(simp_all;done)|(simp_all;omega)|(intro h;first|omega|(refine ⟨?_,Or.inl trivial⟩;omega)|(refine ⟨?_,Or.inl rfl⟩;omega)|(simp;omega)|(simp_all;done)|(simp_all;omega)))];done)
  
theorem RG (j8 a7 n j9:Int) (b9:x8) (tru a8:List Int) (ht:tru.length < 2 ^ 40) (hn:a8.length < 2 ^ 40) (hr:0<=j9/\j9<=255):PC Tryz.prog 29 [k8 ⟨8,j8,a7,n,j9,b9,tru,a8⟩] (i64 (if B2 ⟨8,j8,a7,n,j9,b9,tru,a8⟩=true then 0 else 2)):=by
 have w1:IntKind.i64.wrap ((tru.length:Int) + a8.length)=(tru.length:Int) + a8.length:=C7 _ (by omega) (by omega)
 have w2:IntKind.i64.wrap j9=j9:=C7 _ (by omega) (by omega)
 refine pF Tryz.func29 ?_
 conv=>whnf
 (repeat' ((first|refine aU fun hh=>?_|refine aV fun hh=>?_|refine aS (fun hh=>?_) fun hh=>?_|refine kR ?_|fail)<;>conv=>whnf))
 all_goals
  simp only [w1,w2] at *
  clear w1 w2
  first
   | (rw [if_pos (by unfold B2 Z5;simp only [Bool.and_eq_true,Bool.or_eq_true,decide_eq_true_eq];first|omega|(refine ⟨?_,Or.inl trivial⟩;omega)|(refine ⟨?_,Or.inl rfl⟩;omega)|(simp;omega)|(simp_all;done)|(simp_all;omega)|(intro h;first|omega|(refine ⟨?_,Or.inl trivial⟩;omega)|(refine ⟨?_,Or.inl rfl⟩;omega)|(simp;omega)|(simp_all;done)|(simp_all;omega)))];done)
   | (rw [if_neg (by unfold B2 Z5;simp only [Bool.and_eq_true,Bool.or_eq_true,decide_eq_true_eq];first|omega|(refine ⟨?_,Or.inl trivial⟩;omega)|(refine ⟨?_,Or.inl rfl⟩;omega)|(simp;omega)|(simp_all;done)|(simp_all;omega)|(intro h;first|omega|(refine ⟨?_,Or.inl trivial⟩;omega)|(refine ⟨?_,Or.inl rfl⟩;omega)|(simp;omega)|(simp_all;done)|(simp_all;omega)))];done)
  
theorem RH (j8 a7 n j9:Int) (b9:x8) (tru a8:List Int) (ht:tru.length < 2 ^ 40) (hn:a8.length < 2 ^ 40) (hr:0<=j9/\j9<=255):PC Tryz.prog 29 [k8 ⟨9,j8,a7,n,j9,b9,tru,a8⟩] (i64 (if B2 ⟨9,j8,a7,n,j9,b9,tru,a8⟩=true then 0 else 2)):=by
 have w1:IntKind.i64.wrap ((tru.length:Int) + a8.length)=(tru.length:Int) + a8.length:=C7 _ (by omega) (by omega)
 have w2:IntKind.i64.wrap j9=j9:=C7 _ (by omega) (by omega)
 refine pF Tryz.func29 ?_
 conv=>whnf
 (repeat' ((first|refine aU fun hh=>?_|refine aV fun hh=>?_|refine aS (fun hh=>?_) fun hh=>?_|refine kR ?_|fail)<;>conv=>whnf))
 all_goals
  simp only [w1,w2] at *
  clear w1 w2
  first
   | (rw [if_pos (by unfold B2 Z5;simp only [Bool.and_eq_true,Bool.or_eq_true,decide_eq_true_eq];first|omega|(refine ⟨?_,Or.inl trivial⟩;omega)|(refine ⟨?_,Or.inl rfl⟩;omega)|(simp;omega)|(simp_all;done)|(simp_all;omega)|(intro h;first|omega|(refine ⟨?_,Or.inl trivial⟩;omega)|(refine ⟨?_,Or.inl rfl⟩;omega)|(simp;omega)|(simp_all;done)|(simp_all;omega)))];done)
   | (rw [if_neg (by unfold B2 Z5;simp only [Bool.and_eq_true,Bool.or_eq_true,decide_eq_true_eq];first|omega|(refine ⟨?_,Or.inl trivial⟩;omega)|(refine ⟨?_,Or.inl rfl⟩;omega)|(simp;omega)|(simp_all;done)|(simp_all;omega)|(intro h;first|omega|(refine ⟨?_,Or.inl trivial⟩;omega)|(refine ⟨?_,Or.inl rfl⟩;omega)|(simp;omega)|(simp_all;done)|(simp_all;omega)))];done)
  
theorem Ot (j8 a7 n j9:Int) (b9:x8) (tru a8:List Int) (ht:tru.length < 2 ^ 40) (hn:a8.length < 2 ^ 40) (hr:0<=j9/\j9<=255):PC Tryz.prog 29 [k8 ⟨10,j8,a7,n,j9,b9,tru,a8⟩] (i64 (if B2 ⟨10,j8,a7,n,j9,b9,tru,a8⟩=true then 0 else 2)):=by
 have w1:IntKind.i64.wrap ((tru.length:Int) + a8.length)=(tru.length:Int) + a8.length:=C7 _ (by omega) (by omega)
 have w2:IntKind.i64.wrap j9=j9:=C7 _ (by omega) (by omega)
 refine pF Tryz.func29 ?_
 conv=>whnf
 (repeat' ((first|refine aU fun hh=>?_|refine aV fun hh=>?_|refine aS (fun hh=>?_) fun hh=>?_|refine kR ?_|fail)<;>conv=>whnf))
 all_goals
  simp only [w1,w2] at *
  clear w1 w2
  first
   | (rw [if_pos (by unfold B2 Z5;simp only [Bool.and_eq_true,Bool.or_eq_true,decide_eq_true_eq];first|omega|(refine ⟨?_,Or.inl trivial⟩;omega)|(refine ⟨?_,Or.inl rfl⟩;omega)|(simp;omega)|(simp_all;done)|(simp_all;omega)|(intro h;first|omega|(refine ⟨?_,Or.inl trivial⟩;omega)|(refine ⟨?_,Or.inl rfl⟩;omega)|(simp;omega)|(simp_all;done)|(simp_all;omega)))];done)
   | (rw [if_neg (by unfold B2 Z5;simp only [Bool.and_eq_true,Bool.or_eq_true,decide_eq_true_eq];first|omega|(refine ⟨?_,Or.inl trivial⟩;omega)|(refine ⟨?_,Or.inl rfl⟩;omega)|(simp;omega)|(simp_all;done)|(simp_all;omega)|(intro h;first|omega|(refine ⟨?_,Or.inl trivial⟩;omega)|(refine ⟨?_,Or.inl rfl⟩;omega)|(simp;omega)|(simp_all;done)|(simp_all;omega)))];done)
  
theorem Hz (o:r8) (h:¬(1<=o.kind/\o.kind<=10)):PC Tryz.prog 29 [k8 o] (i64 (if B2 o=true then 0 else 2)):=by
 have e:B2 o=false:=by
  unfold B2
  rw [decide_eq_false (fun q=>h q.1)]
  rfl
 rw [e]
 refine pF Tryz.func29 ?_
 conv=>whnf
 (repeat' ((first|refine aU fun hh=>?_|refine aV fun hh=>?_|refine aS (fun hh=>?_) fun hh=>?_|refine kR ?_|fail)<;>conv=>whnf))
 all_goals rfl
theorem Y2 (o:r8) (ht:o.tru.length < 2 ^ 40) (hn:o.a8.length < 2 ^ 40) (hr:0<=o.j9/\o.j9<=255):PC Tryz.prog 29 [k8 o] (i64 (if B2 o=true then 0 else 2)):=by
 by_cases h:1<=o.kind/\o.kind<=10
 ·obtain ⟨kind,j8,a7,n,j9,b9,tru,a8⟩:=o
  simp only at h ht hn hr
  have hk:kind=1∨kind=2∨kind=3∨kind=4∨kind=5∨kind=6∨kind=7∨kind=8∨kind=9∨kind=10:=by omega
  rcases hk with e|e|e|e|e|e|e|e|e|e<;>subst e
  ·exact Rz j8 a7 n j9 b9 tru a8 ht hn hr
  ·exact RA j8 a7 n j9 b9 tru a8 ht hn hr
  ·exact RB j8 a7 n j9 b9 tru a8 ht hn hr
  ·exact RC j8 a7 n j9 b9 tru a8 ht hn hr
  ·exact RD j8 a7 n j9 b9 tru a8 ht hn hr
  ·exact RE j8 a7 n j9 b9 tru a8 ht hn hr
  ·exact RF j8 a7 n j9 b9 tru a8 ht hn hr
  ·exact RG j8 a7 n j9 b9 tru a8 ht hn hr
  ·exact RH j8 a7 n j9 b9 tru a8 ht hn hr
  ·exact Ot j8 a7 n j9 b9 tru a8 ht hn hr
 ·exact Hz o h

end Go.Proofs.Tryz.My
