/- A helper text: contracts of functions of the program, and plain lemmas. -/
import Derived.Test.YtdpnpdjnaimgaaaGreatEvSix
import Derived.Test.YtdpnpdjnaimgaaaGreatMzWaA
import Derived.Test.YtdpnpdjnaimgaaaGreatMzBqX
set_option maxRecDepth 100000
set_option maxHeartbeats 0
set_option linter.unusedVariables false
set_option linter.unusedSimpArgs false
namespace Go.Proofs.Tryz.My
open Go Go.Ev
theorem b49 (user number n role:Int) (gauge:GauT) (tru noise:List Int) (ht:tru.length < 2 ^ 40) (hn:noise.length < 2 ^ 40) (hr:0<=role/\role<=255):PC Tryz.prog 29 [ord ⟨1,user,number,n,role,gauge,tru,noise⟩] (i64 (if ordB ⟨1,user,number,n,role,gauge,tru,noise⟩=true then 0 else 2)):=by
 have w1:IntKind.i64.wrap ((tru.length:Int) + noise.length)=(tru.length:Int) + noise.length:=w64 _ (by omega) (by omega)
 have w2:IntKind.i64.wrap role=role:=w64 _ (by omega) (by omega)
 refine a7 hm Tryz.func29 (by kernel_rfl) ?_
 conv=>whnf
 (repeat' first|(refine ansS (fun hh=>?_) (fun hh=>?_)<;>(try simp only [ansX] at hh)<;>first|(exfalso;first|omega|(simp [*] at hh;done)|(revert hh;decide))|exact absurd (by assumption) hh|conv=>whnf)|((first|refine kR ?_|refine aB ?_|refine aL ?_|refine aN ?_|fail);conv=>whnf))
 all_goals
  simp only [w1,w2] at *
  clear w1 w2
  first
   | (rw [if_pos (by unfold ordB gauZ; simp only [Bool.and_eq_true,Bool.or_eq_true,decide_eq_true_eq]; first | omega | (refine ⟨?_,Or.inl trivial⟩; omega) | (refine ⟨?_,Or.inl rfl⟩; omega) | (simp; omega) | (simp_all; done) | (simp_all; omega) | (intro h; first | omega | (refine ⟨?_,Or.inl trivial⟩; omega) | (refine ⟨?_,Or.inl rfl⟩; omega) | (simp; omega) | (simp_all; done) | (simp_all; omega)))]; done)
   | (rw [if_neg (by unfold ordB gauZ; simp only [Bool.and_eq_true,Bool.or_eq_true,decide_eq_true_eq]; first | omega | (refine ⟨?_,Or.inl trivial⟩; omega) | (refine ⟨?_,Or.inl rfl⟩; omega) | (simp; omega) | (simp_all; done) | (simp_all; omega) | (intro h; first | omega | (refine ⟨?_,Or.inl trivial⟩; omega) | (refine ⟨?_,Or.inl rfl⟩; omega) | (simp; omega) | (simp_all; done) | (simp_all; omega)))]; done)
  
theorem b5a (user number n role:Int) (gauge:GauT) (tru noise:List Int) (ht:tru.length < 2 ^ 40) (hn:noise.length < 2 ^ 40) (hr:0<=role/\role<=255):PC Tryz.prog 29 [ord ⟨2,user,number,n,role,gauge,tru,noise⟩] (i64 (if ordB ⟨2,user,number,n,role,gauge,tru,noise⟩=true then 0 else 2)):=by
 have w1:IntKind.i64.wrap ((tru.length:Int) + noise.length)=(tru.length:Int) + noise.length:=w64 _ (by omega) (by omega)
 have w2:IntKind.i64.wrap role=role:=w64 _ (by omega) (by omega)
 refine a7 hm Tryz.func29 (by kernel_rfl) ?_
 conv=>whnf
 (repeat' first|(refine ansS (fun hh=>?_) (fun hh=>?_)<;>(try simp only [ansX] at hh)<;>first|(exfalso;first|omega|(simp [*] at hh;done)|(revert hh;decide))|exact absurd (by assumption) hh|conv=>whnf)|((first|refine kR ?_|refine aB ?_|refine aL ?_|refine aN ?_|fail);conv=>whnf))
 all_goals
  simp only [w1,w2] at *
  clear w1 w2
  first
   | (rw [if_pos (by unfold ordB gauZ; simp only [Bool.and_eq_true,Bool.or_eq_true,decide_eq_true_eq]; first | omega | (refine ⟨?_,Or.inl trivial⟩; omega) | (refine ⟨?_,Or.inl rfl⟩; omega) | (simp; omega) | (simp_all; done) | (simp_all; omega) | (intro h; first | omega | (refine ⟨?_,Or.inl trivial⟩; omega) | (refine ⟨?_,Or.inl rfl⟩; omega) | (simp; omega) | (simp_all; done) | (simp_all; omega)))]; done)
   | (rw [if_neg (by unfold ordB gauZ; simp only [Bool.and_eq_true,Bool.or_eq_true,decide_eq_true_eq]; first | omega | (refine ⟨?_,Or.inl trivial⟩; omega) | (refine ⟨?_,Or.inl rfl⟩; omega) | (simp; omega) | (simp_all; done) | (simp_all; omega) | (intro h; first | omega | (refine ⟨?_,Or.inl trivial⟩; omega) | (refine ⟨?_,Or.inl rfl⟩; omega) | (simp; omega) | (simp_all; done) | (simp_all; omega)))]; done)
  
theorem b5b (user number n role:Int) (gauge:GauT) (tru noise:List Int) (ht:tru.length < 2 ^ 40) (hn:noise.length < 2 ^ 40) (hr:0<=role/\role<=255):PC Tryz.prog 29 [ord ⟨3,user,number,n,role,gauge,tru,noise⟩] (i64 (if ordB ⟨3,user,number,n,role,gauge,tru,noise⟩=true then 0 else 2)):=by
 have w1:IntKind.i64.wrap ((tru.length:Int) + noise.length)=(tru.length:Int) + noise.length:=w64 _ (by omega) (by omega)
 have w2:IntKind.i64.wrap role=role:=w64 _ (by omega) (by omega)
 refine a7 hm Tryz.func29 (by kernel_rfl) ?_
 conv=>whnf
 (repeat' first|(refine ansS (fun hh=>?_) (fun hh=>?_)<;>(try simp only [ansX] at hh)<;>first|(exfalso;first|omega|(simp [*] at hh;done)|(revert hh;decide))|exact absurd (by assumption) hh|conv=>whnf)|((first|refine kR ?_|refine aB ?_|refine aL ?_|refine aN ?_|fail);conv=>whnf))
 all_goals
  simp only [w1,w2] at *
  clear w1 w2
  first
   | (rw [if_pos (by unfold ordB gauZ; simp only [Bool.and_eq_true,Bool.or_eq_true,decide_eq_true_eq]; first | omega | (refine ⟨?_,Or.inl trivial⟩; omega) | (refine ⟨?_,Or.inl rfl⟩; omega) | (simp; omega) | (simp_all; done) | (simp_all; omega) | (intro h; first | omega | (refine ⟨?_,Or.inl trivial⟩; omega) | (refine ⟨?_,Or.inl rfl⟩; omega) | (simp; omega) | (simp_all; done) | (simp_all; omega)))]; done)
   | (rw [if_neg (by unfold ordB gauZ; simp only [Bool.and_eq_true,Bool.or_eq_true,decide_eq_true_eq]; first | omega | (refine ⟨?_,Or.inl trivial⟩; omega) | (refine ⟨?_,Or.inl rfl⟩; omega) | (simp; omega) | (simp_all; done) | (simp_all; omega) | (intro h; first | omega | (refine ⟨?_,Or.inl trivial⟩; omega) | (refine ⟨?_,Or.inl rfl⟩; omega) | (simp; omega) | (simp_all; done) | (simp_all; omega)))]; done)
  
theorem b5c (user number n role:Int) (gauge:GauT) (tru noise:List Int) (ht:tru.length < 2 ^ 40) (hn:noise.length < 2 ^ 40) (hr:0<=role/\role<=255):PC Tryz.prog 29 [ord ⟨4,user,number,n,role,gauge,tru,noise⟩] (i64 (if ordB ⟨4,user,number,n,role,gauge,tru,noise⟩=true then 0 else 2)):=by
 have w1:IntKind.i64.wrap ((tru.length:Int) + noise.length)=(tru.length:Int) + noise.length:=w64 _ (by omega) (by omega)
 have w2:IntKind.i64.wrap role=role:=w64 _ (by omega) (by omega)
 refine a7 hm Tryz.func29 (by kernel_rfl) ?_
 conv=>whnf
 (repeat' first|(refine ansS (fun hh=>?_) (fun hh=>?_)<;>(try simp only [ansX] at hh)<;>first|(exfalso;first|omega|(simp [*] at hh;done)|(revert hh;decide))|exact absurd (by assumption) hh|conv=>whnf)|((first|refine kR ?_|refine aB ?_|refine aL ?_|refine aN ?_|fail);conv=>whnf))
 all_goals
  simp only [w1,w2] at *
  clear w1 w2
  first
   | (rw [if_pos (by unfold ordB gauZ; simp only [Bool.and_eq_true,Bool.or_eq_true,decide_eq_true_eq]; first | omega | (refine ⟨?_,Or.inl trivial⟩; omega) | (refine ⟨?_,Or.inl rfl⟩; omega) | (simp; omega) | (simp_all; done) | (simp_all; omega) | (intro h; first | omega | (refine ⟨?_,Or.inl trivial⟩; omega) | (refine ⟨?_,Or.inl rfl⟩; omega) | (simp; omega) | (simp_all; done) | (simp_all; omega)))]; done)
   | (rw [if_neg (by unfold ordB gauZ; simp only [Bool.and_eq_true,Bool.or_eq_true,decide_eq_true_eq]; first | omega | (refine ⟨?_,Or.inl trivial⟩; omega) | (refine ⟨?_,Or.inl rfl⟩; omega) | (simp; omega) | (simp_all; done) | (simp_all; omega) | (intro h; first | omega | (refine ⟨?_,Or.inl trivial⟩; omega) | (refine ⟨?_,Or.inl rfl⟩; omega) | (simp; omega) | (simp_all; done) | (simp_all; omega)))]; done)
  
theorem b5d (user number n role:Int) (gauge:GauT) (tru noise:List Int) (ht:tru.length < 2 ^ 40) (hn:noise.length < 2 ^ 40) (hr:0<=role/\role<=255):PC Tryz.prog 29 [ord ⟨5,user,number,n,role,gauge,tru,noise⟩] (i64 (if ordB ⟨5,user,number,n,role,gauge,tru,noise⟩=true then 0 else 2)):=by
 have w1:IntKind.i64.wrap ((tru.length:Int) + noise.length)=(tru.length:Int) + noise.length:=w64 _ (by omega) (by omega)
 have w2:IntKind.i64.wrap role=role:=w64 _ (by omega) (by omega)
 refine a7 hm Tryz.func29 (by kernel_rfl) ?_
 conv=>whnf
 (repeat' first|(refine ansS (fun hh=>?_) (fun hh=>?_)<;>(try simp only [ansX] at hh)<;>first|(exfalso;first|omega|(simp [*] at hh;done)|(revert hh;decide))|exact absurd (by assumption) hh|conv=>whnf)|((first|refine kR ?_|refine aB ?_|refine aL ?_|refine aN ?_|fail);conv=>whnf))
 all_goals
  simp only [w1,w2] at *
  clear w1 w2
  first
   | (rw [if_pos (by unfold ordB gauZ; simp only [Bool.and_eq_true,Bool.or_eq_true,decide_eq_true_eq]; first | omega | (refine ⟨?_,Or.inl trivial⟩; omega) | (refine ⟨?_,Or.inl rfl⟩; omega) | (simp; omega) | (simp_all; done) | (simp_all; omega) | (intro h; first | omega | (refine ⟨?_,Or.inl trivial⟩; omega) | (refine ⟨?_,Or.inl rfl⟩; omega) | (simp; omega) | (simp_all; done) | (simp_all; omega)))]; done)
   | (rw [if_neg (by unfold ordB gauZ; simp only [Bool.and_eq_true,Bool.or_eq_true,decide_eq_true_eq]; first | omega | (refine ⟨?_,Or.inl trivial⟩; omega) | (refine ⟨?_,Or.inl rfl⟩; omega) | (simp; omega) | (simp_all; done) | (simp_all; omega) | (intro h; first | omega | (refine ⟨?_,Or.inl trivial⟩; omega) | (refine ⟨?_,Or.inl rfl⟩; omega) | (simp; omega) | (simp_all; done) | (simp_all; omega)))]; done)
  
theorem b5e (user number n role:Int) (gauge:GauT) (tru noise:List Int) (ht:tru.length < 2 ^ 40) (hn:noise.length < 2 ^ 40) (hr:0<=role/\role<=255):PC Tryz.prog 29 [ord ⟨6,user,number,n,role,gauge,tru,noise⟩] (i64 (if ordB ⟨6,user,number,n,role,gauge,tru,noise⟩=true then 0 else 2)):=by
 have w1:IntKind.i64.wrap ((tru.length:Int) + noise.length)=(tru.length:Int) + noise.length:=w64 _ (by omega) (by omega)
 have w2:IntKind.i64.wrap role=role:=w64 _ (by omega) (by omega)
 refine a7 hm Tryz.func29 (by kernel_rfl) ?_
 conv=>whnf
 (repeat' first|(refine ansS (fun hh=>?_) (fun hh=>?_)<;>(try simp only [ansX] at hh)<;>first|(exfalso;first|omega|(simp [*] at hh;done)|(revert hh;decide))|exact absurd (by assumption) hh|conv=>whnf)|((first|refine kR ?_|refine aB ?_|refine aL ?_|refine aN ?_|fail);conv=>whnf))
 all_goals
  simp only [w1,w2] at *
  clear w1 w2
  first
   | (rw [if_pos (by unfold ordB gauZ; simp only [Bool.and_eq_true,Bool.or_eq_true,decide_eq_true_eq]; first | omega | (refine ⟨?_,Or.inl trivial⟩; omega) | (refine ⟨?_,Or.inl rfl⟩; omega) | (simp; omega) | (simp_all; done) | (simp_all; omega) | (intro h; first | omega | (refine ⟨?_,Or.inl trivial⟩; omega) | (refine ⟨?_,Or.inl rfl⟩; omega) | (simp; omega) | (simp_all; done) | (simp_all; omega)))]; done)
   | (rw [if_neg (by unfold ordB gauZ; simp only [Bool.and_eq_true,Bool.or_eq_true,decide_eq_true_eq]; first | omega | (refine ⟨?_,Or.inl trivial⟩; omega) | (refine ⟨?_,Or.inl rfl⟩; omega) | (simp; omega) | (simp_all; done) | (simp_all; omega) | (intro h; first | omega | (refine ⟨?_,Or.inl trivial⟩; omega) | (refine ⟨?_,Or.inl rfl⟩; omega) | (simp; omega) | (simp_all; done) | (simp_all; omega)))]; done)
  
theorem b5f (user number n role:Int) (gauge:GauT) (tru noise:List Int) (ht:tru.length < 2 ^ 40) (hn:noise.length < 2 ^ 40) (hr:0<=role/\role<=255):PC Tryz.prog 29 [ord ⟨7,user,number,n,role,gauge,tru,noise⟩] (i64 (if ordB ⟨7,user,number,n,role,gauge,tru,noise⟩=true then 0 else 2)):=by
 have w1:IntKind.i64.wrap ((tru.length:Int) + noise.length)=(tru.length:Int) + noise.length:=w64 _ (by omega) (by omega)
 have w2:IntKind.i64.wrap role=role:=w64 _ (by omega) (by omega)
 refine a7 hm Tryz.func29 (by kernel_rfl) ?_
 conv=>whnf
 (repeat' first|(refine ansS (fun hh=>?_) (fun hh=>?_)<;>(try simp only [ansX] at hh)<;>first|(exfalso;first|omega|(simp [*] at hh;done)|(revert hh;decide))|exact absurd (by assumption) hh|conv=>whnf)|((first|refine kR ?_|refine aB ?_|refine aL ?_|refine aN ?_|fail);conv=>whnf))
 all_goals
  simp only [w1,w2] at *
  clear w1 w2
  first
   | (rw [if_pos (by unfold ordB gauZ; simp only [Bool.and_eq_true,Bool.or_eq_true,decide_eq_true_eq]; first | omega | (refine ⟨?_,Or.inl trivial⟩; omega) | (refine ⟨?_,Or.inl rfl⟩; omega) | (simp; omega) | (simp_all; done) | (simp_all; omega) | (intro h; first | omega | (refine ⟨?_,Or.inl trivial⟩; omega) | (refine ⟨?_,Or.inl rfl⟩; omega) | (simp; omega) | (simp_all; done) | (simp_all; omega)))]; done)
   | (rw [if_neg (by unfold ordB gauZ; simp only [Bool.and_eq_true,Bool.or_eq_true,decide_eq_true_eq]; first | omega | (refine ⟨?_,Or.inl trivial⟩; omega) | (refine ⟨?_,Or.inl rfl⟩; omega) | (simp; omega) | (simp_all; done) | (simp_all; omega) | (intro h; first | omega | (refine ⟨?_,Or.inl trivial⟩; omega) | (refine ⟨?_,Or.inl rfl⟩; omega) | (simp; omega) | (simp_all; done) | (simp_all; omega)))]; done)
  
theorem b5g (user number n role:Int) (gauge:GauT) (tru noise:List Int) (ht:tru.length < 2 ^ 40) (hn:noise.length < 2 ^ 40) (hr:0<=role/\role<=255):PC Tryz.prog 29 [ord ⟨8,user,number,n,role,gauge,tru,noise⟩] (i64 (if ordB ⟨8,user,number,n,role,gauge,tru,noise⟩=true then 0 else 2)):=by
 have w1:IntKind.i64.wrap ((tru.length:Int) + noise.length)=(tru.length:Int) + noise.length:=w64 _ (by omega) (by omega)
 have w2:IntKind.i64.wrap role=role:=w64 _ (by omega) (by omega)
 refine a7 hm Tryz.func29 (by kernel_rfl) ?_
 conv=>whnf
 (repeat' first|(refine ansS (fun hh=>?_) (fun hh=>?_)<;>(try simp only [ansX] at hh)<;>first|(exfalso;first|omega|(simp [*] at hh;done)|(revert hh;decide))|exact absurd (by assumption) hh|conv=>whnf)|((first|refine kR ?_|refine aB ?_|refine aL ?_|refine aN ?_|fail);conv=>whnf))
 all_goals
  simp only [w1,w2] at *
  clear w1 w2
  first
   | (rw [if_pos (by unfold ordB gauZ; simp only [Bool.and_eq_true,Bool.or_eq_true,decide_eq_true_eq]; first | omega | (refine ⟨?_,Or.inl trivial⟩; omega) | (refine ⟨?_,Or.inl rfl⟩; omega) | (simp; omega) | (simp_all; done) | (simp_all; omega) | (intro h; first | omega | (refine ⟨?_,Or.inl trivial⟩; omega) | (refine ⟨?_,Or.inl rfl⟩; omega) | (simp; omega) | (simp_all; done) | (simp_all; omega)))]; done)
   | (rw [if_neg (by unfold ordB gauZ; simp only [Bool.and_eq_true,Bool.or_eq_true,decide_eq_true_eq]; first | omega | (refine ⟨?_,Or.inl trivial⟩; omega) | (refine ⟨?_,Or.inl rfl⟩; omega) | (simp; omega) | (simp_all; done) | (simp_all; omega) | (intro h; first | omega | (refine ⟨?_,Or.inl trivial⟩; omega) | (refine ⟨?_,Or.inl rfl⟩; omega) | (simp; omega) | (simp_all; done) | (simp_all; omega)))]; done)
  
theorem b5h (user number n role:Int) (gauge:GauT) (tru noise:List Int) (ht:tru.length < 2 ^ 40) (hn:noise.length < 2 ^ 40) (hr:0<=role/\role<=255):PC Tryz.prog 29 [ord ⟨9,user,number,n,role,gauge,tru,noise⟩] (i64 (if ordB ⟨9,user,number,n,role,gauge,tru,noise⟩=true then 0 else 2)):=by
 have w1:IntKind.i64.wrap ((tru.length:Int) + noise.length)=(tru.length:Int) + noise.length:=w64 _ (by omega) (by omega)
 have w2:IntKind.i64.wrap role=role:=w64 _ (by omega) (by omega)
 refine a7 hm Tryz.func29 (by kernel_rfl) ?_
 conv=>whnf
 (repeat' first|(refine ansS (fun hh=>?_) (fun hh=>?_)<;>(try simp only [ansX] at hh)<;>first|(exfalso;first|omega|(simp [*] at hh;done)|(revert hh;decide))|exact absurd (by assumption) hh|conv=>whnf)|((first|refine kR ?_|refine aB ?_|refine aL ?_|refine aN ?_|fail);conv=>whnf))
 all_goals
  simp only [w1,w2] at *
  clear w1 w2
  first
   | (rw [if_pos (by unfold ordB gauZ; simp only [Bool.and_eq_true,Bool.or_eq_true,decide_eq_true_eq]; first | omega | (refine ⟨?_,Or.inl trivial⟩; omega) | (refine ⟨?_,Or.inl rfl⟩; omega) | (simp; omega) | (simp_all; done) | (simp_all; omega) | (intro h; first | omega | (refine ⟨?_,Or.inl trivial⟩; omega) | (refine ⟨?_,Or.inl rfl⟩; omega) | (simp; omega) | (simp_all; done) | (simp_all; omega)))]; done)
   | (rw [if_neg (by unfold ordB gauZ; simp only [Bool.and_eq_true,Bool.or_eq_true,decide_eq_true_eq]; first | omega | (refine ⟨?_,Or.inl trivial⟩; omega) | (refine ⟨?_,Or.inl rfl⟩; omega) | (simp; omega) | (simp_all; done) | (simp_all; omega) | (intro h; first | omega | (refine ⟨?_,Or.inl trivial⟩; omega) | (refine ⟨?_,Or.inl rfl⟩; omega) | (simp; omega) | (simp_all; done) | (simp_all; omega)))]; done)
  
theorem b3Z (user number n role:Int) (gauge:GauT) (tru noise:List Int) (ht:tru.length < 2 ^ 40) (hn:noise.length < 2 ^ 40) (hr:0<=role/\role<=255):PC Tryz.prog 29 [ord ⟨10,user,number,n,role,gauge,tru,noise⟩] (i64 (if ordB ⟨10,user,number,n,role,gauge,tru,noise⟩=true then 0 else 2)):=by
 have w1:IntKind.i64.wrap ((tru.length:Int) + noise.length)=(tru.length:Int) + noise.length:=w64 _ (by omega) (by omega)
 have w2:IntKind.i64.wrap role=role:=w64 _ (by omega) (by omega)
 refine a7 hm Tryz.func29 (by kernel_rfl) ?_
 conv=>whnf
 (repeat' first|(refine ansS (fun hh=>?_) (fun hh=>?_)<;>(try simp only [ansX] at hh)<;>first|(exfalso;first|omega|(simp [*] at hh;done)|(revert hh;decide))|exact absurd (by assumption) hh|conv=>whnf)|((first|refine kR ?_|refine aB ?_|refine aL ?_|refine aN ?_|fail);conv=>whnf))
 all_goals
  simp only [w1,w2] at *
  clear w1 w2
  first
   | (rw [if_pos (by unfold ordB gauZ; simp only [Bool.and_eq_true,Bool.or_eq_true,decide_eq_true_eq]; first | omega | (refine ⟨?_,Or.inl trivial⟩; omega) | (refine ⟨?_,Or.inl rfl⟩; omega) | (simp; omega) | (simp_all; done) | (simp_all; omega) | (intro h; first | omega | (refine ⟨?_,Or.inl trivial⟩; omega) | (refine ⟨?_,Or.inl rfl⟩; omega) | (simp; omega) | (simp_all; done) | (simp_all; omega)))]; done)
   | (rw [if_neg (by unfold ordB gauZ; simp only [Bool.and_eq_true,Bool.or_eq_true,decide_eq_true_eq]; first | omega | (refine ⟨?_,Or.inl trivial⟩; omega) | (refine ⟨?_,Or.inl rfl⟩; omega) | (simp; omega) | (simp_all; done) | (simp_all; omega) | (intro h; first | omega | (refine ⟨?_,Or.inl trivial⟩; omega) | (refine ⟨?_,Or.inl rfl⟩; omega) | (simp; omega) | (simp_all; done) | (simp_all; omega)))]; done)
  
theorem b0Y (o:OrderT) (h:¬(1<=o.kind/\o.kind<=10)):PC Tryz.prog 29 [ord o] (i64 (if ordB o=true then 0 else 2)):=by
 have e:ordB o=false:=by
  unfold ordB
  rw [decide_eq_false (fun q=>h q.1)]
  rfl
 rw [e]
 refine a7 hm Tryz.func29 (by kernel_rfl) ?_
 conv=>whnf
 (repeat' first|(refine ansS (fun hh=>?_) (fun hh=>?_)<;>(try simp only [ansX] at hh)<;>first|(exfalso;first|omega|(simp [*] at hh;done)|(revert hh;decide))|exact absurd (by assumption) hh|conv=>whnf)|((first|refine kR ?_|refine aB ?_|refine aL ?_|refine aN ?_|fail);conv=>whnf))
 all_goals rfl
theorem a3U (o:OrderT) (ht:o.tru.length < 2 ^ 40) (hn:o.noise.length < 2 ^ 40) (hr:0<=o.role/\o.role<=255):PC Tryz.prog 29 [ord o] (i64 (if ordB o=true then 0 else 2)):=by
 by_cases h:1<=o.kind/\o.kind<=10
 ·obtain ⟨kind,user,number,n,role,gauge,tru,noise⟩:=o
  simp only at h ht hn hr
  have hk:kind=1∨kind=2∨kind=3∨kind=4∨kind=5∨kind=6∨kind=7∨kind=8∨kind=9∨kind=10:=by omega
  rcases hk with e | e | e | e | e | e | e | e | e | e<;>subst e
  ·exact b49 user number n role gauge tru noise ht hn hr
  ·exact b5a user number n role gauge tru noise ht hn hr
  ·exact b5b user number n role gauge tru noise ht hn hr
  ·exact b5c user number n role gauge tru noise ht hn hr
  ·exact b5d user number n role gauge tru noise ht hn hr
  ·exact b5e user number n role gauge tru noise ht hn hr
  ·exact b5f user number n role gauge tru noise ht hn hr
  ·exact b5g user number n role gauge tru noise ht hn hr
  ·exact b5h user number n role gauge tru noise ht hn hr
  ·exact b3Z user number n role gauge tru noise ht hn hr
 ·exact b0Y o h

end Go.Proofs.Tryz.My
