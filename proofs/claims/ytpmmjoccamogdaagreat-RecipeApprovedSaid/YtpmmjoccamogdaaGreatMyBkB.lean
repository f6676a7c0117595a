/- Helper lemmas. -/
import Derived.Test.YtpmmjoccamogdaaGreatMyGdE
set_option linter.unusedVariables false
set_option linter.unusedSimpArgs false
set_option maxRecDepth 100000
set_option maxHeartbeats 0
namespace Go.Proofs.Tryz.My
open Go Go.Ev
structure x7 where
 author:Int
 o6:H4
 k9:List Int
 state:Int
structure A1 where
 seq:Int
 recipe:Int
 part:Int
 j8:List Int
 H8:Int
 disputed:Bool
structure b9 where
 keep:Int
 k8:List Int
 a7:List x7
 next:Int
 log:List A1
abbrev e8 (n:Int):List AV:=[u8 n]
abbrev FZ (l:List Int):AV := .sl 1 0 e8 l
def dV:H4:=((((0,0),((0,0),(0,0))),(0,0)),(0,0))
def n5:x7:=⟨0,dV,[],0⟩
def o8:A1:=⟨0,0,0,[],0,false⟩
def iH (r:x7):List AV:=[i64 r.author,i64 (K4 r.o6),i64 (J2 r.o6),i64 (K7 r.o6).1.1,i64 (K7 r.o6).1.2,i64 (K7 r.o6).2.1,i64 (K7 r.o6).2.2,i64 r.o6.1.2.1,i64 r.o6.1.2.2,i64 r.o6.2.1,i64 r.o6.2.2,I7 r.k9,u8 r.state]
def V8 (s:A1):List AV:=[i64 s.seq,i64 s.recipe,i64 s.part,I7 s.j8,u8 s.H8,.bool s.disputed]
abbrev Bm (l:List x7):AV := .sl 13 n5 iH l
abbrev vG (l:List A1):AV := .sl 6 o8 V8 l
def eB (b:b9):List AV:=[i64 b.keep,FZ b.k8,Bm b.a7,i64 b.next,vG b.log]
abbrev G4 (b:b9):AV := .agg (eB b)
def C7 (roles:List Int) (us:List Int) (u:Int):Bool:=A0 u 0 (us.length - 1) && roles.contains (us.getD u.toNat 0)
def bI (b:b9):Bool:=A0 b.keep 1 32 && A0 b.next 0 1099511627776 && decide ((b.k8.length:Int)<=16) && decide ((b.a7.length:Int)<=16) && decide ((b.log.length:Int)<=b.keep)
def lC (r:Int):Bool:=decide (r < 1) || decide (r > 3)
def cC (b:b9):Bool := !b.k8.any lC
def D9 (us:List Int) (l:List Int):Bool:=decide ((l.length:Int) > 1) && l.any (C7 [3] us)
def fv (l:List Int) (i:Nat):Int:=if i=0 then -1 else l.getD (i - 1) 0
def yI (us:List Int) (x:x7) (i:Nat):Bool:=decide (fv x.k9 i < x.k9.getD i 0) && !decide (x.k9.getD i 0=x.author) && C7 [2,3] us (x.k9.getD i 0)
def ir (us:List Int) (x:x7):Bool:=(List.range x.k9.length).all (yI us x)
def gC (us:List Int) (x:x7):Bool:=C7 [2] us x.author && N3 x.o6 && A0 x.state 1 4 && (decide (x.state > 1) == D9 us x.k9)
def fw (us:List Int) (x:x7):Bool:=ir us x && gC us x
def z5 (l:List x7):Nat:=(l.filter fun x=>decide (x.state=3)).length
def L5 (b:b9):Bool:=b.a7.all (fw b.k8) && decide (z5 b.a7<=1)
def bP (l:List A1) (i:Nat):Int:=if i=0 then -1 else (l.getD (i - 1) o8).seq
def kl (b:b9) (i:Nat):Bool :=
 decide (bP b.log i < (b.log.getD i o8).seq) && decide ((b.log.getD i o8).seq < b.next) && A0 (b.log.getD i o8).recipe 0 (b.a7.length - 1) && A0 (b.log.getD i o8).part 0 1099511627776 &&
  (decide ((I3 (b.a7.getD (b.log.getD i o8).recipe.toNat n5).o6 (b.log.getD i o8).j8).2.2=0) && decide ((I3 (b.a7.getD (b.log.getD i o8).recipe.toNat n5).o6 (b.log.getD i o8).j8).2.1=(b.log.getD i o8).H8) &&
   !decide ((b.a7.getD (b.log.getD i o8).recipe.toNat n5).state=1))
def U1 (b:b9):Bool:=(List.range b.log.length).all (kl b)
def A8 (b:b9):Bool:=bI b && cC b && L5 b && U1 b
def yJ (x:x7):Bool:=decide (x.k9.length<=30)
def yK (s:A1):Bool:=decide (s.j8.length<=100)
def sR (b:b9):Bool:=decide (b.k8.length<=30) && decide (b.a7.length<=30) && decide (b.log.length<=50) && b.a7.all yJ && b.log.all yK
theorem qx {b:b9} (h:sR b=true):b.k8.length<=30/\b.a7.length<=30/\b.log.length<=50/\(∀ i,(b.a7.getD i n5).k9.length<=30)/\∀ i,(b.log.getD i o8).j8.length<=100:=by
 simp only [sR,Bool.and_eq_true,decide_eq_true_eq,List.all_eq_true,yJ,yK] at h
 obtain ⟨⟨⟨⟨h1,h2⟩,h3⟩,h4⟩,h5⟩:=h
 refine ⟨h1,h2,h3,fun i=>?_,fun i=>?_⟩
 ·by_cases hi:i < b.a7.length
  ·simp only [List.getD,List.getElem?_eq_getElem hi,Option.getD_some]
   exact h4 _ (List.getElem_mem hi)
  ·rw [List.getD,List.getElem?_eq_none (by omega)];exact Nat.zero_le _
 ·by_cases hi:i < b.log.length
  ·simp only [List.getD,List.getElem?_eq_getElem hi,Option.getD_some]
   exact h5 _ (List.getElem_mem hi)
  ·rw [List.getD,List.getElem?_eq_none (by omega)];exact Nat.zero_le _
theorem T5 {p:Nat->Bool} {n:Nat}:(List.range n).all p=true↔∀ i,i < n->p i=true:=by
 rw [List.all_eq_true]
 exact ⟨fun h i hi=>h i (List.mem_range.2 hi),fun h i hi=>h i (List.mem_range.1 hi)⟩
theorem dv {p:Nat->Bool} {n i:Nat} (hi:i < n) (h:p i=false):(List.range n).all p=false:=by
 rw [List.all_eq_false]
 exact ⟨i,List.mem_range.2 hi,by rw [h];decide⟩
theorem qy {α:Type} {p:α->Bool} {l:List α} {d:α}:l.all p=true↔∀ i,i < l.length->p (l.getD i d)=true:=by
 rw [List.all_eq_true]
 refine ⟨fun h i hi=>?_,fun h x hx=>?_⟩
 ·simp only [List.getD,List.getElem?_eq_getElem hi,Option.getD_some]
  exact h _ (List.getElem_mem hi)
 ·obtain ⟨i,hi,rfl⟩:=List.getElem_of_mem hx
  have:=h i hi
  simpa [List.getD,List.getElem?_eq_getElem hi] using this
theorem Bn {α:Type} {p:α->Bool} {l:List α} {d:α} {i:Nat} (hi:i < l.length) (h:p (l.getD i d)=false):l.all p=false:=by
 rw [List.all_eq_false]
 refine ⟨l.getD i d,?_,by rw [h];decide⟩
 simp only [List.getD,List.getElem?_eq_getElem hi,Option.getD_some]
 exact List.getElem_mem hi
theorem qz {us:List Int} {x:x7} (h:ir us x=true):x.k9.length<=us.length:=by
 have h:=T5.1 h
 have k:∀ i,i < x.k9.length->(i:Int)<=x.k9.getD i 0/\x.k9.getD i 0 < us.length:=by
  intro i
  induction i with
  | zero =>
   intro hi
   have:=h 0 hi
   simp only [yI,C7,A0,Bool.and_eq_true,decide_eq_true_eq,fv] at this
   omega
  | succ i ih =>
   intro hi
   have a:=ih (by omega)
   have:=h (i + 1) hi
   have ep:fv x.k9 (i + 1)=x.k9.getD i 0:=by simp [fv]
   unfold yI at this
   rw [ep] at this
   simp only [C7,A0,Bool.and_eq_true,decide_eq_true_eq] at this
   omega
 rcases Nat.eq_zero_or_pos x.k9.length with h0|h0
 ·omega
 ·have:=k (x.k9.length - 1) (by omega)
  omega

end Go.Proofs.Tryz.My
