/- Helper lemmas. -/
import Derived.Test.YtdpnpdjnaimgaaaGreatMzGdE
set_option linter.unusedVariables false
set_option linter.unusedSimpArgs false
set_option maxRecDepth 100000
set_option maxHeartbeats 0
namespace Go.Proofs.Tryz.My
open Go Go.Ev
structure A9 where
 author:Int
 b9:x8
 B0:List Int
 state:Int
structure B8 where
 seq:Int
 recipe:Int
 part:Int
 o9:List Int
 o6:Int
 disputed:Bool
structure o7 where
 keep:Int
 p9:List Int
 b8:List A9
 next:Int
 log:List B8
abbrev e8 (n:Int):List AV:=[u8 n]
abbrev Iy (l:List Int):AV := .sl 1 0 e8 l
def ao:x8:=((((0,0),((0,0),(0,0))),(0,0)),(0,0))
def r9:A9:=⟨0,ao,[],0⟩
def w9:B8:=⟨0,0,0,[],0,false⟩
def eJ (r:A9):List AV:=[i64 r.author,i64 (H8 r.b9),i64 (D9 r.b9),i64 (J5 r.b9).1.1,i64 (J5 r.b9).1.2,i64 (J5 r.b9).2.1,i64 (J5 r.b9).2.2,i64 r.b9.1.2.1,i64 r.b9.1.2.2,i64 r.b9.2.1,i64 r.b9.2.2,C8 r.B0,u8 r.state]
def V9 (s:B8):List AV:=[i64 s.seq,i64 s.recipe,i64 s.part,C8 s.o9,u8 s.o6,.bool s.disputed]
abbrev pJ (l:List A9):AV := .sl 13 r9 eJ l
abbrev mw (l:List B8):AV := .sl 6 w9 V9 l
def eB (b:o7):List AV:=[i64 b.keep,Iy b.p9,pJ b.b8,i64 b.next,mw b.log]
abbrev au (b:o7):AV := .agg (eB b)
def I7 (Uy:List Int) (us:List Int) (u:Int):Bool:=D1 u 0 (us.length - 1) && Uy.contains (us.getD u.toNat 0)
def gG (b:o7):Bool:=D1 b.keep 1 32 && D1 b.next 0 1099511627776 && decide ((b.p9.length:Int)<=16) && decide ((b.b8.length:Int)<=16) && decide ((b.log.length:Int)<=b.keep)
def tN (r:Int):Bool:=decide (r < 1) || decide (r > 3)
def iT (b:o7):Bool := !b.p9.any tN
def K8 (us:List Int) (l:List Int):Bool:=decide ((l.length:Int) > 1) && l.any (I7 [3] us)
def my (l:List Int) (i:Nat):Int:=if i=0 then -1 else l.getD (i - 1) 0
def Kx (us:List Int) (x:A9) (i:Nat):Bool:=decide (my x.B0 i < x.B0.getD i 0) && !decide (x.B0.getD i 0=x.author) && I7 [2,3] us (x.B0.getD i 0)
def pg (us:List Int) (x:A9):Bool:=(List.range x.B0.length).all (Kx us x)
def nH (us:List Int) (x:A9):Bool:=I7 [2] us x.author && S6 x.b9 && D1 x.state 1 4 && (decide (x.state > 1) == K8 us x.B0)
def mz (us:List Int) (x:A9):Bool:=pg us x && nH us x
def C4 (l:List A9):Nat:=(l.filter fun x=>decide (x.state=3)).length
def T8 (b:o7):Bool:=b.b8.all (mz b.p9) && decide (C4 b.b8<=1)
def hH (l:List B8) (i:Nat):Int:=if i=0 then -1 else (l.getD (i - 1) w9).seq
def rS (b:o7) (i:Nat):Bool :=
 decide (hH b.log i < (b.log.getD i w9).seq) && decide ((b.log.getD i w9).seq < b.next) && D1 (b.log.getD i w9).recipe 0 (b.b8.length - 1) && D1 (b.log.getD i w9).part 0 1099511627776 &&
  (decide ((F8 (b.b8.getD (b.log.getD i w9).recipe.toNat r9).b9 (b.log.getD i w9).o9).2.2=0) && decide ((F8 (b.b8.getD (b.log.getD i w9).recipe.toNat r9).b9 (b.log.getD i w9).o9).2.1=(b.log.getD i w9).o6) &&
   !decide ((b.b8.getD (b.log.getD i w9).recipe.toNat r9).state=1))
def bM (b:o7):Bool:=(List.range b.log.length).all (rS b)
def E1 (b:o7):Bool:=gG b && iT b && T8 b && bM b
theorem ah {p:Nat->Bool} {n:Nat}:(List.range n).all p=true↔∀ i,i < n->p i=true:=by
 rw [List.all_eq_true]
 exact ⟨fun h i hi=>h i (List.mem_range.2 hi),fun h i hi=>h i (List.mem_range.1 hi)⟩
theorem eL {p:Nat->Bool} {n i:Nat} (hi:i < n) (h:p i=false):(List.range n).all p=false:=by
 rw [List.all_eq_false]
 exact ⟨i,List.mem_range.2 hi,by rw [h];decide⟩
theorem mA {α:Type} {p:α->Bool} {l:List α} {d:α}:l.all p=true↔∀ i,i < l.length->p (l.getD i d)=true:=by
 rw [List.all_eq_true]
 refine ⟨fun h i hi=>?_,fun h x hx=>?_⟩
 ·simp only [List.getD,List.getElem?_eq_getElem hi,Option.getD_some]
  exact h _ (List.getElem_mem hi)
 ·obtain ⟨i,hi,rfl⟩:=List.getElem_of_mem hx
  have:=h i hi
  simpa [List.getD,List.getElem?_eq_getElem hi] using this
theorem NT {α:Type} {p:α->Bool} {l:List α} {d:α} {i:Nat} (hi:i < l.length) (h:p (l.getD i d)=false):l.all p=false:=by
 rw [List.all_eq_false]
 refine ⟨l.getD i d,?_,by rw [h];decide⟩
 simp only [List.getD,List.getElem?_eq_getElem hi,Option.getD_some]
 exact List.getElem_mem hi
theorem zY {us:List Int} {x:A9} (h:pg us x=true):x.B0.length<=us.length:=by
 have h:=ah.1 h
 have k:∀ i,i < x.B0.length->(i:Int)<=x.B0.getD i 0/\x.B0.getD i 0 < us.length:=by
  intro i
  induction i with
  | zero =>
   intro hi
   have:=h 0 hi
   simp only [Kx,I7,D1,Bool.and_eq_true,decide_eq_true_eq,my] at this
   omega
  | succ i ih =>
   intro hi
   have a:=ih (by omega)
   have:=h (i + 1) hi
   have ep:my x.B0 (i + 1)=x.B0.getD i 0:=by simp [my]
   unfold Kx at this
   rw [ep] at this
   simp only [I7,D1,Bool.and_eq_true,decide_eq_true_eq] at this
   omega
 rcases Nat.eq_zero_or_pos x.B0.length with h0|h0
 ·omega
 ·have:=k (x.B0.length - 1) (by omega)
  omega

end Go.Proofs.Tryz.My
