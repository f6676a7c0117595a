/- A helper text: contracts of functions of the program, and plain lemmas. -/
import Derived.Test.YtdpnpdjnaimgaaaGreatMzGn0
import Derived.Test.YtdpnpdjnaimgaaaGreatMzGaX
import Derived.Test.YtdpnpdjnaimgaaaGreatMzGdD
import Derived.Test.YtdpnpdjnaimgaaaGreatMzEaA
import Derived.Test.YtdpnpdjnaimgaaaGreatMzGdE
set_option maxRecDepth 100000
set_option maxHeartbeats 0
set_option linter.unusedVariables false
set_option linter.unusedSimpArgs false
namespace Go.Proofs.Tryz.My
open Go Go.Ev
def byQ (moves:List Int) (noise:Int) (i:Nat):Int:=if i < moves.length then Int.tmod (moves.getD i 0) (4 * noise + 1) else 0
def b5s (v:Int):Int:=if (if v > 0 then v else 0) < 1020 then (if v > 0 then v else 0) else 1020
def valQ (p moves:List Int) (noise:Int) (i:Nat):Int:=b5s (4 * p.getD i 0 + byQ moves noise i)
def alwL (p moves:List Int) (noise:Int):List Int:=(List.range p.length).map (valQ p moves noise)
def sclL (p:List Int):List Int:=p.map (fun v=>4 * v)
def fstN (q:List Int) (thr a:Int):Int×Int×Bool :=
 match brk q thr a 1 with
 | none=>(0,1,false)
 | some k=>((A1 q thr a 1 k).1,(A1 q thr a 1 k).2,true)
def bigL (q:List Int):Prop:=∀ i,i < q.length->0<=q.getD i 0/\q.getD i 0<=1020
def holB (s:SpT) (n d:Int):Bool:=decide ((w9 n d).2=0) && (k7 s && b9 (w9 n d).1 && hasB s (w9 n d).1)
abbrev b5N (g:GauT) (t:SpT):GauT:=((g.1.1,t.1),t.2)
abbrev b5O (g:GauT) (n:Int):GauT:=((((g.1.1.1.1,n),g.1.1.2),g.1.2),g.2)
def smQ (A B:Int) (x:Rat):Prop:=∃ n d:Int,x=(n:Rat) / (d:Rat) /\ -A<=n/\n<=A/\0 < d/\d<=B
structure RecT where
 author:Int
 gauge:GauT
 appr:List Int
 state:Int
structure EntT where
 seq:Int
 recipe:Int
 part:Int
 profile:List Int
 verdict:Int
 disputed:Bool
structure BooksT where
 keep:Int
 users:List Int
 recipes:List RecT
 next:Int
 log:List EntT
abbrev e8 (n:Int):List AV:=[u8 n]
abbrev u8l (l:List Int):AV := .sl 1 0 e8 l
def gau0:GauT:=((((0,0),((0,0),(0,0))),(0,0)),(0,0))
def rec0:RecT:=⟨0,gau0,[],0⟩
def ent0:EntT:=⟨0,0,0,[],0,false⟩
def b5I:BooksT:=⟨0,[],[],0,[]⟩
def eRec (r:RecT):List AV:=[i64 r.author,i64 (gThr r.gauge),i64 (gNoi r.gauge),i64 (gSc r.gauge).1.1,i64 (gSc r.gauge).1.2,i64 (gSc r.gauge).2.1,i64 (gSc r.gauge).2.2,i64 r.gauge.1.2.1,i64 r.gauge.1.2.2,i64 r.gauge.2.1,i64 r.gauge.2.2,ints r.appr,u8 r.state]
def eEnt (s:EntT):List AV:=[i64 s.seq,i64 s.recipe,i64 s.part,ints s.profile,u8 s.verdict,.bool s.disputed]
abbrev recs (l:List RecT):AV := .sl 13 rec0 eRec l
abbrev ents (l:List EntT):AV := .sl 6 ent0 eEnt l
def eB (b:BooksT):List AV:=[i64 b.keep,u8l b.users,recs b.recipes,i64 b.next,ents b.log]
abbrev bks (b:BooksT):AV := .agg (eB b)
def mayB (roles:List Int) (us:List Int) (u:Int):Bool:=n8 u 0 (us.length - 1) && roles.contains (us.getD u.toNat 0)
def U5 (b:BooksT):Bool:=n8 b.keep 1 32 && n8 b.next 0 1099511627776 && decide ((b.users.length:Int)<=16) && decide ((b.recipes.length:Int)<=16) && decide ((b.log.length:Int)<=b.keep)
def oddR (r:Int):Bool:=decide (r < 1) || decide (r > 3)
def R8 (b:BooksT):Bool := !b.users.any oddR
def x7 (us:List Int) (l:List Int):Bool:=decide ((l.length:Int) > 1) && l.any (mayB [3] us)
def a06 (l:List Int) (i:Nat):Int:=if i=0 then -1 else l.getD (i - 1) 0
def okA (us:List Int) (x:RecT) (i:Nat):Bool:=decide (a06 x.appr i < x.appr.getD i 0) && !decide (x.appr.getD i 0=x.author) && mayB [2,3] us (x.appr.getD i 0)
def a1Z (us:List Int) (x:RecT):Bool:=(List.range x.appr.length).all (okA us x)
def a1x (us:List Int) (x:RecT):Bool:=mayB [2] us x.author && gauB x.gauge && n8 x.state 1 4 && (decide (x.state > 1) == x7 us x.appr)
def recB (us:List Int) (x:RecT):Bool:=a1Z us x && a1x us x
def o9 (l:List RecT):Nat:=(l.filter fun x=>decide (x.state=3)).length
def B7 (b:BooksT):Bool:=b.recipes.all (recB b.users) && decide (o9 b.recipes<=1)
def V6 (l:List EntT) (i:Nat):Int:=if i=0 then -1 else (l.getD (i - 1) ent0).seq
def entB (b:BooksT) (i:Nat):Bool :=
 decide (V6 b.log i < (b.log.getD i ent0).seq) && decide ((b.log.getD i ent0).seq < b.next) && n8 (b.log.getD i ent0).recipe 0 (b.recipes.length - 1) && n8 (b.log.getD i ent0).part 0 1099511627776 &&
  (decide ((meaF (b.recipes.getD (b.log.getD i ent0).recipe.toNat rec0).gauge (b.log.getD i ent0).profile).2.2=0) && decide ((meaF (b.recipes.getD (b.log.getD i ent0).recipe.toNat rec0).gauge (b.log.getD i ent0).profile).2.1=(b.log.getD i ent0).verdict) &&
   !decide ((b.recipes.getD (b.log.getD i ent0).recipe.toNat rec0).state=1))
def J0 (b:BooksT):Bool:=(List.range b.log.length).all (entB b)
def chkB (b:BooksT):Bool:=U5 b && R8 b && B7 b && J0 b
def b4U (x:RecT):Bool:=decide (x.appr.length<=30)
def b4V (s:EntT):Bool:=decide (s.profile.length<=100)
def b4W (b:BooksT):Bool:=decide (b.users.length<=30) && decide (b.recipes.length<=30) && decide (b.log.length<=50) && b.recipes.all b4U && b.log.all b4V
theorem M0 {p:Nat->Bool} {n:Nat}:(List.range n).all p=true↔∀ i,i < n->p i=true:=by
 rw [List.all_eq_true]
 exact ⟨fun h i hi=>h i (List.mem_range.2 hi),fun h i hi=>h i (List.mem_range.1 hi)⟩
theorem a0q {p:Nat->Bool} {n i:Nat} (hi:i < n) (h:p i=false):(List.range n).all p=false:=by
 rw [List.all_eq_false]
 exact ⟨i,List.mem_range.2 hi,by rw [h]; decide⟩
theorem a67 {α:Type} {p:α->Bool} {l:List α} {d:α}:l.all p=true↔∀ i,i < l.length->p (l.getD i d)=true:=by
 rw [List.all_eq_true]
 refine ⟨fun h i hi => ?_,fun h x hx => ?_⟩
 ·simp only [List.getD,List.getElem?_eq_getElem hi,Option.getD_some]
  exact h _ (List.getElem_mem hi)
 ·obtain ⟨i,hi,rfl⟩:=List.getElem_of_mem hx
  have:=h i hi
  simpa [List.getD,List.getElem?_eq_getElem hi] using this
theorem b3J {α:Type} {p:α->Bool} {l:List α} {d:α} {i:Nat} (hi:i < l.length) (h:p (l.getD i d)=false):l.all p=false:=by
 rw [List.all_eq_false]
 refine ⟨l.getD i d,?_,by rw [h]; decide⟩
 simp only [List.getD,List.getElem?_eq_getElem hi,Option.getD_some]
 exact List.getElem_mem hi
theorem a68 {us:List Int} {x:RecT} (h:a1Z us x=true):x.appr.length<=us.length:=by
 have h:=M0.1 h
 have k:∀ i,i < x.appr.length->(i:Int)<=x.appr.getD i 0/\x.appr.getD i 0 < us.length:=by
  intro i
  induction i with
  | zero =>
   intro hi
   have:=h 0 hi
   simp only [okA,mayB,n8,Bool.and_eq_true,decide_eq_true_eq,a06] at this
   omega
  | succ i ih =>
   intro hi
   have a:=ih (by omega)
   have:=h (i + 1) hi
   have ep:a06 x.appr (i + 1)=x.appr.getD i 0:=by simp [a06]
   unfold okA at this
   rw [ep] at this
   simp only [mayB,n8,Bool.and_eq_true,decide_eq_true_eq] at this
   omega
 rcases Nat.eq_zero_or_pos x.appr.length with h0 | h0
 ·omega
 ·have:=k (x.appr.length - 1) (by omega)
  omega

end Go.Proofs.Tryz.My
