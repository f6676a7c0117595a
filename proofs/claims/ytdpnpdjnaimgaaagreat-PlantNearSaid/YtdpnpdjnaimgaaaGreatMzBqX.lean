/- A helper text: contracts of functions of the program, and plain lemmas. -/
import Derived.Test.YtdpnpdjnaimgaaaGreatEvSix
import Derived.Test.YtdpnpdjnaimgaaaGreatMzBkB
import Derived.Test.YtdpnpdjnaimgaaaGreatMzBk1
import Derived.Test.YtdpnpdjnaimgaaaGreatMzBkA
import Derived.Test.YtdpnpdjnaimgaaaGreatMzGdE
import Derived.Test.YtdpnpdjnaimgaaaGreatMzGdD
set_option maxRecDepth 100000
set_option maxHeartbeats 0
set_option linter.unusedVariables false
set_option linter.unusedSimpArgs false
namespace Go.Proofs.Tryz.My
open Go Go.Ev
abbrev rcp (x:RecT):AV := .agg (eRec x)
abbrev ent (s:EntT):AV := .agg (eEnt s)
def eqF {α:Type} (p:α->α->Bool) (d:α) (l m:List α):Bool:=decide ((l.length:Int)=m.length) && (List.range l.length).all fun i=>p (l.getD i d) (m.getD i d)
def eqI (l m:List Int):Bool:=eqF (fun a b=>decide (a=b)) 0 l m
def b2d (g h:GauT):Prop:=gThr g=gThr h/\gNoi g=gNoi h/\(gSc g).1.1=(gSc h).1.1/\(gSc g).1.2=(gSc h).1.2/\(gSc g).2.1=(gSc h).2.1/\(gSc g).2.2=(gSc h).2.2/\g.1.2.1=h.1.2.1/\g.1.2.2=h.1.2.2/\g.2.1=h.2.1/\g.2.2=h.2.2
instance (g h:GauT):Decidable (b2d g h):=by unfold b2d; infer_instance
def b5t (x y:RecT):Bool:=decide (x.author=y.author) && (decide (b2d x.gauge y.gauge) && (decide (x.state=y.state) && eqI x.appr y.appr))
def b5u (x y:EntT):Bool:=decide (x.seq=y.seq) && (decide (x.recipe=y.recipe) && (decide (x.part=y.part) && (decide (x.verdict=y.verdict) && ((x.disputed == y.disputed) && eqI x.profile y.profile))))
def b5v (b c:BooksT):Bool:=decide (b.keep=c.keep) && (decide (b.next=c.next) && (eqI b.users c.users && (eqF b5t rec0 b.recipes c.recipes && eqF b5u ent0 b.log c.log)))
def cnt3 (us l:List Int):Nat:=(l.filter (mayB [3] us)).length
abbrev newB (k:Int):AV := .agg [i64 k,.nils,.nils,i64 0,.nils]
def newK (keep:Int):Int:=if n8 keep 1 32 then keep else 0
def newE (keep:Int):Int:=if n8 keep 1 32 then 0 else 2
theorem b4X (keep:Int):PC Tryz.prog 55 [i64 keep] (.tup [newB (newK keep),i64 (newE keep)]):=by
  refine a7 hm Tryz.func55 (by kernel_rfl) ?_
  conv=>whnf
  have c1:PC Tryz.prog 105 [i64 1,i64 32,i64 keep] (.bool (decide (1<=keep) && decide (keep<=32))):=y0 _ _ _
  (repeat' first|(refine ansS (fun hh=>?_) (fun hh=>?_)<;>(try simp only [ansX] at hh)<;>first|(exfalso;first|omega|(simp [*] at hh;done)|(revert hh;decide))|exact absurd (by assumption) hh|conv=>whnf)|((first|refine kR ?_|refine aB ?_|refine aL ?_|refine aN ?_|((try (refine Or.inl ?_;conv=>whnf));(try (refine ⟨false,?_⟩;conv=>whnf));refine ⟨_,by exact c1,?_⟩)|fail);conv=>whnf))
  all_goals first
    | (have hw:n8 keep 1 32=true:=by simp only [n8,Bool.and_eq_true,decide_eq_true_eq]; omega
       unfold newK newE
       rw [if_pos hw,if_pos hw])
    | (have hw:¬n8 keep 1 32=true:=by simp only [n8,Bool.and_eq_true,decide_eq_true_eq]; omega
       unfold newK newE
       rw [if_neg hw,if_neg hw])
   
theorem Q4 {α:Type} {d:α}:∀ (l:List α) (i:Nat),l.set i (l.getD i d)=l
 | [],_=>rfl
 | a :: l,0=>rfl
 | a :: l,i + 1=>by
  show a :: l.set i (l.getD i d)=_
  rw [Q4 l i]
def b5P (us:List Int):Prop:=∀ i,i < us.length->1<=us.getD i 0/\us.getD i 0<=3
def rcpB (b:BooksT):Bool:=decide ((b.users.length:Int)<=16) && decide ((b.recipes.length:Int)<=16) && (R8 b && B7 b)

end Go.Proofs.Tryz.My
