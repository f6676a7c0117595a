/- A helper text: contracts of functions of the program, and plain lemmas. -/
import Derived.Test.YtdpnpdjnaimgaaaGreatEvSix
import Derived.Test.YtdpnpdjnaimgaaaGreatMzWyB
import Derived.Test.YtdpnpdjnaimgaaaGreatMzWxB
import Derived.Test.YtdpnpdjnaimgaaaGreatEvDel
import Derived.Test.YtdpnpdjnaimgaaaGreatEvNine
set_option maxRecDepth 100000
set_option maxHeartbeats 0
set_option linter.unusedVariables false
set_option linter.unusedSimpArgs false
namespace Go.Proofs.Tryz.My
open Go Go.Ev
def mpK {α:Type} (f:α->α) (l:List α) (k:Nat):List α:=(l.take k).map f++l.drop k
theorem b39 {α:Type} (f:α->α) (l:List α) (k:Nat):(mpK f l k).length=l.length:=by
 unfold mpK
 rw [List.length_append,List.length_map,List.length_take,List.length_drop]
 omega
theorem b2X {α:Type} (f:α->α) {l:List α} {d:α} {k:Nat} (hk:k < l.length):(mpK f l k).getD k d=l.getD k d:=by
 have h:((l.take k).map f).length=k:=by rw [List.length_map,List.length_take]; omega
 unfold mpK
 simp only [List.getD]
 rw [List.getElem?_append_right (by omega),h,List.getElem?_drop]
 simp
theorem b4a {α:Type} (f:α->α) {l:List α} {d:α} {k:Nat} (hk:k < l.length):(mpK f l k).set k (f (l.getD k d))=mpK f l (k + 1):=by
 have h:((l.take k).map f).length=k:=by rw [List.length_map,List.length_take]; omega
 unfold mpK
 rw [List.set_append_right _ _ (by omega),h,Nat.sub_self,List.take_add_one,List.getElem?_eq_getElem hk,List.map_append,List.append_assoc,l0 hk,List.drop_eq_getElem_cons hk]
 rfl
theorem b4b {α:Type} (f:α->α) (l:List α):mpK f l l.length=l.map f:=by
 unfold mpK
 rw [List.take_length,List.drop_length,List.append_nil]
theorem b4c (l:List ThingT) (k:Nat) (hk:k < l.length) (kind user number n role:Int) (gauge:GauT) (tru noise:List Int) (op:Bool) (b:BeltT) (hb:(1<=b.gate/\b.gate<=1000000)/\(0<=(l.getD k b8).len/\(l.getD k b8).len<=1000000)) (hf:(0<=(l.getD k b8).front/\(l.getD k b8).front<=4000002000)/\(0<=n/\n<=100000)) :
    PW Tryz.prog 220 [.ptr 0 7 k 0,.pt (ordL kind user number n role gauge tru noise) 0,.pt [.bool op] 0,.pt (b2w b) 0] [.vec 76 7 b8 x9 l] (.tup []) [.vec 76 7 b8 x9 (l.set k (movT b op n (l.getD k b8)))]:=by
  have wf:IntKind.i64.wrap ((l.getD k b8).front + n)=(l.getD k b8).front + n:=w64 _ (by omega) (by omega)
  have wg:IntKind.i64.wrap (b.gate + (l.getD k b8).len)=b.gate + (l.getD k b8).len:=w64 _ (by omega) (by omega)
  have eM:movT b op n (l.getD k b8)=⟨(l.getD k b8).id,IntKind.i64.wrap ((l.getD k b8).front + n),(l.getD k b8).len,(l.getD k b8).verdict,(l.getD k b8).due,(l.getD k b8).seq,(l.getD k b8).out || (op && (decide (b.gate<=IntKind.i64.wrap ((l.getD k b8).front + n)) && decide ((l.getD k b8).front<=IntKind.i64.wrap (b.gate + (l.getD k b8).len))))⟩:=by
    unfold movT
    rw [wf,wg]
  rw [eM]
  clear eM
  refine a9 hm Tryz.func220 (by kernel_rfl) ⟨by kernel_rfl,?_⟩
  conv=>whnf
  (repeat' first|(refine ansS (fun hh=>?_) (fun hh=>?_)<;>(try simp only [ansX] at hh)<;>first|(exfalso;first|omega|(simp [*] at hh;done)|(revert hh;decide))|exact absurd (by assumption) hh|conv=>whnf)|((first|refine kR ?_|refine aM ?_|refine aL ?_|refine aN ?_|refine aT ?_|fail);conv=>whnf))
  refine ⟨⟨(l.getD k b8).id,IntKind.i64.wrap ((l.getD k b8).front + n),(l.getD k b8).len,(l.getD k b8).verdict,(l.getD k b8).due,(l.getD k b8).seq,(l.getD k b8).out⟩,rfl,hk,?_⟩
  generalize hL:l.set k ⟨(l.getD k b8).id,IntKind.i64.wrap ((l.getD k b8).front + n),(l.getD k b8).len,(l.getD k b8).verdict,(l.getD k b8).due,(l.getD k b8).seq,(l.getD k b8).out⟩=L
  have hg:L.getD k b8=⟨(l.getD k b8).id,IntKind.i64.wrap ((l.getD k b8).front + n),(l.getD k b8).len,(l.getD k b8).verdict,(l.getD k b8).due,(l.getD k b8).seq,(l.getD k b8).out⟩:=by rw [<- hL]; exact P1 hk
  have hkL:k < L.length:=by rw [<- hL,List.length_set]; exact hk
  conv=>whnf
  (repeat' first|(refine ansS (fun hh=>?_) (fun hh=>?_)<;>(try simp only [ansX] at hh)<;>first|(exfalso;first|omega|(simp [*] at hh;done)|(revert hh;decide))|exact absurd (by assumption) hh|conv=>whnf)|((first|refine kR ?_|refine aM ?_|refine aL ?_|refine aN ?_|refine aT ?_|fail);conv=>whnf))
  all_goals first
    | (refine ⟨⟨(L.getD k b8).id,(L.getD k b8).front,(L.getD k b8).len,(L.getD k b8).verdict,(L.getD k b8).due,(L.getD k b8).seq,true⟩,rfl,hkL,?_⟩
       conv=>whnf
       refine ⟨by kernel_rfl,?_⟩
       conv=>whnf
       refine ⟨[],by kernel_rfl,?_⟩
       conv=>whnf
       refine ⟨rfl,?_⟩
       refine congrArg (fun z=>[Row.vec 76 7 b8 x9 z]) (a₁:=L.set k _) ?_
       rw [<- hL,List.set_set]
       simp only [hg] at *
       clear wf wg hb hf hL
       generalize l.getD k b8=x at *
       simp [*])
    | (refine ⟨⟨(L.getD k b8).id,(L.getD k b8).front,(L.getD k b8).len,(L.getD k b8).verdict,(L.getD k b8).due,(L.getD k b8).seq,decide ((l.getD k b8).front<=IntKind.i64.wrap (b.gate + (L.getD k b8).len))⟩,rfl,hkL,?_⟩
       conv=>whnf
       refine ⟨by kernel_rfl,?_⟩
       conv=>whnf
       refine ⟨[],by kernel_rfl,?_⟩
       conv=>whnf
       refine ⟨rfl,?_⟩
       refine congrArg (fun z=>[Row.vec 76 7 b8 x9 z]) (a₁:=L.set k _) ?_
       rw [<- hL,List.set_set]
       simp only [hg] at *
       clear wf wg hb hf hL
       generalize l.getD k b8=x at *
       simp [*])
    | (refine ⟨⟨(L.getD k b8).id,(L.getD k b8).front,(L.getD k b8).len,(L.getD k b8).verdict,(L.getD k b8).due,(L.getD k b8).seq,false⟩,rfl,hkL,?_⟩
       conv=>whnf
       refine ⟨by kernel_rfl,?_⟩
       conv=>whnf
       refine ⟨[],by kernel_rfl,?_⟩
       conv=>whnf
       refine ⟨rfl,?_⟩
       refine congrArg (fun z=>[Row.vec 76 7 b8 x9 z]) (a₁:=L.set k _) ?_
       rw [<- hL,List.set_set]
       simp only [hg] at *
       clear wf wg hb hf hL
       generalize l.getD k b8=x at *
       simp [*])
   
theorem a7Y (l:List ThingT) (hl:l.length<=32) (kind user number n role:Int) (gauge:GauT) (tru noise:List Int) (op:Bool) (b:BeltT) (hb:∀ i,i < l.length->(1<=b.gate/\b.gate<=1000000)/\(0<=(l.getD i b8).len/\(l.getD i b8).len<=1000000)) (hf:∀ i,i < l.length->(0<=(l.getD i b8).front/\(l.getD i b8).front<=4000002000)/\(0<=n/\n<=100000)) :
  PW Tryz.prog 219 [thgs l,.fn (.func 220) [] [.pt (ordL kind user number n role gauge tru noise) 0,.pt [.bool op] 0,.pt (b2w b) 0]] [] (.own 0) [.vec 76 7 b8 x9 (l.map (movT b op n))]:=by
 refine a9 hm Tryz.func219 (by kernel_rfl) ⟨by kernel_rfl,?_⟩
 conv=>whnf
 (refine Or.inr ⟨[ ],[ 8 ],by kernel_rfl,?_⟩; (conv=>whnf); refine ⟨[ ],_,_,_,_,⟨ a3v l (by omega),rfl,rfl,by kernel_rfl⟩,?_⟩)
 conv=>whnf
 refine Or.inr ⟨Nat,[11],[8],[],fun k=>[i64 k],fun k=>[.vec 76 7 b8 x9 (mpK (movT b op n) l k)],fun _=>[],fun k=>l.length - k,fun k=>k<=l.length,?_⟩
 conv=>whnf
 refine ⟨⟨0,?_⟩,?_⟩
 ·(conv=>whnf)
  exact ⟨⟨Nat.zero_le _,rfl,rfl,rfl⟩,by kernel_rfl,by kernel_rfl⟩
 intro k hk
 conv=>whnf
 refine ⟨fun h => ?_,fun h => ?_⟩
 ·have h:=of_decide_eq_true h
  have hkk:k < l.length:=by omega
  have ln:=b39 (movT b op n) l k
  have g:=b2X (movT b op n) (d:=b8) hkk
  have st:=b4a (movT b op n) (d:=b8) hkk
  have c:=b4c (mpK (movT b op n) l k) k (by omega) kind user number n role gauge tru noise op b (by rw [g]; exact hb k hkk) (by rw [g]; exact hf k hkk)
  rw [g,st] at c
  conv=>whnf
  (repeat' first|(refine ansS (fun hh=>?_) (fun hh=>?_)<;>(try simp only [ansX] at hh)<;>first|(exfalso;first|omega|(simp [*] at hh;done)|(revert hh;decide))|exact absurd (by assumption) hh|conv=>whnf)|((first|refine kR ?_|refine aM ?_|refine aL ?_|refine aN ?_|refine aT ?_|fail);conv=>whnf))
  (refine Or.inr ⟨[ ],[ ],by kernel_rfl,?_⟩; (conv=>whnf); refine ⟨[ 8 ],_,_,_,_,⟨ c,rfl,rfl,by kernel_rfl⟩,?_⟩)
  conv=>whnf
  refine ⟨k + 1,?_⟩
  conv=>whnf
  refine ⟨⟨⟨?_,?_⟩,?_,rfl,rfl⟩,by kernel_rfl,by kernel_rfl⟩
  ·show l.length - (k + 1) < l.length - k; omega
  ·show k + 1<=l.length; omega
  ·rw [w64 _ (by omega) (by omega)]; rfl
 ·have h:=of_decide_eq_false h
  obtain rfl:k=l.length:=by omega
  rw [b4b]
  conv=>whnf
  refine ⟨[8],by kernel_rfl,?_⟩
  conv=>whnf
  exact ⟨rfl,rfl⟩
theorem b4d (x:ThingT) (f:FateT) (h:x.id=f.id):PC Tryz.prog 222 [.agg (x9 x),.pt (a7C f) 0] (.bool true):=by
 have e:AV.bool (decide (x.id=f.id)) = .bool true:=by rw [decide_eq_true h]
 rw [<- e]
 refine a7 hm Tryz.func222 (by kernel_rfl) ?_
 conv=>whnf
 (repeat' first|(refine ansS (fun hh=>?_) (fun hh=>?_)<;>(try simp only [ansX] at hh)<;>first|(exfalso;first|omega|(simp [*] at hh;done)|(revert hh;decide))|exact absurd (by assumption) hh|conv=>whnf)|((first|refine kR ?_|refine aM ?_|refine aL ?_|refine aN ?_|fail);conv=>whnf))
 all_goals rfl
theorem b4e (l:List ThingT) (hl:l.length<=32) (h0:0 < l.length) (f:FateT) (h:(l.getD 0 b8).id=f.id):PC Tryz.prog 221 [thgs l,.fn (.func 222) [] [.pt (a7C f) 0]] (i64 0):=by
 have c:=b4d (l.getD 0 b8) f h
 refine a7 hm Tryz.func221 (by kernel_rfl) ?_
 conv=>whnf
 refine Or.inl ⟨1,?_⟩
 conv=>whnf
 (repeat' first|(refine ansS (fun hh=>?_) (fun hh=>?_)<;>(try simp only [ansX] at hh)<;>first|(exfalso;first|omega|(simp [*] at hh;done)|(revert hh;decide))|exact absurd (by assumption) hh|conv=>whnf)|((first|refine kR ?_|refine aM ?_|refine aL ?_|refine aN ?_|refine aT ?_|((try (refine Or.inl ?_;conv=>whnf));(try (refine ⟨false,?_⟩;conv=>whnf));refine ⟨_,by exact c,?_⟩)|fail);conv=>whnf))
 all_goals rfl
def renT:Go.Shelf.Ren:=⟨fun n=>match n with | 45=>223 | n=>n,fun t=>match t with | 22=>40 | 23=>76 | t=>t,fun n=>n⟩
theorem b5H:Go.Proofs.SlLaysE0.n45 Tryz.prog renT where
 mixed:=hm
 f45:=⟨"slices.Delete[[]sightbench/api.Thing,sightbench/api.Thing]",by kernel_rfl,by kernel_rfl⟩
 t0:=by kernel_rfl
 a0:=fun w=>by kernel_rfl
 z0:=fun w=>by kernel_rfl
 v0:=fun w=>by kernel_rfl
 t3:=by kernel_rfl
 a3:=fun w=>by kernel_rfl
 z3:=fun w=>by kernel_rfl
 v3:=fun w=>by kernel_rfl
 t4:=by kernel_rfl
 a4:=fun w=>by kernel_rfl
 z4:=fun w=>by kernel_rfl
 v4:=fun w=>by kernel_rfl
 t22:=by kernel_rfl
 a22:=fun w=>by kernel_rfl
 z22:=fun w=>by kernel_rfl
 v22:=fun w=>by kernel_rfl
theorem b2Y (l:List ThingT) (h0:0 < l.length):PW Tryz.prog 223 [.own 0,i64 0,i64 1] [.vec 76 7 b8 x9 l] (.own 1) [.none,.vec 76 7 b8 x9 (l.drop 1)] :=
 a8B b5H Tryz.func223 (by kernel_rfl) rfl (fun w=>by kernel_rfl) ((Tryz.prog.info? 76).get (by kernel_rfl)) (by kernel_rfl) (by kernel_rfl) (.agg #[.int .i64 0,.int .i64 0,.int .i64 0,.int .u8 0,.int .i64 0,.int .i64 0,.bool false]) (fun w=>by kernel_rfl) (by kernel_rfl) (fun v hv=>by
  have h:v ∈ [Value.int .i64 0,.int .i64 0,.int .i64 0,.int .u8 0,.int .i64 0,.int .i64 0,.bool false]:=hv
  simp only [List.mem_cons,List.not_mem_nil,or_false] at h
  rcases h with h | h | h | h | h | h | h<;>rw [h]<;>rfl) 76 b8 x9 (fun y j hj=>by
  match j,hj with
  | 0,_=>rfl
  | 1,_=>rfl
  | 2,_=>rfl
  | 3,_=>rfl
  | 4,_=>rfl
  | 5,_=>rfl
  | 6,_=>rfl) l 0 h0
theorem a89 (w:WorldT) (g:GoodW w) (kind user number n role:Int) (gauge:GauT) (tru noise:List Int) (h:¬cntE w n=0):PW Tryz.prog 169 [.ptr 0 0 0 0,ordX kind user number n role gauge tru noise] (plR w) (.tup [i64 0,.nils,i64 (cntE w n)]) (plR w):=by
 have bl:=z7.1 g.tk.bl
 rw [g.bl] at bl
 have wa:IntKind.i64.wrap (w.line.belt.step - w.line.belt.slip)=w.line.belt.step - w.line.belt.slip:=w64 _ (by omega) (by omega)
 have wb:IntKind.i64.wrap (w.line.belt.step + w.line.belt.slip)=w.line.belt.step + w.line.belt.slip:=w64 _ (by omega) (by omega)
 have c1:=D9 (IntKind.i64.wrap (w.line.belt.step - w.line.belt.slip)) (IntKind.i64.wrap (w.line.belt.step + w.line.belt.slip)) n
 by_cases h1:w.line.belt.step - w.line.belt.slip<=n/\n<=w.line.belt.step + w.line.belt.slip
 ·have e1:(decide (IntKind.i64.wrap (w.line.belt.step - w.line.belt.slip)<=n) && decide (n<=IntKind.i64.wrap (w.line.belt.step + w.line.belt.slip)))=true:=by rw [wa,wb,decide_eq_true h1.1,decide_eq_true h1.2]; rfl
  rw [e1] at c1
  by_cases h2:w.track.count=1099511627776
  ·have er:cntE w n=9:=by unfold cntE; rw [if_neg (fun q=>q h1),if_pos h2]
   rw [er]
   refine a9 hm Tryz.func169 (by kernel_rfl) ⟨by kernel_rfl,?_⟩
   conv=>whnf
   (repeat' first|(refine ansS (fun hh=>?_) (fun hh=>?_)<;>(try simp only [ansX] at hh)<;>first|(exfalso;first|omega|(simp [*] at hh;done)|(revert hh;decide))|exact absurd (by assumption) hh|conv=>whnf)|((first|refine kR ?_|refine aM ?_|refine aL ?_|refine aN ?_|((try (refine Or.inl ?_;conv=>whnf));(try (refine ⟨false,?_⟩;conv=>whnf));refine ⟨_,by exact c1,?_⟩)|fail);conv=>whnf))
   all_goals
    refine ⟨[],by kernel_rfl,?_⟩
    conv=>whnf
    first | exact ⟨rfl,rfl⟩
  ·exact absurd (by unfold cntE; rw [if_neg (fun q=>q h1),if_neg h2]) h
 ·have er:cntE w n=2:=by unfold cntE; rw [if_pos h1]
  have e1:(decide (IntKind.i64.wrap (w.line.belt.step - w.line.belt.slip)<=n) && decide (n<=IntKind.i64.wrap (w.line.belt.step + w.line.belt.slip)))=false:=by
   rw [wa,wb,<- Bool.decide_and,decide_eq_false h1]
  rw [e1] at c1
  rw [er]
  refine a9 hm Tryz.func169 (by kernel_rfl) ⟨by kernel_rfl,?_⟩
  conv=>whnf
  (repeat' first|(refine ansS (fun hh=>?_) (fun hh=>?_)<;>(try simp only [ansX] at hh)<;>first|(exfalso;first|omega|(simp [*] at hh;done)|(revert hh;decide))|exact absurd (by assumption) hh|conv=>whnf)|((first|refine kR ?_|refine aM ?_|refine aL ?_|refine aN ?_|((try (refine Or.inl ?_;conv=>whnf));(try (refine ⟨false,?_⟩;conv=>whnf));refine ⟨_,by exact c1,?_⟩)|fail);conv=>whnf))
  all_goals
   refine ⟨[],by kernel_rfl,?_⟩
   conv=>whnf
   first | exact ⟨rfl,rfl⟩
theorem a9a (w:WorldT) (g:GoodW w) (kind user number n role:Int) (gauge:GauT) (tru noise:List Int) (h:cntE w n=0) (hg:¬B9 (n6 w)=true):PW Tryz.prog 169 [.ptr 0 0 0 0,ordX kind user number n role gauge tru noise] (plR w) (.tup [i64 ((n6 w).count + 1),.nils,i64 0]) (plR2 ⟨w.line,advT (n6 w),w.books,w.drift,moved w n⟩):=by
 obtain ⟨h1,h2⟩:=a0c h
 obtain ⟨gt,sm⟩:=S9 g
 obtain ⟨k1,k2,k3,k4,k5⟩:=sm
 have hll:w.things.length<=32:=by rw [g.lt]; exact g.tk.ln
 have ct:=g.tk.ct
 have bl:=z7.1 g.tk.bl
 rw [g.bl] at bl
 have wa:IntKind.i64.wrap (w.line.belt.step - w.line.belt.slip)=w.line.belt.step - w.line.belt.slip:=w64 _ (by omega) (by omega)
 have wb:IntKind.i64.wrap (w.line.belt.step + w.line.belt.slip)=w.line.belt.step + w.line.belt.slip:=w64 _ (by omega) (by omega)
 have c1:=D9 (IntKind.i64.wrap (w.line.belt.step - w.line.belt.slip)) (IntKind.i64.wrap (w.line.belt.step + w.line.belt.slip)) n
 have e1:(decide (IntKind.i64.wrap (w.line.belt.step - w.line.belt.slip)<=n) && decide (n<=IntKind.i64.wrap (w.line.belt.step + w.line.belt.slip)))=true:=by rw [wa,wb,decide_eq_true h1.1,decide_eq_true h1.2]; rfl
 rw [e1] at c1
 have c2:=a7X w g
 have c3:=a9U (n6 w) (A9.2 gt)
 have c4:=a3x (n6 w) (A9.2 gt) (by omega)
 have c5:=a7Y w.things hll kind user number n role gauge tru noise (opnB (n6 w) ((n6 w).count + 1)) w.line.belt (fun i hi=>⟨bl.2.2.1,by have:=(g.th i hi).2.1; omega,by have:=(g.th i hi).2.1; omega⟩) (fun i hi=>⟨a7G g hi,by omega,by omega⟩)
 have em:w.things.map (movT w.line.belt (opnB (n6 w) ((n6 w).count + 1)) n)=moved w n:=by unfold moved; rw [k2]
 rw [em] at c5
 have lm:=M2 w n
 have af:advF (n6 w)=[]:=by unfold advF; rw [if_neg hg]
 rw [af] at c4
 refine a9 hm Tryz.func169 (by kernel_rfl) ⟨by kernel_rfl,?_⟩
 conv=>whnf
 (repeat' first|(refine ansS (fun hh=>?_) (fun hh=>?_)<;>(try simp only [ansX] at hh)<;>first|(exfalso;first|omega|(simp [*] at hh;done)|(revert hh;decide))|exact absurd (by assumption) hh|conv=>whnf)|((first|refine kR ?_|refine aM ?_|refine aL ?_|refine aN ?_|((try (refine Or.inl ?_;conv=>whnf));(try (refine ⟨false,?_⟩;conv=>whnf));refine ⟨_,by exact c1,?_⟩)|fail);conv=>whnf))
 (refine Or.inr ⟨[ ],[ ],by kernel_rfl,?_⟩; (conv=>whnf); refine ⟨[ 147,148 ],_,_,_,_,⟨ c2,rfl,rfl,by kernel_rfl⟩,?_⟩)
 conv=>whnf
 (repeat' first|(refine ansS (fun hh=>?_) (fun hh=>?_)<;>(try simp only [ansX] at hh)<;>first|(exfalso;first|omega|(simp [*] at hh;done)|(revert hh;decide))|exact absurd (by assumption) hh|conv=>whnf)|((first|refine kR ?_|refine aM ?_|refine aL ?_|refine aN ?_|((try (refine Or.inl ?_;conv=>whnf));(try (refine ⟨false,?_⟩;conv=>whnf));refine ⟨_,by first | exact c3 | exact c4,?_⟩)|fail);conv=>whnf))
 (refine Or.inr ⟨[148 ],[ 89 ],by kernel_rfl,?_⟩; (conv=>whnf); refine ⟨[ ],_,_,_,_,⟨ c5,rfl,rfl,by kernel_rfl⟩,?_⟩)
 conv=>whnf
 (repeat' first|(refine ansS (fun hh=>?_) (fun hh=>?_)<;>(try simp only [ansX] at hh)<;>first|(exfalso;first|omega|(simp [*] at hh;done)|(revert hh;decide))|exact absurd (by assumption) hh|conv=>whnf)|((first|refine kR ?_|refine aM ?_|refine aL ?_|refine aN ?_|fail);conv=>whnf))
 refine Or.inl ⟨1,?_⟩
 conv=>whnf
 (repeat' (first|((first|refine ansT ?_|refine ansF ?_|refine ansD (by first | decide | (simp only [List.length_cons,List.length_nil]; decide)) ?_ | refine ansN (by first | decide | (simp only [List.length_cons,List.length_nil]; decide)) ?_ | refine ansB (by first | decide | (simp only [List.length_cons,List.length_nil]; decide)) (by first | decide | (simp only [List.length_cons,List.length_nil]; decide)) ?_|fail);conv=>whnf) | (refine ansS (fun hh=>?_) (fun hh=>?_)<;>(try simp only [ansX] at hh)<;>first|(exfalso;first|omega|(simp [*] at hh;done)|(revert hh;decide))|exact absurd (by assumption) hh|conv=>whnf) | ((first|refine ⟨by kernel_rfl,?_⟩|refine ansB (by omega) (by omega) ?_|refine ansB (by decide) (by decide) ?_|refine aL (by omega) ?_|refine aN (by omega) ?_|fail);conv=>whnf)))
 refine ⟨[89],by kernel_rfl,?_⟩
 conv=>whnf
 first | exact ⟨rfl,rfl⟩
theorem a9b (w:WorldT) (g:GoodW w) (kind user number n role:Int) (gauge:GauT) (tru noise:List Int) (h:cntE w n=0) (hg:B9 (n6 w)=true):PW Tryz.prog 169 [.ptr 0 0 0 0,ordX kind user number n role gauge tru noise] (plR w) (.tup [i64 ((n6 w).count + 1),.own 3,i64 0]) [.cells 154 ((eW ⟨w.line,advT (n6 w),w.books,w.drift,(moved w n).drop 1⟩).set 25 (.own 2)),.none,.vec 76 7 b8 x9 ((moved w n).drop 1),.vec 83 5 out0 eOut (cntO w n)]:=by
 obtain ⟨h1,h2⟩:=a0c h
 obtain ⟨gt,sm⟩:=S9 g
 obtain ⟨k1,k2,k3,k4,k5⟩:=sm
 have hll:w.things.length<=32:=by rw [g.lt]; exact g.tk.ln
 have ct:=g.tk.ct
 have bl:=z7.1 g.tk.bl
 rw [g.bl] at bl
 have wa:IntKind.i64.wrap (w.line.belt.step - w.line.belt.slip)=w.line.belt.step - w.line.belt.slip:=w64 _ (by omega) (by omega)
 have wb:IntKind.i64.wrap (w.line.belt.step + w.line.belt.slip)=w.line.belt.step + w.line.belt.slip:=w64 _ (by omega) (by omega)
 have c1:=D9 (IntKind.i64.wrap (w.line.belt.step - w.line.belt.slip)) (IntKind.i64.wrap (w.line.belt.step + w.line.belt.slip)) n
 have e1:(decide (IntKind.i64.wrap (w.line.belt.step - w.line.belt.slip)<=n) && decide (n<=IntKind.i64.wrap (w.line.belt.step + w.line.belt.slip)))=true:=by rw [wa,wb,decide_eq_true h1.1,decide_eq_true h1.2]; rfl
 rw [e1] at c1
 have c2:=a7X w g
 have c3:=a9U (n6 w) (A9.2 gt)
 have c4:=a3x (n6 w) (A9.2 gt) (by omega)
 have c5:=a7Y w.things hll kind user number n role gauge tru noise (opnB (n6 w) ((n6 w).count + 1)) w.line.belt (fun i hi=>⟨bl.2.2.1,by have:=(g.th i hi).2.1; omega,by have:=(g.th i hi).2.1; omega⟩) (fun i hi=>⟨a7G g hi,by omega,by omega⟩)
 have em:w.things.map (movT w.line.belt (opnB (n6 w) ((n6 w).count + 1)) n)=moved w n:=by unfold moved; rw [k2]
 rw [em] at c5
 have lm:=M2 w n
 have af:advF (n6 w)=[Y4 ((hits (n6 w)).getD 0 a8)]:=by unfold advF; rw [if_pos hg]
 rw [af] at c4
 have hp0:0 < w.things.length:=by
  unfold B9 at hg
  have:=(of_decide_eq_true hg).1
  rw [g.lt,<- k4]
  exact this
 have h0:0 < (moved w n).length:=by omega
 have hi0:((moved w n).getD 0 b8).id=(Y4 ((hits (n6 w)).getD 0 a8)).id:=by
  show _=((hits (n6 w)).getD 0 a8).id
  rw [a3t hp0,S8 _ _ (by rw [k4,<- g.lt]; exact hp0)]
  show (w.things.getD 0 b8).id=((n6 w).parts.getD 0 a8).id
  rw [(k5 0).1,(g.th 0 hp0).1]
 have eO:cntO w n=[⟨((moved w n).getD 0 b8).id,((moved w n).getD 0 b8).seq,(Y4 ((hits (n6 w)).getD 0 a8)).verdict,(Y4 ((hits (n6 w)).getD 0 a8)).hit,((moved w n).getD 0 b8).out⟩]:=by
  unfold cntO outT
  rw [if_pos hg]
 rw [eO]
 generalize Y4 ((hits (n6 w)).getD 0 a8)=f0 at c4 hi0
 generalize moved w n=mv at c5 hi0 h0 lm
 have ci:=b4e mv (by omega) h0 f0 hi0
 have cd:=b2Y mv h0
 refine a9 hm Tryz.func169 (by kernel_rfl) ⟨by kernel_rfl,?_⟩
 conv=>whnf
 (repeat' first|(refine ansS (fun hh=>?_) (fun hh=>?_)<;>(try simp only [ansX] at hh)<;>first|(exfalso;first|omega|(simp [*] at hh;done)|(revert hh;decide))|exact absurd (by assumption) hh|conv=>whnf)|((first|refine kR ?_|refine aM ?_|refine aL ?_|refine aN ?_|((try (refine Or.inl ?_;conv=>whnf));(try (refine ⟨false,?_⟩;conv=>whnf));refine ⟨_,by exact c1,?_⟩)|fail);conv=>whnf))
 (refine Or.inr ⟨[ ],[ ],by kernel_rfl,?_⟩; (conv=>whnf); refine ⟨[ 147,148 ],_,_,_,_,⟨ c2,rfl,rfl,by kernel_rfl⟩,?_⟩)
 conv=>whnf
 (repeat' first|(refine ansS (fun hh=>?_) (fun hh=>?_)<;>(try simp only [ansX] at hh)<;>first|(exfalso;first|omega|(simp [*] at hh;done)|(revert hh;decide))|exact absurd (by assumption) hh|conv=>whnf)|((first|refine kR ?_|refine aM ?_|refine aL ?_|refine aN ?_|((try (refine Or.inl ?_;conv=>whnf));(try (refine ⟨false,?_⟩;conv=>whnf));refine ⟨_,by first | exact c3 | exact c4,?_⟩)|fail);conv=>whnf))
 (refine Or.inr ⟨[148 ],[ 89 ],by kernel_rfl,?_⟩; (conv=>whnf); refine ⟨[ ],_,_,_,_,⟨ c5,rfl,rfl,by kernel_rfl⟩,?_⟩)
 conv=>whnf
 (repeat' first|(refine ansS (fun hh=>?_) (fun hh=>?_)<;>(try simp only [ansX] at hh)<;>first|(exfalso;first|omega|(simp [*] at hh;done)|(revert hh;decide))|exact absurd (by assumption) hh|conv=>whnf)|((first|refine kR ?_|refine aM ?_|refine aL ?_|refine aN ?_|fail);conv=>whnf))
 refine Or.inl ⟨2,?_⟩
 conv=>whnf
 (repeat' (first|((first|refine ansT ?_|refine ansF ?_|refine ansD (by first | decide | (simp only [List.length_cons,List.length_nil]; decide)) ?_ | refine ansN (by first | decide | (simp only [List.length_cons,List.length_nil]; decide)) ?_ | refine ansB (by first | decide | (simp only [List.length_cons,List.length_nil]; decide)) (by first | decide | (simp only [List.length_cons,List.length_nil]; decide)) ?_|fail);conv=>whnf) | (refine ansS (fun hh=>?_) (fun hh=>?_)<;>(try simp only [ansX] at hh)<;>first|(exfalso;first|omega|(simp [*] at hh;done)|(revert hh;decide))|exact absurd (by assumption) hh|conv=>whnf) | ((first|refine ⟨by kernel_rfl,?_⟩|refine ansB (by omega) (by omega) ?_|refine ansB (by decide) (by decide) ?_|refine aL (by omega) ?_|refine aN (by omega) ?_|fail);conv=>whnf)))
 (repeat' first|(refine ansS (fun hh=>?_) (fun hh=>?_)<;>(try simp only [ansX] at hh)<;>first|(exfalso;first|omega|(simp [*] at hh;done)|(revert hh;decide))|exact absurd (by assumption) hh|conv=>whnf)|((first|refine kR ?_|refine aM ?_|refine aL ?_|refine aN ?_|refine aT ?_|((try (refine Or.inl ?_;conv=>whnf));(try (refine ⟨false,?_⟩;conv=>whnf));refine ⟨_,by exact ci,?_⟩)|fail);conv=>whnf))
 refine ⟨⟨OutT,5,out0,eOut,[]⟩,[⟨(mv.getD 0 b8).id,(mv.getD 0 b8).seq,f0.verdict,f0.hit,(mv.getD 0 b8).out⟩],rfl,rfl,⟨rfl,rfl⟩,?_,?_,fun y _=>⟨rfl,rfl,rfl⟩,?_⟩
 ·show (0 + 1) * 24<=1099511627776; decide
 ·show 0 + 1<=1099511627776; decide
 (repeat' first|(refine ansS (fun hh=>?_) (fun hh=>?_)<;>(try simp only [ansX] at hh)<;>first|(exfalso;first|omega|(simp [*] at hh;done)|(revert hh;decide))|exact absurd (by assumption) hh|conv=>whnf)|((first|refine kR ?_|refine aM ?_|refine aL ?_|refine aN ?_|refine aT ?_|fail);conv=>whnf))
 (refine Or.inr ⟨[ ],[ 139 ],by kernel_rfl,?_⟩; (conv=>whnf); refine ⟨[ 89 ],_,_,_,_,⟨ cd,rfl,rfl,by kernel_rfl⟩,?_⟩)
 conv=>whnf
 (repeat' (first|((first|refine ansT ?_|refine ansF ?_|refine ansD (by first | decide | (simp only [List.length_cons,List.length_nil]; decide)) ?_ | refine ansN (by first | decide | (simp only [List.length_cons,List.length_nil]; decide)) ?_ | refine ansB (by first | decide | (simp only [List.length_cons,List.length_nil]; decide)) (by first | decide | (simp only [List.length_cons,List.length_nil]; decide)) ?_|fail);conv=>whnf) | (refine ansS (fun hh=>?_) (fun hh=>?_)<;>(try simp only [ansX] at hh)<;>first|(exfalso;first|omega|(simp [*] at hh;done)|(revert hh;decide))|exact absurd (by assumption) hh|conv=>whnf) | ((first|refine ⟨by kernel_rfl,?_⟩|refine ansB (by omega) (by omega) ?_|refine ansB (by decide) (by decide) ?_|refine aL (by omega) ?_|refine aN (by omega) ?_|fail);conv=>whnf)))
 refine ⟨[139,129],by kernel_rfl,?_⟩
 conv=>whnf
 first | exact ⟨rfl,rfl⟩
theorem b1a (w:WorldT) (g:GoodW w) (kind user number n role:Int) (gauge:GauT) (tru noise:List Int) (h:cntE w n=0):PW Tryz.prog 169 [.ptr 0 0 0 0,ordX kind user number n role gauge tru noise] (plR w) (.tup [i64 (w.track.count + 1),outs (cntO w n),i64 0]) (plR2 (cntW w n)):=by
 have k2:=(S9 g).2.2.1
 rw [<- k2]
 by_cases hg:B9 (n6 w)=true
 ·have c:PW Tryz.prog 169 [.ptr 0 0 0 0,ordX kind user number n role gauge tru noise] (plR w) (.tup [i64 ((n6 w).count + 1),outs (cntO w n),i64 0]) (plR2 ⟨w.line,advT (n6 w),w.books,w.drift,(moved w n).drop 1⟩) :=
   ((a9b w g kind user number n role gauge tru noise h hg).shut 3 6 rfl).rows fun k=>by
    match k with
    | 0=>rfl
    | 1=>rfl
    | 2=>rfl
    | 3=>rfl
    | (k + 4)=>rfl
  have e:cntW w n=⟨w.line,advT (n6 w),w.books,w.drift,(moved w n).drop 1⟩:=by unfold cntW; rw [if_pos hg]
  rw [e]
  exact c
 ·have c:=a9a w g kind user number n role gauge tru noise h hg
  have e:cntW w n=⟨w.line,advT (n6 w),w.books,w.drift,moved w n⟩:=by unfold cntW; rw [if_neg hg]
  have eO:cntO w n=[]:=by unfold cntO; rw [if_neg hg]
  rw [e,eO]
  refine c.sub ?_
  refine (a1q (xs:=[i64 ((n6 w).count + 1),.nils,i64 0]) (ys:=[i64 ((n6 w).count + 1),outs [],i64 0]) rfl fun i hi => ?_).2
  match i with
  | 0=>exact .refl _
  | 1=>exact .nils _ _ _
  | 2=>exact .refl _
  | (k + 3)=>exact .refl _

end Go.Proofs.Tryz.My
