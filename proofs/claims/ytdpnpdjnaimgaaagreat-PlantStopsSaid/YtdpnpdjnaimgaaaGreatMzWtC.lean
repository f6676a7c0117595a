/- Helper lemmas. -/
import Derived.Test.YtdpnpdjnaimgaaaGreatMzWtB
set_option linter.unusedVariables false
set_option linter.unusedSimpArgs false
set_option maxRecDepth 100000
set_option maxHeartbeats 0
namespace Go.Proofs.Tryz.My
open Go Go.Ev
structure G2 where
 ord:r8
 b9:x8
 o6:Int
 seq:Int
structure G4 where
 line:A5
 gauges:List x8
 active:Int
 pieces:List G2
 drift:P8
 n7:List V5
 world:n9
def A1:G2:=⟨B7,ao,0,0⟩
def Sg:n9:=⟨⟨⟨0,0,0,0⟩,0,0,0,0,(0,0)⟩,⟨⟨0,0,0,0⟩,0,0,[]⟩,⟨0,[],[],0,[]⟩,X3,[]⟩
def pP (b:G4):x8:=b.gauges.getD b.active.toNat ao
def AT (b:G4) (o:r8):Int:=(F8 (pP b) (H4 o.tru o.a8)).2.1
def DH (b:G4) (w:n9) (o:r8):G4 :=
 if o.kind=4 then ⟨b.line,b.gauges++[o.b9],b.active,b.pieces,b.drift,b.n7,b.world⟩ else
 if o.kind=6 then ⟨b.line,b.gauges,o.a7,b.pieces,b.drift,b.n7,b.world⟩ else
 if o.kind=7 then ⟨b.line,b.gauges,-1,b.pieces,b.drift,b.n7,b.world⟩ else
 if o.kind=10 then ⟨b.line,b.gauges,b.active,b.pieces,X3,b.n7,b.world⟩ else
 if o.kind=2 then
  (if sR w o then ⟨b.line,b.gauges,b.active,b.pieces++[⟨o,pP b,AT b o,w.l9.next⟩],sQ b.line (jb b.drift) (!decide (AT b o=1)),b.n7,b.world⟩
  else ⟨b.line,b.gauges,b.active,b.pieces++[⟨o,ao,0,-1⟩],b.drift,b.n7,b.world⟩) else b
def iu (b:G4) (l:List V5):G4:=⟨b.line,b.gauges,b.active,b.pieces,b.drift,b.n7++l,b.world⟩
def mS (b:G4) (w:n9) (o:r8):G4:=if K0 w o=0 then DH (iu b (G9 w o).n7) w o else iu b (G9 w o).n7
def E3 (b:G4) (w:n9):List r8->G4
 | []=>b
 | o :: l=>E3 (mS b w o) (Q6 w o) l
def H9 (l:A5):G4:=⟨l,[],-1,[],X3,[],Sg⟩
structure fR (l:A5) (i:Nat) (y:V5) (p:G2):Prop where
 id:y.id=i
 vr:y.o6=ov l p.o6
 sq:y.seq=p.seq
 nt:¬y.o6=1->y.out=true/\y.hit=true
 oh:y.out=true->y.hit=true
structure qi (l:A5) (next:Int) (p:G2):Prop where
 ob:fJ p.ord.tru p.ord.a8
 ln:0<=p.ord.n/\p.ord.n<=l.n8.len
 rc:(p.seq = -1/\p.o6=0)∨((0<=p.seq/\p.seq < next)/\S6 p.b9=true/\(F8 p.b9 (H4 p.ord.tru p.ord.a8)).2.2=0/\(F8 p.b9 (H4 p.ord.tru p.ord.a8)).2.1=p.o6)
structure sU (w:n9) (ps:List G2) (s:B8):Prop where
 pt:0<=s.part/\s.part < ps.length
 sq:(ps.getD s.part.toNat A1).seq=s.seq
 pf:s.o9=H4 (ps.getD s.part.toNat A1).ord.tru (ps.getD s.part.toNat A1).ord.a8
 ga:(w.l9.b8.getD s.recipe.toNat r9).b9=(ps.getD s.part.toNat A1).b9
 vr:s.o6=(ps.getD s.part.toNat A1).o6
structure Told (l:A5) (w:n9) (b:G4):Prop where
 gw:I6 w
 ln:w.line=l/\b.line=l
 ga:b.gauges.length=w.l9.b8.length/\∀ i,i < w.l9.b8.length->b.gauges.getD i ao=(w.l9.b8.getD i r9).b9
 ac:if w.l9.b8.any C9=true then b.active=A4 w.l9.b8 else b.active = -1
 df:b.drift=w.drift
 np:(b.pieces.length:Int)=w.o8.next
 le:b.n7.length + w.n6.length=b.pieces.length
 th:∀ i,i < w.n6.length->(w.n6.getD i n5).id=(b.n7.length + i:Nat)/\(w.n6.getD i n5).len=(b.pieces.getD (b.n7.length + i) A1).ord.n/\(w.n6.getD i n5).o6=(b.pieces.getD (b.n7.length + i) A1).o6 /\
  (w.n6.getD i n5).seq=(b.pieces.getD (b.n7.length + i) A1).seq
 pr:∀ i,i < w.n6.length->ox l (w.o8.count - (w.o8.k9.getD i n4).cnt) (w.n6.getD i n5) (w.o8.k9.getD i n4)
 oc:∀ i,i < b.n7.length->fR l i (b.n7.getD i K4) (b.pieces.getD i A1)
 pc:∀ i,i < b.pieces.length->qi l w.l9.next (b.pieces.getD i A1)
 lg:∀ s,s ∈ w.l9.log->sU w b.pieces s
theorem Lu {l:A5} (h:J3 l=0):I6 (I8 l):=by
 obtain ⟨h1,⟨h2,h3⟩,h4⟩:=K3 h
 have z:(0:Int)<=1099511627776:=by decide
 have za:C4 []<=1:=by decide
 refine ⟨h,rfl,rfl,rfl,jC,⟨h1,⟨Int.le_refl 0,z⟩,⟨Int.le_refl 0,z⟩,Nat.zero_le _,List.Pairwise.nil,fun s hs=>(List.not_mem_nil hs).elim⟩,?_,fun i hi=>absurd hi (Nat.not_lt_zero i)⟩
 exact ⟨h3,⟨Int.le_refl 0,z⟩,Nat.zero_le _,Nat.zero_le _,by show (0:Int)<=l.keep;omega,fun r hr=>(List.not_mem_nil hr).elim,fun x hx=>(List.not_mem_nil hx).elim,za,List.Pairwise.nil,fun s hs=>(List.not_mem_nil hs).elim⟩
theorem dx {l:A5} (h:J3 l=0):Told l (I8 l) (H9 l):=by
 refine ⟨Lu h,⟨rfl,rfl⟩,⟨rfl,fun i hi=>absurd hi (Nat.not_lt_zero i)⟩,rfl,rfl,rfl,rfl,fun i hi=>absurd hi (Nat.not_lt_zero i),fun i hi=>absurd hi (Nat.not_lt_zero i),fun i hi=>absurd hi (Nat.not_lt_zero i),fun i hi=>absurd hi (Nat.not_lt_zero i),fun s hs=>(List.not_mem_nil hs).elim⟩
theorem AU {l:A5} {w:n9} {b:G4} (t:Told l w b) {c:o7} {gs:List x8} {ac:Int} (hb:L5 c) (hk:c.keep=w.l9.keep) (hn:w.l9.next<=c.next)
  (hg:gs.length=c.b8.length/\∀ i,i < c.b8.length->gs.getD i ao=(c.b8.getD i r9).b9) (ha:if c.b8.any C9=true then ac=A4 c.b8 else ac = -1)
  (hf:∀ i,i < w.l9.b8.length->(c.b8.getD i r9).b9=(w.l9.b8.getD i r9).b9)
  (hl:∀ s,s ∈ c.log->∃ s',s' ∈ w.l9.log/\s'.seq=s.seq/\s'.recipe=s.recipe/\s'.part=s.part/\s'.o9=s.o9/\s'.o6=s.o6) :
  Told l (dv w c) ⟨b.line,gs,ac,b.pieces,b.drift,b.n7,b.world⟩:=by
 refine ⟨AK t.gw hb hk hn,t.ln,hg,ha,t.df,t.np,t.le,t.th,t.pr,t.oc,fun i hi=>?_,fun s hs=>?_⟩
 ·obtain ⟨o1,o2,o3⟩:=t.pc i hi
  refine ⟨o1,o2,?_⟩
  rcases o3 with o3|⟨⟨o3,o4⟩,o5⟩
  ·exact .inl o3
  ·exact .inr ⟨⟨o3,by show (b.pieces.getD i A1).seq < c.next;omega⟩,o5⟩
 ·obtain ⟨s',m,e1,e2,e3,e4,e5⟩:=hl s hs
  obtain ⟨q1,q2,q3,q4,q5⟩:=t.lg s' m
  have r:=(t.gw.bk.lg s' m).2.1
  refine ⟨by rw [<- e3];exact q1,by rw [<- e3,<- e1];exact q2,by rw [<- e3,<- e4];exact q3,?_,by rw [<- e3,<- e5];exact q5⟩
  show (c.b8.getD s.recipe.toNat r9).b9=_
  rw [<- e2,<- e3,<- q4,hf _ (by omega)]
theorem OD {l m:List A9} (h:l.map C9=m.map C9):l.any C9=m.any C9/\A4 l=A4 m:=by
 have h1:∀ l:List A9,l.any C9=(l.map C9).any id:=fun l=>by rw [List.any_map];rfl
 have h2:∀ l:List A9,A4 l=(l.map C9).findIdx id:=fun l=>by unfold A4;rw [List.findIdx_map];rfl
 rw [h1,h1,h2,h2,h]
 exact ⟨rfl,rfl⟩
theorem AW {l:List A9} {i:Nat} {y:A9} (h:C9 y=C9 (l.getD i r9)):(l.set i y).map C9=l.map C9:=by
 by_cases hi:i < l.length
 ·refine List.ext_getElem (by simp) fun k h1 h2=>?_
  simp only [List.getElem_map,List.getElem_set]
  by_cases e:i=k
  ·subst e
   rw [if_pos rfl,h,x9 hi]
  ·rw [if_neg e]
 ·rw [List.set_eq_of_length_le (by omega)]
theorem AX {l:List A9} (h:C4 l=0):l.any C9=false:=by
 rw [List.any_eq_false]
 intro x hx q
 unfold C4 at h
 rw [List.length_eq_zero_iff,List.filter_eq_nil_iff] at h
 exact h x hx q
theorem OE {l m:List A9} (h:m.map C9=l.map C9) {a:Int} (ha:if l.any C9=true then a=A4 l else a = -1):if m.any C9=true then a=A4 m else a = -1:=by
 obtain ⟨e1,e2⟩:=OD h
 rw [e1,e2];exact ha
theorem UJ {l m:List A9} {gs:List x8} (hg:gs.length=l.length/\∀ i,i < l.length->gs.getD i ao=(l.getD i r9).b9) (h:m.length=l.length) (hf:∀ i,i < l.length->(m.getD i r9).b9=(l.getD i r9).b9) :
  gs.length=m.length/\∀ i,i < m.length->gs.getD i ao=(m.getD i r9).b9 :=
 ⟨hg.1.trans h.symm,fun i hi=>by rw [hg.2 i (by omega),hf i (by omega)]⟩
theorem jg {l:List B8}:∀ s,s ∈ l->∃ s',s' ∈ l/\s'.seq=s.seq/\s'.recipe=s.recipe/\s'.part=s.part/\s'.o9=s.o9/\s'.o6=s.o6:=fun s hs=>⟨s,hs,rfl,rfl,rfl,rfl,rfl⟩
theorem OF {b:o7} {q:Int} {is:Bool}:∀ s,s ∈ (W0 b q is).log->∃ s',s' ∈ b.log/\s'.seq=s.seq/\s'.recipe=s.recipe/\s'.part=s.part/\s'.o9=s.o9/\s'.o6=s.o6:=by
 intro s hs
 by_cases hi:dG b q < b.log.length
 ·rcases List.mem_or_eq_of_mem_set hs with h|h
  ·exact ⟨s,h,rfl,rfl,rfl,rfl,rfl⟩
  ·subst h
   exact ⟨b.log.getD (dG b q) w9,I2 hi,rfl,rfl,rfl,rfl,rfl⟩
 ·have hs:s ∈ b.log.set (dG b q) (Hf (b.log.getD (dG b q) w9) is):=hs
  rw [List.set_eq_of_length_le (by omega)] at hs
  exact ⟨s,hs,rfl,rfl,rfl,rfl,rfl⟩
theorem HR {l:A5} {w:n9} {b:G4} (t:Told l w b) {o:r8} (hk:(3<=o.kind/\o.kind<=9)) (h:Oc w.l9 (bG o)=0):Told l (dv w (lq w.l9 (bG o))) (DH b w o):=by
 have g:=t.gw.bk
 have hb:=Ff g h
 have YR:=Fg g h
 have yw:=Fo (b:=w.l9) (bG o)
 have hfx:=Ro g h
 have n1:¬o.kind=2:=by omega
 have n2:¬o.kind=10:=by omega
 have kn:eP (bG o)=if o.kind<=7 then o.kind - 3 else o.kind - 2:=by
  show Int.tmod (if o.kind<=7 then o.kind - 3 else o.kind - 2) 8=_
  rw [Int.tmod_eq_emod_of_nonneg (by split<;>omega)]
  split<;>omega
 have hf:∀ i,i < w.l9.b8.length->((lq w.l9 (bG o)).b8.getD i r9).b9=(w.l9.b8.getD i r9).b9:=fun i hi=>(hfx.rs i hi).2.1
 unfold DH
 rw [if_neg n1,if_neg n2]
 -- the lists of b8 keep their length, and their log, unless it is a YS
 have same:∀ c:o7,lq w.l9 (bG o)=c->c.b8.length=w.l9.b8.length->(∀ s,s ∈ c.log->∃ s',s' ∈ w.l9.log/\s'.seq=s.seq/\s'.recipe=s.recipe/\s'.part=s.part/\s'.o9=s.o9/\s'.o6=s.o6) ->
   ∀ a:Int,(if c.b8.any C9=true then a=A4 c.b8 else a = -1)->Told l (dv w (lq w.l9 (bG o))) ⟨b.line,b.gauges,a,b.pieces,b.drift,b.n7,b.world⟩:=by
  intro c hc hlen XN a ha
  refine AU t hb YR.1 yw (UJ t.ga (by rw [hc];exact hlen) hf) (by rw [hc];exact ha) hf (by rw [hc];exact XN)
 unfold Oc at h
 by_cases k3:o.kind=3
 ·have kk:eP (bG o)=0:=by rw [kn,if_pos (by omega)];omega
  rw [if_neg (by omega),if_neg (by omega),if_neg (by omega)]
  exact same (tO w.l9 (bG o).j9) (by unfold lq;rw [if_pos kk]) rfl jg b.active t.ac
 by_cases k4:o.kind=4
 ·have kk:eP (bG o)=1:=by rw [kn,if_pos (by omega)];omega
  have ed:lq w.l9 (bG o)=tQ w.l9 o.j8 o.b9:=by unfold lq;rw [if_neg (by omega),if_pos kk];rfl
  rw [if_pos k4]
  refine AU t hb YR.1 yw ?_ ?_ hf ?_
  ·rw [ed]
   show (b.gauges++[o.b9]).length=(w.l9.b8++[L8 o.j8 o.b9]).length/\∀ i,i < (w.l9.b8++[L8 o.j8 o.b9]).length->(b.gauges++[o.b9]).getD i ao=((w.l9.b8++[L8 o.j8 o.b9]).getD i r9).b9
   obtain ⟨g1,g2⟩:=t.ga
   refine ⟨by simp [g1],fun i hi=>?_⟩
   rw [Q7,Q7,g1]
   by_cases e:i < w.l9.b8.length
   ·rw [if_pos e,if_pos e,g2 i e]
   ·have:i=w.l9.b8.length:=by simp at hi;omega
    rw [if_neg e,if_neg e,if_pos this,if_pos this];rfl
  ·rw [ed]
   show if (w.l9.b8++[L8 o.j8 o.b9]).any C9=true then b.active=A4 (w.l9.b8++[L8 o.j8 o.b9]) else b.active = -1
   have ha:=t.ac
   have e1:(w.l9.b8++[L8 o.j8 o.b9]).any C9=w.l9.b8.any C9:=by
    rw [List.any_append]
    show (w.l9.b8.any C9 || (C9 (L8 o.j8 o.b9) || false))=_
    rw [show C9 (L8 o.j8 o.b9)=false from rfl]
    simp
   rw [e1]
   by_cases q:w.l9.b8.any C9=true
   ·rw [if_pos q] at ha ⊢
    rw [ha]
    have A2:=J4 q
    unfold A4 at A2 ⊢
    rw [List.findIdx_append,if_pos A2]
   ·rw [if_neg q] at ha ⊢
    exact ha
  ·rw [ed];exact jg
 rw [if_neg k4]
 by_cases k5:o.kind=5
 ·have kk:eP (bG o)=2:=by rw [kn,if_pos (by omega)];omega
  rw [if_neg (by omega),if_neg (by omega)]
  rw [if_neg (by omega),if_neg (by omega),if_pos kk] at h
  obtain ⟨_,hn,_,h2⟩:=jx h
  have ed:lq w.l9 (bG o)=nQ w.l9 o.j8 o.a7:=by unfold lq;rw [if_neg (by omega),if_neg (by omega),if_pos kk];rfl
  have h2:¬(w.l9.b8.getD o.a7.toNat r9).state > 2:=h2
  refine same _ ed List.length_set jg b.active (OE (AW ?_) t.ac)
  show decide ((tW w.l9.p9 (w.l9.b8.getD o.a7.toNat r9) o.j8).state=3)=decide ((w.l9.b8.getD o.a7.toNat r9).state=3)
  rw [decide_eq_false (show ¬(w.l9.b8.getD o.a7.toNat r9).state=3 by omega),decide_eq_false_iff_not]
  unfold tW
  show ¬(if K8 w.l9.p9 (gJ (w.l9.b8.getD o.a7.toNat r9).B0 o.j8)=true then (2:Int) else (w.l9.b8.getD o.a7.toNat r9).state)=3
  split<;>omega
 by_cases k6:o.kind=6
 ·have kk:eP (bG o)=3:=by rw [kn,if_pos (by omega)];omega
  rw [if_pos k6]
  rw [if_neg (by omega),if_neg (by omega),if_neg (by omega),if_pos kk] at h
  obtain ⟨_,hn,_,h2⟩:=gH h
  have hn:dp w.l9 o.j8 o.a7:=hn
  have ed:lq w.l9 (bG o)=fF w.l9 o.a7:=by unfold lq;rw [if_neg (by omega),if_neg (by omega),if_neg (by omega),if_pos kk];rfl
  obtain ⟨c1,c2,c3,c4,c5⟩:=sJ w.l9
  obtain ⟨_,hz,hl,_⟩:=nU g
  have hz:=AX hz
  have hi:o.a7.toNat < (K6 w.l9).b8.length:=by have:=hn.2;omega
  have is3:C9 (ai ((K6 w.l9).b8.getD o.a7.toNat r9) 3)=true:=rfl
  have hm:((K6 w.l9).b8.set o.a7.toNat (ai ((K6 w.l9).b8.getD o.a7.toNat r9) 3)).any C9=true :=
   List.any_eq_true.2 ⟨_,I2 (d:=r9) (i:=o.a7.toNat) (by rw [List.length_set];exact hi),by rw [V3 hi];exact is3⟩
  refine same _ ed (List.length_set.trans hl) ?_ o.a7 ?_
  ·show ∀ s,s ∈ (K6 w.l9).log->_
   rw [c5];exact jg
  ·show if ((K6 w.l9).b8.set o.a7.toNat (ai ((K6 w.l9).b8.getD o.a7.toNat r9) 3)).any C9=true then o.a7=A4 ((K6 w.l9).b8.set o.a7.toNat (ai ((K6 w.l9).b8.getD o.a7.toNat r9) 3)) else o.a7 = -1
   rw [if_pos hm]
   have f1:=J4 hm
   have f2:=O6 hm
   generalize A4 ((K6 w.l9).b8.set o.a7.toNat (ai ((K6 w.l9).b8.getD o.a7.toNat r9) 3))=k at f1 f2 ⊢
   by_cases e:o.a7.toNat=k
   ·have:=hn.2;omega
   ·exfalso
    rw [List.getD,List.getElem?_set_ne e] at f2
    rw [List.length_set] at f1
    rw [List.any_eq_false] at hz
    exact hz _ (I2 (d:=r9) f1) (decide_eq_true f2)
 rw [if_neg k6]
 by_cases k7:o.kind=7
 ·have kk:eP (bG o)=4:=by rw [kn,if_pos (by omega)];omega
  rw [if_pos k7]
  rw [if_neg (by omega),if_neg (by omega),if_neg (by omega),if_neg (by omega),if_pos kk] at h
  have z:=(sI h).2.2
  have ed:lq w.l9 (bG o)=mC w.l9 (A4 w.l9.b8):=by unfold lq;rw [if_neg (by omega),if_neg (by omega),if_neg (by omega),if_neg (by omega),if_pos kk]
  have hz:=AX (sG g (J4 z) (O6 z)).2
  refine same _ ed List.length_set jg (-1) ?_
  rw [hz,if_neg (by decide)]
 rw [if_neg k7]
 have keep:∀ is,lq w.l9 (bG o)=W0 w.l9 o.a7 is->Told l (dv w (lq w.l9 (bG o))) b:=fun is ed=>same _ ed rfl OF b.active t.ac
 by_cases k8:o.kind=8
 ·have kk:eP (bG o)=6:=by rw [kn,if_neg (by omega)];omega
  exact keep true (by unfold lq;rw [if_neg (by omega),if_neg (by omega),if_neg (by omega),if_neg (by omega),if_neg (by omega),if_neg (by omega),if_pos kk];rfl)
 ·have kk:eP (bG o)=7:=by rw [kn,if_neg (by omega)];omega
  exact keep false (by unfold lq;rw [if_neg (by omega),if_neg (by omega),if_neg (by omega),if_neg (by omega),if_neg (by omega),if_neg (by omega),if_neg (by omega)];rfl)
theorem AY {l:A5} {w:n9} {b:G4} (t:Told l w b) {o:r8} (h:jR w o=0) {c:o7} {d:P8} {v s:Int} {gg:x8} (hb:L5 c) (hk:c.keep=w.l9.keep) (hn:w.l9.next<=c.next) (hr:c.b8=w.l9.b8)
  (hd:Z4 d=true) (hv:0<=v/\v<=3) (hs : -1<=s/\s<=c.next - 1) (hp:qi l c.next ⟨o,gg,v,s⟩) (hl:∀ e,e ∈ c.log->e ∈ w.l9.log∨(e.part=w.o8.next/\e.seq=s/\e.o9=H4 o.tru o.a8/\(w.l9.b8.getD e.recipe.toNat r9).b9=gg/\e.o6=v)) :
  Told l ⟨w.line,ue w.o8,c,d,w.n6++[⟨w.o8.next,0,o.n,v,w.o8.count + w.line.lag,s,false⟩]⟩ ⟨b.line,b.gauges,b.active,b.pieces++[⟨o,gg,v,s⟩],d,b.n7,b.world⟩:=by
 obtain ⟨h1,h2,h3,h4⟩:=fP h
 have np:=t.np
 have le:=t.le
 have VD:∀ i,i < b.pieces.length->(b.pieces++[(⟨o,gg,v,s⟩:G2)]).getD i A1=b.pieces.getD i A1:=fun i hi=>by rw [Q7,if_pos hi]
 have new:(b.pieces++[(⟨o,gg,v,s⟩:G2)]).getD b.pieces.length A1=⟨o,gg,v,s⟩:=by rw [Q7,if_neg (Nat.lt_irrefl _),if_pos rfl]
 refine ⟨kY t.gw h4 ⟨rfl,rfl,h2,hv.2,rfl,hs⟩ hb hk hn hd,t.ln,?_,?_,rfl,?_,?_,fun i hi=>?_,fun i hi=>?_,fun i hi=>?_,fun i hi=>?_,fun e he=>?_⟩
 ·show b.gauges.length=c.b8.length/\∀ i,i < c.b8.length->b.gauges.getD i ao=(c.b8.getD i r9).b9
  rw [hr];exact t.ga
 ·show if c.b8.any C9=true then b.active=A4 c.b8 else b.active = -1
  rw [hr];exact t.ac
 ·show ((b.pieces++[(⟨o,gg,v,s⟩:G2)]).length:Int)=w.o8.next + 1
  rw [List.length_append]
  simp only [List.length_cons,List.length_nil]
  omega
 ·show b.n7.length + (w.n6++[_]).length=(b.pieces++[(⟨o,gg,v,s⟩:G2)]).length
  rw [List.length_append,List.length_append]
  simp only [List.length_cons,List.length_nil]
  omega
 ·have hi:i < (w.n6++[(⟨w.o8.next,0,o.n,v,w.o8.count + w.line.lag,s,false⟩:B6)]).length:=hi
  show ((w.n6++[(⟨w.o8.next,0,o.n,v,w.o8.count + w.line.lag,s,false⟩:B6)]).getD i n5).id=(b.n7.length + i:Nat)/\((w.n6++[(⟨w.o8.next,0,o.n,v,w.o8.count + w.line.lag,s,false⟩:B6)]).getD i n5).len=((b.pieces++[(⟨o,gg,v,s⟩:G2)]).getD (b.n7.length + i) A1).ord.n /\
   ((w.n6++[(⟨w.o8.next,0,o.n,v,w.o8.count + w.line.lag,s,false⟩:B6)]).getD i n5).o6=((b.pieces++[(⟨o,gg,v,s⟩:G2)]).getD (b.n7.length + i) A1).o6/\((w.n6++[(⟨w.o8.next,0,o.n,v,w.o8.count + w.line.lag,s,false⟩:B6)]).getD i n5).seq=((b.pieces++[(⟨o,gg,v,s⟩:G2)]).getD (b.n7.length + i) A1).seq
  rw [List.length_append] at hi
  simp only [List.length_cons,List.length_nil] at hi
  by_cases e:i < w.n6.length
  ·rw [Q7 (l:=w.n6),if_pos e,VD _ (by omega)]
   exact t.th i e
  ·have e2:i=w.n6.length:=by omega
   rw [Q7 (l:=w.n6),if_neg e,if_pos e2,e2,le,new]
   exact ⟨by show w.o8.next=_;omega,rfl,rfl,rfl⟩
 ·have hi:i < (w.n6++[(⟨w.o8.next,0,o.n,v,w.o8.count + w.line.lag,s,false⟩:B6)]).length:=hi
  rw [List.length_append] at hi
  simp only [List.length_cons,List.length_nil] at hi
  show ox l (w.o8.count - ((w.o8.k9++[(⟨w.o8.next,w.o8.count,0,false⟩:x7)]).getD i n4).cnt) ((w.n6++[(⟨w.o8.next,0,o.n,v,w.o8.count + w.line.lag,s,false⟩:B6)]).getD i n5) ((w.o8.k9++[(⟨w.o8.next,w.o8.count,0,false⟩:x7)]).getD i n4)
  have A2:=t.gw.lt
  by_cases e:i < w.n6.length
  ·rw [Q7 (l:=w.n6),if_pos e,Q7 (l:=w.o8.k9),if_pos (by omega)]
   exact t.pr i e
  ·have e2:i=w.n6.length:=by omega
   rw [Q7 (l:=w.n6),if_neg e,if_pos e2,Q7 (l:=w.o8.k9),if_neg (by omega),if_pos (by omega)]
   have lg:=xZ t.gw.ln
   have bl:=G1.1 (K3 t.gw.ln).1
   rw [t.ln.1] at lg bl
   refine ⟨by show w.o8.count + w.line.lag=w.o8.count + l.lag;rw [t.ln.1],hv.1,?_,fun q=>(by cases q),fun _ q=>?_⟩
   ·show (0:Int)=if l.lag < w.o8.count - w.o8.count then _ else 0
    rw [if_neg (by omega)]
   ·have q:l.n8.y9<=0:=q
    omega
 ·have hi:i < b.n7.length:=hi
  show fR l i (b.n7.getD i K4) ((b.pieces++[(⟨o,gg,v,s⟩:G2)]).getD i A1)
  rw [VD i (by omega)]
  exact t.oc i hi
 ·have hi:i < (b.pieces++[(⟨o,gg,v,s⟩:G2)]).length:=hi
  rw [List.length_append] at hi
  simp only [List.length_cons,List.length_nil] at hi
  show qi l c.next ((b.pieces++[(⟨o,gg,v,s⟩:G2)]).getD i A1)
  by_cases e:i < b.pieces.length
  ·rw [VD i e]
   obtain ⟨o1,o2,o3⟩:=t.pc i e
   refine ⟨o1,o2,?_⟩
   rcases o3 with o3|⟨⟨o3,o4⟩,o5⟩
   ·exact .inl o3
   ·exact .inr ⟨⟨o3,by omega⟩,o5⟩
  ·have e2:i=b.pieces.length:=by omega
   rw [e2,new];exact hp
 ·have he:e ∈ c.log:=he
  rcases hl e he with m|⟨e1,e2,e3,e4,e5⟩
  ·obtain ⟨q1,q2,q3,q4,q5⟩:=t.lg e m
   have o1:=VD e.part.toNat (by omega)
   refine ⟨⟨q1.1,?_⟩,?_,?_,?_,?_⟩
   ·show e.part < ((b.pieces++[(⟨o,gg,v,s⟩:G2)]).length:Int)
    rw [List.length_append]
    simp only [List.length_cons,List.length_nil]
    omega
   ·show ((b.pieces++[(⟨o,gg,v,s⟩:G2)]).getD e.part.toNat A1).seq=_
    rw [o1];exact q2
   ·show _=H4 ((b.pieces++[(⟨o,gg,v,s⟩:G2)]).getD e.part.toNat A1).ord.tru ((b.pieces++[(⟨o,gg,v,s⟩:G2)]).getD e.part.toNat A1).ord.a8
    rw [o1];exact q3
   ·show (c.b8.getD e.recipe.toNat r9).b9=((b.pieces++[(⟨o,gg,v,s⟩:G2)]).getD e.part.toNat A1).b9
    rw [o1,hr];exact q4
   ·show _=((b.pieces++[(⟨o,gg,v,s⟩:G2)]).getD e.part.toNat A1).o6
    rw [o1];exact q5
  ·have ep:e.part.toNat=b.pieces.length:=by omega
   refine ⟨⟨by omega,?_⟩,?_,?_,?_,?_⟩
   ·show e.part < ((b.pieces++[(⟨o,gg,v,s⟩:G2)]).length:Int)
    rw [List.length_append]
    simp only [List.length_cons,List.length_nil]
    omega
   ·show ((b.pieces++[(⟨o,gg,v,s⟩:G2)]).getD e.part.toNat A1).seq=_
    rw [ep,new];exact e2.symm
   ·show _=H4 ((b.pieces++[(⟨o,gg,v,s⟩:G2)]).getD e.part.toNat A1).ord.tru ((b.pieces++[(⟨o,gg,v,s⟩:G2)]).getD e.part.toNat A1).ord.a8
    rw [ep,new];exact e3
   ·show (c.b8.getD e.recipe.toNat r9).b9=((b.pieces++[(⟨o,gg,v,s⟩:G2)]).getD e.part.toNat A1).b9
    rw [ep,new,hr];exact e4
   ·show _=((b.pieces++[(⟨o,gg,v,s⟩:G2)]).getD e.part.toNat A1).o6
    rw [ep,new];exact e5
theorem vE {l:A5} {w:n9} {b:G4} (t:Told l w b) (h:w.l9.b8.any C9=true):pP b=gK w.l9/\0<=b.active/\b.active < b.gauges.length:=by
 have ha:=t.ac
 rw [if_pos h] at ha
 have A2:=J4 h
 obtain ⟨g1,g2⟩:=t.ga
 refine ⟨?_,by omega,by omega⟩
 unfold pP gK
 rw [ha,Int.toNat_natCast]
 exact g2 _ A2
theorem Lv {l:A5} {w:n9} {b:G4} (t:Told l w b) {o:r8} (h:jR w o=0) (hk:o.kind=2):Told l (jc w o) (DH b w o):=by
 obtain ⟨h1,h2,h3,h4⟩:=fP h
 have nx:=t.gw.bk.nx
 have tB:w.line.n8.len=l.n8.len:=by rw [t.ln.1]
 have ek:DH b w o=if sR w o then ⟨b.line,b.gauges,b.active,b.pieces++[⟨o,pP b,AT b o,w.l9.next⟩],sQ b.line (jb b.drift) (!decide (AT b o=1)),b.n7,b.world⟩ else ⟨b.line,b.gauges,b.active,b.pieces++[⟨o,ao,0,-1⟩],b.drift,b.n7,b.world⟩:=by
  unfold DH
  rw [if_neg (show ¬o.kind=4 by omega),if_neg (show ¬o.kind=6 by omega),if_neg (show ¬o.kind=7 by omega),if_neg (show ¬o.kind=10 by omega),if_pos hk]
 rw [ek]
 unfold jc
 by_cases hr:sR w o
 ·rw [if_pos hr,if_pos hr]
  obtain ⟨hc,hp,ha,hm,_,hnn⟩:=fH hr
  obtain ⟨a1,_,_⟩:=vE t ha
  have ev:AT b o=Ho w o:=by unfold AT Ho;rw [a1]
  have gg:=(nT t.gw.bk (J4 ha)).2.2.2.1
  rw [ev,t.df,a1,t.ln.2,<- t.ln.1]
  have:=AY t h (c:=pM w.l9 w.o8.next (H4 o.tru o.a8)) (d:=sQ w.line (jb w.drift) (!decide (Ho w o=1))) (v:=Ho w o) (s:=w.l9.next) (gg:=gK w.l9) (sH t.gw.bk hr) rfl (by show w.l9.next<=w.l9.next + 1;omega) rfl (Fl t.gw.df _) Fm
   ⟨by omega,by show w.l9.next<=w.l9.next + 1 - 1;omega⟩ ⟨h1,by rw [<- tB];exact h2,.inr ⟨⟨nx.1,by show w.l9.next < w.l9.next + 1;omega⟩,gg,hm,rfl⟩⟩ (fun e he=>?_)
  ·rw [t.ln.2,<- t.ln.1] at this
   exact this
  ·have he:e ∈ pL w.l9++[sD w.l9 w.o8.next (H4 o.tru o.a8)]:=he
   rcases List.mem_append.1 he with he|he
   ·exact .inl ((mF w.l9).subset he)
   ·obtain rfl:=List.mem_singleton.1 he
    exact .inr ⟨rfl,rfl,rfl,rfl,rfl⟩
 ·rw [if_neg hr,if_neg hr,t.df]
  exact AY t h (c:=w.l9) (d:=w.drift) (v:=0) (s := -1) (gg:=ao) t.gw.bk rfl (Int.le_refl _) rfl t.gw.df ⟨Int.le_refl _,by decide⟩ ⟨Int.le_refl _,by omega⟩ ⟨h1,by rw [<- tB];exact h2,.inl ⟨rfl,rfl⟩⟩ fun e he => .inl he
theorem sU.to {w w':n9} {ps:List G2} {s:B8} (h:w'.l9=w.l9) (k:sU w ps s):sU w' ps s:=⟨k.pt,k.sq,k.pf,by rw [h];exact k.ga,k.vr⟩
theorem Lw {l:A5} {w:n9} {b:G4} (t:Told l w b) {n:Int} (h:ir w n=0):Told l (X4 w n) (iu b (aH w n)):=by
 have g:=t.gw
 obtain ⟨gk,k1,k2,k3,k4,k5⟩:=ak g
 have kc:=AN g h
 have le:=t.le
 have pc:=fun i hi=>Lq g h (i:=i) hi (by rw [t.ln.1];exact t.pr i hi)
 have XO:∀ i,i < w.n6.length->((moved w n).getD i n5).id=(w.n6.getD i n5).id/\((moved w n).getD i n5).len=(w.n6.getD i n5).len/\((moved w n).getD i n5).o6=(w.n6.getD i n5).o6/\((moved w n).getD i n5).seq=(w.n6.getD i n5).seq:=fun i hi=>by
  rw [gQ hi];exact ⟨rfl,rfl,rfl,rfl⟩
 have XP:∀ i,i < b.n7.length->∀ m:List V5,(b.n7++m).getD i K4=b.n7.getD i K4:=fun i hi m=>by
  simp only [List.getD];rw [List.getElem?_append_left hi]
 by_cases hg:N2 (v8 w)=true
 ·have Qg:=of_decide_eq_true hg
  have h0:0 < w.n6.length:=by rw [g.lt,<- k4];exact Qg.1
  have eo:aH w n=[Rv ((moved w n).getD 0 n5) (ja ((hits (v8 w)).getD 0 n4))]:=by unfold aH;rw [if_pos hg]
  have et:(X4 w n).n6=(moved w n).drop 1:=by show (if N2 (v8 w)=true then (moved w n).drop 1 else moved w n)=_;rw [if_pos hg]
  have ep:(X4 w n).o8.k9=(hits (v8 w)).drop 1:=by show (if N2 (v8 w)=true then (hits (v8 w)).drop 1 else hits (v8 w))=_;rw [if_pos hg]
  have XQ:(b.n7++aH w n).length=b.n7.length + 1:=by rw [eo,List.length_append];rfl
  have Si:(X4 w n).n6.length=w.n6.length - 1:=by rw [et,List.length_drop,W6]
  refine ⟨kc,t.ln,t.ga,t.ac,t.df,?_,?_,fun i hi=>?_,fun i hi=>?_,fun i hi=>?_,t.pc,fun s hs=>sU.to (w:=w) rfl (t.lg s hs)⟩
  ·show (b.pieces.length:Int)=(v8 w).next
   rw [k3];exact t.np
  ·show (b.n7++aH w n).length + (X4 w n).n6.length=b.pieces.length
   rw [XQ,Si];omega
  ·rw [Si] at hi
   show ((X4 w n).n6.getD i n5).id=((b.n7++aH w n).length + i:Nat)/\((X4 w n).n6.getD i n5).len=(b.pieces.getD ((b.n7++aH w n).length + i) A1).ord.n/\((X4 w n).n6.getD i n5).o6=(b.pieces.getD ((b.n7++aH w n).length + i) A1).o6 /\
    ((X4 w n).n6.getD i n5).seq=(b.pieces.getD ((b.n7++aH w n).length + i) A1).seq
   rw [et,dw,XQ,show b.n7.length + 1 + i=b.n7.length + (i + 1) by omega]
   obtain ⟨m1,m2,m3,m4⟩:=XO (i + 1) (by omega)
   rw [m1,m2,m3,m4]
   exact t.th (i + 1) (by omega)
  ·rw [Si] at hi
   have:=pc (i + 1) (by omega)
   show ox l ((v8 w).count + 1 - ((X4 w n).o8.k9.getD i n4).cnt) ((X4 w n).n6.getD i n5) ((X4 w n).o8.k9.getD i n4)
   rw [et,ep,dw,dw,k2]
   rw [t.ln.1] at this
   exact this
  ·show fR l i ((b.n7++aH w n).getD i K4) (b.pieces.getD i A1)
   have hi:i < (b.n7++aH w n).length:=hi
   rw [XQ] at hi
   by_cases e:i < b.n7.length
   ·rw [XP i e];exact t.oc i e
   ·have e2:i=b.n7.length:=by omega
    have p0:=pc 0 h0
    obtain ⟨t1,t2,t3,t4⟩:=t.th 0 h0
    obtain ⟨m1,m2,m3,m4⟩:=XO 0 h0
    rw [Nat.add_zero] at t1 t2 t3 t4
    rw [eo,Q7,if_neg e,if_pos e2,e2]
    have MQ:=Qg.2
    rw [k2] at MQ
    have ec:((hits (v8 w)).getD 0 n4).cnt=((v8 w).k9.getD 0 n4).cnt:=by rw [bI _ _ Qg.1];rfl
    have hb:=(K3 g.ln).1
    have wl:=Ry hb
    have wz:=Lp hb
    have mo:=(AM g h h0).2.2.1.1
    have mo:((v8 w).count + 1 - ((hits (v8 w)).getD 0 n4).cnt) * (w.line.n8.step - w.line.n8.A0)<=((moved w n).getD 0 n5).front:=mo
    have bl:=G1.1 hb
    have Td:(v8 w).n8=w.line.n8:=k1.trans g.bl
    rw [Td] at MQ
    have dn:w.o8.count + 1 - ((hits (v8 w)).getD 0 n4).cnt=N7 w.line.n8 w.line.n8.y9:=by rw [ec];omega
    rw [k2,dn] at mo
    have vr:((hits (v8 w)).getD 0 n4).o6=ov l (b.pieces.getD b.n7.length A1).o6:=by
     rw [p0.ve,dn,m3,t3,t.ln.1]
     by_cases q:l.lag < N7 l.n8 l.n8.y9
     ·rw [if_pos q]
     ·rw [if_neg q]
      unfold ov
      rw [t.ln.1] at wl
      rw [if_pos (by omega)]
    refine ⟨by show ((moved w n).getD 0 n5).id=_;rw [m1];exact t1,vr,by show ((moved w n).getD 0 n5).seq=_;rw [m4];exact t4,fun hv=>?_,p0.oh⟩
    have hv:¬((hits (v8 w)).getD 0 n4).o6=1:=hv
    have ho:((moved w n).getD 0 n5).out=true:=by
     refine p0.ho ?_ (by omega)
     rw [m3,t3,t.ln.1,<- vr];exact hv
    exact ⟨ho,p0.oh ho⟩
 ·have eo:aH w n=[]:=by unfold aH;rw [if_neg hg]
  have et:(X4 w n).n6=moved w n:=by show (if N2 (v8 w)=true then (moved w n).drop 1 else moved w n)=_;rw [if_neg hg]
  have ep:(X4 w n).o8.k9=hits (v8 w):=by show (if N2 (v8 w)=true then (hits (v8 w)).drop 1 else hits (v8 w))=_;rw [if_neg hg]
  have Si:(X4 w n).n6.length=w.n6.length:=by rw [et,W6]
  have ea:iu b (aH w n)=⟨b.line,b.gauges,b.active,b.pieces,b.drift,b.n7,b.world⟩:=by unfold iu;rw [eo,List.append_nil]
  rw [ea]
  refine ⟨kc,t.ln,t.ga,t.ac,t.df,?_,?_,fun i hi=>?_,fun i hi=>?_,t.oc,t.pc,fun s hs=>sU.to (w:=w) rfl (t.lg s hs)⟩
  ·show (b.pieces.length:Int)=(v8 w).next
   rw [k3];exact t.np
  ·show b.n7.length + (X4 w n).n6.length=b.pieces.length
   rw [Si];exact le
  ·rw [Si] at hi
   obtain ⟨m1,m2,m3,m4⟩:=XO i hi
   rw [et,m1,m2,m3,m4]
   exact t.th i hi
  ·rw [Si] at hi
   have:=pc i hi
   show ox l ((v8 w).count + 1 - ((X4 w n).o8.k9.getD i n4).cnt) ((X4 w n).n6.getD i n5) ((X4 w n).o8.k9.getD i n4)
   rw [et,ep,k2]
   rw [t.ln.1] at this
   exact this
theorem Lx {l:A5} {w:n9} {b:G4} (t:Told l w b):Told l (Dz w) ⟨b.line,b.gauges,b.active,b.pieces,X3,b.n7,b.world⟩ :=
 ⟨AL t.gw,t.ln,t.ga,t.ac,rfl,t.np,t.le,t.th,t.pr,t.oc,t.pc,fun s hs=>sU.to (w:=w) rfl (t.lg s hs)⟩
theorem Ly {l:A5} {w:n9} {b:G4} (t:Told l w b) {o:r8} (ho:B2 o=true):Told l (Q6 w o) (mS b w o):=by
 have hk:1<=o.kind/\o.kind<=10:=by
  unfold B2 at ho
  simp only [Bool.and_eq_true,decide_eq_true_eq] at ho
  exact ho.1.1
 have nil:∀ b:G4,iu b []=b:=fun b=>by unfold iu;rw [List.append_nil]
 unfold Q6 mS G9
 by_cases h:K0 w o=0
 ·rw [if_pos h,if_pos h,if_pos h]
  unfold K0 at h
  unfold od
  show Told l _ (DH (iu b (mO w o)) w o)
  unfold mO
  by_cases k1:o.kind=1
  ·rw [if_pos k1] at h
   rw [if_pos k1,if_pos k1]
   unfold DH
   rw [if_neg (by omega),if_neg (by omega),if_neg (by omega),if_neg (by omega),if_neg (by omega)]
   exact Lw t h
  rw [if_neg k1] at h
  rw [if_neg k1,if_neg k1,nil]
  by_cases k2:o.kind=2
  ·rw [if_pos k2] at h
   rw [if_pos k2]
   exact Lv t h k2
  rw [if_neg k2] at h
  rw [if_neg k2]
  by_cases k3:o.kind=10
  ·rw [if_pos k3]
   unfold DH
   rw [if_neg (by omega),if_neg (by omega),if_neg (by omega),if_pos k3]
   exact Lx t
  rw [if_neg k3] at h
  rw [if_neg k3]
  exact HR t (by omega) h
 ·rw [if_neg h,if_neg h,if_neg h]
  show Told l w (iu b [])
  rw [nil];exact t
theorem aK {l:A5}:∀ {os:List r8} {w:n9} {b:G4},Told l w b->(∀ o,o ∈ os->B2 o=true)->Told l (N3 w os) (E3 b w os)
 | [],_,_,t,_=>t
 | o :: os,w,b,t,h=>aK (os:=os) (Ly t (h o (List.mem_cons_self ..))) fun x hx=>h x (List.mem_cons_of_mem _ hx)
theorem LA {p n:List Int} {N:Int} (hp:L2 p=true) (UF:p.length=n.length) (hq:∀ i,i < n.length -> -N<=n.getD i 0/\n.getD i 0<=N) (i:Nat) :
  (C6 (H4 p n) (-N)).getD i 0<=(C6 p 0).getD i 0/\(C6 p 0).getD i 0<=(C6 (H4 p n) N).getD i 0:=by
 rw [cT,cT,cT,aF]
 by_cases hi:i < p.length
 ·rw [if_pos hi,if_pos hi,if_pos hi]
  have b:=jr hp i hi
  have q:=hq i (by omega)
  have e:(H4 p n).getD i 0=Ks (p.getD i 0 + n.getD i 0):=by
   simp only [H4,List.getD,List.getElem?_map]
   rw [List.getElem?_range hi];rfl
  rw [e]
  generalize p.getD i 0=x at *
  generalize n.getD i 0=y at *
  unfold Ks aE
  constructor<;>(repeat' split)<;>omega
 ·rw [if_neg hi,if_neg hi,if_neg hi];exact ⟨Int.le_refl _,Int.le_refl _⟩
theorem sV {p q:List Int} {thr a N d:Int} (hd:hC d) (hN:0<=N) (hp:L2 p=true) (hl:p.length=q.length) (lo:∀ i,(C6 q (-N)).getD i 0<=(C6 p 0).getD i 0) (hi:∀ i,(C6 p 0).getD i 0<=(C6 q N).getD i 0) (h:(N6 q thr a N d).2=0) :
  (N6 p thr a 0 d).2=0/\z7 (N6 p thr a 0 d).1=true/\z7 (N6 q thr a N d).1=true/\qv (N6 q thr a N d).1.1<=qv (N6 p thr a 0 d).1.1/\qv (N6 p thr a 0 d).1.2<=qv (N6 q thr a N d).1.2:=by
 obtain ⟨_,hq,_,sp,k,j,hk,hj,e,q1,q2⟩:=js hd h
 have Ef:dF p thr a 0=true:=by
  have:=ag hq
  simp only [dF,Bool.and_eq_true,decide_eq_true_eq]
  omega
 have z:C6 p (-0)=C6 p 0:=rfl
 obtain ⟨k',oI,_,m1⟩:=rL (p:=C6 q (-N)) (q:=C6 p 0) (by simp [z8,hl]) lo hk
 have ok:=GO hd hp Ef (z ▸ oI)
 obtain ⟨_,_,_,sp',k2,j',FV,lh,e',SZ,Uw⟩:=js hd ok
 rw [z] at FV e' SZ
 obtain rfl:k2=k':=by rw [oI] at FV;exact (Option.some.inj FV).symm
 obtain ⟨j2,Qd,_,m2⟩:=rL (p:=C6 p 0) (q:=C6 q N) (by simp [z8,hl]) hi lh
 obtain rfl:j2=j:=by rw [hj] at Qd;exact (Option.some.inj Qd).symm
 refine ⟨ok,sp',sp,?_⟩
 rw [e,e']
 rcases hd with rfl|rfl
 ·simp only [show ¬ ((1:Int) < 0) by decide,if_false]
  rw [q1,q2,SZ,Uw,show ((1:Int):Rat)=1 from rfl]
  constructor<;>grind
 ·simp only [show ((-1:Int) < 0) by decide,if_true]
  rw [q1,q2,SZ,Uw,show ((-1:Int):Rat) = -1 from rfl]
  constructor<;>grind
theorem HS {p q:List Int} {thr N:Int} (hN:0<=N) (hp:L2 p=true) (hl:p.length=q.length) (lo:∀ i,(C6 q (-N)).getD i 0<=(C6 p 0).getD i 0) (hi:∀ i,(C6 p 0).getD i 0<=(C6 q N).getD i 0) (h:(H6 q thr N).2=0) :
  (H6 p thr 0).2=0/\z7 (H6 p thr 0).1=true/\z7 (H6 q thr N).1=true/\qv (H6 q thr N).1.1<=qv (H6 p thr 0).1.1/\qv (H6 p thr 0).1.2<=qv (H6 q thr N).1.2:=by
 obtain ⟨_,_,r1,f1,s1,x1,y1⟩:=jt h
 obtain ⟨r2,_,_,r3,r4⟩:=sV (.inl rfl) hN hp hl lo hi r1
 rw [<- hl] at f1
 obtain ⟨f2,_,_,f3,f4⟩:=sV (.inr rfl) hN hp hl lo hi f1
 have ok:=GP r2
 obtain ⟨_,_,_,_,s2,x2,y2⟩:=jt ok
 rw [<- hl] at x1 y1
 exact ⟨ok,s2,s1,by grind,by grind⟩
theorem HT {g:x8} {p n:List Int} (hp:L2 p=true) (UF:p.length=n.length) (hq:∀ i,i < n.length -> -D9 g<=n.getD i 0/\n.getD i 0<=D9 g) (h0:(F8 g (H4 p n)).2.2=0) (h1:(F8 g (H4 p n)).2.1=1) :
  (F8 (ki g 0) p).2.2=0/\(F8 (ki g 0) p).2.1=1:=by
 obtain ⟨hg,VK,⟨w,e⟩|⟨w,sw,sm,m0,e⟩⟩:=GS h0
 ·exfalso
  rw [e] at h1
  simp only [] at h1
  split at h1<;>cases h1
 have hk:=bz hg
 obtain ⟨t1,n1,hs,ht,Ck,m1,m2,m3,m4⟩:=hk
 have SX:=LA hp UF hq
 obtain ⟨w2,sw2,_,lo,hi⟩:=HS n1.1 hp (by rw [aF]) (fun i=>(SX i).1) (fun i=>(SX i).2) w
 have Qc:S6 (ki g 0)=true:=by
  simp only [S6,D1,Bool.and_eq_true,decide_eq_true_eq] at hg ⊢
  exact ⟨⟨⟨⟨⟨hg.1.1.1.1.1,by show (0:Int)<=0/\(0:Int)<=64;decide⟩,hg.1.1.1.2⟩,hg.1.1.2⟩,hg.1.2⟩,hg.2⟩
 have fine:=GW w2 hs m1 m2
 obtain ⟨l1,l2⟩:=GU fine m0 lo hi
 have hv:mr (P0 (H6 p (H8 g) 0).1 (J5 g)).1 (kV g)=1:=by
  rw [e] at h1
  obtain ⟨_,_,sm2⟩:=mq fine
  have a:=(Kw sm ht).1.1 h1
  exact (Kw sm2 ht).1.2 ⟨by grind,by grind⟩
 have em:F8 (ki g 0) p=((P0 (H6 p (H8 g) 0).1 (J5 g)).1,mr (P0 (H6 p (H8 g) 0).1 (J5 g)).1 (kV g),0):=by
  unfold F8
  rw [Qc,if_pos rfl]
  show xm (ki g 0) (H6 p (H8 g) 0) (P0 (H6 p (H8 g) 0).1 (J5 g)) _=_
  have h6:(H6 p (H8 g) 0).2≠6:=by omega
  unfold xm
  rw [if_neg h6,if_pos w2,if_pos fine]
 rw [em]
 exact ⟨rfl,hv⟩

end Go.Proofs.Tryz.My
