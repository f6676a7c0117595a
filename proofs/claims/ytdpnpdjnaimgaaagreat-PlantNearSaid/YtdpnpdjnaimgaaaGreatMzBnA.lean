/- A helper text: contracts of functions of the program, and plain lemmas. -/
import Derived.Test.YtdpnpdjnaimgaaaGreatMzBpD
import Derived.Test.YtdpnpdjnaimgaaaGreatMzBm3
set_option maxRecDepth 100000
set_option maxHeartbeats 0
set_option linter.unusedVariables false
set_option linter.unusedSimpArgs false
namespace Go.Proofs.Tryz.My
open Go Go.Ev
theorem b2m {g:GauT} {p:List Int} (h:(meaF g p).2.2=0):y8 p=true:=by
 unfold meaF at h
 by_cases hg:gauB g=true
 ·rw [if_pos hg] at h
  obtain ⟨⟨t1,t2⟩,⟨n1,n2⟩,_⟩:=a0F hg
  rcases b3I (p:=p) t1 t2 n1 n2 with ⟨_,q⟩ | ⟨q,_⟩
  ·rw [q] at h
   unfold meaG at h
   rw [if_neg (by decide),if_neg (by decide)] at h
   exact absurd (show (50:Int)=0 from h) (by decide)
  ·exact q
 ·rw [if_neg hg] at h
  exact absurd h (by decide)
def b4z (b:BooksT) (s:EntT):Prop :=
 (0<=s.seq/\s.seq < b.next)/\(0<=s.recipe/\s.recipe < b.recipes.length)/\(0<=s.part/\s.part<=1099511627776)/\(meaF (b.recipes.getD s.recipe.toNat rec0).gauge s.profile).2.2=0 /\
  (meaF (b.recipes.getD s.recipe.toNat rec0).gauge s.profile).2.1=s.verdict/\¬(b.recipes.getD s.recipe.toNat rec0).state=1
def Y1 (us:List Int) (x:RecT):Prop :=
 List.Pairwise (· < ·) x.appr/\(∀ u,u ∈ x.appr->¬u=x.author/\mayB [2,3] us u=true)/\mayB [2] us x.author=true/\gauB x.gauge=true/\(1<=x.state/\x.state<=4)/\(1 < x.state↔x7 us x.appr=true)
structure GoodB (b:BooksT):Prop where
 kp:1<=b.keep/\b.keep<=32
 nx:0<=b.next/\b.next<=1099511627776
 nu:b.users.length<=16
 nr:b.recipes.length<=16
 nl:(b.log.length:Int)<=b.keep
 st:∀ r,r ∈ b.users->1<=r/\r<=3
 rc:∀ x,x ∈ b.recipes->Y1 b.users x
 ac:o9 b.recipes<=1
 sq:List.Pairwise (fun s t:EntT=>s.seq < t.seq) b.log
 lg:∀ s,s ∈ b.log->b4z b s
theorem l0 {α:Type} {d:α} {l:List α} {i:Nat} (h:i < l.length):l.getD i d=l[i]:=by
 simp only [List.getD,List.getElem?_eq_getElem h,Option.getD_some]
theorem Z8 {rr us:List Int} {u:Int} (h:mayB rr us u=true):0<=u/\u < us.length:=by
 unfold mayB n8 at h
 simp only [Bool.and_eq_true,decide_eq_true_eq] at h
 omega
theorem a3k {α:Type} {d:α} {l:List α} (f:α->Int):((∀ i,i < l.length->(if i=0 then -1 else f (l.getD (i - 1) d)) < f (l.getD i d))↔(List.Pairwise (fun s t=>f s < f t) l/\∀ s,s ∈ l->0<=f s)):=by
 constructor
 ·intro h
  have up:∀ j,j < l.length->0<=f (l.getD j d)/\∀ i,i < j->f (l.getD i d) < f (l.getD j d):=by
   intro j
   induction j with
   | zero =>
    intro hj
    have:=h 0 hj
    rw [if_pos rfl] at this
    exact ⟨by omega,fun i hi=>absurd hi (Nat.not_lt_zero i)⟩
   | succ j ih =>
    intro hj
    have a:=ih (by omega)
    have b:=h (j + 1) hj
    rw [if_neg (by omega),show j + 1 - 1=j by omega] at b
    refine ⟨by omega,fun i hi => ?_⟩
    by_cases e:i=j
    ·subst e; exact b
    ·have:=a.2 i (by omega)
     omega
  refine ⟨List.pairwise_iff_getElem.2 fun i j hi hj hij => ?_,fun s hs => ?_⟩
  ·have:=(up j hj).2 i hij
   rwa [l0 hi,l0 hj] at this
  ·obtain ⟨i,hi,e⟩:=List.getElem_of_mem hs
   have:=(up i hi).1
   rw [l0 hi,e] at this
   exact this
 ·rintro ⟨h1,h2⟩ i hi
  by_cases e:i=0
  ·rw [if_pos e,l0 hi]
   have:=h2 _ (List.getElem_mem hi)
   omega
  ·rw [if_neg e,l0 hi,l0 (show i - 1 < l.length by omega)]
   exact List.pairwise_iff_getElem.1 h1 (i - 1) i (by omega) hi (by omega)
theorem a51 {us:List Int} {x:RecT}:recB us x=true↔Y1 us x:=by
 have hc:=a3k (d:=(0:Int)) (l:=x.appr) (fun u=>u)
 have ha:a1Z us x=true↔(List.Pairwise (· < ·) x.appr/\∀ u,u ∈ x.appr->¬u=x.author/\mayB [2,3] us u=true):=by
  unfold a1Z
  rw [M0]
  constructor
  ·intro h
   have h':∀ i,i < x.appr.length->a06 x.appr i < x.appr.getD i 0/\¬x.appr.getD i 0=x.author/\mayB [2,3] us (x.appr.getD i 0)=true:=fun i hi=>by
    have:=h i hi
    unfold okA at this
    simp only [Bool.and_eq_true,decide_eq_true_eq,Bool.not_eq_true',decide_eq_false_iff_not] at this
    exact ⟨this.1.1,this.1.2,this.2⟩
   refine ⟨(hc.1 fun i hi=>(h' i hi).1).1,fun u hu => ?_⟩
   obtain ⟨i,hi,e⟩:=List.getElem_of_mem hu
   have:=(h' i hi).2
   rw [l0 hi,e] at this
   exact this
  ·rintro ⟨h1,h2⟩ i hi
   have m:=h2 _ (List.getElem_mem hi)
   have c:=hc.2 ⟨h1,fun u hu=>(Z8 (h2 u hu).2).1⟩ i hi
   unfold okA
   simp only [Bool.and_eq_true,decide_eq_true_eq,Bool.not_eq_true',decide_eq_false_iff_not]
   rw [l0 hi] at c ⊢
   exact ⟨⟨c,m.1⟩,m.2⟩
 unfold recB
 rw [Bool.and_eq_true,ha]
 unfold a1x Y1 n8
 simp only [Bool.and_eq_true,decide_eq_true_eq]
 have hb:(decide (x.state > 1) == x7 us x.appr)=true↔(1 < x.state↔x7 us x.appr=true):=by
  rw [beq_iff_eq]
  by_cases q:1 < x.state
  ·rw [decide_eq_true q]
   exact ⟨fun h=>⟨fun _=>h.symm,fun _=>q⟩,fun h=>(h.1 q).symm⟩
  ·rw [decide_eq_false q]
   exact ⟨fun h=>⟨fun z=>absurd z q,fun z=>by rw [<- h] at z; cases z⟩,fun h=>(Bool.eq_false_iff.2 fun z=>q (h.2 z)).symm⟩
 rw [hb]
 constructor
 ·rintro ⟨⟨a,b⟩,⟨⟨c,d⟩,e⟩,f⟩
  exact ⟨a,b,c,d,e,f⟩
 ·rintro ⟨a,b,c,d,e,f⟩
  exact ⟨⟨a,b⟩,⟨⟨c,d⟩,e⟩,f⟩
theorem a7o {b:BooksT}:chkB b=true↔GoodB b:=by
 have hst:R8 b=true↔∀ r,r ∈ b.users->1<=r/\r<=3:=by
  unfold R8
  rw [Bool.not_eq_true',List.any_eq_false]
  constructor
  ·intro h r hr
   have:=h r hr
   unfold oddR at this
   simp only [Bool.or_eq_true,decide_eq_true_eq] at this
   omega
  ·intro h r hr
   have:=h r hr
   unfold oddR
   simp only [Bool.or_eq_true,decide_eq_true_eq]
   omega
 have hlg:J0 b=true↔(List.Pairwise (fun s t:EntT=>s.seq < t.seq) b.log/\∀ s,s ∈ b.log->b4z b s):=by
  have hc:=a3k (d:=ent0) (l:=b.log) EntT.seq
  unfold J0
  rw [M0]
  constructor
  ·intro h
   have h':∀ i,i < b.log.length->V6 b.log i < (b.log.getD i ent0).seq/\(b.log.getD i ent0).seq < b.next/\(0<=(b.log.getD i ent0).recipe/\(b.log.getD i ent0).recipe<=(b.recipes.length:Int) - 1)/\(0<=(b.log.getD i ent0).part/\(b.log.getD i ent0).part<=1099511627776) /\
     (meaF (b.recipes.getD (b.log.getD i ent0).recipe.toNat rec0).gauge (b.log.getD i ent0).profile).2.2=0/\(meaF (b.recipes.getD (b.log.getD i ent0).recipe.toNat rec0).gauge (b.log.getD i ent0).profile).2.1=(b.log.getD i ent0).verdict/\¬(b.recipes.getD (b.log.getD i ent0).recipe.toNat rec0).state=1:=fun i hi=>by
    have:=h i hi
    unfold entB n8 at this
    simp only [Bool.and_eq_true,decide_eq_true_eq,Bool.not_eq_true',decide_eq_false_iff_not] at this
    obtain ⟨⟨⟨⟨a,b⟩,c⟩,d⟩,⟨e,f⟩,g⟩:=this
    exact ⟨a,b,c,d,e,f,g⟩
   have p:=hc.1 fun i hi=>(h' i hi).1
   refine ⟨p.1,fun s hs => ?_⟩
   have z:=p.2 s hs
   obtain ⟨i,hi,e⟩:=List.getElem_of_mem hs
   have:=(h' i hi).2
   rw [l0 hi,e] at this
   obtain ⟨a,c,d,r⟩:=this
   exact ⟨⟨z,a⟩,⟨c.1,by omega⟩,d,r⟩
  ·rintro ⟨h1,h2⟩ i hi
   have m:=h2 _ (List.getElem_mem hi)
   have c:=hc.2 ⟨h1,fun s hs=>(h2 s hs).1.1⟩ i hi
   unfold entB n8
   simp only [Bool.and_eq_true,decide_eq_true_eq,Bool.not_eq_true',decide_eq_false_iff_not]
   obtain ⟨a1,a2,a3,a4,a5,a6⟩:=m
   have c:V6 b.log i < (b.log.getD i ent0).seq:=c
   rw [l0 hi] at c ⊢
   exact ⟨⟨⟨⟨c,a1.2⟩,a2.1,by omega⟩,a3⟩,⟨a4,a5⟩,a6⟩
 unfold chkB
 rw [Bool.and_eq_true,Bool.and_eq_true,Bool.and_eq_true,hst,hlg]
 unfold U5 B7 n8
 simp only [Bool.and_eq_true,decide_eq_true_eq,List.all_eq_true]
 constructor
 ·intro h
  simp only [and_assoc] at h
  obtain ⟨k1,k2,n1,n2,u,r,l,st,rc,ac,sq,lg⟩:=h
  exact ⟨⟨k1,k2⟩,⟨n1,n2⟩,by omega,by omega,l,st,fun x hx=>a51.1 (rc x hx),ac,sq,lg⟩
 ·rintro ⟨⟨k1,k2⟩,⟨n1,n2⟩,nu,nr,nl,st,rc,ac,sq,lg⟩
  simp only [and_assoc]
  exact ⟨k1,k2,n1,n2,by omega,by omega,nl,st,fun x hx=>a51.2 (rc x hx),ac,sq,lg⟩
theorem a52 {rr us:List Int} {u r:Int} (h:0<=u/\u < us.length):mayB rr (us++[r]) u=mayB rr us u:=by
 have e:(us++[r]).getD u.toNat 0=us.getD u.toNat 0:=by
  simp only [List.getD]
  rw [List.getElem?_append_left (by omega)]
 unfold mayB n8
 rw [e,decide_eq_true h.1,decide_eq_true (show u<=((us++[r]).length:Int) - 1 by simp; omega),decide_eq_true (show u<=(us.length:Int) - 1 by omega)]
theorem b2n {α:Type} {p q:α->Bool} {l:List α} (h:∀ x,x ∈ l->p x=q x):l.any p=l.any q:=by
 rw [Bool.eq_iff_iff,List.any_eq_true,List.any_eq_true]
 exact ⟨fun ⟨x,a,c⟩=>⟨x,a,by rw [<- h x a]; exact c⟩,fun ⟨x,a,c⟩=>⟨x,a,by rw [h x a]; exact c⟩⟩
theorem b3Q {us:List Int} {x:RecT} {r:Int} (h:Y1 us x):Y1 (us++[r]) x:=by
 obtain ⟨a,c,d,e,f,g⟩:=h
 refine ⟨a,fun u hu=>⟨(c u hu).1,by rw [a52 (Z8 (c u hu).2)]; exact (c u hu).2⟩,by rw [a52 (Z8 d)]; exact d,e,f,?_⟩
 have z:x7 (us++[r]) x.appr=x7 us x.appr:=by
  unfold x7
  rw [b2n fun u hu=>a52 (Z8 (c u hu).2)]
 rw [z]; exact g
theorem b2o {b:BooksT} (g:GoodB b) {r:Int} (h1:1<=r/\r<=3) (h2:¬(b.users.length:Int)=16):GoodB (addU b r):=by
 have hu:=g.nu
 refine ⟨g.kp,g.nx,?_,g.nr,g.nl,fun x hx => ?_,fun x hx=>b3Q (g.rc x hx),g.ac,g.sq,fun s hs=>g.lg s hs⟩
 ·show (b.users++[r]).length<=16
  simp; omega
 ·have hx:x ∈ b.users++[r]:=hx
  rw [List.mem_append,List.mem_singleton] at hx
  rcases hx with hx | hx
  ·exact g.st x hx
  ·rw [hx]; exact h1
theorem b3R (l:List RecT) (x:RecT):o9 (l++[x])=o9 l + if x.state=3 then 1 else 0:=by
 unfold o9
 rw [List.filter_append,List.length_append]
 congr 1
 by_cases h:x.state=3<;>simp [h]
theorem b2p {b:BooksT} (g:GoodB b) {user:Int} {gg:GauT} (h1:mayB [2] b.users user=true) (h2:gauB gg=true) (h3:¬(b.recipes.length:Int)=16):GoodB (drfB b user gg):=by
 have hu:=g.nr
 refine ⟨g.kp,g.nx,g.nu,?_,g.nl,g.st,fun x hx => ?_,?_,g.sq,fun s hs => ?_⟩
 ·show (b.recipes++[H4 user gg]).length<=16
  simp; omega
 ·have hx:x ∈ b.recipes++[H4 user gg]:=hx
  rw [List.mem_append,List.mem_singleton] at hx
  rcases hx with hx | hx
  ·exact g.rc x hx
  ·rw [hx]
   exact ⟨List.Pairwise.nil,fun u hu=>absurd hu List.not_mem_nil,h1,h2,⟨by show (1:Int)<=1; omega,by show (1:Int)<=4; omega⟩,⟨fun z=>absurd z (by show ¬(1:Int) < 1; omega),fun z=>Bool.noConfusion (show false=true from z)⟩⟩
 ·show o9 (b.recipes++[H4 user gg])<=1
  rw [b3R,if_neg (show ¬(H4 user gg).state=3 from fun z=>absurd (show (1:Int)=3 from z) (by decide))]
  exact g.ac
 ·obtain ⟨a1,a2,a3,a4,a5,a6⟩:=g.lg s hs
  have e:(b.recipes++[H4 user gg]).getD s.recipe.toNat rec0=b.recipes.getD s.recipe.toNat rec0:=by
   simp only [List.getD]
   rw [List.getElem?_append_left (by omega)]
  refine ⟨a1,⟨a2.1,?_⟩,a3,?_⟩
  ·show s.recipe < ((b.recipes++[H4 user gg]).length:Int)
   simp; omega
  ·show (meaF ((b.recipes++[H4 user gg]).getD s.recipe.toNat rec0).gauge s.profile).2.2=0/\(meaF ((b.recipes++[H4 user gg]).getD s.recipe.toNat rec0).gauge s.profile).2.1=s.verdict/\¬((b.recipes++[H4 user gg]).getD s.recipe.toNat rec0).state=1
   rw [e]
   exact ⟨a4,a5,a6⟩
theorem a2e:∀ {l:List RecT} {i:Nat} (y:RecT),i < l.length->o9 (l.set i y) + (if (l.getD i rec0).state=3 then 1 else 0)=o9 l + (if y.state=3 then 1 else 0)
 | [],i,y,h=>absurd h (Nat.not_lt_zero i)
 | a :: l,0,y,_=>by
  show o9 (y :: l) + (if a.state=3 then 1 else 0)=o9 (a :: l) + _
  unfold o9
  by_cases h1:a.state=3<;>by_cases h2:y.state=3<;>simp [h1,h2]<;>omega
 | a :: l,i + 1,y,h=>by
  have ih:=a2e (l:=l) (i:=i) y (by simpa using h)
  show o9 (a :: l.set i y) + (if (l.getD i rec0).state=3 then 1 else 0)=o9 (a :: l) + _
  have c:∀ m:List RecT,o9 (a :: m)=o9 m + if a.state=3 then 1 else 0:=fun m=>by
   unfold o9
   by_cases h1:a.state=3<;>simp [h1]
  rw [c,c]
  omega
theorem a3l {b:BooksT} (g:GoodB b) {i:Nat} {y:RecT} (hi:i < b.recipes.length) (h1:Y1 b.users y) (h2:y.gauge=(b.recipes.getD i rec0).gauge) (h3:¬(b.recipes.getD i rec0).state=1->¬y.state=1) (h4:o9 (b.recipes.set i y)<=1):GoodB (setR b i y):=by
 refine ⟨g.kp,g.nx,g.nu,?_,g.nl,g.st,fun x hx => ?_,h4,g.sq,fun s hs => ?_⟩
 ·show (b.recipes.set i y).length<=16
  rw [List.length_set]; exact g.nr
 ·rcases List.mem_or_eq_of_mem_set hx with hx | hx
  ·exact g.rc x hx
  ·rw [hx]; exact h1
 ·obtain ⟨a1,a2,a3,a4,a5,a6⟩:=g.lg s hs
  have e:((b.recipes.set i y).getD s.recipe.toNat rec0).gauge=(b.recipes.getD s.recipe.toNat rec0).gauge/\¬((b.recipes.set i y).getD s.recipe.toNat rec0).state=1:=by
   by_cases e:i=s.recipe.toNat
   ·rw [<- e,P1 hi]
    rw [<- e] at a6
    exact ⟨h2,h3 a6⟩
   ·have z:(b.recipes.set i y).getD s.recipe.toNat rec0=b.recipes.getD s.recipe.toNat rec0:=by
     rw [List.getD,List.getElem?_set_ne e]; rfl
    rw [z]; exact ⟨rfl,a6⟩
  refine ⟨a1,⟨a2.1,?_⟩,a3,?_⟩
  ·show s.recipe < ((b.recipes.set i y).length:Int)
   rw [List.length_set]; exact a2.2
  ·show (meaF ((b.recipes.set i y).getD s.recipe.toNat rec0).gauge s.profile).2.2=0/\(meaF ((b.recipes.set i y).getD s.recipe.toNat rec0).gauge s.profile).2.1=s.verdict/\¬((b.recipes.set i y).getD s.recipe.toNat rec0).state=1
   rw [e.1]
   exact ⟨a4,a5,e.2⟩
theorem b2q {us:List Int} {x:RecT} {n:Int} (h:Y1 us x) (h1:1 < x.state) (h2:1 < n/\n<=4):Y1 us (V7 x n):=by
 obtain ⟨a,c,d,e,f,g⟩:=h
 exact ⟨a,c,d,e,⟨by show 1<=n; omega,h2.2⟩,⟨fun _=>g.1 h1,fun _=>h2.1⟩⟩
theorem a53 {b:BooksT} (g:GoodB b) {i:Nat} (hi:i < b.recipes.length):Y1 b.users (b.recipes.getD i rec0):=g.rc _ (by rw [l0 hi]; exact List.getElem_mem hi)
theorem a7p {b:BooksT} (g:GoodB b) {i:Nat} (hi:i < b.recipes.length) (h3:(b.recipes.getD i rec0).state=3):GoodB (retB b i)/\o9 (retB b i).recipes=0:=by
 have hs:=a2e (l:=b.recipes) (V7 (b.recipes.getD i rec0) 4) hi
 rw [if_pos h3,if_neg (show ¬(V7 (b.recipes.getD i rec0) 4).state=3 from fun z=>absurd (show (4:Int)=3 from z) (by decide))] at hs
 have ha:=g.ac
 have hz:o9 (b.recipes.set i (V7 (b.recipes.getD i rec0) 4))=0:=by omega
 exact ⟨a3l g hi (b2q (a53 g hi) (by omega) ⟨by omega,by omega⟩) rfl (fun _ z=>absurd (show (4:Int)=1 from z) (by decide)) (by omega),hz⟩
theorem b2r {l:List RecT} (h:¬l.any A7=true):o9 l=0:=by
 unfold o9
 rw [List.length_eq_zero_iff,List.filter_eq_nil_iff]
 intro x hx q
 exact h (List.any_eq_true.2 ⟨x,hx,q⟩)
theorem b0J {b:BooksT} (g:GoodB b):GoodB (J6 b)/\o9 (J6 b).recipes=0/\(J6 b).recipes.length=b.recipes.length/\∀ k,¬(b.recipes.getD k rec0).state=3->(J6 b).recipes.getD k rec0=b.recipes.getD k rec0:=by
 unfold J6
 by_cases ha:b.recipes.any A7=true
 ·rw [if_pos ha]
  have z:=a7p g (D8 ha) (G6 ha)
  refine ⟨z.1,z.2,List.length_set,fun k hk => ?_⟩
  have e:p9 b.recipes≠k:=fun e=>hk (e ▸ G6 ha)
  show (b.recipes.set _ _).getD k rec0=_
  rw [List.getD,List.getElem?_set_ne e]; rfl
 ·rw [if_neg ha]
  exact ⟨g,b2r ha,rfl,fun _ _=>rfl⟩
theorem b0K {b:BooksT} (g:GoodB b) {number:Int} (hi:number.toNat < b.recipes.length) (h2:(b.recipes.getD number.toNat rec0).state=2):GoodB (Y0 b number):=by
 obtain ⟨g1,z,hl,hk⟩:=b0J g
 have e:=hk number.toNat (by omega)
 have hi2:number.toNat < (J6 b).recipes.length:=by omega
 have hs:=a2e (l:=(J6 b).recipes) (V7 ((J6 b).recipes.getD number.toNat rec0) 3) hi2
 refine a3l g1 hi2 (b2q (a53 g1 hi2) (by rw [e]; omega) ⟨by omega,by omega⟩) rfl (fun _ q=>absurd (show (3:Int)=1 from q) (by decide)) ?_
 rw [e,if_neg (show ¬(b.recipes.getD number.toNat rec0).state=3 by omega)] at hs
 rw [e]
 split at hs<;>omega
theorem b40 {l:List Int} {t v:Int} (h:v ∈ l.take (posI l t)):v < t:=by
 obtain ⟨i,hi,e⟩:=List.getElem_of_mem h
 have hi2:i < posI l t:=by rw [List.length_take] at hi; omega
 have hl:i < l.length:=Nat.lt_of_lt_of_le hi2 (a5N l t)
 have q:¬t<=l[i]:=fun z=>by
  have:=List.not_of_lt_findIdx hi2
  simp [z] at this
 rw [List.getElem_take] at e
 rw [<- e]
 omega
theorem b2s {l:List Int} {t v:Int} (hs:List.Pairwise (· < ·) l) (hn:¬t ∈ l) (h:v ∈ l.drop (posI l t)):t < v:=by
 obtain ⟨j,hj,e⟩:=List.getElem_of_mem h
 rw [List.length_drop] at hj
 rw [List.getElem_drop] at e
 have hk:posI l t < l.length:=by omega
 have q:=List.findIdx_getElem (p:=fun x=>decide (t<=x)) (xs:=l) (w:=hk)
 have q:=of_decide_eq_true q
 have hv:v ∈ l:=by rw [<- e]; exact List.getElem_mem _
 have ne:¬t=v:=fun z=>hn (z ▸ hv)
 by_cases hj0:j=0
 ·subst hj0
  have e:l[posI l t]=v:=e
  have q:t<=l[posI l t]:=q
  omega
 ·have p:=List.pairwise_iff_getElem.1 hs (posI l t) (posI l t + j) hk (by omega) (by omega)
  rw [e] at p
  have q:t<=l[posI l t]:=q
  omega
theorem a7q {l:List Int} {t:Int} (hs:List.Pairwise (· < ·) l) (hn:¬t ∈ l):List.Pairwise (· < ·) (insI l t):=by
 unfold insI
 rw [List.pairwise_append]
 refine ⟨hs.sublist (List.take_sublist _ _),?_,fun a ha c hc => ?_⟩
 ·rw [List.pairwise_cons]
  exact ⟨fun c hc=>b2s hs hn hc,hs.sublist (List.drop_sublist _ _)⟩
 ·have h1:=b40 ha
  rw [List.mem_cons] at hc
  rcases hc with hc | hc
  ·omega
  ·have:=b2s hs hn hc
   omega
theorem a54 {l:List Int} {t v:Int}:v ∈ insI l t↔v=t∨v ∈ l:=by
 unfold insI
 rw [List.mem_append,List.mem_cons]
 constructor
 ·rintro (h | h | h)
  ·exact .inr (List.mem_of_mem_take h)
  ·exact .inl h
  ·exact .inr (List.mem_of_mem_drop h)
 ·rintro (h | h)
  ·exact .inr (.inl h)
  ·rw [<- List.take_append_drop (posI l t) l,List.mem_append] at h
   rcases h with h | h
   ·exact .inl h
   ·exact .inr (.inr h)
theorem a7r {us l:List Int} {t:Int} (h:x7 us l=true):x7 us (insI l t)=true:=by
 unfold x7 at h ⊢
 simp only [Bool.and_eq_true,decide_eq_true_eq,List.any_eq_true] at h ⊢
 obtain ⟨h1,u,h2,h3⟩:=h
 rw [a7j]
 exact ⟨by omega,u,a54.2 (.inr h2),h3⟩
theorem b3S {us:List Int} {x:RecT} {user:Int} (h:Y1 us x) (h1:¬user ∈ x.appr) (h2:¬user=x.author) (h3:mayB [2,3] us user=true) (h4:¬x.state > 2):Y1 us (apvR us x user)/\¬(apvR us x user).state=3/\(¬x.state=1->¬(apvR us x user).state=1):=by
 obtain ⟨a,c,d,e,f,g⟩:=h
 unfold apvR
 by_cases hE:x7 us (insI x.appr user)=true
 ·rw [if_pos hE]
  refine ⟨⟨a7q a h1,fun u hu => ?_,d,e,⟨by show (1:Int)<=2; omega,by show (2:Int)<=4; omega⟩,⟨fun _=>hE,fun _=>by show (1:Int) < 2; omega⟩⟩,fun z=>absurd (show (2:Int)=3 from z) (by decide),fun _ z=>absurd (show (2:Int)=1 from z) (by decide)⟩
  rcases a54.1 hu with hu | hu
  ·rw [hu]; exact ⟨h2,h3⟩
  ·exact c u hu
 ·rw [if_neg hE]
  refine ⟨⟨a7q a h1,fun u hu => ?_,d,e,f,⟨fun z=>absurd (a7r (g.1 z)) hE,fun z=>absurd z hE⟩⟩,fun z=>h4 (by have z:x.state=3:=z; omega),fun z=>z⟩
  rcases a54.1 hu with hu | hu
  ·rw [hu]; exact ⟨h2,h3⟩
  ·exact c u hu
theorem b2t {b:BooksT} (g:GoodB b) {user number:Int} (h:apvE b user number=0):GoodB (apvB b user number):=by
 obtain ⟨hc,hn,hb,h2⟩:=a4z h
 obtain ⟨hb1,hb2,hb3⟩:=a5S hb
 have hi:number.toNat < b.recipes.length:=by have:=hn.2; omega
 have hne:¬user ∈ (b.recipes.getD number.toNat rec0).appr:=fun z=>by
  rw [<- List.contains_iff_mem,hb1] at z
  cases z
 obtain ⟨r1,r2,r3⟩:=b3S (a53 g hi) hne hb2 hb3 h2
 have hs:=a2e (l:=b.recipes) (apvR b.users (b.recipes.getD number.toNat rec0) user) hi
 rw [if_neg (show ¬(b.recipes.getD number.toNat rec0).state=3 by omega),if_neg r2] at hs
 have ha:=g.ac
 exact a3l g hi r1 rfl r3 (by omega)
theorem b2u (l:List EntT) (i:Nat):List.Sublist (a08 l i) l:=by
 unfold a08
 rw [<- List.eraseIdx_eq_take_drop_succ]
 exact List.eraseIdx_sublist l i
theorem a3m (b:BooksT):List.Sublist (rcdL b) b.log:=by
 unfold rcdL
 split
 ·exact b2u _ _
 ·exact List.Sublist.refl _
theorem a7s {b:BooksT} (g:GoodB b) (h:(b.log.length:Int)=b.keep->b.log.any K6=true):((rcdL b).length:Int) + 1<=b.keep/\b.log.length<=(rcdL b).length + 1:=by
 have hl:=g.nl
 unfold rcdL
 by_cases hf:(b.log.length:Int)=b.keep
 ·rw [if_pos hf]
  have hi:=a0r (h hf)
  have:=a4B hi
  omega
 ·rw [if_neg hf]
  omega
theorem a7t {b:BooksT} (g:GoodB b) {part:Int} {profile:List Int} (h:rcdE b part profile=0):GoodB (rcdB b part profile):=by
 obtain ⟨hc,hp,ha,hm,hf,hn⟩:=a1E h
 have hl:=a7s g hf
 have nx:=g.nx
 have hA:=D8 ha
 have hA3:=G6 ha
 refine ⟨g.kp,⟨by show 0<=b.next + 1; omega,by show b.next + 1<=_; omega⟩,g.nu,g.nr,?_,g.st,g.rc,g.ac,?_,fun s hs => ?_⟩
 ·show ((rcdL b++[rcdX b part profile]).length:Int)<=b.keep
  simp only [List.length_append,List.length_cons,List.length_nil]
  omega
 ·show List.Pairwise _ (rcdL b++[rcdX b part profile])
  rw [List.pairwise_append]
  refine ⟨g.sq.sublist (a3m b),List.pairwise_singleton _ _,fun s hs t ht => ?_⟩
  rw [List.mem_singleton] at ht
  rw [ht]
  exact (g.lg s ((a3m b).mem hs)).1.2
 ·have hs:s ∈ rcdL b++[rcdX b part profile]:=hs
  rw [List.mem_append,List.mem_singleton] at hs
  rcases hs with hs | hs
  ·obtain ⟨a1,r⟩:=g.lg s ((a3m b).mem hs)
   exact ⟨⟨a1.1,by show s.seq < b.next + 1; omega⟩,r⟩
  ·rw [hs]
   refine ⟨⟨nx.1,by show b.next < b.next + 1; omega⟩,⟨by show (0:Int)<=(p9 b.recipes:Int); omega,by show (p9 b.recipes:Int) < (b.recipes.length:Int); omega⟩,hp,?_⟩
   show (meaF (b.recipes.getD (p9 b.recipes) rec0).gauge profile).2.2=0/\(meaF (b.recipes.getD (p9 b.recipes) rec0).gauge profile).2.1=(meaF (b.recipes.getD (p9 b.recipes) rec0).gauge profile).2.1/\¬(b.recipes.getD (p9 b.recipes) rec0).state=1
   exact ⟨hm,rfl,by omega⟩
theorem a7u {b:BooksT} (g:GoodB b) (seq:Int) (is:Bool):GoodB (mrkB b seq is):=a7o.1 (by rw [b3P]; exact a7o.2 g)
theorem okG {b:BooksT} (g:GoodB b):Okay b:=by
 have hu:=g.nu
 have hr:=g.nr
 have hl:=g.nl
 have hk:=g.kp
 refine ⟨by omega,by omega,by omega,fun i => ?_,fun i => ?_⟩
 ·by_cases hi:i < b.recipes.length
  ·have r:=a51.2 (a53 g hi)
   unfold recB at r
   rw [Bool.and_eq_true] at r
   have:=a68 r.1
   omega
  ·rw [List.getD,List.getElem?_eq_none (by omega)]
   show 0 < _
   decide
 ·by_cases hi:i < b.log.length
  ·have:=E6 (b2m (g.lg _ (by rw [l0 hi]; exact List.getElem_mem hi)).2.2.2.1:y8 (b.log.getD i ent0).profile=true)
   omega
  ·rw [List.getD,List.getElem?_eq_none (by omega)]
   show 0 < _
   decide
theorem b0L {b:BooksT} {role:Int} (h:addE b role=0):chkB b=true/\(1<=role/\role<=3)/\¬(b.users.length:Int)=16:=by
 unfold addE at h
 by_cases h1:chkB b=true
 ·rw [if_pos h1] at h
  by_cases h2:role < 1∨3 < role
  ·rw [if_pos h2] at h; cases h
  ·rw [if_neg h2] at h
   by_cases h3:(b.users.length:Int)=16
   ·rw [if_pos h3] at h; cases h
   ·exact ⟨h1,by omega,h3⟩
 ·rw [if_neg h1] at h; cases h
theorem b0M {b:BooksT} {user:Int} {g:GauT} (h:drfE b user g=0):chkB b=true/\mayB [2] b.users user=true/\gauB g=true/\¬(b.recipes.length:Int)=16:=by
 unfold drfE at h
 by_cases h1:chkB b=true
 ·rw [if_pos h1] at h
  by_cases h2:0<=user/\user<=(b.users.length:Int) - 1
  ·rw [if_neg (fun q=>q h2)] at h
   by_cases h3:mayB [2] b.users user=false
   ·rw [if_pos h3] at h; cases h
   ·rw [if_neg h3] at h
    by_cases h4:gauB g=true
    ·rw [if_neg (fun q=>q h4)] at h
     by_cases h5:(b.recipes.length:Int)=16
     ·rw [if_pos h5] at h; cases h
     ·exact ⟨h1,by simpa using h3,h4,h5⟩
    ·rw [if_pos h4] at h; cases h
  ·rw [if_pos h2] at h; cases h
 ·rw [if_neg h1] at h; cases h
theorem b2v {b:BooksT} {user:Int} (h:retE b user=0):chkB b=true/\mayB [3] b.users user=true/\b.recipes.any A7=true:=by
 unfold retE at h
 by_cases h1:chkB b=true
 ·rw [if_pos h1] at h
  by_cases h2:0<=user/\user<=(b.users.length:Int) - 1
  ·rw [if_neg (fun q=>q h2)] at h
   by_cases h3:mayB [3] b.users user=false
   ·rw [if_pos h3] at h; cases h
   ·rw [if_neg h3] at h
    by_cases h4:b.recipes.any A7=true
    ·exact ⟨h1,by simpa using h3,h4⟩
    ·rw [if_pos h4] at h; cases h
  ·rw [if_pos h2] at h; cases h
 ·rw [if_neg h1] at h; cases h
theorem b3T {b:BooksT} {a:ActT} (g:GoodB b) (h:doE b a=0):GoodB (doB b a):=by
 unfold doE at h
 unfold doB
 by_cases k0:knd a=0
 ·rw [if_pos k0] at h ⊢
  have z:=b0L h
  exact b2o g z.2.1 z.2.2
 rw [if_neg k0] at h ⊢
 by_cases k1:knd a=1
 ·rw [if_pos k1] at h ⊢
  have z:=b0M h
  exact b2p g z.2.1 z.2.2.1 z.2.2.2
 rw [if_neg k1] at h ⊢
 by_cases k2:knd a=2
 ·rw [if_pos k2] at h ⊢
  exact b2t g h
 rw [if_neg k2] at h ⊢
 by_cases k3:knd a=3
 ·rw [if_pos k3] at h ⊢
  obtain ⟨hc,hn,hmy,h2⟩:=a3e h
  exact b0K g (by have:=hn.2; omega) h2
 rw [if_neg k3] at h ⊢
 by_cases k4:knd a=4
 ·rw [if_pos k4] at h ⊢
  have z:=(b2v h).2.2
  exact (a7p g (D8 z) (G6 z)).1
 rw [if_neg k4] at h ⊢
 by_cases k5:knd a=5
 ·rw [if_pos k5] at h ⊢
  exact a7t g h
 rw [if_neg k5] at h ⊢
 by_cases k6:knd a=6
 ·rw [if_pos k6] at h ⊢
  exact a7u g _ _
 rw [if_neg k6] at h ⊢
 exact a7u g _ _
def Grow (b c:BooksT):Prop:=c.keep=b.keep/\(0<=(c.users.length:Int) - b.users.length + c.recipes.length - b.recipes.length + c.next - b.next/\(c.users.length:Int) - b.users.length + c.recipes.length - b.recipes.length + c.next - b.next<=1)/\b.log.length<=c.log.length
theorem a09 {b c:BooksT} (k:c.keep=b.keep) (u:c.users.length=b.users.length) (r:c.recipes.length=b.recipes.length) (n:c.next=b.next) (l:c.log.length=b.log.length):Grow b c:=⟨k,by omega,by omega⟩
theorem a7v (b:BooksT):(J6 b).recipes.length=b.recipes.length/\(J6 b).keep=b.keep/\(J6 b).users=b.users/\(J6 b).next=b.next/\(J6 b).log=b.log:=by
 unfold J6
 split
 ·exact ⟨List.length_set,rfl,rfl,rfl,rfl⟩
 ·exact ⟨rfl,rfl,rfl,rfl,rfl⟩
theorem b3U {b:BooksT} {a:ActT} (g:GoodB b) (h:doE b a=0):Grow b (doB b a):=by
 unfold doE at h
 unfold doB
 by_cases k0:knd a=0
 ·rw [if_pos k0] at h ⊢
  have e:(addU b a.role).users.length=b.users.length + 1:=by show (b.users++[a.role]).length=_; simp
  refine ⟨rfl,?_,Nat.le_refl _⟩
  rw [e]
  show 0<=((b.users.length + 1:Nat):Int) - b.users.length + b.recipes.length - b.recipes.length + b.next - b.next/\((b.users.length + 1:Nat):Int) - b.users.length + b.recipes.length - b.recipes.length + b.next - b.next<=1
  omega
 rw [if_neg k0] at h ⊢
 by_cases k1:knd a=1
 ·rw [if_pos k1] at h ⊢
  have e:(drfB b a.user a.gauge).recipes.length=b.recipes.length + 1:=by show (b.recipes++[H4 a.user a.gauge]).length=_; simp
  refine ⟨rfl,?_,Nat.le_refl _⟩
  rw [e]
  show 0<=(b.users.length:Int) - b.users.length + ((b.recipes.length + 1:Nat):Int) - b.recipes.length + b.next - b.next/\(b.users.length:Int) - b.users.length + ((b.recipes.length + 1:Nat):Int) - b.recipes.length + b.next - b.next<=1
  omega
 rw [if_neg k1] at h ⊢
 by_cases k2:knd a=2
 ·rw [if_pos k2] at h ⊢
  exact a09 rfl rfl List.length_set rfl rfl
 rw [if_neg k2] at h ⊢
 by_cases k3:knd a=3
 ·rw [if_pos k3] at h ⊢
  obtain ⟨c1,c2,c3,c4,c5⟩:=a7v b
  exact a09 c2 (congrArg List.length c3) (List.length_set.trans c1) c4 (congrArg List.length c5)
 rw [if_neg k3] at h ⊢
 by_cases k4:knd a=4
 ·rw [if_pos k4] at h ⊢
  exact a09 rfl rfl List.length_set rfl rfl
 rw [if_neg k4] at h ⊢
 by_cases k5:knd a=5
 ·rw [if_pos k5] at h ⊢
  have z:=a1E h
  have l:=a7s g z.2.2.2.2.1
  refine ⟨rfl,?_,?_⟩
  ·show 0<=(b.users.length:Int) - b.users.length + b.recipes.length - b.recipes.length + (b.next + 1) - b.next/\(b.users.length:Int) - b.users.length + b.recipes.length - b.recipes.length + (b.next + 1) - b.next<=1
   omega
  ·show b.log.length<=(rcdL b++[rcdX b a.number a.profile]).length
   simp only [List.length_append,List.length_cons,List.length_nil]
   omega
 rw [if_neg k5] at h ⊢
 by_cases k6:knd a=6
 ·rw [if_pos k6] at h ⊢
  exact a09 rfl rfl rfl rfl List.length_set
 rw [if_neg k6] at h ⊢
 exact a09 rfl rfl rfl rfl List.length_set

end Go.Proofs.Tryz.My
