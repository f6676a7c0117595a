/- Helper lemmas. -/
import Derived.Test.YtpmmjoccamogdaaGreatMyBpD
import Derived.Test.YtpmmjoccamogdaaGreatMyBm3
set_option linter.unusedVariables false
set_option linter.unusedSimpArgs false
set_option maxRecDepth 100000
set_option maxHeartbeats 0
namespace Go.Proofs.Tryz.My
open Go Go.Ev
theorem ze {g:H4} {p:List Int} (h:(I3 g p).2.2=0):P6 p=true:=by
 unfold I3 at h
 by_cases hg:N3 g=true
 ·rw [if_pos hg] at h
  obtain ⟨⟨t1,t2⟩,⟨n1,n2⟩,_⟩:=dU hg
  rcases Bl (p:=p) t1 t2 n1 n2 with ⟨_,q⟩|⟨q,_⟩
  ·rw [q] at h
   unfold DM at h
   rw [if_neg (by decide),if_neg (by decide)] at h
   exact absurd (show (50:Int)=0 from h) (by decide)
  ·exact q
 ·rw [if_neg hg] at h
  exact absurd h (by decide)
def Cl (b:b9) (s:A1):Prop :=
 (0<=s.seq/\s.seq < b.next)/\(0<=s.recipe/\s.recipe < b.a7.length)/\(0<=s.part/\s.part<=1099511627776)/\(I3 (b.a7.getD s.recipe.toNat n5).o6 s.j8).2.2=0 /\
  (I3 (b.a7.getD s.recipe.toNat n5).o6 s.j8).2.1=s.H8/\¬(b.a7.getD s.recipe.toNat n5).state=1
def cH (us:List Int) (x:x7):Prop :=
 List.Pairwise (· < ·) x.k9/\(∀ u,u ∈ x.k9->¬u=x.author/\C7 [2,3] us u=true)/\C7 [2] us x.author=true/\N3 x.o6=true/\(1<=x.state/\x.state<=4)/\(1 < x.state↔D9 us x.k9=true)
structure I5 (b:b9):Prop where
 kp:1<=b.keep/\b.keep<=32
 nx:0<=b.next/\b.next<=1099511627776
 nu:b.k8.length<=16
 nr:b.a7.length<=16
 nl:(b.log.length:Int)<=b.keep
 st:∀ r,r ∈ b.k8->1<=r/\r<=3
 rc:∀ x,x ∈ b.a7->cH b.k8 x
 ac:z5 b.a7<=1
 sq:List.Pairwise (fun s t:A1=>s.seq < t.seq) b.log
 lg:∀ s,s ∈ b.log->Cl b s
theorem D5 {α:Type} {d:α} {l:List α} {i:Nat} (h:i < l.length):l.getD i d=l[i]:=by
 simp only [List.getD,List.getElem?_eq_getElem h,Option.getD_some]
theorem T6 {rr us:List Int} {u:Int} (h:C7 rr us u=true):0<=u/\u < us.length:=by
 unfold C7 A0 at h
 simp only [Bool.and_eq_true,decide_eq_true_eq] at h
 omega
theorem kJ {α:Type} {d:α} {l:List α} (f:α->Int):((∀ i,i < l.length->(if i=0 then -1 else f (l.getD (i - 1) d)) < f (l.getD i d))↔(List.Pairwise (fun s t=>f s < f t) l/\∀ s,s ∈ l->0<=f s)):=by
 constructor
 ·intro h
  have up:∀ j,j < l.length->0<=f (l.getD j d)/\∀ i,i < j->f (l.getD i d) < f (l.getD j d):=by
   intro j
   induction j with
   | zero =>
    intro hj
    have:=h 0 hj
    rw [if_pos rfl] at this
    exact ⟨by omega,fun i hi=>absurd hi (Nat.not_lt_zero i)⟩
   | succ j ih =>
    intro hj
    have a:=ih (by omega)
    have b:=h (j + 1) hj
    rw [if_neg (by omega),show j + 1 - 1=j by omega] at b
    refine ⟨by omega,fun i hi=>?_⟩
    by_cases e:i=j
    ·subst e;exact b
    ·have:=a.2 i (by omega)
     omega
  refine ⟨List.pairwise_iff_getElem.2 fun i j hi hj zM=>?_,fun s hs=>?_⟩
  ·have:=(up j hj).2 i zM
   rwa [D5 hi,D5 hj] at this
  ·obtain ⟨i,hi,e⟩:=List.getElem_of_mem hs
   have:=(up i hi).1
   rw [D5 hi,e] at this
   exact this
 ·rintro ⟨h1,h2⟩ i hi
  by_cases e:i=0
  ·rw [if_pos e,D5 hi]
   have:=h2 _ (List.getElem_mem hi)
   omega
  ·rw [if_neg e,D5 hi,D5 (show i - 1 < l.length by omega)]
   exact List.pairwise_iff_getElem.1 h1 (i - 1) i (by omega) hi (by omega)
theorem oK {us:List Int} {x:x7}:fw us x=true↔cH us x:=by
 have hc:=kJ (d:=(0:Int)) (l:=x.k9) (fun u=>u)
 have ha:ir us x=true↔(List.Pairwise (· < ·) x.k9/\∀ u,u ∈ x.k9->¬u=x.author/\C7 [2,3] us u=true):=by
  unfold ir
  rw [T5]
  constructor
  ·intro h
   have h':∀ i,i < x.k9.length->fv x.k9 i < x.k9.getD i 0/\¬x.k9.getD i 0=x.author/\C7 [2,3] us (x.k9.getD i 0)=true:=fun i hi=>by
    have:=h i hi
    unfold yI at this
    simp only [Bool.and_eq_true,decide_eq_true_eq,Bool.not_eq_true',decide_eq_false_iff_not] at this
    exact ⟨this.1.1,this.1.2,this.2⟩
   refine ⟨(hc.1 fun i hi=>(h' i hi).1).1,fun u hu=>?_⟩
   obtain ⟨i,hi,e⟩:=List.getElem_of_mem hu
   have:=(h' i hi).2
   rw [D5 hi,e] at this
   exact this
  ·rintro ⟨h1,h2⟩ i hi
   have m:=h2 _ (List.getElem_mem hi)
   have c:=hc.2 ⟨h1,fun u hu=>(T6 (h2 u hu).2).1⟩ i hi
   unfold yI
   simp only [Bool.and_eq_true,decide_eq_true_eq,Bool.not_eq_true',decide_eq_false_iff_not]
   rw [D5 hi] at c ⊢
   exact ⟨⟨c,m.1⟩,m.2⟩
 unfold fw
 rw [Bool.and_eq_true,ha]
 unfold gC cH A0
 simp only [Bool.and_eq_true,decide_eq_true_eq]
 have hb:(decide (x.state > 1) == D9 us x.k9)=true↔(1 < x.state↔D9 us x.k9=true):=by
  rw [beq_iff_eq]
  by_cases q:1 < x.state
  ·rw [decide_eq_true q]
   exact ⟨fun h=>⟨fun _=>h.symm,fun _=>q⟩,fun h=>(h.1 q).symm⟩
  ·rw [decide_eq_false q]
   exact ⟨fun h=>⟨fun z=>absurd z q,fun z=>by rw [<- h] at z;cases z⟩,fun h=>(Bool.eq_false_iff.2 fun z=>q (h.2 z)).symm⟩
 rw [hb]
 constructor
 ·rintro ⟨⟨a,b⟩,⟨⟨c,d⟩,e⟩,f⟩
  exact ⟨a,b,c,d,e,f⟩
 ·rintro ⟨a,b,c,d,e,f⟩
  exact ⟨⟨a,b⟩,⟨⟨c,d⟩,e⟩,f⟩
theorem kM {b:b9}:A8 b=true↔I5 b:=by
 have dY:cC b=true↔∀ r,r ∈ b.k8->1<=r/\r<=3:=by
  unfold cC
  rw [Bool.not_eq_true',List.any_eq_false]
  constructor
  ·intro h r hr
   have:=h r hr
   unfold lC at this
   simp only [Bool.or_eq_true,decide_eq_true_eq] at this
   omega
  ·intro h r hr
   have:=h r hr
   unfold lC
   simp only [Bool.or_eq_true,decide_eq_true_eq]
   omega
 have LR:U1 b=true↔(List.Pairwise (fun s t:A1=>s.seq < t.seq) b.log/\∀ s,s ∈ b.log->Cl b s):=by
  have hc:=kJ (d:=o8) (l:=b.log) A1.seq
  unfold U1
  rw [T5]
  constructor
  ·intro h
   have h':∀ i,i < b.log.length->bP b.log i < (b.log.getD i o8).seq/\(b.log.getD i o8).seq < b.next/\(0<=(b.log.getD i o8).recipe/\(b.log.getD i o8).recipe<=(b.a7.length:Int) - 1)/\(0<=(b.log.getD i o8).part/\(b.log.getD i o8).part<=1099511627776) /\
     (I3 (b.a7.getD (b.log.getD i o8).recipe.toNat n5).o6 (b.log.getD i o8).j8).2.2=0/\(I3 (b.a7.getD (b.log.getD i o8).recipe.toNat n5).o6 (b.log.getD i o8).j8).2.1=(b.log.getD i o8).H8/\¬(b.a7.getD (b.log.getD i o8).recipe.toNat n5).state=1:=fun i hi=>by
    have:=h i hi
    unfold kl A0 at this
    simp only [Bool.and_eq_true,decide_eq_true_eq,Bool.not_eq_true',decide_eq_false_iff_not] at this
    obtain ⟨⟨⟨⟨a,b⟩,c⟩,d⟩,⟨e,f⟩,g⟩:=this
    exact ⟨a,b,c,d,e,f,g⟩
   have p:=hc.1 fun i hi=>(h' i hi).1
   refine ⟨p.1,fun s hs=>?_⟩
   have z:=p.2 s hs
   obtain ⟨i,hi,e⟩:=List.getElem_of_mem hs
   have:=(h' i hi).2
   rw [D5 hi,e] at this
   obtain ⟨a,c,d,r⟩:=this
   exact ⟨⟨z,a⟩,⟨c.1,by omega⟩,d,r⟩
  ·rintro ⟨h1,h2⟩ i hi
   have m:=h2 _ (List.getElem_mem hi)
   have c:=hc.2 ⟨h1,fun s hs=>(h2 s hs).1.1⟩ i hi
   unfold kl A0
   simp only [Bool.and_eq_true,decide_eq_true_eq,Bool.not_eq_true',decide_eq_false_iff_not]
   obtain ⟨a1,a2,a3,a4,a5,a6⟩:=m
   have c:bP b.log i < (b.log.getD i o8).seq:=c
   rw [D5 hi] at c ⊢
   exact ⟨⟨⟨⟨c,a1.2⟩,a2.1,by omega⟩,a3⟩,⟨a4,a5⟩,a6⟩
 unfold A8
 rw [Bool.and_eq_true,Bool.and_eq_true,Bool.and_eq_true,dY,LR]
 unfold bI L5 A0
 simp only [Bool.and_eq_true,decide_eq_true_eq,List.all_eq_true]
 constructor
 ·intro h
  simp only [and_assoc] at h
  obtain ⟨k1,k2,n1,n2,u,r,l,st,rc,ac,sq,lg⟩:=h
  exact ⟨⟨k1,k2⟩,⟨n1,n2⟩,by omega,by omega,l,st,fun x hx=>oK.1 (rc x hx),ac,sq,lg⟩
 ·rintro ⟨⟨k1,k2⟩,⟨n1,n2⟩,nu,nr,nl,st,rc,ac,sq,lg⟩
  simp only [and_assoc]
  exact ⟨k1,k2,n1,n2,by omega,by omega,nl,st,fun x hx=>oK.2 (rc x hx),ac,sq,lg⟩
theorem oL {rr us:List Int} {u r:Int} (h:0<=u/\u < us.length):C7 rr (us++[r]) u=C7 rr us u:=by
 have e:(us++[r]).getD u.toNat 0=us.getD u.toNat 0:=by
  simp only [List.getD]
  rw [List.getElem?_append_left (by omega)]
 unfold C7 A0
 rw [e,decide_eq_true h.1,decide_eq_true (show u<=((us++[r]).length:Int) - 1 by simp;omega),decide_eq_true (show u<=(us.length:Int) - 1 by omega)]
theorem zf {α:Type} {p q:α->Bool} {l:List α} (h:∀ x,x ∈ l->p x=q x):l.any p=l.any q:=by
 rw [Bool.eq_iff_iff,List.any_eq_true,List.any_eq_true]
 exact ⟨fun ⟨x,a,c⟩=>⟨x,a,by rw [<- h x a];exact c⟩,fun ⟨x,a,c⟩=>⟨x,a,by rw [h x a];exact c⟩⟩
theorem BD {us:List Int} {x:x7} {r:Int} (h:cH us x):cH (us++[r]) x:=by
 obtain ⟨a,c,d,e,f,g⟩:=h
 refine ⟨a,fun u hu=>⟨(c u hu).1,by rw [oL (T6 (c u hu).2)];exact (c u hu).2⟩,by rw [oL (T6 d)];exact d,e,f,?_⟩
 have z:D9 (us++[r]) x.k9=D9 us x.k9:=by
  unfold D9
  rw [zf fun u hu=>oL (T6 (c u hu).2)]
 rw [z];exact g
theorem zg {b:b9} (g:I5 b) {r:Int} (h1:1<=r/\r<=3) (h2:¬(b.k8.length:Int)=16):I5 (yQ b r):=by
 have hu:=g.nu
 refine ⟨g.kp,g.nx,?_,g.nr,g.nl,fun x hx=>?_,fun x hx=>BD (g.rc x hx),g.ac,g.sq,fun s hs=>g.lg s hs⟩
 ·show (b.k8++[r]).length<=16
  simp;omega
 ·have hx:x ∈ b.k8++[r]:=hx
  rw [List.mem_append,List.mem_singleton] at hx
  rcases hx with hx|hx
  ·exact g.st x hx
  ·rw [hx];exact h1
theorem BE (l:List x7) (x:x7):z5 (l++[x])=z5 l + if x.state=3 then 1 else 0:=by
 unfold z5
 rw [List.filter_append,List.length_append]
 congr 1
 by_cases h:x.state=3<;>simp [h]
theorem zh {b:b9} (g:I5 b) {b8:Int} {gg:H4} (h1:C7 [2] b.k8 b8=true) (h2:N3 gg=true) (h3:¬(b.a7.length:Int)=16):I5 (lF b b8 gg):=by
 have hu:=g.nr
 refine ⟨g.kp,g.nx,g.nu,?_,g.nl,g.st,fun x hx=>?_,?_,g.sq,fun s hs=>?_⟩
 ·show (b.a7++[J3 b8 gg]).length<=16
  simp;omega
 ·have hx:x ∈ b.a7++[J3 b8 gg]:=hx
  rw [List.mem_append,List.mem_singleton] at hx
  rcases hx with hx|hx
  ·exact g.rc x hx
  ·rw [hx]
   exact ⟨List.Pairwise.nil,fun u hu=>absurd hu List.not_mem_nil,h1,h2,⟨by show (1:Int)<=1;omega,by show (1:Int)<=4;omega⟩,⟨fun z=>absurd z (by show ¬(1:Int) < 1;omega),fun z=>Bool.noConfusion (show false=true from z)⟩⟩
 ·show z5 (b.a7++[J3 b8 gg])<=1
  rw [BE,if_neg (show ¬(J3 b8 gg).state=3 from fun z=>absurd (show (1:Int)=3 from z) (by decide))]
  exact g.ac
 ·obtain ⟨a1,a2,a3,a4,a5,a6⟩:=g.lg s hs
  have e:(b.a7++[J3 b8 gg]).getD s.recipe.toNat n5=b.a7.getD s.recipe.toNat n5:=by
   simp only [List.getD]
   rw [List.getElem?_append_left (by omega)]
  refine ⟨a1,⟨a2.1,?_⟩,a3,?_⟩
  ·show s.recipe < ((b.a7++[J3 b8 gg]).length:Int)
   simp;omega
  ·show (I3 ((b.a7++[J3 b8 gg]).getD s.recipe.toNat n5).o6 s.j8).2.2=0/\(I3 ((b.a7++[J3 b8 gg]).getD s.recipe.toNat n5).o6 s.j8).2.1=s.H8/\¬((b.a7++[J3 b8 gg]).getD s.recipe.toNat n5).state=1
   rw [e]
   exact ⟨a4,a5,a6⟩
theorem iQ:∀ {l:List x7} {i:Nat} (y:x7),i < l.length->z5 (l.set i y) + (if (l.getD i n5).state=3 then 1 else 0)=z5 l + (if y.state=3 then 1 else 0)
 | [],i,y,h=>absurd h (Nat.not_lt_zero i)
 | a :: l,0,y,_=>by
  show z5 (y :: l) + (if a.state=3 then 1 else 0)=z5 (a :: l) + _
  unfold z5
  by_cases h1:a.state=3<;>by_cases h2:y.state=3<;>simp [h1,h2]<;>omega
 | a :: l,i + 1,y,h=>by
  have ih:=iQ (l:=l) (i:=i) y (by simpa using h)
  show z5 (a :: l.set i y) + (if (l.getD i n5).state=3 then 1 else 0)=z5 (a :: l) + _
  have c:∀ m:List x7,z5 (a :: m)=z5 m + if a.state=3 then 1 else 0:=fun m=>by
   unfold z5
   by_cases h1:a.state=3<;>simp [h1]
  rw [c,c]
  omega
theorem kN {b:b9} (g:I5 b) {i:Nat} {y:x7} (hi:i < b.a7.length) (h1:cH b.k8 y) (h2:y.o6=(b.a7.getD i n5).o6) (h3:¬(b.a7.getD i n5).state=1->¬y.state=1) (h4:z5 (b.a7.set i y)<=1):I5 (By b i y):=by
 refine ⟨g.kp,g.nx,g.nu,?_,g.nl,g.st,fun x hx=>?_,h4,g.sq,fun s hs=>?_⟩
 ·show (b.a7.set i y).length<=16
  rw [List.length_set];exact g.nr
 ·rcases List.mem_or_eq_of_mem_set hx with hx|hx
  ·exact g.rc x hx
  ·rw [hx];exact h1
 ·obtain ⟨a1,a2,a3,a4,a5,a6⟩:=g.lg s hs
  have e:((b.a7.set i y).getD s.recipe.toNat n5).o6=(b.a7.getD s.recipe.toNat n5).o6/\¬((b.a7.set i y).getD s.recipe.toNat n5).state=1:=by
   by_cases e:i=s.recipe.toNat
   ·rw [<- e,P7 hi]
    rw [<- e] at a6
    exact ⟨h2,h3 a6⟩
   ·have z:(b.a7.set i y).getD s.recipe.toNat n5=b.a7.getD s.recipe.toNat n5:=by
     rw [List.getD,List.getElem?_set_ne e];rfl
    rw [z];exact ⟨rfl,a6⟩
  refine ⟨a1,⟨a2.1,?_⟩,a3,?_⟩
  ·show s.recipe < ((b.a7.set i y).length:Int)
   rw [List.length_set];exact a2.2
  ·show (I3 ((b.a7.set i y).getD s.recipe.toNat n5).o6 s.j8).2.2=0/\(I3 ((b.a7.set i y).getD s.recipe.toNat n5).o6 s.j8).2.1=s.H8/\¬((b.a7.set i y).getD s.recipe.toNat n5).state=1
   rw [e.1]
   exact ⟨a4,a5,e.2⟩
theorem zi {us:List Int} {x:x7} {n:Int} (h:cH us x) (h1:1 < x.state) (h2:1 < n/\n<=4):cH us (ad x n):=by
 obtain ⟨a,c,d,e,f,g⟩:=h
 exact ⟨a,c,d,e,⟨by show 1<=n;omega,h2.2⟩,⟨fun _=>g.1 h1,fun _=>h2.1⟩⟩
theorem cI {b:b9} (g:I5 b) {i:Nat} (hi:i < b.a7.length):cH b.k8 (b.a7.getD i n5):=g.rc _ (by rw [D5 hi];exact List.getElem_mem hi)
theorem fF {b:b9} (g:I5 b) {i:Nat} (hi:i < b.a7.length) (h3:(b.a7.getD i n5).state=3):I5 (fx b i)/\z5 (fx b i).a7=0:=by
 have hs:=iQ (l:=b.a7) (ad (b.a7.getD i n5) 4) hi
 rw [if_pos h3,if_neg (show ¬(ad (b.a7.getD i n5) 4).state=3 from fun z=>absurd (show (4:Int)=3 from z) (by decide))] at hs
 have ha:=g.ac
 have hz:z5 (b.a7.set i (ad (b.a7.getD i n5) 4))=0:=by omega
 exact ⟨kN g hi (zi (cI g hi) (by omega) ⟨by omega,by omega⟩) rfl (fun _ z=>absurd (show (4:Int)=1 from z) (by decide)) (by omega),hz⟩
theorem zj {l:List x7} (h:¬l.any H6=true):z5 l=0:=by
 unfold z5
 rw [List.length_eq_zero_iff,List.filter_eq_nil_iff]
 intro x hx q
 exact h (List.any_eq_true.2 ⟨x,hx,q⟩)
theorem mQ {b:b9} (g:I5 b):I5 (M6 b)/\z5 (M6 b).a7=0/\(M6 b).a7.length=b.a7.length/\∀ k,¬(b.a7.getD k n5).state=3->(M6 b).a7.getD k n5=b.a7.getD k n5:=by
 unfold M6
 by_cases ha:b.a7.any H6=true
 ·rw [if_pos ha]
  have z:=fF g (J4 ha) (L6 ha)
  refine ⟨z.1,z.2,List.length_set,fun k hk=>?_⟩
  have e:A2 b.a7≠k:=fun e=>hk (e ▸ L6 ha)
  show (b.a7.set _ _).getD k n5=_
  rw [List.getD,List.getElem?_set_ne e];rfl
 ·rw [if_neg ha]
  exact ⟨g,zj ha,rfl,fun _ _=>rfl⟩
theorem vP {b:b9} (g:I5 b) {a8:Int} (hi:a8.toNat < b.a7.length) (h2:(b.a7.getD a8.toNat n5).state=2):I5 (dw b a8):=by
 obtain ⟨g1,z,hl,hk⟩:=mQ g
 have e:=hk a8.toNat (by omega)
 have uv:a8.toNat < (M6 b).a7.length:=by omega
 have hs:=iQ (l:=(M6 b).a7) (ad ((M6 b).a7.getD a8.toNat n5) 3) uv
 refine kN g1 uv (zi (cI g1 uv) (by rw [e];omega) ⟨by omega,by omega⟩) rfl (fun _ q=>absurd (show (3:Int)=1 from q) (by decide)) ?_
 rw [e,if_neg (show ¬(b.a7.getD a8.toNat n5).state=3 by omega)] at hs
 rw [e]
 split at hs<;>omega
theorem DX {l:List Int} {t v:Int} (h:v ∈ l.take (cE l t)):v < t:=by
 obtain ⟨i,hi,e⟩:=List.getElem_of_mem h
 have uv:i < cE l t:=by rw [List.length_take] at hi;omega
 have hl:i < l.length:=Nat.lt_of_lt_of_le uv (oB l t)
 have q:¬t<=l[i]:=fun z=>by
  have:=List.not_of_lt_findIdx uv
  simp [z] at this
 rw [List.getElem_take] at e
 rw [<- e]
 omega
theorem zk {l:List Int} {t v:Int} (hs:List.Pairwise (· < ·) l) (hn:¬t ∈ l) (h:v ∈ l.drop (cE l t)):t < v:=by
 obtain ⟨j,hj,e⟩:=List.getElem_of_mem h
 rw [List.length_drop] at hj
 rw [List.getElem_drop] at e
 have hk:cE l t < l.length:=by omega
 have q:=List.findIdx_getElem (p:=fun x=>decide (t<=x)) (xs:=l) (w:=hk)
 have q:=of_decide_eq_true q
 have hv:v ∈ l:=by rw [<- e];exact List.getElem_mem _
 have ne:¬t=v:=fun z=>hn (z ▸ hv)
 by_cases iV:j=0
 ·subst iV
  have e:l[cE l t]=v:=e
  have q:t<=l[cE l t]:=q
  omega
 ·have p:=List.pairwise_iff_getElem.1 hs (cE l t) (cE l t + j) hk (by omega) (by omega)
  rw [e] at p
  have q:t<=l[cE l t]:=q
  omega
theorem qT {l:List Int} {t:Int} (hs:List.Pairwise (· < ·) l) (hn:¬t ∈ l):List.Pairwise (· < ·) (df l t):=by
 unfold df
 rw [List.pairwise_append]
 refine ⟨hs.sublist (List.take_sublist _ _),?_,fun a ha c hc=>?_⟩
 ·rw [List.pairwise_cons]
  exact ⟨fun c hc=>zk hs hn hc,hs.sublist (List.drop_sublist _ _)⟩
 ·have h1:=DX ha
  rw [List.mem_cons] at hc
  rcases hc with hc|hc
  ·omega
  ·have:=zk hs hn hc
   omega
theorem iR {l:List Int} {t v:Int}:v ∈ df l t↔v=t∨v ∈ l:=by
 unfold df
 rw [List.mem_append,List.mem_cons]
 constructor
 ·rintro (h|h|h)
  ·exact .inr (List.mem_of_mem_take h)
  ·exact .inl h
  ·exact .inr (List.mem_of_mem_drop h)
 ·rintro (h|h)
  ·exact .inr (.inl h)
  ·rw [<- List.take_append_drop (cE l t) l,List.mem_append] at h
   rcases h with h|h
   ·exact .inl h
   ·exact .inr (.inr h)
theorem qU {us l:List Int} {t:Int} (h:D9 us l=true):D9 us (df l t)=true:=by
 unfold D9 at h ⊢
 simp only [Bool.and_eq_true,decide_eq_true_eq,List.any_eq_true] at h ⊢
 obtain ⟨h1,u,h2,h3⟩:=h
 rw [qL]
 exact ⟨by omega,u,iR.2 (.inr h2),h3⟩
theorem ud {us:List Int} {x:x7} {b8:Int} (h:cH us x) (h1:¬b8 ∈ x.k9) (h2:¬b8=x.author) (h3:C7 [2,3] us b8=true) (h4:¬x.state > 2):cH us (kF us x b8)/\¬(kF us x b8).state=3/\(¬x.state=1->¬(kF us x b8).state=1):=by
 obtain ⟨a,c,d,e,f,g⟩:=h
 unfold kF
 by_cases hE:D9 us (df x.k9 b8)=true
 ·rw [if_pos hE]
  refine ⟨⟨qT a h1,fun u hu=>?_,d,e,⟨by show (1:Int)<=2;omega,by show (2:Int)<=4;omega⟩,⟨fun _=>hE,fun _=>by show (1:Int) < 2;omega⟩⟩,fun z=>absurd (show (2:Int)=3 from z) (by decide),fun _ z=>absurd (show (2:Int)=1 from z) (by decide)⟩
  rcases iR.1 hu with hu|hu
  ·rw [hu];exact ⟨h2,h3⟩
  ·exact c u hu
 ·rw [if_neg hE]
  refine ⟨⟨qT a h1,fun u hu=>?_,d,e,f,⟨fun z=>absurd (qU (g.1 z)) hE,fun z=>absurd z hE⟩⟩,fun z=>h4 (by have z:x.state=3:=z;omega),fun z=>z⟩
  rcases iR.1 hu with hu|hu
  ·rw [hu];exact ⟨h2,h3⟩
  ·exact c u hu
theorem zm {b:b9} (g:I5 b) {b8 a8:Int} (h:lL b b8 a8=0):I5 (fB b b8 a8):=by
 obtain ⟨hc,hn,hb,h2⟩:=gJ h
 obtain ⟨pd,X0,Et⟩:=iP hb
 have hi:a8.toNat < b.a7.length:=by have:=hn.2;omega
 have R9:¬b8 ∈ (b.a7.getD a8.toNat n5).k9:=fun z=>by
  rw [<- List.contains_iff_mem,pd] at z
  cases z
 obtain ⟨r1,r2,r3⟩:=ud (cI g hi) R9 X0 Et h2
 have hs:=iQ (l:=b.a7) (kF b.k8 (b.a7.getD a8.toNat n5) b8) hi
 rw [if_neg (show ¬(b.a7.getD a8.toNat n5).state=3 by omega),if_neg r2] at hs
 have ha:=g.ac
 exact kN g hi r1 rfl r3 (by omega)
theorem zn (l:List A1) (i:Nat):List.Sublist (fD l i) l:=by
 unfold fD
 rw [<- List.eraseIdx_eq_take_drop_succ]
 exact List.eraseIdx_sublist l i
theorem fG (b:b9):List.Sublist (kI b) b.log:=by
 unfold kI
 split
 ·exact zn _ _
 ·exact List.Sublist.refl _
theorem zo {b:b9} (g:I5 b) (h:(b.log.length:Int)=b.keep->b.log.any W0=true):((kI b).length:Int) + 1<=b.keep/\b.log.length<=(kI b).length + 1:=by
 have hl:=g.nl
 unfold kI
 by_cases hf:(b.log.length:Int)=b.keep
 ·rw [if_pos hf]
  have hi:=bQ (h hf)
  have:=mO hi
  omega
 ·rw [if_neg hf]
  omega
theorem zp {b:b9} (g:I5 b) {part:Int} {j8:List Int} (h:lO b part j8=0):I5 (sU b part j8):=by
 obtain ⟨hc,hp,ha,hm,hf,hn⟩:=gM h
 have hl:=zo g hf
 have nx:=g.nx
 have hA:=J4 ha
 have Je:=L6 ha
 refine ⟨g.kp,⟨by show 0<=b.next + 1;omega,by show b.next + 1<=_;omega⟩,g.nu,g.nr,?_,g.st,g.rc,g.ac,?_,fun s hs=>?_⟩
 ·show ((kI b++[lM b part j8]).length:Int)<=b.keep
  simp only [List.length_append,List.length_cons,List.length_nil]
  omega
 ·show List.Pairwise _ (kI b++[lM b part j8])
  rw [List.pairwise_append]
  refine ⟨g.sq.sublist (fG b),List.pairwise_singleton _ _,fun s hs t ht=>?_⟩
  rw [List.mem_singleton] at ht
  rw [ht]
  exact (g.lg s ((fG b).mem hs)).1.2
 ·have hs:s ∈ kI b++[lM b part j8]:=hs
  rw [List.mem_append,List.mem_singleton] at hs
  rcases hs with hs|hs
  ·obtain ⟨a1,r⟩:=g.lg s ((fG b).mem hs)
   exact ⟨⟨a1.1,by show s.seq < b.next + 1;omega⟩,r⟩
  ·rw [hs]
   refine ⟨⟨nx.1,by show b.next < b.next + 1;omega⟩,⟨by show (0:Int)<=(A2 b.a7:Int);omega,by show (A2 b.a7:Int) < (b.a7.length:Int);omega⟩,hp,?_⟩
   show (I3 (b.a7.getD (A2 b.a7) n5).o6 j8).2.2=0/\(I3 (b.a7.getD (A2 b.a7) n5).o6 j8).2.1=(I3 (b.a7.getD (A2 b.a7) n5).o6 j8).2.1/\¬(b.a7.getD (A2 b.a7) n5).state=1
   exact ⟨hm,rfl,by omega⟩
theorem qV {b:b9} (g:I5 b) (seq:Int) (is:Bool):I5 (P9 b seq is):=kM.1 (by rw [BC];exact kM.2 g)
theorem LS {b:b9} (g:I5 b):H5 b:=by
 have hu:=g.nu
 have hr:=g.nr
 have hl:=g.nl
 have hk:=g.kp
 refine ⟨by omega,by omega,by omega,fun i=>?_,fun i=>?_⟩
 ·by_cases hi:i < b.a7.length
  ·have r:=oK.2 (cI g hi)
   unfold fw at r
   rw [Bool.and_eq_true] at r
   have:=qz r.1
   omega
  ·rw [List.getD,List.getElem?_eq_none (by omega)]
   show 0 < _
   decide
 ·by_cases hi:i < b.log.length
  ·have:=aX (ze (g.lg _ (by rw [D5 hi];exact List.getElem_mem hi)).2.2.2.1:P6 (b.log.getD i o8).j8=true)
   omega
  ·rw [List.getD,List.getElem?_eq_none (by omega)]
   show 0 < _
   decide
theorem vQ {b:b9} {I4:Int} (h:iI b I4=0):A8 b=true/\(1<=I4/\I4<=3)/\¬(b.k8.length:Int)=16:=by
 unfold iI at h
 by_cases h1:A8 b=true
 ·rw [if_pos h1] at h
  by_cases h2:I4 < 1∨3 < I4
  ·rw [if_pos h2] at h;cases h
  ·rw [if_neg h2] at h
   by_cases h3:(b.k8.length:Int)=16
   ·rw [if_pos h3] at h;cases h
   ·exact ⟨h1,by omega,h3⟩
 ·rw [if_neg h1] at h;cases h
theorem vR {b:b9} {b8:Int} {g:H4} (h:kt b b8 g=0):A8 b=true/\C7 [2] b.k8 b8=true/\N3 g=true/\¬(b.a7.length:Int)=16:=by
 unfold kt at h
 by_cases h1:A8 b=true
 ·rw [if_pos h1] at h
  by_cases h2:0<=b8/\b8<=(b.k8.length:Int) - 1
  ·rw [if_neg (fun q=>q h2)] at h
   by_cases h3:C7 [2] b.k8 b8=false
   ·rw [if_pos h3] at h;cases h
   ·rw [if_neg h3] at h
    by_cases h4:N3 g=true
    ·rw [if_neg (fun q=>q h4)] at h
     by_cases h5:(b.a7.length:Int)=16
     ·rw [if_pos h5] at h;cases h
     ·exact ⟨h1,by simpa using h3,h4,h5⟩
    ·rw [if_pos h4] at h;cases h
  ·rw [if_pos h2] at h;cases h
 ·rw [if_neg h1] at h;cases h
theorem qW {b:b9} {b8:Int} (h:kz b b8=0):A8 b=true/\C7 [3] b.k8 b8=true/\b.a7.any H6=true:=by
 unfold kz at h
 by_cases h1:A8 b=true
 ·rw [if_pos h1] at h
  by_cases h2:0<=b8/\b8<=(b.k8.length:Int) - 1
  ·rw [if_neg (fun q=>q h2)] at h
   by_cases h3:C7 [3] b.k8 b8=false
   ·rw [if_pos h3] at h;cases h
   ·rw [if_neg h3] at h
    by_cases h4:b.a7.any H6=true
    ·exact ⟨h1,by simpa using h3,h4⟩
    ·rw [if_pos h4] at h;cases h
  ·rw [if_pos h2] at h;cases h
 ·rw [if_neg h1] at h;cases h
theorem BF {b:b9} {a:M9} (g:I5 b) (h:zd b a=0):I5 (dg b a):=by
 unfold zd at h
 unfold dg
 by_cases k0:B6 a=0
 ·rw [if_pos k0] at h ⊢
  have z:=vQ h
  exact zg g z.2.1 z.2.2
 rw [if_neg k0] at h ⊢
 by_cases k1:B6 a=1
 ·rw [if_pos k1] at h ⊢
  have z:=vR h
  exact zh g z.2.1 z.2.2.1 z.2.2.2
 rw [if_neg k1] at h ⊢
 by_cases k2:B6 a=2
 ·rw [if_pos k2] at h ⊢
  exact zm g h
 rw [if_neg k2] at h ⊢
 by_cases k3:B6 a=3
 ·rw [if_pos k3] at h ⊢
  obtain ⟨hc,hn,lG,h2⟩:=dW h
  exact vP g (by have:=hn.2;omega) h2
 rw [if_neg k3] at h ⊢
 by_cases k4:B6 a=4
 ·rw [if_pos k4] at h ⊢
  have z:=(qW h).2.2
  exact (fF g (J4 z) (L6 z)).1
 rw [if_neg k4] at h ⊢
 by_cases k5:B6 a=5
 ·rw [if_pos k5] at h ⊢
  exact zp g h
 rw [if_neg k5] at h ⊢
 by_cases k6:B6 a=6
 ·rw [if_pos k6] at h ⊢
  exact qV g _ _
 rw [if_neg k6] at h ⊢
 exact qV g _ _
theorem zq (b:b9):(M6 b).a7.length=b.a7.length/\(M6 b).keep=b.keep/\(M6 b).k8=b.k8/\(M6 b).next=b.next/\(M6 b).log=b.log:=by
 unfold M6
 split
 ·exact ⟨List.length_set,rfl,rfl,rfl,rfl⟩
 ·exact ⟨rfl,rfl,rfl,rfl,rfl⟩

end Go.Proofs.Tryz.My
