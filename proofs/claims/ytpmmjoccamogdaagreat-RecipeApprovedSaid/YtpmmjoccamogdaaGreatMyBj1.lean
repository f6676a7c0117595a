/- Helper lemmas. -/
import Derived.Test.YtpmmjoccamogdaaGreatMyBnA
import Derived.Test.YtpmmjoccamogdaaGreatEvZq
set_option linter.unusedVariables false
set_option linter.unusedSimpArgs false
set_option maxRecDepth 100000
set_option maxHeartbeats 0
namespace Go.Proofs.Tryz.My
open Go Go.Ev
structure G5 where
 roles:List Int
 authors:List Int
 gauges:List H4
 k9:List (List Int)
 active:Int
 entries:List Int
def Cm:G5:=⟨[],[],[],[],-1,[]⟩
def y6 (h:G5) (a:M9):G5 :=
 if B6 a=0 then ⟨h.roles++[a.I4],h.authors,h.gauges,h.k9,h.active,h.entries⟩ else
 if B6 a=1 then ⟨h.roles,h.authors++[a.b8],h.gauges++[a.o6],h.k9++[[]],h.active,h.entries⟩ else
 if B6 a=2 then ⟨h.roles,h.authors,h.gauges,h.k9.set a.a8.toNat (Y3 (h.k9.getD a.a8.toNat []) a.b8),h.active,h.entries⟩ else
 if B6 a=3 then ⟨h.roles,h.authors,h.gauges,h.k9,a.a8,h.entries⟩ else
 if B6 a=4 then ⟨h.roles,h.authors,h.gauges,h.k9,-1,h.entries⟩ else
 if B6 a=5 then ⟨h.roles,h.authors,h.gauges,h.k9,h.active,h.entries++[h.active]⟩ else h
def Ew (h:G5) (n:Int):Prop :=
 (0<=n/\n < h.authors.length)/\(∀ u,u ∈ h.k9.getD n.toNat []->(0<=u/\u < h.roles.length)/\¬u=h.authors.getD n.toNat 0/\¬h.roles.getD u.toNat 0=1)/\2<=(h.k9.getD n.toNat []).length/\∃ u,u ∈ h.k9.getD n.toNat []/\h.roles.getD u.toNat 0=3
structure oM (b:b9) (h:G5):Prop where
 g:I5 b
 ro:h.roles=b.k8
 au:h.authors=b.a7.map x7.author
 ga:h.gauges=b.a7.map x7.o6
 al:h.k9.length=b.a7.length
 am:∀ i,i < b.a7.length->∀ u,u ∈ h.k9.getD i []↔u ∈ (b.a7.getD i n5).k9
 ac:(h.active = -1/\∀ i,i < b.a7.length->¬(b.a7.getD i n5).state=3)∨((0<=h.active/\h.active < b.a7.length)/\(b.a7.getD h.active.toNat n5).state=3)
 nx:b.next=h.entries.length
 lg:∀ s,s ∈ b.log->h.entries.getD s.seq.toNat 0=s.recipe
theorem zr {s:List Int} {u v:Int}:v ∈ Y3 s u↔v=u∨v ∈ s:=by
 unfold Y3
 split
 ·rename_i h
  exact ⟨.inr,fun z=>z.elim (fun e=>e ▸ h) id⟩
 ·rw [List.mem_append,List.mem_singleton]
  exact Or.comm
theorem DY {l:List Int} {a c:Int} (ha:a ∈ l) (hc:c ∈ l) (h:¬a=c):2<=l.length:=by
 match l,ha,hc with
 | [x],ha,hc =>
  rw [List.mem_singleton] at ha hc
  exact absurd (ha.trans hc.symm) h
 | _ :: _ :: _,_,_=>simp
theorem Cn {b:b9} {h:G5} (I:oM b h) {n:Int} (h0:0<=n/\n < b.a7.length) (hs:1 < (b.a7.getD n.toNat n5).state):Ew h n:=by
 have hi:n.toNat < b.a7.length:=by omega
 obtain ⟨r1,r2,r3,r4,r5,r6⟩:=cI I.g hi
 have am:=I.am n.toNat hi
 have he:=r6.1 hs
 unfold D9 at he
 simp only [Bool.and_eq_true,decide_eq_true_eq,List.any_eq_true] at he
 obtain ⟨e1,u,e2,e3⟩:=he
 have ea:h.authors.getD n.toNat 0=(b.a7.getD n.toNat n5).author:=by
  rw [I.au]
  simp [List.getD,hi]
 refine ⟨⟨h0.1,by rw [I.au,List.length_map];exact h0.2⟩,fun v hv=>?_,?_,u,(am u).2 e2,?_⟩
 ·obtain ⟨q1,q2⟩:=r2 v ((am v).1 hv)
  have q3:=T6 q2
  rw [I.ro,ea]
  refine ⟨q3,q1,fun z=>?_⟩
  unfold C7 at q2
  rw [z] at q2
  simp at q2
 ·have l0:0 < (b.a7.getD n.toNat n5).k9.length:=by omega
  have l1:1 < (b.a7.getD n.toNat n5).k9.length:=by omega
  have lt:=List.pairwise_iff_getElem.1 r1 0 1 l0 l1 (by omega)
  exact DY ((am _).2 (List.getElem_mem l0)) ((am _).2 (List.getElem_mem l1)) (by omega)
 ·rw [I.ro]
  unfold C7 at e3
  simp only [Bool.and_eq_true] at e3
  simpa using e3.2
def dy (r:x7):Int×H4×List Int:=(r.author,r.o6,r.k9)
def iv (b c:b9):Prop:=c.a7.map dy=b.a7.map dy
theorem iv.refl (b:b9):iv b b:=rfl
theorem kO {l:List x7} (i:Nat) (n:Int):(l.set i (ad (l.getD i n5) n)).map dy=l.map dy:=by
 by_cases hi:i < l.length
 ·rw [List.map_set]
  have:dy (ad (l.getD i n5) n)=(l.map dy)[i]'(by simpa using hi):=by
   rw [List.getElem_map,D5 hi];rfl
  rw [this,List.set_getElem_self]
 ·rw [List.set_eq_of_length_le (by omega)]
theorem vS (b:b9):iv b (M6 b):=by
 unfold M6 iv
 split
 ·exact kO _ _
 ·rfl
theorem iv.of {b c:b9} {h:G5} (s:iv b c) (au:h.authors=b.a7.map x7.author) (ga:h.gauges=b.a7.map x7.o6) (al:h.k9.length=b.a7.length)
  (am:∀ i,i < b.a7.length->∀ u,u ∈ h.k9.getD i []↔u ∈ (b.a7.getD i n5).k9) :
  h.authors=c.a7.map x7.author/\h.gauges=c.a7.map x7.o6/\h.k9.length=c.a7.length/\(∀ i,i < c.a7.length->∀ u,u ∈ h.k9.getD i []↔u ∈ (c.a7.getD i n5).k9):=by
 have s:c.a7.map dy=b.a7.map dy:=s
 have hl:c.a7.length=b.a7.length:=by simpa using congrArg List.length s
 have e1:∀ l:List x7,l.map x7.author=(l.map dy).map (·.1):=fun l=>by rw [List.map_map];rfl
 have e2:∀ l:List x7,l.map x7.o6=(l.map dy).map (·.2.1):=fun l=>by rw [List.map_map];rfl
 refine ⟨by rw [e1,s,<- e1];exact au,by rw [e2,s,<- e2];exact ga,al.trans hl.symm,fun i hi u=>?_⟩
 have hb:i < b.a7.length:=by omega
 have:=congrArg (fun z=>z[i]?) s
 simp only [List.getElem?_map,List.getElem?_eq_getElem hi,List.getElem?_eq_getElem hb,Option.map_some,Option.some.injEq] at this
 rw [am i hb u,D5 hi,D5 hb,show (c.a7[i]).k9=(b.a7[i]).k9 from congrArg (·.2.2) this]
theorem qX {l:List x7} (h:z5 l=0):∀ i,i < l.length->¬(l.getD i n5).state=3:=by
 intro i hi z
 unfold z5 at h
 rw [List.length_eq_zero_iff,List.filter_eq_nil_iff] at h
 exact h _ (List.getElem_mem hi) (by rw [D5 hi] at z;exact decide_eq_true z)
theorem zt {b:b9} (g:I5 b) {i j:Nat} (hi:i < b.a7.length) (hj:j < b.a7.length) (h1:(b.a7.getD i n5).state=3) (h2:(b.a7.getD j n5).state=3):i=j:=by
 obtain ⟨_,z⟩:=fF g hi h1
 by_cases e:i=j
 ·exact e
 ·exfalso
  have hl:(fx b i).a7.length=b.a7.length:=List.length_set
  refine qX z j (by omega) ?_
  have:(fx b i).a7.getD j n5=b.a7.getD j n5:=by
   show (b.a7.set i _).getD j n5=_
   rw [List.getD,List.getElem?_set_ne e];rfl
  rw [this];exact h2
theorem ue {b:b9} {h:G5} (I:oM b h) (seq:Int) (is:Bool) (g:I5 (P9 b seq is)):oM (P9 b seq is) h:=by
 refine ⟨g,I.ro,I.au,I.ga,I.al,I.am,I.ac,I.nx,fun s hs=>?_⟩
 have hs:s ∈ b.log.set (V9 b seq) (vN (b.log.getD (V9 b seq) o8) is):=hs
 by_cases hi:V9 b seq < b.log.length
 ·rcases List.mem_or_eq_of_mem_set hs with q|q
  ·exact I.lg s q
  ·rw [q]
   exact I.lg (b.log.getD (V9 b seq) o8) (by rw [D5 hi];exact List.getElem_mem hi)
 ·rw [List.set_eq_of_length_le (by omega)] at hs
  exact I.lg s hs
theorem qY {b:b9} {h:G5} (I:oM b h) {a:M9} (e:zd b a=0) :
  oM (dg b a) (y6 h a)/\(B6 a=2∨B6 a=3->0<=a.a8/\a.a8 < h.authors.length)/\(B6 a=2->(0<=a.b8/\a.b8 < 16))/\(B6 a=3->Ew h a.a8)/\(B6 a=5->0<=h.active):=by
 have kg:=BF I.g e
 have LU:(h.authors.length:Int)=b.a7.length:=by rw [I.au,List.length_map]
 unfold zd at e
 unfold dg at kg
 unfold dg y6
 by_cases k0:B6 a=0
 ·rw [if_pos k0] at e kg ⊢
  rw [if_pos k0]
  exact ⟨⟨kg,by show h.roles++[a.I4]=b.k8++[a.I4];rw [I.ro],I.au,I.ga,I.al,I.am,I.ac,I.nx,I.lg⟩,fun z=>by omega,fun z=>by omega,fun z=>by omega,fun z=>by omega⟩
 rw [if_neg k0] at e kg ⊢
 rw [if_neg k0]
 by_cases k1:B6 a=1
 ·rw [if_pos k1] at e kg ⊢
  rw [if_pos k1]
  have hl:(lF b a.b8 a.o6).a7.length=b.a7.length + 1:=by show (b.a7++[J3 a.b8 a.o6]).length=_;simp
  have ll:∀ i,i < b.a7.length->(lF b a.b8 a.o6).a7.getD i n5=b.a7.getD i n5:=fun i hi=>by
   show (b.a7++[J3 a.b8 a.o6]).getD i n5=_
   simp only [List.getD]
   rw [List.getElem?_append_left hi]
  have lr:(lF b a.b8 a.o6).a7.getD b.a7.length n5=J3 a.b8 a.o6:=by
   show (b.a7++[J3 a.b8 a.o6]).getD b.a7.length n5=_
   simp [List.getD]
  refine ⟨⟨kg,I.ro,?_,?_,?_,fun i hi u=>?_,?_,I.nx,I.lg⟩,fun z=>by omega,fun z=>by omega,fun z=>by omega,fun z=>by omega⟩
  ·show h.authors++[a.b8]=(b.a7++[J3 a.b8 a.o6]).map x7.author
   rw [List.map_append,I.au];rfl
  ·show h.gauges++[a.o6]=(b.a7++[J3 a.b8 a.o6]).map x7.o6
   rw [List.map_append,I.ga];rfl
  ·show (h.k9++[[]]).length=_
   rw [hl,List.length_append,I.al];rfl
  ·show u ∈ (h.k9++[[]]).getD i []↔_
   by_cases q:i < b.a7.length
   ·have:(h.k9++[[]]).getD i []=h.k9.getD i []:=by
     simp only [List.getD]
     rw [List.getElem?_append_left (by rw [I.al];exact q)]
    rw [this,ll i q]
    exact I.am i q u
   ·have q2:i=b.a7.length:=by omega
    subst q2
    rw [lr,<- I.al]
    simp [List.getD,J3]
  ·rcases I.ac with ⟨z1,z2⟩|⟨z1,z2⟩
   ·refine .inl ⟨z1,fun i hi=>?_⟩
    by_cases q:i < b.a7.length
    ·rw [ll i q];exact z2 i q
    ·have q2:i=b.a7.length:=by omega
     subst q2
     rw [lr]
     exact fun z=>absurd (show (1:Int)=3 from z) (by decide)
   ·refine .inr ⟨⟨z1.1,?_⟩,?_⟩
    ·show h.active < ((lF b a.b8 a.o6).a7.length:Int)
     rw [hl];omega
    ·show ((lF b a.b8 a.o6).a7.getD h.active.toNat n5).state=3
     rw [ll _ (by omega)];exact z2
 rw [if_neg k1] at e kg ⊢
 rw [if_neg k1]
 by_cases k2:B6 a=2
 ·rw [if_pos k2] at e kg ⊢
  rw [if_pos k2]
  obtain ⟨hc,hn,hb,h2⟩:=gJ e
  obtain ⟨pd,X0,Et⟩:=iP hb
  have rG:=hn.2
  have hi:a.a8.toNat < b.a7.length:=by omega
  have R9:¬a.b8 ∈ (b.a7.getD a.a8.toNat n5).k9:=fun z=>by
   rw [<- List.contains_iff_mem,pd] at z
   cases z
  obtain ⟨r1,r2,r3⟩:=ud (cI I.g hi) R9 X0 Et h2
  have hl:(fB b a.b8 a.a8).a7.length=b.a7.length:=List.length_set
  have ls:(fB b a.b8 a.a8).a7.getD a.a8.toNat n5=kF b.k8 (b.a7.getD a.a8.toNat n5) a.b8:=P7 hi
  have lo:∀ i,¬a.a8.toNat=i->(fB b a.b8 a.a8).a7.getD i n5=b.a7.getD i n5:=fun i q=>by
   show (b.a7.set a.a8.toNat _).getD i n5=_
   rw [List.getD,List.getElem?_set_ne q];rfl
  have nu:=I.g.nu
  refine ⟨⟨kg,I.ro,?_,?_,?_,fun i hj u=>?_,?_,I.nx,I.lg⟩,fun _=>by omega,fun _=>by have:=T6 Et;omega,fun z=>by omega,fun z=>by omega⟩
  ·show h.authors=(b.a7.set a.a8.toNat _).map x7.author
   rw [List.map_set,I.au]
   have:(kF b.k8 (b.a7.getD a.a8.toNat n5) a.b8).author=(b.a7.map x7.author)[a.a8.toNat]'(by simpa using hi):=by
    rw [List.getElem_map,D5 hi];rfl
   rw [this,List.set_getElem_self]
  ·show h.gauges=(b.a7.set a.a8.toNat _).map x7.o6
   rw [List.map_set,I.ga]
   have:(kF b.k8 (b.a7.getD a.a8.toNat n5) a.b8).o6=(b.a7.map x7.o6)[a.a8.toNat]'(by simpa using hi):=by
    rw [List.getElem_map,D5 hi];rfl
   rw [this,List.set_getElem_self]
  ·show (h.k9.set _ _).length=_
   rw [List.length_set,hl];exact I.al
  ·have hj:i < b.a7.length:=by omega
   show u ∈ (h.k9.set a.a8.toNat (Y3 (h.k9.getD a.a8.toNat []) a.b8)).getD i []↔_
   by_cases q:a.a8.toNat=i
   ·subst q
    rw [ls,P7 (by rw [I.al];exact hi),zr,I.am _ hi]
    exact iR.symm
   ·rw [lo i q,<- I.am i hj u,List.getD,List.getElem?_set_ne q];rfl
  ·rcases I.ac with ⟨z1,z2⟩|⟨z1,z2⟩
   ·refine .inl ⟨z1,fun i hj=>?_⟩
    by_cases q:a.a8.toNat=i
    ·subst q;rw [ls];exact r2
    ·rw [lo i q];exact z2 i (by omega)
   ·refine .inr ⟨⟨z1.1,?_⟩,?_⟩
    ·show h.active < ((fB b a.b8 a.a8).a7.length:Int)
     rw [hl];exact z1.2
    ·show ((fB b a.b8 a.a8).a7.getD h.active.toNat n5).state=3
     rw [lo _ (fun q=>by rw [q] at h2;omega)];exact z2
 rw [if_neg k2] at e kg ⊢
 rw [if_neg k2]
 by_cases k3:B6 a=3
 ·rw [if_pos k3] at e kg ⊢
  rw [if_pos k3]
  obtain ⟨hc,hn,lG,h2⟩:=dW e
  have rG:=hn.2
  obtain ⟨g1,z,hl,hk⟩:=mQ I.g
  obtain ⟨c1,c2,c3,c4,c5⟩:=zq b
  have sc:iv b (dw b a.a8):=(kO (l:=(M6 b).a7) a.a8.toNat 3).trans (vS b)
  obtain ⟨s1,s2,s3,s4⟩:=sc.of I.au I.ga I.al I.am
  refine ⟨⟨kg,I.ro.trans c3.symm,s1,s2,s3,s4,.inr ⟨⟨by show 0<=a.a8;omega,?_⟩,?_⟩,c4.trans I.nx,fun s hs=>?_⟩,fun _=>by omega,fun z=>by omega,fun _=>Cn I (by omega) (by omega),fun z=>by omega⟩
  ·show a.a8 < (((M6 b).a7.set _ _).length:Int)
   rw [List.length_set,hl];omega
  ·show (((M6 b).a7.set a.a8.toNat _).getD a.a8.toNat n5).state=3
   rw [P7 (by omega)];rfl
  ·have hs:s ∈ (M6 b).log:=hs
   rw [c5] at hs
   exact I.lg s hs
 rw [if_neg k3] at e kg ⊢
 rw [if_neg k3]
 by_cases k4:B6 a=4
 ·rw [if_pos k4] at e kg ⊢
  rw [if_pos k4]
  have z:=(qW e).2.2
  have sc:iv b (fx b (A2 b.a7)):=kO _ _
  obtain ⟨s1,s2,s3,s4⟩:=sc.of I.au I.ga I.al I.am
  exact ⟨⟨kg,I.ro,s1,s2,s3,s4,.inl ⟨rfl,qX (fF I.g (J4 z) (L6 z)).2⟩,I.nx,I.lg⟩,fun z=>by omega,fun z=>by omega,fun z=>by omega,fun z=>by omega⟩
 rw [if_neg k4] at e kg ⊢
 rw [if_neg k4]
 by_cases k5:B6 a=5
 ·rw [if_pos k5] at e kg ⊢
  rw [if_pos k5]
  obtain ⟨hc,hp,ha,hm,hf,hn⟩:=gM e
  have hA:=J4 ha
  have Je:=L6 ha
  have nx:=I.nx
  have Gj:h.active=(A2 b.a7:Int)/\0<=h.active:=by
   rcases I.ac with ⟨z1,z2⟩|⟨z1,z2⟩
   ·exact absurd Je (z2 _ hA)
   ·have:=zt I.g (by omega) hA z2 Je
    omega
  refine ⟨⟨kg,I.ro,I.au,I.ga,I.al,I.am,I.ac,?_,fun s hs=>?_⟩,fun z=>by omega,fun z=>by omega,fun z=>by omega,fun _=>Gj.2⟩
  ·show b.next + 1=((h.entries++[h.active]).length:Int)
   rw [List.length_append,nx];rfl
  ·show (h.entries++[h.active]).getD s.seq.toNat 0=s.recipe
   have hs:s ∈ kI b++[lM b a.a8 a.j8]:=hs
   rw [List.mem_append,List.mem_singleton] at hs
   rcases hs with hs|hs
   ·have hm:=(fG b).mem hs
    have hq:=(I.g.lg s hm).1
    have:(h.entries++[h.active]).getD s.seq.toNat 0=h.entries.getD s.seq.toNat 0:=by
     simp only [List.getD]
     rw [List.getElem?_append_left (by omega)]
    rw [this]
    exact I.lg s hm
   ·rw [hs]
    show (h.entries++[h.active]).getD b.next.toNat 0=(A2 b.a7:Int)
    have:b.next.toNat=h.entries.length:=by omega
    rw [this]
    simp [List.getD,Gj.1]
 rw [if_neg k5] at e kg ⊢
 rw [if_neg k5]
 have bad:B6 a=2∨B6 a=3->0<=a.a8/\a.a8 < h.authors.length:=fun z=>by omega
 by_cases k6:B6 a=6
 ·rw [if_pos k6] at e kg ⊢
  exact ⟨ue I _ _ kg,bad,fun z=>by omega,fun z=>by omega,fun z=>by omega⟩
 rw [if_neg k6] at e kg ⊢
 exact ⟨ue I _ _ kg,bad,fun z=>by omega,fun z=>by omega,fun z=>by omega⟩
theorem BG {keep:Int} (h:1<=keep/\keep<=32):oM ⟨keep,[],[],0,[]⟩ Cm:=by
 refine ⟨⟨h,⟨by show (0:Int)<=0;omega,by show (0:Int)<=_;omega⟩,Nat.zero_le _,Nat.zero_le _,?_,fun r hr=>absurd hr (List.not_mem_nil),fun r hr=>absurd hr (List.not_mem_nil),Nat.zero_le _,.nil,fun r hr=>absurd hr (List.not_mem_nil)⟩,rfl,rfl,rfl,rfl,fun i hi=>absurd hi (Nat.not_lt_zero i),.inl ⟨rfl,fun i hi=>absurd hi (Nat.not_lt_zero i)⟩,rfl,fun s hs=>absurd hs (List.not_mem_nil)⟩
 show ((0:Nat):Int)<=keep
 omega
theorem DZ (l:List x7) (i:Nat):(l.map x7.o6).getD i dV=(l.getD i n5).o6:=by
 simp only [List.getD,List.getElem?_map]
 cases l[i]? <;> rfl
theorem zu {b:b9} (g:I5 b) {i j:Nat} (hj:j < b.log.length) (h:i < j):(b.log.getD i o8).seq < (b.log.getD j o8).seq:=by
 rw [D5 hj,D5 (show i < b.log.length by omega)]
 exact List.pairwise_iff_getElem.1 g.sq i j (by omega) hj h
theorem uf {b:b9} {h:G5} (I:oM b h) {i:Nat} (hi:i < b.log.length) :
  (0<=(b.log.getD i o8).seq/\(b.log.getD i o8).seq < h.entries.length)/\h.entries.getD (b.log.getD i o8).seq.toNat 0=(b.log.getD i o8).recipe/\Ew h (b.log.getD i o8).recipe/\(b.log.getD i o8).recipe < h.gauges.length /\
   (b.a7.getD (b.log.getD i o8).recipe.toNat n5).o6=h.gauges.getD (b.log.getD i o8).recipe.toNat dV/\(I3 (h.gauges.getD (b.log.getD i o8).recipe.toNat dV) (b.log.getD i o8).j8).2.2=0 /\
   (I3 (h.gauges.getD (b.log.getD i o8).recipe.toNat dV) (b.log.getD i o8).j8).2.1=(b.log.getD i o8).H8/\b.log.any (L2 (b.log.getD i o8).seq)=true/\(b.log.getD (V9 b (b.log.getD i o8).seq) o8).H8=(b.log.getD i o8).H8:=by
 have hm:b.log.getD i o8 ∈ b.log:=by rw [D5 hi];exact List.getElem_mem hi
 obtain ⟨e1,e2,e3,e4,e5,e6⟩:=I.g.lg _ hm
 have hr:(b.log.getD i o8).recipe.toNat < b.a7.length:=by omega
 have st:=(cI I.g hr).2.2.2.2.1
 have eg:h.gauges.getD (b.log.getD i o8).recipe.toNat dV=(b.a7.getD (b.log.getD i o8).recipe.toNat n5).o6:=by
  rw [I.ga]
  exact DZ b.a7 _
 have ha:b.log.any (L2 (b.log.getD i o8).seq)=true:=List.any_eq_true.2 ⟨_,hm,by unfold L2;exact decide_eq_true rfl⟩
 have hx:V9 b (b.log.getD i o8).seq=i:=by
  have u2:V9 b (b.log.getD i o8).seq < b.log.length:=bQ ha
  have q:(b.log.getD (V9 b (b.log.getD i o8).seq) o8).seq=(b.log.getD i o8).seq:=by
   rw [D5 u2]
   exact of_decide_eq_true (List.findIdx_getElem (p:=L2 (b.log.getD i o8).seq) (xs:=b.log) (w:=u2))
  rcases Nat.lt_trichotomy (V9 b (b.log.getD i o8).seq) i with z|z|z
  ·have p:=zu I.g hi z
   omega
  ·exact z
  ·have p:=zu I.g u2 z
   omega
 have nx:=I.nx
 refine ⟨⟨e1.1,by omega⟩,I.lg _ hm,Cn I e2 (by omega),by rw [I.ga,List.length_map];exact e2.2,eg.symm,by rw [eg];exact e4,by rw [eg];exact e5,ha,by rw [hx]⟩

end Go.Proofs.Tryz.My
