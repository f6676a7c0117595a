/- Helper lemmas. -/
import Derived.Test.YtacahppoighegaaGreatMzBpD
set_option linter.unusedVariables false
set_option linter.unusedSimpArgs false
set_option maxRecDepth 100000
set_option maxHeartbeats 0
namespace Go.Proofs.Tryz.My
open Go Go.Ev
theorem NN{g:v7}{p:List Int}(h:(E8 g p).2.2=0):H8 p=true:=by
 unfold E8 at h;by_cases hg:N0 g=true
 ·rw[if_pos hg]at h;obtain⟨⟨t1,t2⟩,⟨n1,n2⟩,_⟩:=X8 hg;rcases nZ (p:=p) t1 t2 n1 n2 with ⟨_,q⟩|⟨q,_⟩
  ·rw[q]at h;unfold um at h;rw[if_neg va8,if_neg va8]at h;exact absurd (show(50:Int)=0 from h) va8
  ·exact q
 ·rw[if_neg hg]at h;exact absurd h va8
def Tw(b:n9)(s:A2):Prop :=
 (0<=s.seq/\s.seq<b.next)/\(0<=s.recipe/\s.recipe<b.j8.length)/\(0<=s.part/\s.part<=1099511627776)/\(E8 (b.j8.getD s.recipe.toNat p9).j9 s.n7).2.2=0 /\
  (E8 (b.j8.getD s.recipe.toNat p9).j9 s.n7).2.1=s.o5/\¬(b.j8.getD s.recipe.toNat p9).state=1
def kl(us:List Int)(x:D1):Prop :=
 List.Pairwise (· < ·) x.y7/\(∀ u,u ∈ x.y7->¬u=x.author/\D6 [2,3] us u=true)/\D6 [2] us x.author=true/\N0 x.j9=true/\(1<=x.state/\x.state<=4)/\(1<x.state↔H9 us x.y7=true)
structure P4 (b:n9):Prop where
 kp:1<=b.keep/\b.keep<=32
 nx:0<=b.next/\b.next<=1099511627776
 nu:b.n5.length<=16
 nr:b.j8.length<=16
 nl:(b.log.length:Int)<=b.keep
 st:∀ r,r ∈ b.n5->1<=r/\r<=3
 rc:∀ x,x ∈ b.j8->kl b.n5 x
 ac:D0 b.j8<=1
 sq:List.Pairwise (fun s t:A2=>s.seq<t.seq) b.log
 lg:∀ s,s ∈ b.log->Tw b s
theorem A6{α:Type}{d:α}{l:List α}{i:Nat}(h:i<l.length):l.getD i d=l[i]:=by
 simp only[List.getD,zA6 h,Option.getD_some]
theorem kV{rr us:List Int}{u:Int}(h:D6 rr us u=true):0<=u/\u<us.length:=by
 unfold D6 B6 at h;simp only[zA2,zA3]at h;omega
theorem uJ{α:Type}{d:α}{l:List α}(f:α->Int):((∀ i,i<l.length->(if i=0 then -1 else f (l.getD (i-1) d))<f (l.getD i d))↔(List.Pairwise (fun s t=>f s<f t) l/\∀ s,s ∈ l->0<=f s)):=by
 constructor
 ·intro h;have up:∀ j,j<l.length->0<=f (l.getD j d)/\∀ i,i<j->f (l.getD i d)<f (l.getD j d):=by
   intro j
   induction j with
   | zero =>
    intro hj;have:=h 0 hj;rw[if_pos rfl]at this;exact⟨va5,fun i hi=>absurd hi (zB3 i)⟩
   | succ j ih =>
    intro hj;have a:=ih va5;have b:=h (j+1) hj;rw[if_neg va5,show j+1-1=j by omega]at b;refine⟨va5,fun i hi=>?_⟩;by_cases e:i=j
    ·subst e;exact b
    ·have:=a.2 i va5;omega
  refine⟨List.pairwise_iff_getElem.2 fun i j hi hj Bd=>?_,fun s hs=>?_⟩
  ·have:=(up j hj).2 i Bd;rwa[A6 hi,A6 hj]at this
  ·obtain⟨i,hi,e⟩:=List.getElem_of_mem hs;have:=(up i hi).1;rw[A6 hi,e]at this;exact this
 ·rintro⟨h1,h2⟩ i hi;by_cases e:i=0
  ·rw[if_pos e,A6 hi];have:=h2 _ (List.getElem_mem hi);omega
  ·rw[if_neg e,A6 hi,A6 (show i-1<l.length by omega)];exact List.pairwise_iff_getElem.1 h1 (i-1) i va5 hi va5
theorem Az{us:List Int}{x:D1}:jx us x=true↔kl us x:=by
 have hc:=uJ (d:=(0:Int)) (l:=x.y7) (fun u=>u);have ha:aG us x=true↔(List.Pairwise (· < ·) x.y7/\∀ u,u ∈ x.y7->¬u=x.author/\D6 [2,3] us u=true):=by
  unfold aG;rw[V4]
  constructor
  ·intro h;have h':∀ i,i<x.y7.length->fJ x.y7 i<x.y7.getD i 0/\¬x.y7.getD i 0=x.author/\D6 [2,3] us (x.y7.getD i 0)=true:=fun i hi=>by
    have:=h i hi;unfold Jz at this;simp only[zA2,zA3,Bool.not_eq_true',decide_eq_false_iff_not]at this;exact⟨this.1.1,this.1.2,this.2⟩
   refine⟨(hc.1 fun i hi=>(h' i hi).1).1,fun u hu=>?_⟩;obtain⟨i,hi,e⟩:=List.getElem_of_mem hu;have:=(h' i hi).2;rw[A6 hi,e]at this;exact this
  ·rintro⟨h1,h2⟩ i hi;have m:=h2 _ (List.getElem_mem hi);have c:=hc.2 ⟨h1,fun u hu=>(kV (h2 u hu).2).1⟩ i hi;unfold Jz;simp only[zA2,zA3,Bool.not_eq_true',decide_eq_false_iff_not];rw[A6 hi]at c ⊢;exact⟨⟨c,m.1⟩,m.2⟩
 unfold jx;rw[zA2,ha];unfold eP kl B6;simp only[zA2,zA3];have hb:(decide (x.state > 1) == H9 us x.y7)=true↔(1<x.state↔H9 us x.y7=true):=by
  rw[beq_iff_eq];by_cases q:1<x.state
  ·rw[zA4 q];exact⟨fun h=>⟨fun _=>h.symm,fun _=>q⟩,fun h=>(h.1 q).symm⟩
  ·rw[zA5 q];exact⟨fun h=>⟨fun z=>absurd z q,fun z=>by rw[<- h]at z;cases z⟩,fun h=>(Bool.eq_false_iff.2 fun z=>q (h.2 z)).symm⟩
 rw[hb]
 constructor
 ·rintro⟨⟨a,b⟩,⟨⟨c,d⟩,e⟩,f⟩;exact⟨a,b,c,d,e,f⟩
 ·rintro⟨a,b,c,d,e,f⟩;exact⟨⟨a,b⟩,⟨⟨c,d⟩,e⟩,f⟩
theorem il{b:n9}:B8 b=true↔P4 b:=by
 have rP:U8 b=true↔∀ r,r ∈ b.n5->1<=r/\r<=3:=by
  unfold U8;rw[Bool.not_eq_true',List.any_eq_false]
  constructor
  ·intro h r hr;have:=h r hr;unfold pR at this;simp only[zA9,zA3]at this;omega
  ·intro h r hr;have:=h r hr;unfold pR;simp only[zA9,zA3];omega
 have hlg:bh b=true↔(List.Pairwise (fun s t:A2=>s.seq<t.seq) b.log/\∀ s,s ∈ b.log->Tw b s):=by
  have hc:=uJ (d:=s9) (l:=b.log) A2.seq;unfold bh;rw[V4]
  constructor
  ·intro h;have h':∀ i,i<b.log.length->aH b.log i<(b.log.getD i s9).seq/\(b.log.getD i s9).seq<b.next/\(0<=(b.log.getD i s9).recipe/\(b.log.getD i s9).recipe<=(b.j8.length:Int)-1)/\(0<=(b.log.getD i s9).part/\(b.log.getD i s9).part<=1099511627776) /\
     (E8 (b.j8.getD (b.log.getD i s9).recipe.toNat p9).j9 (b.log.getD i s9).n7).2.2=0/\(E8 (b.j8.getD (b.log.getD i s9).recipe.toNat p9).j9 (b.log.getD i s9).n7).2.1=(b.log.getD i s9).o5/\¬(b.j8.getD (b.log.getD i s9).recipe.toNat p9).state=1:=fun i hi=>by
    have:=h i hi;unfold mC B6 at this;simp only[zA2,zA3,Bool.not_eq_true',decide_eq_false_iff_not]at this;obtain⟨⟨⟨⟨a,b⟩,c⟩,d⟩,⟨e,f⟩,g⟩:=this;exact⟨a,b,c,d,e,f,g⟩
   have p:=hc.1 fun i hi=>(h' i hi).1
   refine⟨p.1,fun s hs=>?_⟩;have z:=p.2 s hs;obtain⟨i,hi,e⟩:=List.getElem_of_mem hs;have:=(h' i hi).2;rw[A6 hi,e]at this;obtain⟨a,c,d,r⟩:=this;exact⟨⟨z,a⟩,⟨c.1,va5⟩,d,r⟩
  ·rintro⟨h1,h2⟩ i hi;have m:=h2 _ (List.getElem_mem hi);have c:=hc.2 ⟨h1,fun s hs=>(h2 s hs).1.1⟩ i hi;unfold mC B6;simp only[zA2,zA3,Bool.not_eq_true',decide_eq_false_iff_not];obtain⟨a1,a2,a3,a4,a5,a6⟩:=m;have c:aH b.log i<(b.log.getD i s9).seq:=c;rw[A6 hi]at c ⊢;exact⟨⟨⟨⟨c,a1.2⟩,a2.1,va5⟩,a3⟩,⟨a4,a5⟩,a6⟩
 unfold B8;rw[zA2,zA2,zA2,rP,hlg];unfold gh O0 B6;simp only[zA2,zA3,List.all_eq_true]
 constructor
 ·intro h;simp only[and_assoc]at h;obtain⟨k1,k2,n1,n2,u,r,l,st,rc,ac,sq,lg⟩:=h;exact⟨⟨k1,k2⟩,⟨n1,n2⟩,va5,va5,l,st,fun x hx=>Az.1 (rc x hx),ac,sq,lg⟩
 ·rintro⟨⟨k1,k2⟩,⟨n1,n2⟩,nu,nr,nl,st,rc,ac,sq,lg⟩;simp only[and_assoc];exact⟨k1,k2,n1,n2,va5,va5,nl,st,fun x hx=>Az.2 (rc x hx),ac,sq,lg⟩
theorem AA{rr us:List Int}{u r:Int}(h:0<=u/\u<us.length):D6 rr (us++[r]) u=D6 rr us u:=by
 have e:(us++[r]).getD u.toNat 0=us.getD u.toNat 0:=by
  simp only[List.getD];rw[List.getElem?_append_left va5]
 unfold D6 B6;rw[e,zA4 h.1,zA4 (show u<=((us++[r]).length:Int)-1 by simp;omega),zA4 (show u<=(us.length:Int)-1 by omega)]
theorem NO{α:Type}{p q:α->Bool}{l:List α}(h:∀ x,x ∈ l->p x=q x):l.any p=l.any q:=by
 rw[Bool.eq_iff_iff,List.any_eq_true,List.any_eq_true];exact⟨fun⟨x,a,c⟩=>⟨x,a,by rw[<- h x a];exact c⟩,fun⟨x,a,c⟩=>⟨x,a,by rw[h x a];exact c⟩⟩
theorem Rl{us:List Int}{x:D1}{r:Int}(h:kl us x):kl (us++[r]) x:=by
 obtain⟨a,c,d,e,f,g⟩:=h;refine⟨a,fun u hu=>⟨(c u hu).1,by rw[AA (kV (c u hu).2)];exact(c u hu).2⟩,by rw[AA (kV d)];exact d,e,f,?_⟩;have z:H9 (us++[r]) x.y7=H9 us x.y7:=by
  unfold H9;rw[NO fun u hu=>AA (kV (c u hu).2)]
 rw[z];exact g
theorem NP{b:n9}(g:P4 b){r:Int}(h1:1<=r/\r<=3)(h2:¬(b.n5.length:Int)=16):P4 (wh b r):=by
 have hu:=g.nu;refine⟨g.kp,g.nx,?_,g.nr,g.nl,fun x hx=>?_,fun x hx=>Rl (g.rc x hx),g.ac,g.sq,fun s hs=>g.lg s hs⟩
 ·show(b.n5++[r]).length<=16
  simp;omega
 ·have hx:x ∈ b.n5++[r]:=hx;rw[List.mem_append,List.mem_singleton]at hx;rcases hx with hx|hx
  ·exact g.st x hx
  ·rw[hx];exact h1
theorem Rm(l:List D1)(x:D1):D0 (l++[x])=D0 l+if x.state=3 then 1 else 0:=by
 unfold D0;rw[List.filter_append,List.length_append]
 congr 1
 by_cases h:x.state=3<;>simp[h]
theorem NQ{b:n9}(g:P4 b){k7:Int}{gg:v7}(h1:D6 [2] b.n5 k7=true)(h2:N0 gg=true)(h3:¬(b.j8.length:Int)=16):P4 (wo b k7 gg):=by
 have hu:=g.nr;refine⟨g.kp,g.nx,g.nu,?_,g.nl,g.st,fun x hx=>?_,?_,g.sq,fun s hs=>?_⟩
 ·show(b.j8++[X9 k7 gg]).length<=16
  simp;omega
 ·have hx:x ∈ b.j8++[X9 k7 gg]:=hx;rw[List.mem_append,List.mem_singleton]at hx;rcases hx with hx|hx
  ·exact g.rc x hx
  ·rw[hx];exact⟨List.Pairwise.nil,fun u hu=>absurd hu List.not_mem_nil,h1,h2,⟨by show(1:Int)<=1;omega,by show(1:Int)<=4;omega⟩,⟨fun z=>absurd z (by show ¬(1:Int)<1;omega),fun z=>Bool.noConfusion (show false=true from z)⟩⟩
 ·show D0 (b.j8++[X9 k7 gg])<=1
  rw[Rm,if_neg (show ¬(X9 k7 gg).state=3 from fun z=>absurd (show(1:Int)=3 from z) va8)];exact g.ac
 ·obtain⟨a1,a2,a3,a4,a5,a6⟩:=g.lg s hs;have e:(b.j8++[X9 k7 gg]).getD s.recipe.toNat p9=b.j8.getD s.recipe.toNat p9:=by
   simp only[List.getD];rw[List.getElem?_append_left va5]
  refine⟨a1,⟨a2.1,?_⟩,a3,?_⟩
  ·show s.recipe<((b.j8++[X9 k7 gg]).length:Int)
   simp;omega
  ·show(E8 ((b.j8++[X9 k7 gg]).getD s.recipe.toNat p9).j9 s.n7).2.2=0/\(E8 ((b.j8++[X9 k7 gg]).getD s.recipe.toNat p9).j9 s.n7).2.1=s.o5/\¬((b.j8++[X9 k7 gg]).getD s.recipe.toNat p9).state=1
   rw[e];exact⟨a4,a5,a6⟩
theorem sj:∀ {l:List D1} {i:Nat} (y:D1),i<l.length->D0 (l.set i y)+(if (l.getD i p9).state=3 then 1 else 0)=D0 l+(if y.state=3 then 1 else 0)
 | [],i,y,h=>absurd h (zB3 i)
 | a :: l,0,y,_=>by
  show D0 (y :: l)+(if a.state=3 then 1 else 0)=D0 (a :: l)+_
  unfold D0;by_cases h1:a.state=3<;>by_cases h2:y.state=3<;>simp[h1,h2]<;>omega
 | a :: l,i+1,y,h=>by
  have ih:=sj (l:=l) (i:=i) y (by simpa using h);show D0 (a :: l.set i y)+(if (l.getD i p9).state=3 then 1 else 0)=D0 (a :: l)+_
  have c:∀ m:List D1,D0 (a :: m)=D0 m+if a.state=3 then 1 else 0:=fun m=>by
   unfold D0;by_cases h1:a.state=3<;>simp[h1]
  rw[c,c];omega
theorem uK{b:n9}(g:P4 b){i:Nat}{y:D1}(hi:i<b.j8.length)(h1:kl b.n5 y)(h2:y.j9=(b.j8.getD i p9).j9)(h3:¬(b.j8.getD i p9).state=1->¬y.state=1)(h4:D0 (b.j8.set i y)<=1):P4 (Rj b i y):=by
 refine⟨g.kp,g.nx,g.nu,?_,g.nl,g.st,fun x hx=>?_,h4,g.sq,fun s hs=>?_⟩
 ·show(b.j8.set i y).length<=16
  rw[List.length_set];exact g.nr
 ·rcases List.mem_or_eq_of_mem_set hx with hx|hx
  ·exact g.rc x hx
  ·rw[hx];exact h1
 ·obtain⟨a1,a2,a3,a4,a5,a6⟩:=g.lg s hs;have e:((b.j8.set i y).getD s.recipe.toNat p9).j9=(b.j8.getD s.recipe.toNat p9).j9/\¬((b.j8.set i y).getD s.recipe.toNat p9).state=1:=by
   by_cases e:i=s.recipe.toNat
   ·rw[<- e,aM hi];rw[<- e]at a6;exact⟨h2,h3 a6⟩
   ·have z:(b.j8.set i y).getD s.recipe.toNat p9=b.j8.getD s.recipe.toNat p9:=by
     rw[List.getD,List.getElem?_set_ne e];rfl
    rw[z];exact⟨rfl,a6⟩
  refine⟨a1,⟨a2.1,?_⟩,a3,?_⟩
  ·show s.recipe<((b.j8.set i y).length:Int)
   rw[List.length_set];exact a2.2
  ·show(E8 ((b.j8.set i y).getD s.recipe.toNat p9).j9 s.n7).2.2=0/\(E8 ((b.j8.set i y).getD s.recipe.toNat p9).j9 s.n7).2.1=s.o5/\¬((b.j8.set i y).getD s.recipe.toNat p9).state=1
   rw[e.1];exact⟨a4,a5,e.2⟩
theorem NR{us:List Int}{x:D1}{n:Int}(h:kl us x)(h1:1<x.state)(h2:1<n/\n<=4):kl us (bj x n):=by
 obtain⟨a,c,d,e,f,g⟩:=h;exact⟨a,c,d,e,⟨by show 1<=n;omega,h2.2⟩,⟨fun _=>g.1 h1,fun _=>h2.1⟩⟩
theorem AB{b:n9}(g:P4 b){i:Nat}(hi:i<b.j8.length):kl b.n5 (b.j8.getD i p9):=g.rc _ (by rw[A6 hi];exact List.getElem_mem hi)
theorem CU{b:n9}(g:P4 b){i:Nat}(hi:i<b.j8.length)(h3:(b.j8.getD i p9).state=3):P4 (mH b i)/\D0 (mH b i).j8=0:=by
 have hs:=sj (l:=b.j8) (bj (b.j8.getD i p9) 4) hi;rw[if_pos h3,if_neg (show ¬(bj (b.j8.getD i p9) 4).state=3 from fun z=>absurd (show(4:Int)=3 from z) va8)]at hs;have ha:=g.ac;have hz:D0 (b.j8.set i (bj (b.j8.getD i p9) 4))=0:=by omega
 exact⟨uK g hi (NR (AB g hi) va5 ⟨va5,va5⟩) rfl (fun _ z=>absurd (show(4:Int)=1 from z) va8) va5,hz⟩
theorem NS{l:List D1}(h:¬l.any K7=true):D0 l=0:=by
 unfold D0;rw[List.length_eq_zero_iff,List.filter_eq_nil_iff];intro x hx q;exact h (List.any_eq_true.2 ⟨x,hx,q⟩)
theorem JF{b:n9}(g:P4 b):P4 (bD b)/\D0 (bD b).j8=0/\(bD b).j8.length=b.j8.length/\∀ k,¬(b.j8.getD k p9).state=3->(bD b).j8.getD k p9=b.j8.getD k p9:=by
 unfold bD;by_cases ha:b.j8.any K7=true
 ·rw[if_pos ha];have z:=CU g (O1 ha) (aJ ha);refine⟨z.1,z.2,List.length_set,fun k hk=>?_⟩;have e:C6 b.j8≠k:=fun e=>hk (e ▸ aJ ha)
  show(b.j8.set _ _).getD k p9=_
  rw[List.getD,List.getElem?_set_ne e];rfl
 ·rw[if_neg ha];exact⟨g,NS ha,rfl,fun _ _=>rfl⟩
theorem JG{b:n9}(g:P4 b){a7:Int}(hi:a7.toNat<b.j8.length)(h2:(b.j8.getD a7.toNat p9).state=2):P4 (fK b a7):=by
 obtain⟨g1,z,hl,hk⟩:=JF g;have e:=hk a7.toNat va5;have Lb:a7.toNat<(bD b).j8.length:=by omega
 have hs:=sj (l:=(bD b).j8) (bj ((bD b).j8.getD a7.toNat p9) 3) Lb;refine uK g1 Lb (NR (AB g1 Lb) (by rw[e];omega) ⟨va5,va5⟩) rfl (fun _ q=>absurd (show(3:Int)=1 from q) va8) ?_;rw[e,if_neg (show ¬(b.j8.getD a7.toNat p9).state=3 by omega)]at hs;rw[e];split at hs<;>omega
theorem kW{β:Type}(F:A2->β)(hF:∀ x is,F (FA x is)=F x)(l:List A2)(i k:Nat)(is:Bool):F ((l.set i (FA (l.getD i s9) is)).getD k s9)=F (l.getD k s9):=by
 by_cases e:i=k
 ·subst e;by_cases hi:i<l.length
  ·rw[List.getD,List.getElem?_set_self hi,Option.getD_some,hF]
  ·rw[List.set_eq_of_length_le va5]
 ·rw[List.getD,List.getElem?_set_ne e];rfl
theorem Rn(b:n9)(seq:Int)(is:Bool):B8 (S8 b seq is)=B8 b:=by
 have hl:(S8 b seq is).log.length=b.log.length:=List.length_set;have hp:∀ k,aH (S8 b seq is).log k=aH b.log k:=fun k=>by
  unfold aH;split
  ·rfl
  ·exact kW A2.seq (fun _ _=>rfl) _ _ _ _
 have he:∀ k,mC (S8 b seq is) k=mC b k:=fun k=>by
  have f1:((S8 b seq is).log.getD k s9).seq=(b.log.getD k s9).seq:=kW A2.seq (fun _ _=>rfl) _ _ _ _;have f2:((S8 b seq is).log.getD k s9).recipe=(b.log.getD k s9).recipe:=kW A2.recipe (fun _ _=>rfl) _ _ _ _;have f3:((S8 b seq is).log.getD k s9).part=(b.log.getD k s9).part:=kW A2.part (fun _ _=>rfl) _ _ _ _;have f4:((S8 b seq is).log.getD k s9).n7=(b.log.getD k s9).n7:=kW A2.n7 (fun _ _=>rfl) _ _ _ _;have f5:((S8 b seq is).log.getD k s9).o5=(b.log.getD k s9).o5:=kW A2.o5 (fun _ _=>rfl) _ _ _ _;unfold mC;rw[f1,f2,f3,f4,f5,hp];rfl
 unfold B8 gh bh;rw[hl,funext he];rfl
theorem Vf{l:List Int}{t v:Int}(h:v ∈ l.take (ja l t)):v<t:=by
 obtain⟨i,hi,e⟩:=List.getElem_of_mem h;have Lb:i<ja l t:=by rw[zB1]at hi;omega
 have hl:i<l.length:=zB5 Lb (Ap l t);have q:¬t<=l[i]:=fun z=>by
  have:=List.not_of_lt_findIdx Lb;simp[z]at this
 rw[List.getElem_take]at e;rw[<- e];omega
theorem NT{l:List Int}{t v:Int}(hs:List.Pairwise (· < ·) l)(hn:¬t ∈ l)(h:v ∈ l.drop (ja l t)):t<v:=by
 obtain⟨j,hj,e⟩:=List.getElem_of_mem h;rw[List.length_drop]at hj;rw[List.getElem_drop]at e;have hk:ja l t<l.length:=by omega
 have q:=List.findIdx_getElem (p:=fun x=>decide (t<=x)) (xs:=l) (w:=hk);have q:=zA1 q;have hv:v ∈ l:=by rw[<- e];exact List.getElem_mem _
 have ne:¬t=v:=fun z=>hn (z ▸ hv)
 by_cases mZ:j=0
 ·subst mZ;have e:l[ja l t]=v:=e;have q:t<=l[ja l t]:=q;omega
 ·have p:=List.pairwise_iff_getElem.1 hs (ja l t) (ja l t+j) hk va5 va5;rw[e]at p;have q:t<=l[ja l t]:=q;omega
theorem CV{l:List Int}{t:Int}(hs:List.Pairwise (· < ·) l)(hn:¬t ∈ l):List.Pairwise (· < ·) (bm l t):=by
 unfold bm;rw[List.pairwise_append];refine⟨hs.sublist (List.take_sublist _ _),?_,fun a ha c hc=>?_⟩
 ·rw[List.pairwise_cons];exact⟨fun c hc=>NT hs hn hc,hs.sublist (List.drop_sublist _ _)⟩
 ·have h1:=Vf ha;rw[List.mem_cons]at hc;rcases hc with hc|hc
  ·omega
  ·have:=NT hs hn hc;omega
theorem AD{l:List Int}{t v:Int}:v ∈ bm l t↔v=t∨v ∈ l:=by
 unfold bm;rw[List.mem_append,List.mem_cons]
 constructor
 ·rintro(h|h|h)
  ·exact .inr (List.mem_of_mem_take h)
  ·exact .inl h
  ·exact .inr (List.mem_of_mem_drop h)
 ·rintro(h|h)
  ·exact .inr (.inl h)
  ·rw[<- List.take_append_drop (ja l t) l,List.mem_append]at h;rcases h with h|h
   ·exact .inl h
   ·exact .inr (.inr h)
theorem CW{us l:List Int}{t:Int}(h:H9 us l=true):H9 us (bm l t)=true:=by
 unfold H9 at h ⊢;simp only[zA2,zA3,List.any_eq_true]at h ⊢;obtain⟨h1,u,h2,h3⟩:=h;rw[uG];exact⟨va5,u,AD.2 (.inr h2),h3⟩
theorem Ro{us:List Int}{x:D1}{k7:Int}(h:kl us x)(h1:¬k7 ∈ x.y7)(h2:¬k7=x.author)(h3:D6 [2,3] us k7=true)(h4:¬x.state > 2):kl us (Au us x k7)/\¬(Au us x k7).state=3/\(¬x.state=1->¬(Au us x k7).state=1):=by
 obtain⟨a,c,d,e,f,g⟩:=h;unfold Au;by_cases hE:H9 us (bm x.y7 k7)=true
 ·rw[if_pos hE];refine⟨⟨CV a h1,fun u hu=>?_,d,e,⟨by show(1:Int)<=2;omega,by show(2:Int)<=4;omega⟩,⟨fun _=>hE,fun _=>by show(1:Int)<2;omega⟩⟩,fun z=>absurd (show(2:Int)=3 from z) va8,fun _ z=>absurd (show(2:Int)=1 from z) va8⟩;rcases AD.1 hu with hu|hu
  ·rw[hu];exact⟨h2,h3⟩
  ·exact c u hu
 ·rw[if_neg hE];refine⟨⟨CV a h1,fun u hu=>?_,d,e,f,⟨fun z=>absurd (CW (g.1 z)) hE,fun z=>absurd z hE⟩⟩,fun z=>h4 (by have z:x.state=3:=z;omega),fun z=>z⟩;rcases AD.1 hu with hu|hu
  ·rw[hu];exact⟨h2,h3⟩
  ·exact c u hu
theorem NU{b:n9}(g:P4 b){k7 a7:Int}(h:ft b k7 a7=0):P4 (ou b k7 a7):=by
 obtain⟨hc,hn,hb,h2⟩:=qb h;obtain⟨wZ,cJ,Vb⟩:=ov hb;have hi:a7.toNat<b.j8.length:=by have:=hn.2;omega
 have V8:¬k7 ∈ (b.j8.getD a7.toNat p9).y7:=fun z=>by
  rw[<- List.contains_iff_mem,wZ]at z;cases z
 obtain⟨r1,r2,r3⟩:=Ro (AB g hi) V8 cJ Vb h2;have hs:=sj (l:=b.j8) (Au b.n5 (b.j8.getD a7.toNat p9) k7) hi;rw[if_neg (show ¬(b.j8.getD a7.toNat p9).state=3 by omega),if_neg r2]at hs;have ha:=g.ac;exact uK g hi r1 rfl r3 va5
theorem NV(l:List A2)(i:Nat):List.Sublist (eX l i) l:=by
 unfold eX;rw[<- List.eraseIdx_eq_take_drop_succ];exact List.eraseIdx_sublist l i
theorem uL(b:n9):List.Sublist (ig b) b.log:=by
 unfold ig;split
 ·exact NV _ _
 ·exact List.Sublist.refl _
theorem CX{b:n9}(g:P4 b)(h:(b.log.length:Int)=b.keep->b.log.any R6=true):((ig b).length:Int)+1<=b.keep/\b.log.length<=(ig b).length+1:=by
 have hl:=g.nl;unfold ig;by_cases hf:(b.log.length:Int)=b.keep
 ·rw[if_pos hf];have hi:=hH (h hf);have:=qd hi;omega
 ·rw[if_neg hf];omega
theorem CY{b:n9}(g:P4 b){part:Int}{n7:List Int}(h:ij b part n7=0):P4 (lE b part n7):=by
 obtain⟨hc,hp,ha,hm,hf,hn⟩:=kU h;have hl:=CX g hf;have nx:=g.nx;have hA:=O1 ha;have hA3:=aJ ha;refine⟨g.kp,⟨by show 0<=b.next+1;omega,by show b.next+1<=_;omega⟩,g.nu,g.nr,?_,g.st,g.rc,g.ac,?_,fun s hs=>?_⟩
 ·show((ig b++[uI b part n7]).length:Int)<=b.keep
  simp only[List.length_append,zB2,List.length_nil];omega
 ·show List.Pairwise _ (ig b++[uI b part n7])
  rw[List.pairwise_append];refine⟨g.sq.sublist (uL b),List.pairwise_singleton _ _,fun s hs t ht=>?_⟩;rw[List.mem_singleton]at ht;rw[ht];exact(g.lg s ((uL b).mem hs)).1.2
 ·have hs:s ∈ ig b++[uI b part n7]:=hs;rw[List.mem_append,List.mem_singleton]at hs;rcases hs with hs|hs
  ·obtain⟨a1,r⟩:=g.lg s ((uL b).mem hs);exact⟨⟨a1.1,by show s.seq<b.next+1;omega⟩,r⟩
  ·rw[hs];refine⟨⟨nx.1,by show b.next<b.next+1;omega⟩,⟨by show(0:Int)<=(C6 b.j8:Int);omega,by show(C6 b.j8:Int)<(b.j8.length:Int);omega⟩,hp,?_⟩;show(E8 (b.j8.getD (C6 b.j8) p9).j9 n7).2.2=0/\(E8 (b.j8.getD (C6 b.j8) p9).j9 n7).2.1=(E8 (b.j8.getD (C6 b.j8) p9).j9 n7).2.1/\¬(b.j8.getD (C6 b.j8) p9).state=1
   exact⟨hm,rfl,va5⟩
theorem CZ{b:n9}(g:P4 b)(seq:Int)(is:Bool):P4 (S8 b seq is):=il.1 (by rw[Rn];exact il.2 g)
theorem Bf{b:n9}(g:P4 b):C8 b:=by
 have hu:=g.nu;have hr:=g.nr;have hl:=g.nl;have hk:=g.kp;refine⟨va5,va5,va5,fun i=>?_,fun i=>?_⟩
 ·by_cases hi:i<b.j8.length
  ·have r:=Az.2 (AB g hi);unfold jx at r;rw[zA2]at r;have:=ur r.1;omega
  ·rw[List.getD,zA7 va5];show 0<_
   decide
 ·by_cases hi:i<b.log.length
  ·have:=M3 (NN (g.lg _ (by rw[A6 hi];exact List.getElem_mem hi)).2.2.2.1:H8 (b.log.getD i s9).n7=true);omega
  ·rw[List.getD,zA7 va5];show 0<_
   decide
theorem JH{b:n9}{n4:Int}(h:bZ b n4=0):B8 b=true/\(1<=n4/\n4<=3)/\¬(b.n5.length:Int)=16:=by
 unfold bZ at h;by_cases h1:B8 b=true
 ·rw[if_pos h1]at h;by_cases h2:n4<1∨3<n4
  ·rw[if_pos h2]at h;cases h
  ·rw[if_neg h2]at h;by_cases h3:(b.n5.length:Int)=16
   ·rw[if_pos h3]at h;cases h
   ·exact⟨h1,va5,h3⟩
 ·rw[if_neg h1]at h;cases h
theorem JI{b:n9}{k7:Int}{g:v7}(h:dq b k7 g=0):B8 b=true/\D6 [2] b.n5 k7=true/\N0 g=true/\¬(b.j8.length:Int)=16:=by
 unfold dq at h;by_cases h1:B8 b=true
 ·rw[if_pos h1]at h;by_cases h2:0<=k7/\k7<=(b.n5.length:Int)-1
  ·rw[if_neg (fun q=>q h2)]at h;by_cases h3:D6 [2] b.n5 k7=false
   ·rw[if_pos h3]at h;cases h
   ·rw[if_neg h3]at h;by_cases h4:N0 g=true
    ·rw[if_neg (fun q=>q h4)]at h;by_cases h5:(b.j8.length:Int)=16
     ·rw[if_pos h5]at h;cases h
     ·exact⟨h1,by simpa using h3,h4,h5⟩
    ·rw[if_pos h4]at h;cases h
  ·rw[if_pos h2]at h;cases h
 ·rw[if_neg h1]at h;cases h
theorem NW{b:n9}{k7:Int}(h:du b k7=0):B8 b=true/\D6 [3] b.n5 k7=true/\b.j8.any K7=true:=by
 unfold du at h;by_cases h1:B8 b=true
 ·rw[if_pos h1]at h;by_cases h2:0<=k7/\k7<=(b.n5.length:Int)-1
  ·rw[if_neg (fun q=>q h2)]at h;by_cases h3:D6 [3] b.n5 k7=false
   ·rw[if_pos h3]at h;cases h
   ·rw[if_neg h3]at h;by_cases h4:b.j8.any K7=true
    ·exact⟨h1,by simpa using h3,h4⟩
    ·rw[if_pos h4]at h;cases h
  ·rw[if_pos h2]at h;cases h
 ·rw[if_neg h1]at h;cases h
theorem Rp{b:n9}{a:Ay}(g:P4 b)(h:Yq b a=0):P4 (Ve b a):=by
 unfold Yq at h;unfold Ve;by_cases k0:oY a=0
 ·rw[if_pos k0]at h ⊢;have z:=JH h;exact NP g z.2.1 z.2.2
 rw[if_neg k0]at h ⊢;by_cases k1:oY a=1
 ·rw[if_pos k1]at h ⊢;have z:=JI h;exact NQ g z.2.1 z.2.2.1 z.2.2.2
 rw[if_neg k1]at h ⊢;by_cases k2:oY a=2
 ·rw[if_pos k2]at h ⊢;exact NU g h
 rw[if_neg k2]at h ⊢;by_cases k3:oY a=3
 ·rw[if_pos k3]at h ⊢;obtain⟨hc,hn,eT,h2⟩:=mI h;exact JG g (by have:=hn.2;omega) h2
 rw[if_neg k3]at h ⊢;by_cases k4:oY a=4
 ·rw[if_pos k4]at h ⊢;have z:=(NW h).2.2;exact(CU g (O1 z) (aJ z)).1
 rw[if_neg k4]at h ⊢;by_cases k5:oY a=5
 ·rw[if_pos k5]at h ⊢;exact CY g h
 rw[if_neg k5]at h ⊢;by_cases k6:oY a=6
 ·rw[if_pos k6]at h ⊢;exact CZ g _ _
 rw[if_neg k6]at h ⊢;exact CZ g _ _
def Yr(b c:n9):Prop:=c.keep=b.keep/\(0<=(c.n5.length:Int)-b.n5.length+c.j8.length-b.j8.length+c.next-b.next/\(c.n5.length:Int)-b.n5.length+c.j8.length-b.j8.length+c.next-b.next<=1)/\b.log.length<=c.log.length
theorem oA{b c:n9}(k:c.keep=b.keep)(u:c.n5.length=b.n5.length)(r:c.j8.length=b.j8.length)(n:c.next=b.next)(l:c.log.length=b.log.length):Yr b c:=⟨k,va5,va5⟩
theorem Da(b:n9):(bD b).j8.length=b.j8.length/\(bD b).keep=b.keep/\(bD b).n5=b.n5/\(bD b).next=b.next/\(bD b).log=b.log:=by
 unfold bD;split
 ·exact⟨List.length_set,rfl,rfl,rfl,rfl⟩
 ·exact⟨rfl,rfl,rfl,rfl,rfl⟩
theorem Rq{b:n9}{a:Ay}(g:P4 b)(h:Yq b a=0):Yr b (Ve b a):=by
 unfold Yq at h;unfold Ve;by_cases k0:oY a=0
 ·rw[if_pos k0]at h ⊢;have e:(wh b a.n4).n5.length=b.n5.length+1:=by show(b.n5++[a.n4]).length=_;simp
  refine⟨rfl,?_,Nat.le_refl _⟩;rw[e];show 0<=((b.n5.length+1:Nat):Int)-b.n5.length+b.j8.length-b.j8.length+b.next-b.next/\((b.n5.length+1:Nat):Int)-b.n5.length+b.j8.length-b.j8.length+b.next-b.next<=1
  omega
 rw[if_neg k0]at h ⊢;by_cases k1:oY a=1
 ·rw[if_pos k1]at h ⊢;have e:(wo b a.k7 a.j9).j8.length=b.j8.length+1:=by show(b.j8++[X9 a.k7 a.j9]).length=_;simp
  refine⟨rfl,?_,Nat.le_refl _⟩;rw[e];show 0<=(b.n5.length:Int)-b.n5.length+((b.j8.length+1:Nat):Int)-b.j8.length+b.next-b.next/\(b.n5.length:Int)-b.n5.length+((b.j8.length+1:Nat):Int)-b.j8.length+b.next-b.next<=1
  omega
 rw[if_neg k1]at h ⊢;by_cases k2:oY a=2
 ·rw[if_pos k2]at h ⊢;exact oA rfl rfl List.length_set rfl rfl
 rw[if_neg k2]at h ⊢;by_cases k3:oY a=3
 ·rw[if_pos k3]at h ⊢;obtain⟨c1,c2,c3,c4,c5⟩:=Da b;exact oA c2 (congrArg List.length c3) (List.length_set.trans c1) c4 (congrArg List.length c5)
 rw[if_neg k3]at h ⊢;by_cases k4:oY a=4
 ·rw[if_pos k4]at h ⊢;exact oA rfl rfl List.length_set rfl rfl
 rw[if_neg k4]at h ⊢;by_cases k5:oY a=5
 ·rw[if_pos k5]at h ⊢;have z:=kU h;have l:=CX g z.2.2.2.2.1;refine⟨rfl,?_,?_⟩
  ·show 0<=(b.n5.length:Int)-b.n5.length+b.j8.length-b.j8.length+(b.next+1)-b.next/\(b.n5.length:Int)-b.n5.length+b.j8.length-b.j8.length+(b.next+1)-b.next<=1
   omega
  ·show b.log.length<=(ig b++[uI b a.a7 a.n7]).length
   simp only[List.length_append,zB2,List.length_nil];omega
 rw[if_neg k5]at h ⊢;by_cases k6:oY a=6
 ·rw[if_pos k6]at h ⊢;exact oA rfl rfl rfl rfl List.length_set
 rw[if_neg k6]at h ⊢;exact oA rfl rfl rfl rfl List.length_set
def Vg(r s:D1):Prop:=s.author=r.author/\s.j9=r.j9/\r.state<=s.state/\(r.y7.length<=s.y7.length/\s.y7.length<=r.y7.length+1)/\∀ u,u ∈ r.y7->u ∈ s.y7
theorem Vg.refl(r:D1):Vg r r:=⟨rfl,rfl,Int.le_refl _,⟨Nat.le_refl _,Nat.le_succ _⟩,fun _ h=>h⟩
structure a2y (b c:n9):Prop where
 ul:b.n5.length<=c.n5.length
 rl:b.j8.length<=c.j8.length
 us:∀ i,i<b.n5.length->c.n5.getD i 0=b.n5.getD i 0
 rs:∀ i,i<b.j8.length->Vg (b.j8.getD i p9) (c.j8.getD i p9)

end Go.Proofs.Tryz.My
