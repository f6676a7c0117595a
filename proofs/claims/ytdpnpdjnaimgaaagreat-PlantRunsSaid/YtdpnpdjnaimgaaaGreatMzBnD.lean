/- Helper lemmas. -/
import Derived.Test.YtdpnpdjnaimgaaaGreatMzBpD
set_option linter.unusedVariables false
set_option linter.unusedSimpArgs false
set_option maxRecDepth 100000
set_option maxHeartbeats 0
namespace Go.Proofs.Tryz.My
open Go Go.Ev
theorem KS{g:x8}{p:List Int}(h:(F8 g p).2.2=0):L2 p=true:=by
 unfold F8 at h;by_cases hg:S6 g=true
 ·rw[if_pos hg]at h;obtain⟨⟨t1,t2⟩,⟨n1,n2⟩,_⟩:=bz hg;rcases EU (p:=p) t1 t2 n1 n2 with ⟨_,q⟩|⟨q,_⟩
  ·rw[q]at h;unfold xm at h;rw[if_neg va8,if_neg va8]at h;exact absurd (show(50:Int)=0 from h) va8
  ·exact q
 ·rw[if_neg hg]at h;exact absurd h va8
def PN(b:o7)(s:B8):Prop :=
 (0<=s.seq/\s.seq<b.next)/\(0<=s.recipe/\s.recipe<b.recipes.length)/\(0<=s.part/\s.part<=1099511627776)/\(F8 (b.recipes.getD s.recipe.toNat r9).gauge s.o9).2.2=0 /\
  (F8 (b.recipes.getD s.recipe.toNat r9).gauge s.o9).2.1=s.o6/\¬(b.recipes.getD s.recipe.toNat r9).state=1
def iZ(us:List Int)(x:A9):Prop :=
 List.Pairwise (· < ·) x.B0/\(∀ u,u ∈ x.B0->¬u=x.author/\I7 [2,3] us u=true)/\I7 [2] us x.author=true/\S6 x.gauge=true/\(1<=x.state/\x.state<=4)/\(1<x.state↔K8 us x.B0=true)
structure L5 (b:o7):Prop where
 kp:1<=b.keep/\b.keep<=32
 nx:0<=b.next/\b.next<=1099511627776
 nu:b.p9.length<=16
 nr:b.recipes.length<=16
 nl:(b.log.length:Int)<=b.keep
 st:∀ r,r ∈ b.p9->1<=r/\r<=3
 rc:∀ x,x ∈ b.recipes->iZ b.p9 x
 ac:C4 b.recipes<=1
 sq:List.Pairwise (fun s t:B8=>s.seq<t.seq) b.log
 lg:∀ s,s ∈ b.log->PN b s
theorem x9{α:Type}{d:α}{l:List α}{i:Nat}(h:i<l.length):l.getD i d=l[i]:=by
 simp only[List.getD,zA6 h,Option.getD_some]
theorem jy{rr us:List Int}{u:Int}(h:I7 rr us u=true):0<=u/\u<us.length:=by
 unfold I7 D1 at h;simp only[zA2,zA3]at h;omega
theorem sE{α:Type}{d:α}{l:List α}(f:α->Int):((∀ i,i<l.length->(if i=0 then -1 else f (l.getD (i-1) d))<f (l.getD i d))↔(List.Pairwise (fun s t=>f s<f t) l/\∀ s,s ∈ l->0<=f s)):=by
 constructor
 ·intro h;have up:∀ j,j<l.length->0<=f (l.getD j d)/\∀ i,i<j->f (l.getD i d)<f (l.getD j d):=by
   intro j
   induction j with
   | zero =>
    intro hj;have:=h 0 hj;rw[if_pos rfl]at this;exact⟨va5,fun i hi=>absurd hi (zB3 i)⟩
   | succ j ih =>
    intro hj;have a:=ih va5;have b:=h (j+1) hj;rw[if_neg va5,show j+1-1=j by omega]at b;refine⟨va5,fun i hi=>?_⟩;by_cases e:i=j
    ·subst e;exact b
    ·have:=a.2 i va5;omega
  refine⟨List.pairwise_iff_getElem.2 fun i j hi hj zk=>?_,fun s hs=>?_⟩
  ·have:=(up j hj).2 i zk;rwa[x9 hi,x9 hj]at this
  ·obtain⟨i,hi,e⟩:=List.getElem_of_mem hs;have:=(up i hi).1;rw[x9 hi,e]at this;exact this
 ·rintro⟨h1,h2⟩ i hi;by_cases e:i=0
  ·rw[if_pos e,x9 hi];have:=h2 _ (List.getElem_mem hi);omega
  ·rw[if_neg e,x9 hi,x9 (show i-1<l.length by omega)];exact List.pairwise_iff_getElem.1 h1 (i-1) i va5 hi va5
theorem xQ{us:List Int}{x:A9}:mz us x=true↔iZ us x:=by
 have hc:=sE (d:=(0:Int)) (l:=x.B0) (fun u=>u);have ha:pg us x=true↔(List.Pairwise (· < ·) x.B0/\∀ u,u ∈ x.B0->¬u=x.author/\I7 [2,3] us u=true):=by
  unfold pg;rw[ah]
  constructor
  ·intro h;have h':∀ i,i<x.B0.length->my x.B0 i<x.B0.getD i 0/\¬x.B0.getD i 0=x.author/\I7 [2,3] us (x.B0.getD i 0)=true:=fun i hi=>by
    have:=h i hi;unfold Kx at this;simp only[zA2,zA3,Bool.not_eq_true',decide_eq_false_iff_not]at this;exact⟨this.1.1,this.1.2,this.2⟩
   refine⟨(hc.1 fun i hi=>(h' i hi).1).1,fun u hu=>?_⟩;obtain⟨i,hi,e⟩:=List.getElem_of_mem hu;have:=(h' i hi).2;rw[x9 hi,e]at this;exact this
  ·rintro⟨h1,h2⟩ i hi;have m:=h2 _ (List.getElem_mem hi);have c:=hc.2 ⟨h1,fun u hu=>(jy (h2 u hu).2).1⟩ i hi;unfold Kx;simp only[zA2,zA3,Bool.not_eq_true',decide_eq_false_iff_not];rw[x9 hi]at c ⊢;exact⟨⟨c,m.1⟩,m.2⟩
 unfold mz;rw[zA2,ha];unfold nH iZ D1;simp only[zA2,zA3];have hb:(decide (x.state > 1) == K8 us x.B0)=true↔(1<x.state↔K8 us x.B0=true):=by
  rw[beq_iff_eq];by_cases q:1<x.state
  ·rw[zA4 q];exact⟨fun h=>⟨fun _=>h.symm,fun _=>q⟩,fun h=>(h.1 q).symm⟩
  ·rw[zA5 q];exact⟨fun h=>⟨fun z=>absurd z q,fun z=>by rw[<- h]at z;cases z⟩,fun h=>(Bool.eq_false_iff.2 fun z=>q (h.2 z)).symm⟩
 rw[hb]
 constructor
 ·rintro⟨⟨a,b⟩,⟨⟨c,d⟩,e⟩,f⟩;exact⟨a,b,c,d,e,f⟩
 ·rintro⟨a,b,c,d,e,f⟩;exact⟨⟨a,b⟩,⟨⟨c,d⟩,e⟩,f⟩
theorem fI{b:o7}:E1 b=true↔L5 b:=by
 have yH:iT b=true↔∀ r,r ∈ b.p9->1<=r/\r<=3:=by
  unfold iT;rw[Bool.not_eq_true',List.any_eq_false]
  constructor
  ·intro h r hr;have:=h r hr;unfold tN at this;simp only[zA9,zA3]at this;omega
  ·intro h r hr;have:=h r hr;unfold tN;simp only[zA9,zA3];omega
 have hlg:bM b=true↔(List.Pairwise (fun s t:B8=>s.seq<t.seq) b.log/\∀ s,s ∈ b.log->PN b s):=by
  have hc:=sE (d:=w9) (l:=b.log) B8.seq;unfold bM;rw[ah]
  constructor
  ·intro h;have h':∀ i,i<b.log.length->hH b.log i<(b.log.getD i w9).seq/\(b.log.getD i w9).seq<b.next/\(0<=(b.log.getD i w9).recipe/\(b.log.getD i w9).recipe<=(b.recipes.length:Int)-1)/\(0<=(b.log.getD i w9).part/\(b.log.getD i w9).part<=1099511627776) /\
     (F8 (b.recipes.getD (b.log.getD i w9).recipe.toNat r9).gauge (b.log.getD i w9).o9).2.2=0/\(F8 (b.recipes.getD (b.log.getD i w9).recipe.toNat r9).gauge (b.log.getD i w9).o9).2.1=(b.log.getD i w9).o6/\¬(b.recipes.getD (b.log.getD i w9).recipe.toNat r9).state=1:=fun i hi=>by
    have:=h i hi;unfold rS D1 at this;simp only[zA2,zA3,Bool.not_eq_true',decide_eq_false_iff_not]at this;obtain⟨⟨⟨⟨a,b⟩,c⟩,d⟩,⟨e,f⟩,g⟩:=this;exact⟨a,b,c,d,e,f,g⟩
   have p:=hc.1 fun i hi=>(h' i hi).1
   refine⟨p.1,fun s hs=>?_⟩;have z:=p.2 s hs;obtain⟨i,hi,e⟩:=List.getElem_of_mem hs;have:=(h' i hi).2;rw[x9 hi,e]at this;obtain⟨a,c,d,r⟩:=this;exact⟨⟨z,a⟩,⟨c.1,va5⟩,d,r⟩
  ·rintro⟨h1,h2⟩ i hi;have m:=h2 _ (List.getElem_mem hi);have c:=hc.2 ⟨h1,fun s hs=>(h2 s hs).1.1⟩ i hi;unfold rS D1;simp only[zA2,zA3,Bool.not_eq_true',decide_eq_false_iff_not];obtain⟨a1,a2,a3,a4,a5,a6⟩:=m;have c:hH b.log i<(b.log.getD i w9).seq:=c;rw[x9 hi]at c ⊢;exact⟨⟨⟨⟨c,a1.2⟩,a2.1,va5⟩,a3⟩,⟨a4,a5⟩,a6⟩
 unfold E1;rw[zA2,zA2,zA2,yH,hlg];unfold gG T8 D1;simp only[zA2,zA3,List.all_eq_true]
 constructor
 ·intro h;simp only[and_assoc]at h;obtain⟨k1,k2,n1,n2,u,r,l,st,rc,ac,sq,lg⟩:=h;exact⟨⟨k1,k2⟩,⟨n1,n2⟩,va5,va5,l,st,fun x hx=>xQ.1 (rc x hx),ac,sq,lg⟩
 ·rintro⟨⟨k1,k2⟩,⟨n1,n2⟩,nu,nr,nl,st,rc,ac,sq,lg⟩;simp only[and_assoc];exact⟨k1,k2,n1,n2,va5,va5,nl,st,fun x hx=>xQ.2 (rc x hx),ac,sq,lg⟩
theorem xR{rr us:List Int}{u r:Int}(h:0<=u/\u<us.length):I7 rr (us++[r]) u=I7 rr us u:=by
 have e:(us++[r]).getD u.toNat 0=us.getD u.toNat 0:=by
  simp only[List.getD];rw[List.getElem?_append_left va5]
 unfold I7 D1;rw[e,zA4 h.1,zA4 (show u<=((us++[r]).length:Int)-1 by simp;omega),zA4 (show u<=(us.length:Int)-1 by omega)]
theorem KT{α:Type}{p q:α->Bool}{l:List α}(h:∀ x,x ∈ l->p x=q x):l.any p=l.any q:=by
 rw[Bool.eq_iff_iff,List.any_eq_true,List.any_eq_true];exact⟨fun⟨x,a,c⟩=>⟨x,a,by rw[<- h x a];exact c⟩,fun⟨x,a,c⟩=>⟨x,a,by rw[h x a];exact c⟩⟩
theorem Od{us:List Int}{x:A9}{r:Int}(h:iZ us x):iZ (us++[r]) x:=by
 obtain⟨a,c,d,e,f,g⟩:=h;refine⟨a,fun u hu=>⟨(c u hu).1,by rw[xR (jy (c u hu).2)];exact(c u hu).2⟩,by rw[xR (jy d)];exact d,e,f,?_⟩;have z:K8 (us++[r]) x.B0=K8 us x.B0:=by
  unfold K8;rw[KT fun u hu=>xR (jy (c u hu).2)]
 rw[z];exact g
theorem KU{b:o7}(g:L5 b){r:Int}(h1:1<=r/\r<=3)(h2:¬(b.p9.length:Int)=16):L5 (tO b r):=by
 have hu:=g.nu;refine⟨g.kp,g.nx,?_,g.nr,g.nl,fun x hx=>?_,fun x hx=>Od (g.rc x hx),g.ac,g.sq,fun s hs=>g.lg s hs⟩
 ·show(b.p9++[r]).length<=16
  simp;omega
 ·have hx:x ∈ b.p9++[r]:=hx;rw[List.mem_append,List.mem_singleton]at hx;rcases hx with hx|hx
  ·exact g.st x hx
  ·rw[hx];exact h1
theorem Oe(l:List A9)(x:A9):C4 (l++[x])=C4 l+if x.state=3 then 1 else 0:=by
 unfold C4;rw[List.filter_append,List.length_append]
 congr 1
 by_cases h:x.state=3<;>simp[h]
theorem KV{b:o7}(g:L5 b){j8:Int}{gg:x8}(h1:I7 [2] b.p9 j8=true)(h2:S6 gg=true)(h3:¬(b.recipes.length:Int)=16):L5 (tQ b j8 gg):=by
 have hu:=g.nr;refine⟨g.kp,g.nx,g.nu,?_,g.nl,g.st,fun x hx=>?_,?_,g.sq,fun s hs=>?_⟩
 ·show(b.recipes++[L8 j8 gg]).length<=16
  simp;omega
 ·have hx:x ∈ b.recipes++[L8 j8 gg]:=hx;rw[List.mem_append,List.mem_singleton]at hx;rcases hx with hx|hx
  ·exact g.rc x hx
  ·rw[hx];exact⟨List.Pairwise.nil,fun u hu=>absurd hu List.not_mem_nil,h1,h2,⟨by show(1:Int)<=1;omega,by show(1:Int)<=4;omega⟩,⟨fun z=>absurd z (by show ¬(1:Int)<1;omega),fun z=>Bool.noConfusion (show false=true from z)⟩⟩
 ·show C4 (b.recipes++[L8 j8 gg])<=1
  rw[Oe,if_neg (show ¬(L8 j8 gg).state=3 from fun z=>absurd (show(1:Int)=3 from z) va8)];exact g.ac
 ·obtain⟨a1,a2,a3,a4,a5,a6⟩:=g.lg s hs;have e:(b.recipes++[L8 j8 gg]).getD s.recipe.toNat r9=b.recipes.getD s.recipe.toNat r9:=by
   simp only[List.getD];rw[List.getElem?_append_left va5]
  refine⟨a1,⟨a2.1,?_⟩,a3,?_⟩
  ·show s.recipe<((b.recipes++[L8 j8 gg]).length:Int)
   simp;omega
  ·show(F8 ((b.recipes++[L8 j8 gg]).getD s.recipe.toNat r9).gauge s.o9).2.2=0/\(F8 ((b.recipes++[L8 j8 gg]).getD s.recipe.toNat r9).gauge s.o9).2.1=s.o6/\¬((b.recipes++[L8 j8 gg]).getD s.recipe.toNat r9).state=1
   rw[e];exact⟨a4,a5,a6⟩
theorem qc:∀ {l:List A9} {i:Nat} (y:A9),i<l.length->C4 (l.set i y)+(if (l.getD i r9).state=3 then 1 else 0)=C4 l+(if y.state=3 then 1 else 0)
 | [],i,y,h=>absurd h (zB3 i)
 | a :: l,0,y,_=>by
  show C4 (y :: l)+(if a.state=3 then 1 else 0)=C4 (a :: l)+_
  unfold C4;by_cases h1:a.state=3<;>by_cases h2:y.state=3<;>simp[h1,h2]<;>omega
 | a :: l,i+1,y,h=>by
  have ih:=qc (l:=l) (i:=i) y (by simpa using h);show C4 (a :: l.set i y)+(if (l.getD i r9).state=3 then 1 else 0)=C4 (a :: l)+_
  have c:∀ m:List A9,C4 (a :: m)=C4 m+if a.state=3 then 1 else 0:=fun m=>by
   unfold C4;by_cases h1:a.state=3<;>simp[h1]
  rw[c,c];omega
theorem sF{b:o7}(g:L5 b){i:Nat}{y:A9}(hi:i<b.recipes.length)(h1:iZ b.p9 y)(h2:y.gauge=(b.recipes.getD i r9).gauge)(h3:¬(b.recipes.getD i r9).state=1->¬y.state=1)(h4:C4 (b.recipes.set i y)<=1):L5 (Hh b i y):=by
 refine⟨g.kp,g.nx,g.nu,?_,g.nl,g.st,fun x hx=>?_,h4,g.sq,fun s hs=>?_⟩
 ·show(b.recipes.set i y).length<=16
  rw[List.length_set];exact g.nr
 ·rcases List.mem_or_eq_of_mem_set hx with hx|hx
  ·exact g.rc x hx
  ·rw[hx];exact h1
 ·obtain⟨a1,a2,a3,a4,a5,a6⟩:=g.lg s hs;have e:((b.recipes.set i y).getD s.recipe.toNat r9).gauge=(b.recipes.getD s.recipe.toNat r9).gauge/\¬((b.recipes.set i y).getD s.recipe.toNat r9).state=1:=by
   by_cases e:i=s.recipe.toNat
   ·rw[<- e,V3 hi];rw[<- e]at a6;exact⟨h2,h3 a6⟩
   ·have z:(b.recipes.set i y).getD s.recipe.toNat r9=b.recipes.getD s.recipe.toNat r9:=by
     rw[List.getD,List.getElem?_set_ne e];rfl
    rw[z];exact⟨rfl,a6⟩
  refine⟨a1,⟨a2.1,?_⟩,a3,?_⟩
  ·show s.recipe<((b.recipes.set i y).length:Int)
   rw[List.length_set];exact a2.2
  ·show(F8 ((b.recipes.set i y).getD s.recipe.toNat r9).gauge s.o9).2.2=0/\(F8 ((b.recipes.set i y).getD s.recipe.toNat r9).gauge s.o9).2.1=s.o6/\¬((b.recipes.set i y).getD s.recipe.toNat r9).state=1
   rw[e.1];exact⟨a4,a5,e.2⟩
theorem KW{us:List Int}{x:A9}{n:Int}(h:iZ us x)(h1:1<x.state)(h2:1<n/\n<=4):iZ us (ai x n):=by
 obtain⟨a,c,d,e,f,g⟩:=h;exact⟨a,c,d,e,⟨by show 1<=n;omega,h2.2⟩,⟨fun _=>g.1 h1,fun _=>h2.1⟩⟩
theorem nT{b:o7}(g:L5 b){i:Nat}(hi:i<b.recipes.length):iZ b.p9 (b.recipes.getD i r9):=g.rc _ (by rw[x9 hi];exact List.getElem_mem hi)
theorem sG{b:o7}(g:L5 b){i:Nat}(hi:i<b.recipes.length)(h3:(b.recipes.getD i r9).state=3):L5 (mC b i)/\C4 (mC b i).recipes=0:=by
 have hs:=qc (l:=b.recipes) (ai (b.recipes.getD i r9) 4) hi;rw[if_pos h3,if_neg (show ¬(ai (b.recipes.getD i r9) 4).state=3 from fun z=>absurd (show(4:Int)=3 from z) va8)]at hs;have ha:=g.ac;have hz:C4 (b.recipes.set i (ai (b.recipes.getD i r9) 4))=0:=by omega
 exact⟨sF g hi (KW (nT g hi) va5 ⟨va5,va5⟩) rfl (fun _ z=>absurd (show(4:Int)=1 from z) va8) va5,hz⟩
theorem KX{l:List A9}(h:¬l.any C9=true):C4 l=0:=by
 unfold C4;rw[List.length_eq_zero_iff,List.filter_eq_nil_iff];intro x hx q;exact h (List.any_eq_true.2 ⟨x,hx,q⟩)
theorem nU{b:o7}(g:L5 b):L5 (K6 b)/\C4 (K6 b).recipes=0/\(K6 b).recipes.length=b.recipes.length/\∀ k,¬(b.recipes.getD k r9).state=3->(K6 b).recipes.getD k r9=b.recipes.getD k r9:=by
 unfold K6;by_cases ha:b.recipes.any C9=true
 ·rw[if_pos ha];have z:=sG g (J4 ha) (O6 ha);refine⟨z.1,z.2,List.length_set,fun k hk=>?_⟩;have e:A4 b.recipes≠k:=fun e=>hk (e ▸ O6 ha)
  show(b.recipes.set _ _).getD k r9=_
  rw[List.getD,List.getElem?_set_ne e];rfl
 ·rw[if_neg ha];exact⟨g,KX ha,rfl,fun _ _=>rfl⟩
theorem Hj{b:o7}(g:L5 b){a7:Int}(hi:a7.toNat<b.recipes.length)(h2:(b.recipes.getD a7.toNat r9).state=2):L5 (fF b a7):=by
 obtain⟨g1,z,hl,hk⟩:=nU g;have e:=hk a7.toNat va5;have IN:a7.toNat<(K6 b).recipes.length:=by omega
 have hs:=qc (l:=(K6 b).recipes) (ai ((K6 b).recipes.getD a7.toNat r9) 3) IN;refine sF g1 IN (KW (nT g1 IN) (by rw[e];omega) ⟨va5,va5⟩) rfl (fun _ q=>absurd (show(3:Int)=1 from q) va8) ?_;rw[e,if_neg (show ¬(b.recipes.getD a7.toNat r9).state=3 by omega)]at hs;rw[e];split at hs<;>omega
theorem jz{β:Type}(F:B8->β)(hF:∀ x is,F (Hf x is)=F x)(l:List B8)(i k:Nat)(is:Bool):F ((l.set i (Hf (l.getD i w9) is)).getD k w9)=F (l.getD k w9):=by
 by_cases e:i=k
 ·subst e;by_cases hi:i<l.length
  ·rw[List.getD,List.getElem?_set_self hi,Option.getD_some,hF]
  ·rw[List.set_eq_of_length_le va5]
 ·rw[List.getD,List.getElem?_set_ne e];rfl
theorem Of(b:o7)(seq:Int)(is:Bool):E1 (W0 b seq is)=E1 b:=by
 have hl:(W0 b seq is).log.length=b.log.length:=List.length_set;have hp:∀ k,hH (W0 b seq is).log k=hH b.log k:=fun k=>by
  unfold hH;split
  ·rfl
  ·exact jz B8.seq (fun _ _=>rfl) _ _ _ _
 have he:∀ k,rS (W0 b seq is) k=rS b k:=fun k=>by
  have f1:((W0 b seq is).log.getD k w9).seq=(b.log.getD k w9).seq:=jz B8.seq (fun _ _=>rfl) _ _ _ _;have f2:((W0 b seq is).log.getD k w9).recipe=(b.log.getD k w9).recipe:=jz B8.recipe (fun _ _=>rfl) _ _ _ _;have f3:((W0 b seq is).log.getD k w9).part=(b.log.getD k w9).part:=jz B8.part (fun _ _=>rfl) _ _ _ _;have f4:((W0 b seq is).log.getD k w9).o9=(b.log.getD k w9).o9:=jz B8.o9 (fun _ _=>rfl) _ _ _ _;have f5:((W0 b seq is).log.getD k w9).o6=(b.log.getD k w9).o6:=jz B8.o6 (fun _ _=>rfl) _ _ _ _;unfold rS;rw[f1,f2,f3,f4,f5,hp];rfl
 unfold E1 gG bM;rw[hl,funext he];rfl
theorem Rn{l:List Int}{t v:Int}(h:v ∈ l.take (iW l t)):v<t:=by
 obtain⟨i,hi,e⟩:=List.getElem_of_mem h;have IN:i<iW l t:=by rw[zB1]at hi;omega
 have hl:i<l.length:=zB5 IN (xC l t);have q:¬t<=l[i]:=fun z=>by
  have:=List.not_of_lt_findIdx IN;simp[z]at this
 rw[List.getElem_take]at e;rw[<- e];omega
theorem KY{l:List Int}{t v:Int}(hs:List.Pairwise (· < ·) l)(hn:¬t ∈ l)(h:v ∈ l.drop (iW l t)):t<v:=by
 obtain⟨j,hj,e⟩:=List.getElem_of_mem h;rw[List.length_drop]at hj;rw[List.getElem_drop]at e;have hk:iW l t<l.length:=by omega
 have q:=List.findIdx_getElem (p:=fun x=>decide (t<=x)) (xs:=l) (w:=hk);have q:=zA1 q;have hv:v ∈ l:=by rw[<- e];exact List.getElem_mem _
 have ne:¬t=v:=fun z=>hn (z ▸ hv)
 by_cases qo:j=0
 ·subst qo;have e:l[iW l t]=v:=e;have q:t<=l[iW l t]:=q;omega
 ·have p:=List.pairwise_iff_getElem.1 hs (iW l t) (iW l t+j) hk va5 va5;rw[e]at p;have q:t<=l[iW l t]:=q;omega
theorem Ar{l:List Int}{t:Int}(hs:List.Pairwise (· < ·) l)(hn:¬t ∈ l):List.Pairwise (· < ·) (gJ l t):=by
 unfold gJ;rw[List.pairwise_append];refine⟨hs.sublist (List.take_sublist _ _),?_,fun a ha c hc=>?_⟩
 ·rw[List.pairwise_cons];exact⟨fun c hc=>KY hs hn hc,hs.sublist (List.drop_sublist _ _)⟩
 ·have h1:=Rn ha;rw[List.mem_cons]at hc;rcases hc with hc|hc
  ·omega
  ·have:=KY hs hn hc;omega
theorem qd{l:List Int}{t v:Int}:v ∈ gJ l t↔v=t∨v ∈ l:=by
 unfold gJ;rw[List.mem_append,List.mem_cons]
 constructor
 ·rintro(h|h|h)
  ·exact .inr (List.mem_of_mem_take h)
  ·exact .inl h
  ·exact .inr (List.mem_of_mem_drop h)
 ·rintro(h|h)
  ·exact .inr (.inl h)
  ·rw[<- List.take_append_drop (iW l t) l,List.mem_append]at h;rcases h with h|h
   ·exact .inl h
   ·exact .inr (.inr h)
theorem As{us l:List Int}{t:Int}(h:K8 us l=true):K8 us (gJ l t)=true:=by
 unfold K8 at h ⊢;simp only[zA2,zA3,List.any_eq_true]at h ⊢;obtain⟨h1,u,h2,h3⟩:=h;rw[sC];exact⟨va5,u,qd.2 (.inr h2),h3⟩
theorem Og{us:List Int}{x:A9}{j8:Int}(h:iZ us x)(h1:¬j8 ∈ x.B0)(h2:¬j8=x.author)(h3:I7 [2,3] us j8=true)(h4:¬x.state > 2):iZ us (tW us x j8)/\¬(tW us x j8).state=3/\(¬x.state=1->¬(tW us x j8).state=1):=by
 obtain⟨a,c,d,e,f,g⟩:=h;unfold tW;by_cases hE:K8 us (gJ x.B0 j8)=true
 ·rw[if_pos hE];refine⟨⟨Ar a h1,fun u hu=>?_,d,e,⟨by show(1:Int)<=2;omega,by show(2:Int)<=4;omega⟩,⟨fun _=>hE,fun _=>by show(1:Int)<2;omega⟩⟩,fun z=>absurd (show(2:Int)=3 from z) va8,fun _ z=>absurd (show(2:Int)=1 from z) va8⟩;rcases qd.1 hu with hu|hu
  ·rw[hu];exact⟨h2,h3⟩
  ·exact c u hu
 ·rw[if_neg hE];refine⟨⟨Ar a h1,fun u hu=>?_,d,e,f,⟨fun z=>absurd (As (g.1 z)) hE,fun z=>absurd z hE⟩⟩,fun z=>h4 (by have z:x.state=3:=z;omega),fun z=>z⟩;rcases qd.1 hu with hu|hu
  ·rw[hu];exact⟨h2,h3⟩
  ·exact c u hu
theorem KZ{b:o7}(g:L5 b){j8 a7:Int}(h:iY b j8 a7=0):L5 (nQ b j8 a7):=by
 obtain⟨hc,hn,hb,h2⟩:=jx h;obtain⟨BS,dA,Xw⟩:=xH hb;have hi:a7.toNat<b.recipes.length:=by have:=hn.2;omega
 have aW:¬j8 ∈ (b.recipes.getD a7.toNat r9).B0:=fun z=>by
  rw[<- List.contains_iff_mem,BS]at z;cases z
 obtain⟨r1,r2,r3⟩:=Og (nT g hi) aW dA Xw h2;have hs:=qc (l:=b.recipes) (tW b.p9 (b.recipes.getD a7.toNat r9) j8) hi;rw[if_neg (show ¬(b.recipes.getD a7.toNat r9).state=3 by omega),if_neg r2]at hs;have ha:=g.ac;exact sF g hi r1 rfl r3 va5
theorem La(l:List B8)(i:Nat):List.Sublist (mE l i) l:=by
 unfold mE;rw[<- List.eraseIdx_eq_take_drop_succ];exact List.eraseIdx_sublist l i
theorem mF(b:o7):List.Sublist (pL b) b.log:=by
 unfold pL;split
 ·exact La _ _
 ·exact List.Sublist.refl _
theorem At{b:o7}(g:L5 b)(h:(b.log.length:Int)=b.keep->b.log.any cF=true):((pL b).length:Int)+1<=b.keep/\b.log.length<=(pL b).length+1:=by
 have hl:=g.nl;unfold pL;by_cases hf:(b.log.length:Int)=b.keep
 ·rw[if_pos hf];have hi:=iX (h hf);have:=vn hi;omega
 ·rw[if_neg hf];omega
theorem sH{b:o7}(g:L5 b){part:Int}{o9:List Int}(h:nS b part o9=0):L5 (pM b part o9):=by
 obtain⟨hc,hp,ha,hm,hf,hn⟩:=fH h;have hl:=At g hf;have nx:=g.nx;have hA:=J4 ha;have hA3:=O6 ha;refine⟨g.kp,⟨by show 0<=b.next+1;omega,by show b.next+1<=_;omega⟩,g.nu,g.nr,?_,g.st,g.rc,g.ac,?_,fun s hs=>?_⟩
 ·show((pL b++[sD b part o9]).length:Int)<=b.keep
  simp only[List.length_append,zB2,List.length_nil];omega
 ·show List.Pairwise _ (pL b++[sD b part o9])
  rw[List.pairwise_append];refine⟨g.sq.sublist (mF b),List.pairwise_singleton _ _,fun s hs t ht=>?_⟩;rw[List.mem_singleton]at ht;rw[ht];exact(g.lg s ((mF b).mem hs)).1.2
 ·have hs:s ∈ pL b++[sD b part o9]:=hs;rw[List.mem_append,List.mem_singleton]at hs;rcases hs with hs|hs
  ·obtain⟨a1,r⟩:=g.lg s ((mF b).mem hs);exact⟨⟨a1.1,by show s.seq<b.next+1;omega⟩,r⟩
  ·rw[hs];refine⟨⟨nx.1,by show b.next<b.next+1;omega⟩,⟨by show(0:Int)<=(A4 b.recipes:Int);omega,by show(A4 b.recipes:Int)<(b.recipes.length:Int);omega⟩,hp,?_⟩;show(F8 (b.recipes.getD (A4 b.recipes) r9).gauge o9).2.2=0/\(F8 (b.recipes.getD (A4 b.recipes) r9).gauge o9).2.1=(F8 (b.recipes.getD (A4 b.recipes) r9).gauge o9).2.1/\¬(b.recipes.getD (A4 b.recipes) r9).state=1
   exact⟨hm,rfl,va5⟩
theorem Au{b:o7}(g:L5 b)(seq:Int)(is:Bool):L5 (W0 b seq is):=fI.1 (by rw[Of];exact fI.2 g)
theorem VB{b:o7}(g:L5 b):G8 b:=by
 have hu:=g.nu;have hr:=g.nr;have hl:=g.nl;have hk:=g.kp;refine⟨va5,va5,va5,fun i=>?_,fun i=>?_⟩
 ·by_cases hi:i<b.recipes.length
  ·have r:=xQ.2 (nT g hi);unfold mz at r;rw[zA2]at r;have:=zY r.1;omega
  ·rw[List.getD,zA7 va5];show 0<_
   decide
 ·by_cases hi:i<b.log.length
  ·have:=M0 (KS (g.lg _ (by rw[x9 hi];exact List.getElem_mem hi)).2.2.2.1:L2 (b.log.getD i w9).o9=true);omega
  ·rw[List.getD,zA7 va5];show 0<_
   decide
theorem Hk{b:o7}{j9:Int}(h:iq b j9=0):E1 b=true/\(1<=j9/\j9<=3)/\¬(b.p9.length:Int)=16:=by
 unfold iq at h;by_cases h1:E1 b=true
 ·rw[if_pos h1]at h;by_cases h2:j9<1∨3<j9
  ·rw[if_pos h2]at h;cases h
  ·rw[if_neg h2]at h;by_cases h3:(b.p9.length:Int)=16
   ·rw[if_pos h3]at h;cases h
   ·exact⟨h1,va5,h3⟩
 ·rw[if_neg h1]at h;cases h
theorem Hl{b:o7}{j8:Int}{g:x8}(h:iU b j8 g=0):E1 b=true/\I7 [2] b.p9 j8=true/\S6 g=true/\¬(b.recipes.length:Int)=16:=by
 unfold iU at h;by_cases h1:E1 b=true
 ·rw[if_pos h1]at h;by_cases h2:0<=j8/\j8<=(b.p9.length:Int)-1
  ·rw[if_neg (fun q=>q h2)]at h;by_cases h3:I7 [2] b.p9 j8=false
   ·rw[if_pos h3]at h;cases h
   ·rw[if_neg h3]at h;by_cases h4:S6 g=true
    ·rw[if_neg (fun q=>q h4)]at h;by_cases h5:(b.recipes.length:Int)=16
     ·rw[if_pos h5]at h;cases h
     ·exact⟨h1,by simpa using h3,h4,h5⟩
    ·rw[if_pos h4]at h;cases h
  ·rw[if_pos h2]at h;cases h
 ·rw[if_neg h1]at h;cases h
theorem sI{b:o7}{j8:Int}(h:iV b j8=0):E1 b=true/\I7 [3] b.p9 j8=true/\b.recipes.any C9=true:=by
 unfold iV at h;by_cases h1:E1 b=true
 ·rw[if_pos h1]at h;by_cases h2:0<=j8/\j8<=(b.p9.length:Int)-1
  ·rw[if_neg (fun q=>q h2)]at h;by_cases h3:I7 [3] b.p9 j8=false
   ·rw[if_pos h3]at h;cases h
   ·rw[if_neg h3]at h;by_cases h4:b.recipes.any C9=true
    ·exact⟨h1,by simpa using h3,h4⟩
    ·rw[if_pos h4]at h;cases h
  ·rw[if_pos h2]at h;cases h
 ·rw[if_neg h1]at h;cases h
theorem Ff{b:o7}{a:tZ}(g:L5 b)(h:Oc b a=0):L5 (lq b a):=by
 unfold Oc at h;unfold lq;by_cases k0:eP a=0
 ·rw[if_pos k0]at h ⊢;have z:=Hk h;exact KU g z.2.1 z.2.2
 rw[if_neg k0]at h ⊢;by_cases k1:eP a=1
 ·rw[if_pos k1]at h ⊢;have z:=Hl h;exact KV g z.2.1 z.2.2.1 z.2.2.2
 rw[if_neg k1]at h ⊢;by_cases k2:eP a=2
 ·rw[if_pos k2]at h ⊢;exact KZ g h
 rw[if_neg k2]at h ⊢;by_cases k3:eP a=3
 ·rw[if_pos k3]at h ⊢;obtain⟨hc,hn,tR,h2⟩:=gH h;exact Hj g (by have:=hn.2;omega) h2
 rw[if_neg k3]at h ⊢;by_cases k4:eP a=4
 ·rw[if_pos k4]at h ⊢;have z:=(sI h).2.2;exact(sG g (J4 z) (O6 z)).1
 rw[if_neg k4]at h ⊢;by_cases k5:eP a=5
 ·rw[if_pos k5]at h ⊢;exact sH g h
 rw[if_neg k5]at h ⊢;by_cases k6:eP a=6
 ·rw[if_pos k6]at h ⊢;exact Au g _ _
 rw[if_neg k6]at h ⊢;exact Au g _ _
def UD(b c:o7):Prop:=c.keep=b.keep/\(0<=(c.p9.length:Int)-b.p9.length+c.recipes.length-b.recipes.length+c.next-b.next/\(c.p9.length:Int)-b.p9.length+c.recipes.length-b.recipes.length+c.next-b.next<=1)/\b.log.length<=c.log.length
theorem mG{b c:o7}(k:c.keep=b.keep)(u:c.p9.length=b.p9.length)(r:c.recipes.length=b.recipes.length)(n:c.next=b.next)(l:c.log.length=b.log.length):UD b c:=⟨k,va5,va5⟩
theorem sJ(b:o7):(K6 b).recipes.length=b.recipes.length/\(K6 b).keep=b.keep/\(K6 b).p9=b.p9/\(K6 b).next=b.next/\(K6 b).log=b.log:=by
 unfold K6;split
 ·exact⟨List.length_set,rfl,rfl,rfl,rfl⟩
 ·exact⟨rfl,rfl,rfl,rfl,rfl⟩
theorem Fg{b:o7}{a:tZ}(g:L5 b)(h:Oc b a=0):UD b (lq b a):=by
 unfold Oc at h;unfold lq;by_cases k0:eP a=0
 ·rw[if_pos k0]at h ⊢;have e:(tO b a.j9).p9.length=b.p9.length+1:=by show(b.p9++[a.j9]).length=_;simp
  refine⟨rfl,?_,Nat.le_refl _⟩;rw[e];show 0<=((b.p9.length+1:Nat):Int)-b.p9.length+b.recipes.length-b.recipes.length+b.next-b.next/\((b.p9.length+1:Nat):Int)-b.p9.length+b.recipes.length-b.recipes.length+b.next-b.next<=1
  omega
 rw[if_neg k0]at h ⊢;by_cases k1:eP a=1
 ·rw[if_pos k1]at h ⊢;have e:(tQ b a.j8 a.gauge).recipes.length=b.recipes.length+1:=by show(b.recipes++[L8 a.j8 a.gauge]).length=_;simp
  refine⟨rfl,?_,Nat.le_refl _⟩;rw[e];show 0<=(b.p9.length:Int)-b.p9.length+((b.recipes.length+1:Nat):Int)-b.recipes.length+b.next-b.next/\(b.p9.length:Int)-b.p9.length+((b.recipes.length+1:Nat):Int)-b.recipes.length+b.next-b.next<=1
  omega
 rw[if_neg k1]at h ⊢;by_cases k2:eP a=2
 ·rw[if_pos k2]at h ⊢;exact mG rfl rfl List.length_set rfl rfl
 rw[if_neg k2]at h ⊢;by_cases k3:eP a=3
 ·rw[if_pos k3]at h ⊢;obtain⟨c1,c2,c3,c4,c5⟩:=sJ b;exact mG c2 (congrArg List.length c3) (List.length_set.trans c1) c4 (congrArg List.length c5)
 rw[if_neg k3]at h ⊢;by_cases k4:eP a=4
 ·rw[if_pos k4]at h ⊢;exact mG rfl rfl List.length_set rfl rfl
 rw[if_neg k4]at h ⊢;by_cases k5:eP a=5
 ·rw[if_pos k5]at h ⊢;have z:=fH h;have l:=At g z.2.2.2.2.1;refine⟨rfl,?_,?_⟩
  ·show 0<=(b.p9.length:Int)-b.p9.length+b.recipes.length-b.recipes.length+(b.next+1)-b.next/\(b.p9.length:Int)-b.p9.length+b.recipes.length-b.recipes.length+(b.next+1)-b.next<=1
   omega
  ·show b.log.length<=(pL b++[sD b a.a7 a.o9]).length
   simp only[List.length_append,zB2,List.length_nil];omega
 rw[if_neg k5]at h ⊢;by_cases k6:eP a=6
 ·rw[if_pos k6]at h ⊢;exact mG rfl rfl rfl rfl List.length_set
 rw[if_neg k6]at h ⊢;exact mG rfl rfl rfl rfl List.length_set
def Av(r s:A9):Prop:=s.author=r.author/\s.gauge=r.gauge/\r.state<=s.state/\(r.B0.length<=s.B0.length/\s.B0.length<=r.B0.length+1)/\∀ u,u ∈ r.B0->u ∈ s.B0
theorem Av.refl(r:A9):Av r r:=⟨rfl,rfl,Int.le_refl _,⟨Nat.le_refl _,Nat.le_succ _⟩,fun _ h=>h⟩
structure po (b c:o7):Prop where
 ul:b.p9.length<=c.p9.length
 rl:b.recipes.length<=c.recipes.length
 us:∀ i,i<b.p9.length->c.p9.getD i 0=b.p9.getD i 0
 rs:∀ i,i<b.recipes.length->Av (b.recipes.getD i r9) (c.recipes.getD i r9)

end Go.Proofs.Tryz.My
