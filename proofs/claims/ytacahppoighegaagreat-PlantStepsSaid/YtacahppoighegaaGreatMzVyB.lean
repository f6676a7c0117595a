/- Helper lemmas. -/
import Derived.Test.YtacahppoighegaaGreatMzVyA
set_option linter.unusedVariables false
set_option linter.unusedSimpArgs false
set_option maxRecDepth 100000
set_option maxHeartbeats 0
namespace Go.Proofs.Tryz.My
open Go Go.Ev
def YR(w:n8):List Row:=[.cells 81 ((((eW w).set 25 (.own 2)).set 16 (.own 3)).set 21 (.own 4)),.none,AS w.k8,wM w.o6.k9,rM w.n6.log]
def PF(w:n8):List Row:=[.cells 81 ((((eW w).set 25 (.own 3)).set 16 (.own 4)).set 21 (.own 2)),.none,rM w.n6.log,AS w.k8,wM w.o6.k9]
theorem KL(w:n8)(g:C9 w)(kind k7 a7 n n4:Int)(j9:v7)(o8 a8:List Int)(ht:o8.length<2^40)(hn:a8.length<2^40)(h:¬mM w ⟨kind,k7,a7,n,n4,j9,o8,a8⟩=0) :
  va7 63 [.ptr 0 0 0 0,I2 kind k7 a7 n n4 j9 o8 a8] (J1 w) (.tup [i64 0,.nils,i64 (mM w ⟨kind,k7,a7,n,n4,j9,o8,a8⟩)]) (J1 w):=by
 unfold mM at h ⊢;simp only[]at h ⊢;have c2:=O2 0 w.line.m0.len n;by_cases ho:fg o8 a8
 ·have c1:=kz o8 a8 ho;by_cases hN:0<=n/\n<=w.line.m0.len
  ·rw[if_neg (fun q=>q ⟨ho,hN⟩)]at h ⊢;rw[zA4 hN.1,zA4 hN.2]at c2;by_cases ha:w.drift.alarm=true
   ·rw[if_pos ha];refine pW Tryz.func63 ⟨va4,?_⟩;conv=>whnf
    try exact va1
   ·rw[if_neg ha]at h ⊢;have ha:w.drift.alarm=false:=by simpa using ha
    have c3:=AP w.o6 (C7.2 g.tk) h;generalize jA w.o6=e at h c3;refine pW Tryz.func63 ⟨va4,?_⟩;conv=>whnf
    try exact va1
  ·rw[if_pos (fun q=>hN q.2)];have e1:(decide (0<=n) && decide (n<=w.line.m0.len))=false:=by rw[<- Bool.decide_and,zA5 hN]
   rw[e1]at c2;refine pW Tryz.func63 ⟨va4,?_⟩;conv=>whnf
   try exact va1
 ·rw[if_pos (fun q=>ho q.1)];have c1:=uV o8 a8 ht hn ho;have he:¬(if H8 o8=true then(2:Int)else 50)=0:=by split<;>decide
  generalize (if H8 o8=true then(2:Int)else 50)=e at c1 he;refine pW Tryz.func63 ⟨va4,?_⟩;conv=>whnf
  try exact va1
theorem KM(w:n8)(g:C9 w)(hb:C8 w.n6)(kind k7 a7 n n4:Int)(j9:v7)(o8 a8:List Int)(h:mM w ⟨kind,k7,a7,n,n4,j9,o8,a8⟩=0)(hr:wG w ⟨kind,k7,a7,n,n4,j9,o8,a8⟩) :
  va7 63 [.ptr 0 0 0 0,I2 kind k7 a7 n n4 j9 o8 a8] (DB w) (.tup [i64 w.o6.next,.nils,i64 0]) (YR (jB w ⟨kind,k7,a7,n,n4,j9,o8,a8⟩)):=by
 obtain⟨h1,h2,h3,h4⟩:=lf h;have h1:fg o8 a8:=h1;have h2:0<=n/\n<=w.line.m0.len:=h2;have c1:=kz o8 a8 h1;have c2:=O2 0 w.line.m0.len n;rw[zA4 h2.1,zA4 h2.2]at c2;have c3:=yw w.o6 (C7.2 g.tk) h4;have w1:IntKind.i64.wrap (w.o6.count+w.line.lag)=w.o6.count+w.line.lag:=z5 _ (by have:=g.tk.ct;have:=mN g.ln;omega) (by have:=g.tk.ct;have:=mN g.ln;omega);have DY:w.k8.length<=32:=by rw[g.lt];exact g.tk.ln
 have yK:(K8 o8 a8).length<2^20:=by rw[jc];have:=M3 h1.1;omega
 have c4:=Gj w.n6 hb w.o6.next (K8 o8 a8) yK hr;have e:jB w ⟨kind,k7,a7,n,n4,j9,o8,a8⟩=⟨w.line,oF w.o6,lE w.n6 w.o6.next (K8 o8 a8),wF w.line (qe w.drift) (!decide ((E8 (gj w.n6) (K8 o8 a8)).2.1=1)),w.k8++[⟨w.o6.next,0,n,(E8 (gj w.n6) (K8 o8 a8)).2.1,IntKind.i64.wrap (w.o6.count+w.line.lag),w.n6.next,false⟩]⟩:=by
  unfold jB;rw[if_pos hr,w1];rfl
 rw[e];clear e;generalize (E8 (gj w.n6) (K8 o8 a8)).2.1=V at c4 ⊢;generalize lE w.n6 w.o6.next (K8 o8 a8)=B at c4 ⊢;have ht:=(aA g.ln).2.2;by_cases hd:w.drift.rounds=500
 ·have c5:=HF w.line ht fj qn va8 (!decide (V=1));have cs:=yu;have ed:qe w.drift=fj:=by unfold qe;rw[if_pos hd]
  rw[ed];refine vb5 Tryz.func63 ?_;refine vf0 ?_;intros;refine va2 [] [54] (vb3 ?_);refine va3 [] c3 (vb3 ?_);refine vf0 ?_;intros;refine va2 [] [82] (vb3 ?_);refine va3 [] c4 (vb3 ?_);refine vf0 ?_;intros;refine⟨⟨B7,7,l5,B4,w.k8⟩,[⟨w.o6.next,0,n,V,IntKind.i64.wrap (w.o6.count+w.line.lag),w.n6.next,false⟩],rfl,rfl,⟨rfl,rfl⟩,?_,?_,fun y _=>⟨rfl,rfl,rfl⟩,?_⟩
  ·show(w.k8.length+1)*56<=_;omega
  ·show w.k8.length+1<=_;omega
  refine vf2 ?_;intros;refine⟨[147,54,82],va4,vb3 ?_⟩;exact⟨rfl,rfl⟩
 ·have c5:=HF w.line ht w.drift g.df hd (!decide (V=1));have ed:qe w.drift=w.drift:=by unfold qe;rw[if_neg hd]
  rw[ed];refine vb5 Tryz.func63 ?_;refine vf0 ?_;intros;refine va2 [] [54] (vb3 ?_);refine va3 [] c3 (vb3 ?_);refine vf0 ?_;intros;refine va2 [] [82] (vb3 ?_);refine va3 [] c4 (vb3 ?_);refine vf0 ?_;intros;refine⟨⟨B7,7,l5,B4,w.k8⟩,[⟨w.o6.next,0,n,V,IntKind.i64.wrap (w.o6.count+w.line.lag),w.n6.next,false⟩],rfl,rfl,⟨rfl,rfl⟩,?_,?_,fun y _=>⟨rfl,rfl,rfl⟩,?_⟩
  ·show(w.k8.length+1)*56<=_;omega
  ·show w.k8.length+1<=_;omega
  refine vf2 ?_;intros;refine⟨[147,54,82],va4,vb3 ?_⟩;exact⟨rfl,rfl⟩
theorem KN(w:n8)(g:C9 w)(hb:C8 w.n6)(kind k7 a7 n n4:Int)(j9:v7)(o8 a8:List Int)(h:mM w ⟨kind,k7,a7,n,n4,j9,o8,a8⟩=0)(hr:¬wG w ⟨kind,k7,a7,n,n4,j9,o8,a8⟩) :
  va7 63 [.ptr 0 0 0 0,I2 kind k7 a7 n n4 j9 o8 a8] (kB w) (.tup [i64 w.o6.next,.nils,i64 0]) (PF (jB w ⟨kind,k7,a7,n,n4,j9,o8,a8⟩)):=by
 obtain⟨h1,h2,h3,h4⟩:=lf h;have h1:fg o8 a8:=h1;have h2:0<=n/\n<=w.line.m0.len:=h2;have c1:=kz o8 a8 h1;have c2:=O2 0 w.line.m0.len n;rw[zA4 h2.1,zA4 h2.2]at c2;have c3:=yw w.o6 (C7.2 g.tk) h4;have w1:IntKind.i64.wrap (w.o6.count+w.line.lag)=w.o6.count+w.line.lag:=z5 _ (by have:=g.tk.ct;have:=mN g.ln;omega) (by have:=g.tk.ct;have:=mN g.ln;omega);have DY:w.k8.length<=32:=by rw[g.lt];exact g.tk.ln
 have yK:(K8 o8 a8).length<2^20:=by rw[jc];have:=M3 h1.1;omega
 have c4:=Ax w.n6 hb w.o6.next (K8 o8 a8) yK hr;have e:jB w ⟨kind,k7,a7,n,n4,j9,o8,a8⟩=⟨w.line,oF w.o6,w.n6,w.drift,w.k8++[⟨w.o6.next,0,n,0,IntKind.i64.wrap (w.o6.count+w.line.lag),-1,false⟩]⟩:=by
  unfold jB Vk;rw[if_neg hr,w1]
 rw[e];clear e;have hr:¬ij w.n6 w.o6.next (K8 o8 a8)=0:=hr;generalize ij w.n6 w.o6.next (K8 o8 a8)=e at c4 hr;refine vb5 Tryz.func63 ?_;refine vf0 ?_;intros;refine va2 [] [54] (vb3 ?_);refine va3 [] c3 (vb3 ?_);refine vf0 ?_;intros;refine vf0 ?_;intros;refine⟨⟨B7,7,l5,B4,w.k8⟩,[⟨w.o6.next,0,n,0,IntKind.i64.wrap (w.o6.count+w.line.lag),-1,false⟩],rfl,rfl,⟨rfl,rfl⟩,?_,?_,fun y _=>⟨rfl,rfl,rfl⟩,?_⟩
 ·show(w.k8.length+1)*56<=_;omega
 ·show w.k8.length+1<=_;omega
 refine vf2 ?_;intros;refine⟨[147,54],va4,vb3 ?_⟩;exact⟨rfl,rfl⟩
theorem Pb(t:r9)(hv:V0 t=0)(hc:t.count<1099511627776)(ao:¬t.k9.length=0)(hg:¬I9 t=true):va7 108 [gp t,i64 1] [] (.tup [Gi (W9 t) 0,.nils,i64 0]) [wM (W9 t).k9]:=by
 have g:=C7.1 hv;have sz:=U1 hv;have c:=I1 t va5;rw[hv]at c;have w1:IntKind.i64.wrap (t.count+1)=t.count+1:=z5 _ va5 va5;have w0:IntKind.i64.wrap (1099511627776-1)=1099511627775:=by decide
 have FZ:∀ x,x ∈ t.k9->0<=x.cnt/\x.cnt<=1099511627776:=fun x hx=>by have:=(g.sn x hx).2;omega
 have hf:=T4 g;have DY:=ab t;have LS:∀ s,s ∈ hits t->0<=s.cnt/\s.cnt<=1099511627776:=fun s hs=>by
  obtain⟨m,hm,e2⟩:=List.getElem_of_mem hs;have e3:s=G5 t.m0 (N5 t (t.count+1)) (t.count+1) (t.k9.getD m l9):=by rw[<- Y5 t m va5,A6 hm,e2]
  rw[e3];exact FZ (t.k9.getD m l9) (G6 va5)
 have vz:=oQ t g.bl va5 FZ (IntKind.i64.wrap (t.count+1)) t.next (IntKind.i64.wrap (t.count+1));have eo:N5 t (IntKind.i64.wrap (t.count+1))=N5 t (t.count+1):=by rw[w1]
 rw[eo]at vz;have vA:=oR t.m0 g.bl (IntKind.i64.wrap (t.count+1)) t.next (hits t) LS va5 (fun s=>decide (s.cnt+M4 t.m0 t.m0.w9=t.count+1)) (by rw[w1]);rw[hf.1,hf.2]at vA;rw[if_neg hg]at vA;cases bf:N5 t (t.count+1)
 ·rw[bf]at vz;have eh:hits t=t.k9:=by unfold hits;rw[bf,oS]
  rw[eh]at vA;refine u4 hm Tryz.func108 va4 ⟨va4,vb3 ?_⟩;refine Or.inl (vb3 ?_);refine vc6 ?_;(repeat intro hh);refine va2 [] [37,1] (vb3 ?_);refine va3 [] (lX t g.bl va5) (vb3 ?_);refine Or.inl (vb3 ?_);refine Or.inl ⟨2,vb3 ?_⟩;refine ve4 ?_;(repeat intro hh);refine Or.inr ⟨false,[37,1],_,_,_,_,⟨vz,rfl,rfl,va4⟩,vb3 ?_⟩;refine ve4 ?_;(repeat intro hh);refine va2 [] [117,118] (vb3 ?_);refine va3 [8,37,1] vA (vb3 ?_);refine ve4 ?_;(repeat intro hh);refine Or.inl ⟨1,vb3 ?_⟩;refine vb7 ?_;(repeat intro hh);refine vf2 ?_;(repeat intro hh)
  repeat (refine Or.inl ?_;(conv=>whnf);(repeat' ((first|refine aU fun hh=>?_|refine aV fun hh=>?_|refine aS (fun hh=>?_) fun hh=>?_|refine kT ?_|fail)<;>conv=>whnf)))
  refine⟨[118],va4,vb3 ?_⟩;rw[w1];exact⟨rfl,rfl⟩
 ·rw[bf]at vz;have eh:Z0 (G5 t.m0 true (t.count+1)) l9 t.k9 t.k9.length=hits t:=by unfold hits;rw[bf,sC]
  refine u4 hm Tryz.func108 va4 ⟨va4,vb3 ?_⟩;refine Or.inl (vb3 ?_);refine vc6 ?_;(repeat intro hh);refine va2 [] [37,1] (vb3 ?_);refine va3 [] (lX t g.bl va5) (vb3 ?_);refine Or.inl (vb3 ?_);refine Or.inl ⟨2,vb3 ?_⟩;refine ve4 ?_;(repeat intro hh);refine Or.inr ⟨false,[37,1],_,_,_,_,⟨vz,rfl,rfl,va4⟩,vb3 ?_⟩;refine ve4 ?_;(repeat intro hh);refine Or.inr ⟨Nat,[83],[1],[],fun k=>[i64 k],fun k=>[.vec 69 4 l9 C2 (Z0 (G5 t.m0 true (t.count+1)) l9 t.k9 k)],fun _=>[],fun k=>t.k9.length-k,fun k=>k<=t.k9.length,vb3 ?_⟩;refine⟨⟨0,?_⟩,?_⟩
  ·(conv=>whnf);exact kK ⟨zB4 _,rfl,rfl,rfl⟩
  intro k hk;have VN:=R0 (G5 t.m0 true (t.count+1)) l9 t.k9 k;conv=>whnf
  refine⟨fun h=>?_,fun h=>?_⟩
  ·have h:=zA1 h;have L4:k<t.k9.length:=by omega
   have OK:=kj (G5 t.m0 true (t.count+1)) l9 t.k9 k k (Nat.le_refl k);have rC:Z0 (G5 t.m0 true (t.count+1)) l9 t.k9 (k+1)=(Z0 (G5 t.m0 true (t.count+1)) l9 t.k9 k).set k (G5 t.m0 true (t.count+1) ((Z0 (G5 t.m0 true (t.count+1)) l9 t.k9 k).getD k l9)):=rfl;generalize Z0 (G5 t.m0 true (t.count+1)) l9 t.k9 k=u at VN OK rC;have ch:=oP t.m0 g.bl (IntKind.i64.wrap (t.count+1)) t.next u (u.getD k l9) (by rw[OK];exact FZ _ (G6 L4)) (IntKind.i64.wrap (t.count+1));have hw:K2 t.m0 (u.getD k l9) (IntKind.i64.wrap (t.count+1))=K2 t.m0 (u.getD k l9) (t.count+1):=by rw[w1]
   rw[hw]at ch;conv=>whnf
   refine vf1 ?_ ?_<;>(repeat intro hh)
   ·have Cp:(u.getD k l9).hit=true:=hh;refine⟨⟨(u.getD k l9).id,(u.getD k l9).cnt,(u.getD k l9).o5,true⟩,rfl,va5,?_⟩;refine vf2 ?_;(repeat intro hh);have ey:(⟨(u.getD k l9).id,(u.getD k l9).cnt,(u.getD k l9).o5,true⟩:u6)=G5 t.m0 true (t.count+1) (u.getD k l9):=by
     unfold G5;rw[Cp];rfl
    refine⟨k+1,vb3 ?_⟩;refine kK ⟨⟨?_,?_⟩,?_,?_,rfl⟩
    ·show t.k9.length-(k+1)<t.k9.length-k;omega
    ·show k+1<=t.k9.length;omega
    ·rw[z5 _ va5 va5];rfl
    ·show _=[Row.vec 69 4 l9 C2 (Z0 (G5 t.m0 true (t.count+1)) l9 t.k9 (k+1))]
     rw[rC,<- ey]<;>rfl
   ·have Cp:(u.getD k l9).hit=false:=hh;refine⟨⟨(u.getD k l9).id,(u.getD k l9).cnt,(u.getD k l9).o5,K2 t.m0 (u.getD k l9) (t.count+1)⟩,rfl,va5,?_⟩;refine vf2 ?_;(repeat intro hh);have ey:(⟨(u.getD k l9).id,(u.getD k l9).cnt,(u.getD k l9).o5,K2 t.m0 (u.getD k l9) (t.count+1)⟩:u6)=G5 t.m0 true (t.count+1) (u.getD k l9):=by
     unfold G5;rw[Cp];rfl
    refine⟨k+1,vb3 ?_⟩;refine kK ⟨⟨?_,?_⟩,?_,?_,rfl⟩
    ·show t.k9.length-(k+1)<t.k9.length-k;omega
    ·show k+1<=t.k9.length;omega
    ·rw[z5 _ va5 va5];rfl
    ·show _=[Row.vec 69 4 l9 C2 (Z0 (G5 t.m0 true (t.count+1)) l9 t.k9 (k+1))]
     rw[rC,<- ey]<;>rfl
  ·have h:=zA0 h;have ek:k=t.k9.length:=by omega
   subst ek;rw[eh];conv=>whnf
   refine ve4 ?_;(repeat intro hh);refine va2 [] [117,118] (vb3 ?_);refine va3 [8,37,1] vA (vb3 ?_);refine ve4 ?_;(repeat intro hh);refine Or.inl ⟨1,vb3 ?_⟩;refine vb7 ?_;(repeat intro hh);refine vf2 ?_;(repeat intro hh)
   repeat (refine Or.inl ?_;(conv=>whnf);(repeat' ((first|refine aU fun hh=>?_|refine aV fun hh=>?_|refine aS (fun hh=>?_) fun hh=>?_|refine kT ?_|fail)<;>conv=>whnf)))
   refine⟨[118],va4,vb3 ?_⟩;rw[w1];exact⟨rfl,rfl⟩
theorem Pc(t:r9)(hv:V0 t=0)(hc:t.count<1099511627776)(ao:¬t.k9.length=0)(hg:I9 t=true):va7 108 [gp t,i64 1] [] (.tup [Gi (W9 t) 0,.own 1,i64 0]) [wM (W9 t).k9,.vec 145 3 aP aQ (aW t)]:=by
 have g:=C7.1 hv;have sz:=U1 hv;have c:=I1 t va5;rw[hv]at c;have w1:IntKind.i64.wrap (t.count+1)=t.count+1:=z5 _ va5 va5;have w0:IntKind.i64.wrap (1099511627776-1)=1099511627775:=by decide
 have FZ:∀ x,x ∈ t.k9->0<=x.cnt/\x.cnt<=1099511627776:=fun x hx=>by have:=(g.sn x hx).2;omega
 have hf:=T4 g;have DY:=ab t;have LS:∀ s,s ∈ hits t->0<=s.cnt/\s.cnt<=1099511627776:=fun s hs=>by
  obtain⟨m,hm,e2⟩:=List.getElem_of_mem hs;have e3:s=G5 t.m0 (N5 t (t.count+1)) (t.count+1) (t.k9.getD m l9):=by rw[<- Y5 t m va5,A6 hm,e2]
  rw[e3];exact FZ (t.k9.getD m l9) (G6 va5)
 have vz:=oQ t g.bl va5 FZ (IntKind.i64.wrap (t.count+1)) t.next (IntKind.i64.wrap (t.count+1));have eo:N5 t (IntKind.i64.wrap (t.count+1))=N5 t (t.count+1):=by rw[w1]
 rw[eo]at vz;have vA:=oR t.m0 g.bl (IntKind.i64.wrap (t.count+1)) t.next (hits t) LS va5 (fun s=>decide (s.cnt+M4 t.m0 t.m0.w9=t.count+1)) (by rw[w1]);rw[hf.1,hf.2]at vA;rw[if_pos hg]at vA;have af:aW t=[bH ((hits t).getD 0 l9)]:=by unfold aW;rw[if_pos hg]
 cases bf:N5 t (t.count+1)
 ·rw[bf]at vz;have eh:hits t=t.k9:=by unfold hits;rw[bf,oS]
  rw[eh]at vA;rw[eh]at af;refine u4 hm Tryz.func108 va4 ⟨va4,vb3 ?_⟩;refine Or.inl (vb3 ?_);refine vc6 ?_;(repeat intro hh);refine va2 [] [37,1] (vb3 ?_);refine va3 [] (lX t g.bl va5) (vb3 ?_);refine Or.inl (vb3 ?_);refine Or.inl ⟨2,vb3 ?_⟩;refine ve4 ?_;(repeat intro hh);refine Or.inr ⟨false,[37,1],_,_,_,_,⟨vz,rfl,rfl,va4⟩,vb3 ?_⟩;refine ve4 ?_;(repeat intro hh);refine va2 [] [117,118] (vb3 ?_);refine va3 [8,37,1] vA (vb3 ?_);refine ve4 ?_;(repeat intro hh);refine Or.inl ⟨2,vb3 ?_⟩;refine vb7 ?_;(repeat intro hh);refine⟨Nat.zero_lt_one,vb3 ?_⟩;refine vf2 ?_;(repeat intro hh);refine⟨⟨Z9,3,aP,aQ,[]⟩,[bH (t.k9.getD 0 l9)],rfl,rfl,⟨rfl,rfl⟩,?_,?_,fun y _=>⟨rfl,rfl,rfl⟩,?_⟩
  ·show(0+1)*16<=1099511627776;decide
  ·show 0+1<=1099511627776;decide
  conv=>whnf
  refine vb7 ?_;(repeat intro hh);refine vf2 ?_;(repeat intro hh);refine⟨[118,134],va4,vb3 ?_⟩;rw[w1,af];exact⟨rfl,rfl⟩
 ·rw[bf]at vz;have eh:Z0 (G5 t.m0 true (t.count+1)) l9 t.k9 t.k9.length=hits t:=by unfold hits;rw[bf,sC]
  refine u4 hm Tryz.func108 va4 ⟨va4,vb3 ?_⟩;refine Or.inl (vb3 ?_);refine vc6 ?_;(repeat intro hh);refine va2 [] [37,1] (vb3 ?_);refine va3 [] (lX t g.bl va5) (vb3 ?_);refine Or.inl (vb3 ?_);refine Or.inl ⟨2,vb3 ?_⟩;refine ve4 ?_;(repeat intro hh);refine Or.inr ⟨false,[37,1],_,_,_,_,⟨vz,rfl,rfl,va4⟩,vb3 ?_⟩;refine ve4 ?_;(repeat intro hh);refine Or.inr ⟨Nat,[83],[1],[],fun k=>[i64 k],fun k=>[.vec 69 4 l9 C2 (Z0 (G5 t.m0 true (t.count+1)) l9 t.k9 k)],fun _=>[],fun k=>t.k9.length-k,fun k=>k<=t.k9.length,vb3 ?_⟩;refine⟨⟨0,?_⟩,?_⟩
  ·(conv=>whnf);exact kK ⟨zB4 _,rfl,rfl,rfl⟩
  intro k hk;have VN:=R0 (G5 t.m0 true (t.count+1)) l9 t.k9 k;conv=>whnf
  refine⟨fun h=>?_,fun h=>?_⟩
  ·have h:=zA1 h;have L4:k<t.k9.length:=by omega
   have OK:=kj (G5 t.m0 true (t.count+1)) l9 t.k9 k k (Nat.le_refl k);have rC:Z0 (G5 t.m0 true (t.count+1)) l9 t.k9 (k+1)=(Z0 (G5 t.m0 true (t.count+1)) l9 t.k9 k).set k (G5 t.m0 true (t.count+1) ((Z0 (G5 t.m0 true (t.count+1)) l9 t.k9 k).getD k l9)):=rfl;generalize Z0 (G5 t.m0 true (t.count+1)) l9 t.k9 k=u at VN OK rC;have ch:=oP t.m0 g.bl (IntKind.i64.wrap (t.count+1)) t.next u (u.getD k l9) (by rw[OK];exact FZ _ (G6 L4)) (IntKind.i64.wrap (t.count+1));have hw:K2 t.m0 (u.getD k l9) (IntKind.i64.wrap (t.count+1))=K2 t.m0 (u.getD k l9) (t.count+1):=by rw[w1]
   rw[hw]at ch;conv=>whnf
   refine vf1 ?_ ?_<;>(repeat intro hh)
   ·have Cp:(u.getD k l9).hit=true:=hh;refine⟨⟨(u.getD k l9).id,(u.getD k l9).cnt,(u.getD k l9).o5,true⟩,rfl,va5,?_⟩;refine vf2 ?_;(repeat intro hh);have ey:(⟨(u.getD k l9).id,(u.getD k l9).cnt,(u.getD k l9).o5,true⟩:u6)=G5 t.m0 true (t.count+1) (u.getD k l9):=by
     unfold G5;rw[Cp];rfl
    refine⟨k+1,vb3 ?_⟩;refine kK ⟨⟨?_,?_⟩,?_,?_,rfl⟩
    ·show t.k9.length-(k+1)<t.k9.length-k;omega
    ·show k+1<=t.k9.length;omega
    ·rw[z5 _ va5 va5];rfl
    ·show _=[Row.vec 69 4 l9 C2 (Z0 (G5 t.m0 true (t.count+1)) l9 t.k9 (k+1))]
     rw[rC,<- ey]<;>rfl
   ·have Cp:(u.getD k l9).hit=false:=hh;refine⟨⟨(u.getD k l9).id,(u.getD k l9).cnt,(u.getD k l9).o5,K2 t.m0 (u.getD k l9) (t.count+1)⟩,rfl,va5,?_⟩;refine vf2 ?_;(repeat intro hh);have ey:(⟨(u.getD k l9).id,(u.getD k l9).cnt,(u.getD k l9).o5,K2 t.m0 (u.getD k l9) (t.count+1)⟩:u6)=G5 t.m0 true (t.count+1) (u.getD k l9):=by
     unfold G5;rw[Cp];rfl
    refine⟨k+1,vb3 ?_⟩;refine kK ⟨⟨?_,?_⟩,?_,?_,rfl⟩
    ·show t.k9.length-(k+1)<t.k9.length-k;omega
    ·show k+1<=t.k9.length;omega
    ·rw[z5 _ va5 va5];rfl
    ·show _=[Row.vec 69 4 l9 C2 (Z0 (G5 t.m0 true (t.count+1)) l9 t.k9 (k+1))]
     rw[rC,<- ey]<;>rfl
  ·have h:=zA0 h;have ek:k=t.k9.length:=by omega
   subst ek;rw[eh];conv=>whnf
   refine ve4 ?_;(repeat intro hh);refine va2 [] [117,118] (vb3 ?_);refine va3 [8,37,1] vA (vb3 ?_);refine ve4 ?_;(repeat intro hh);refine Or.inl ⟨2,vb3 ?_⟩;refine vb7 ?_;(repeat intro hh);refine⟨Nat.zero_lt_one,vb3 ?_⟩;refine vf2 ?_;(repeat intro hh);refine⟨⟨Z9,3,aP,aQ,[]⟩,[bH ((hits t).getD 0 l9)],rfl,rfl,⟨rfl,rfl⟩,?_,?_,fun y _=>⟨rfl,rfl,rfl⟩,?_⟩
   ·show(0+1)*16<=1099511627776;decide
   ·show 0+1<=1099511627776;decide
   conv=>whnf
   refine vb7 ?_;(repeat intro hh);refine vf2 ?_;(repeat intro hh);refine⟨[118,134],va4,vb3 ?_⟩;rw[w1,af];exact⟨rfl,rfl⟩
theorem KO(t:r9)(hv:V0 t=0)(hc:t.count<1099511627776)(ao:¬t.k9.length=0)(hg:I9 t=true):va7 108 [gp t,i64 1] [] (.tup [Gi (W9 t) 0,lU (aW t),i64 0]) [wM (W9 t).k9] :=
 ((Pc t hv hc ao hg).frz (fun i=>Nat.beq i 1) rfl).rows fun k=>by
  match k with
  | 0=>rfl
  | 1=>rfl
  | (n+2)=>rfl

end Go.Proofs.Tryz.My
