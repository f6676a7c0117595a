/- Helper lemmas. -/
import Derived.Test.YtdpnpdjnaimgaaaGreatMzWyA
import Derived.Test.YtdpnpdjnaimgaaaGreatMzWxB
import Derived.Test.YtdpnpdjnaimgaaaGreatMzWjA
set_option linter.unusedVariables false
set_option linter.unusedSimpArgs false
set_option maxRecDepth 100000
set_option maxHeartbeats 0
namespace Go.Proofs.Tryz.My
open Go Go.Ev
def yg(w:n9):List Row:=[.cells 154 ((eW w).set 25 (.own 2)),.none,.vec 76 7 n5 J6 w.n6]
theorem a04(p n:List Int)(h:fJ p n):va6 41 [C8 p,C8 n] (.tup [C8 (H4 p n),i64 0]):=(Dy p n h).toPC 6 va4
theorem Ib(w:n9)(g:I6 w)(kind j8 a7 n j9:Int)(gauge:x8)(tru a8:List Int)(ht:tru.length<2^40)(hn:a8.length<2^40)(h:¬jR w ⟨kind,j8,a7,n,j9,gauge,tru,a8⟩=0) :
  va7 170 [.ptr 0 0 0 0,Q2 kind j8 a7 n j9 gauge tru a8] (H0 w) (.tup [i64 0,.nils,i64 (jR w ⟨kind,j8,a7,n,j9,gauge,tru,a8⟩)]) (H0 w):=by
 unfold jR at h ⊢;simp only[]at h ⊢;have c2:=Q8 0 w.line.n8.len n;by_cases ho:fJ tru a8
 ·have c1:=a04 tru a8 ho;by_cases hN:0<=n/\n<=w.line.n8.len
  ·rw[if_neg (fun q=>q ⟨ho,hN⟩)]at h ⊢;rw[zA4 hN.1,zA4 hN.2]at c2;by_cases ha:w.drift.alarm=true
   ·rw[if_pos ha];refine pW Tryz.func170 ⟨va4,?_⟩;conv=>whnf
    try exact va1
   ·rw[if_neg ha]at h ⊢;have ha:w.drift.alarm=false:=by simpa using ha
    have c3:=ye w.o8 (L3.2 g.tk) h;generalize nY w.o8=e at h c3;refine pW Tryz.func170 ⟨va4,?_⟩;conv=>whnf
    try exact va1
  ·rw[if_pos (fun q=>hN q.2)];have e1:(decide (0<=n) && decide (n<=w.line.n8.len))=false:=by rw[<- Bool.decide_and,zA5 hN]
   rw[e1]at c2;refine pW Tryz.func170 ⟨va4,?_⟩;conv=>whnf
   try exact va1
 ·rw[if_pos (fun q=>ho q.1)];have c1:=du tru a8 ht hn ho;have he:¬(if L2 tru=true then(2:Int)else 50)=0:=by split<;>decide
  generalize (if L2 tru=true then(2:Int)else 50)=e at c1 he;refine pW Tryz.func170 ⟨va4,?_⟩;conv=>whnf
  try exact va1
theorem LL(w:n9)(g:I6 w)(hb:G8 w.l9)(kind j8 a7 n j9:Int)(gauge:x8)(tru a8:List Int)(h:jR w ⟨kind,j8,a7,n,j9,gauge,tru,a8⟩=0) :
  va7 170 [.ptr 0 0 0 0,Q2 kind j8 a7 n j9 gauge tru a8] (H0 w) (.tup [i64 w.o8.next,.nils,i64 0]) (yg (jc w ⟨kind,j8,a7,n,j9,gauge,tru,a8⟩)):=by
 obtain⟨h1,h2,h3,h4⟩:=fP h;have h1:fJ tru a8:=h1;have h2:0<=n/\n<=w.line.n8.len:=h2;have c1:=a04 tru a8 h1;have c2:=Q8 0 w.line.n8.len n;rw[zA4 h2.1,zA4 h2.2]at c2;have c3:=LD w.o8 (L3.2 g.tk) h4;have w1:IntKind.i64.wrap (w.o8.count+w.line.lag)=w.o8.count+w.line.lag:=C7 _ (by have:=g.tk.ct;have:=xZ g.ln;omega) (by have:=g.tk.ct;have:=xZ g.ln;omega);have Pv:w.n6.length<=32:=by rw[g.lt];exact g.tk.ln
 have Cl:(H4 tru a8).length<2^20:=by rw[aF];have:=M0 h1.1;omega
 by_cases hr:sR w ⟨kind,j8,a7,n,j9,gauge,tru,a8⟩
 ·have c4:va6 225 [au w.l9,i64 w.o8.next,C8 (H4 tru a8)] (.tup [au (pM w.l9 w.o8.next (H4 tru a8)),.agg [i64 w.l9.next,i64 (A4 w.l9.recipes),i64 w.o8.next,C8 (H4 tru a8),u8 (F8 (gK w.l9) (H4 tru a8)).2.1,.bool false],i64 0]):=Aq w.l9 hb w.o8.next (H4 tru a8) Cl hr;have e:jc w ⟨kind,j8,a7,n,j9,gauge,tru,a8⟩=⟨w.line,ue w.o8,pM w.l9 w.o8.next (H4 tru a8),sQ w.line (jb w.drift) (!decide ((F8 (gK w.l9) (H4 tru a8)).2.1=1)),w.n6++[⟨w.o8.next,0,n,(F8 (gK w.l9) (H4 tru a8)).2.1,IntKind.i64.wrap (w.o8.count+w.line.lag),w.l9.next,false⟩]⟩:=by
   unfold jc;rw[if_pos hr,w1];rfl
  rw[e];clear e;generalize (F8 (gK w.l9) (H4 tru a8)).2.1=V at c4 ⊢;generalize pM w.l9 w.o8.next (H4 tru a8)=B at c4 ⊢;have ht:=(K3 g.ln).2.2;by_cases hd:w.drift.rounds=500
  ·have c5:=qh w.line ht X3 jC va8 (!decide (V=1));have cs:=W7;have ed:jb w.drift=X3:=by unfold jb;rw[if_pos hd]
   rw[ed];refine pW Tryz.func170 ⟨va4,?_⟩;conv=>whnf
   refine vb9 ?_;(repeat intro hh);refine⟨⟨B6,7,n5,J6,w.n6⟩,[⟨w.o8.next,0,n,V,IntKind.i64.wrap (w.o8.count+w.line.lag),w.l9.next,false⟩],rfl,rfl,⟨rfl,rfl⟩,?_,?_,fun y _=>⟨rfl,rfl,rfl⟩,?_⟩
   ·show(w.n6.length+1)*56<=_;omega
   ·show w.n6.length+1<=_;omega
   refine vc0 ?_;(repeat intro hh);refine⟨[147],va4,?_⟩;conv=>whnf
   exact⟨rfl,rfl⟩
  ·have c5:=qh w.line ht w.drift g.df hd (!decide (V=1));have ed:jb w.drift=w.drift:=by unfold jb;rw[if_neg hd]
   rw[ed];refine pW Tryz.func170 ⟨va4,?_⟩;conv=>whnf
   refine vb9 ?_;(repeat intro hh);refine⟨⟨B6,7,n5,J6,w.n6⟩,[⟨w.o8.next,0,n,V,IntKind.i64.wrap (w.o8.count+w.line.lag),w.l9.next,false⟩],rfl,rfl,⟨rfl,rfl⟩,?_,?_,fun y _=>⟨rfl,rfl,rfl⟩,?_⟩
   ·show(w.n6.length+1)*56<=_;omega
   ·show w.n6.length+1<=_;omega
   refine vc0 ?_;(repeat intro hh);refine⟨[147],va4,?_⟩;conv=>whnf
   exact⟨rfl,rfl⟩
 ·have c4:=xP w.l9 hb w.o8.next (H4 tru a8) Cl hr;have e:jc w ⟨kind,j8,a7,n,j9,gauge,tru,a8⟩=⟨w.line,ue w.o8,w.l9,w.drift,w.n6++[⟨w.o8.next,0,n,0,IntKind.i64.wrap (w.o8.count+w.line.lag),-1,false⟩]⟩:=by
   unfold jc UG;rw[if_neg hr,w1]
  rw[e];clear e;have hr:¬nS w.l9 w.o8.next (H4 tru a8)=0:=hr;generalize nS w.l9 w.o8.next (H4 tru a8)=e at c4 hr;refine pW Tryz.func170 ⟨va4,?_⟩;conv=>whnf
  refine vb9 ?_;(repeat intro hh);refine⟨⟨B6,7,n5,J6,w.n6⟩,[⟨w.o8.next,0,n,0,IntKind.i64.wrap (w.o8.count+w.line.lag),-1,false⟩],rfl,rfl,⟨rfl,rfl⟩,?_,?_,fun y _=>⟨rfl,rfl,rfl⟩,?_⟩
  ·show(w.n6.length+1)*56<=_;omega
  ·show w.n6.length+1<=_;omega
  refine vc0 ?_;(repeat intro hh);refine⟨[147],va4,?_⟩;conv=>whnf
  exact⟨rfl,rfl⟩
theorem Bq(w:n9)(g:I6 w):va7 216 [.ptr 0 0 0 0] (H0 w) (.tup []) (H0 (AP w (v8 w))):=by
 have hl:w.n6.length<=32:=by rw[g.lt];exact g.tk.ln
 refine pW Tryz.func216 ⟨va4,?_⟩;conv=>whnf
 refine Or.inr ⟨Nat,[12],[51],[],fun k=>[i64 k],fun k=>[.cells 154 ((eW (AP w (jQ w.o8 (w.n6.take k)))).set 25 (.own 52))],fun _=>[],fun k=>w.n6.length-k,fun k=>k<=w.n6.length,?_⟩;conv=>whnf
 refine⟨⟨0,?_⟩,?_⟩
 ·(conv=>whnf);exact kK ⟨zB4 _,rfl,rfl,rfl⟩
 intro k hk;conv=>whnf
 refine⟨fun h=>?_,fun h=>?_⟩
 ·have h:=zA1 h;have L7:k<w.n6.length:=by have h:(k:Int)<(w.n6.length:Nat):=h;omega
  have gs:=ou (w.n6.take k) _ g.tk;have sm:=ot (w.n6.take k) w.o8;have st:=Hy w.o8 L7;generalize jQ w.o8 (w.n6.take k)=u at gs sm st;have ct:=OH u (L3.2 gs) (w.n6.getD k n5).id (w.n6.getD k n5).o6;have cb:=Bg u (L3.2 gs) (w.n6.getD k n5).id (w.n6.getD k n5).o6;have fin:∀ v,ud u (w.n6.getD k n5)=v->AP w v=AP w (jQ w.o8 (w.n6.take (k+1))):=fun v hv=>by rw[st,hv]
  unfold ud at fin;by_cases h1:(w.n6.getD (Int.toNat (k:Int)) n5).o6=0∨¬(w.n6.getD (Int.toNat (k:Int)) n5).due=(AP w u).o8.count
  ·have f:=fin u (if_pos (show(w.n6.getD k n5).o6=0∨¬(w.n6.getD k n5).due=u.count from h1));conv=>whnf
   (repeat' ((first|refine va0 (fun hh=>?_) fun hh=>?_|refine kT ?_|fail)<;>first|exact hh.elim|conv=>whnf));all_goals
    refine⟨k+1,?_⟩;conv=>whnf
    refine kK ⟨⟨?_,?_⟩,?_,?_,rfl⟩
    ·show w.n6.length-(k+1)<w.n6.length-k;omega
    ·show k+1<=w.n6.length;omega
    ·rw[C7 _ va5 va5];rfl
    ·show _=[Row.cells 154 ((eW (AP w (jQ w.o8 (w.n6.take (k+1))))).set 25 (.own 52))]
     rw[<- f]<;>rfl
  ·have hn:¬((w.n6.getD k n5).o6=0∨¬(w.n6.getD k n5).due=u.count):=h1;rw[if_neg hn]at fin;by_cases h2:mN u (w.n6.getD k n5).id (w.n6.getD k n5).o6=0
   ·rw[if_pos h2]at fin;have ct:=ct h2;have f:=fin _ rfl;conv=>whnf
    refine vb9 ?_;(repeat intro hh);all_goals
     refine⟨k+1,?_⟩;conv=>whnf
     refine kK ⟨⟨?_,?_⟩,?_,?_,rfl⟩
     ·show w.n6.length-(k+1)<w.n6.length-k;omega
     ·show k+1<=w.n6.length;omega
     ·rw[C7 _ va5 va5];rfl
     ·show _=[Row.cells 154 ((eW (AP w (jQ w.o8 (w.n6.take (k+1))))).set 25 (.own 52))]
      rw[<- f]<;>rfl
   ·rw[if_neg h2]at fin;have ct:=cb h2;have f:=fin _ rfl;generalize mN u (w.n6.getD k n5).id (w.n6.getD k n5).o6=e at ct h2;conv=>whnf
    refine vb9 ?_;(repeat intro hh);all_goals
     refine⟨k+1,?_⟩;conv=>whnf
     refine kK ⟨⟨?_,?_⟩,?_,?_,rfl⟩
     ·show w.n6.length-(k+1)<w.n6.length-k;omega
     ·show k+1<=w.n6.length;omega
     ·rw[C7 _ va5 va5];rfl
     ·show _=[Row.cells 154 ((eW (AP w (jQ w.o8 (w.n6.take (k+1))))).set 25 (.own 52))]
      rw[<- f]<;>rfl
 ·have h:=zA0 h;have h:¬(k:Int)<(w.n6.length:Nat):=h;have ek:w.n6.take k=w.n6:=List.take_of_length_le va5;rw[ek];conv=>whnf
  try exact va1

end Go.Proofs.Tryz.My
