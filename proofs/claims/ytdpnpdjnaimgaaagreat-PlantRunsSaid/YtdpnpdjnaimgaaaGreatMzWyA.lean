/- Helper lemmas. -/
import Derived.Test.YtdpnpdjnaimgaaaGreatMzWbX
set_option linter.unusedVariables false
set_option linter.unusedSimpArgs false
set_option maxRecDepth 100000
set_option maxHeartbeats 0
namespace Go.Proofs.Tryz.My
open Go Go.Ev
theorem sW(l:List B6)(hl:l.length<2^20):va7 125 [ua l] [] (.own 0) [.vec 76 7 n5 J6 l]:=by
 refine A7 hm Tryz.func125 va4 ⟨va4,?_⟩;conv=>whnf
 refine Or.inl ?_;conv=>whnf
 intro b hb;conv=>whnf
 refine⟨fun h=>?_,fun h=>?_⟩
 ·(conv=>whnf);refine Or.inr ⟨va4,.vec 76 7 n5 J6 [],rfl,?_⟩;conv=>whnf
  refine⟨[2],va4,?_⟩;conv=>whnf
  rw[hb h];exact⟨rfl,rfl⟩
 conv=>whnf
 refine⟨⟨B6,7,n5,J6,[]⟩,l,rfl,⟨rfl,rfl⟩,rfl,?_,?_,fun y _=>⟨rfl,rfl,rfl⟩,?_⟩
 ·show(0+l.length)*56<=_;omega
 ·show 0+l.length<=_;omega
 conv=>whnf
 refine⟨[7],va4,?_⟩;conv=>whnf
 exact⟨rfl,rfl⟩
theorem DI(l:List x7)(hl:l.length<2^20):va7 124 [U1 l] [] (.own 0) [.vec 78 4 n4 I1 l]:=by
 refine A7 hm Tryz.func124 va4 ⟨va4,?_⟩;conv=>whnf
 refine Or.inl ?_;conv=>whnf
 intro b hb;conv=>whnf
 refine⟨fun h=>?_,fun h=>?_⟩
 ·(conv=>whnf);refine Or.inr ⟨va4,.vec 78 4 n4 I1 [],rfl,?_⟩;conv=>whnf
  refine⟨[2],va4,?_⟩;conv=>whnf
  rw[hb h];exact⟨rfl,rfl⟩
 conv=>whnf
 refine⟨⟨x7,4,n4,I1,[]⟩,l,rfl,⟨rfl,rfl⟩,rfl,?_,?_,fun y _=>⟨rfl,rfl,rfl⟩,?_⟩
 ·show(0+l.length)*24<=_;omega
 ·show 0+l.length<=_;omega
 conv=>whnf
 refine⟨[7],va4,?_⟩;conv=>whnf
 exact⟨rfl,rfl⟩
theorem DJ(l:List A9)(hl:l.length<2^20):va7 167 [pJ l] [] (.own 0) [.vec 122 13 r9 eJ l]:=by
 refine A7 hm Tryz.func167 va4 ⟨va4,?_⟩;conv=>whnf
 refine Or.inl ?_;conv=>whnf
 intro b hb;conv=>whnf
 refine⟨fun h=>?_,fun h=>?_⟩
 ·(conv=>whnf);refine Or.inr ⟨va4,.vec 122 13 r9 eJ [],rfl,?_⟩;conv=>whnf
  refine⟨[2],va4,?_⟩;conv=>whnf
  rw[hb h];exact⟨rfl,rfl⟩
 conv=>whnf
 refine⟨⟨A9,13,r9,eJ,[]⟩,l,rfl,⟨rfl,rfl⟩,rfl,?_,?_,fun y _=>⟨rfl,rfl,rfl⟩,?_⟩
 ·show(0+l.length)*120<=_;omega
 ·show 0+l.length<=_;omega
 conv=>whnf
 refine⟨[7],va4,?_⟩;conv=>whnf
 exact⟨rfl,rfl⟩
theorem DK(l:List B8)(hl:l.length<2^20):va7 168 [mw l] [] (.own 0) [.vec 80 6 w9 V9 l]:=by
 refine A7 hm Tryz.func168 va4 ⟨va4,?_⟩;conv=>whnf
 refine Or.inl ?_;conv=>whnf
 intro b hb;conv=>whnf
 refine⟨fun h=>?_,fun h=>?_⟩
 ·(conv=>whnf);refine Or.inr ⟨va4,.vec 80 6 w9 V9 [],rfl,?_⟩;conv=>whnf
  refine⟨[2],va4,?_⟩;conv=>whnf
  rw[hb h];exact⟨rfl,rfl⟩
 conv=>whnf
 refine⟨⟨B8,6,w9,V9,[]⟩,l,rfl,⟨rfl,rfl⟩,rfl,?_,?_,fun y _=>⟨rfl,rfl,rfl⟩,?_⟩
 ·show(0+l.length)*56<=_;omega
 ·show 0+l.length<=_;omega
 conv=>whnf
 refine⟨[7],va4,?_⟩;conv=>whnf
 exact⟨rfl,rfl⟩
theorem HV(l:List A9)(k:Nat)(hk:k<l.length)(ha:(l.getD k r9).B0.length<2^20):va7 128 [.ptr 0 13 k 0] [.vec 122 13 r9 eJ l] (.tup []) [.vec 122 13 r9 eJ l]:=by
 have c:va6 129 [C8 (l.getD k r9).B0] (C8 (l.getD k r9).B0):=(fE (l.getD k r9).B0 ha).toPC 6 va4;refine pW Tryz.func128 ⟨va4,?_⟩;conv=>whnf
 refine vb9 ?_;(repeat intro hh);refine⟨l.getD k r9,rfl,hk,?_⟩;conv=>whnf
 refine⟨[],va4,?_⟩;conv=>whnf
 refine⟨rfl,?_⟩;rw[eN];rfl
theorem LB(l:List A9)(hl:l.length<2^20)(ha:∀ i,(l.getD i r9).B0.length<2^20):va6 127 [pJ l,.fn (.func 128) [] []] (pJ l):=by
 refine pF Tryz.func127 ?_;conv=>whnf
 (refine va2 [] [8] ?_;(conv=>whnf);refine va3 [] (DJ l hl) ?_);conv=>whnf
 refine Or.inr ⟨Nat,[11],[8],[],fun k=>[i64 k],fun _=>[.vec 122 13 r9 eJ l],fun _=>[],fun k=>l.length-k,fun k=>k<=l.length,?_⟩;conv=>whnf
 refine⟨⟨0,?_⟩,?_⟩
 ·(conv=>whnf);exact kK ⟨zB4 _,rfl,rfl,rfl⟩
 intro k hk;conv=>whnf
 refine⟨fun h=>?_,fun h=>?_⟩
 ·have h:=zA1 h;have L7:k<l.length:=by omega
  conv=>whnf
  refine vc0 ?_;(repeat intro hh);(refine va2 [] [] ?_;(conv=>whnf);refine va3 [8] (HV l k L7 (ha k)) ?_);conv=>whnf
  refine⟨k+1,?_⟩;conv=>whnf
  refine kK ⟨⟨?_,?_⟩,?_,rfl,rfl⟩
  ·show l.length-(k+1)<l.length-k;omega
  ·show k+1<=l.length;omega
  ·rw[C7 _ va5 va5];rfl
 ·(conv=>whnf);try rfl
theorem HW(l:List B8)(k:Nat)(hk:k<l.length)(ha:(l.getD k w9).o9.length<2^20):va7 131 [.ptr 0 6 k 0] [.vec 80 6 w9 V9 l] (.tup []) [.vec 80 6 w9 V9 l]:=by
 have c:va6 129 [C8 (l.getD k w9).o9] (C8 (l.getD k w9).o9):=(fE (l.getD k w9).o9 ha).toPC 6 va4;refine pW Tryz.func131 ⟨va4,?_⟩;conv=>whnf
 refine vb9 ?_;(repeat intro hh);refine⟨l.getD k w9,rfl,hk,?_⟩;conv=>whnf
 refine⟨[],va4,?_⟩;conv=>whnf
 refine⟨rfl,?_⟩;rw[eN];rfl
theorem LC(l:List B8)(hl:l.length<2^20)(ha:∀ i,(l.getD i w9).o9.length<2^20):va6 130 [mw l,.fn (.func 131) [] []] (mw l):=by
 refine pF Tryz.func130 ?_;conv=>whnf
 (refine va2 [] [8] ?_;(conv=>whnf);refine va3 [] (DK l hl) ?_);conv=>whnf
 refine Or.inr ⟨Nat,[11],[8],[],fun k=>[i64 k],fun _=>[.vec 80 6 w9 V9 l],fun _=>[],fun k=>l.length-k,fun k=>k<=l.length,?_⟩;conv=>whnf
 refine⟨⟨0,?_⟩,?_⟩
 ·(conv=>whnf);exact kK ⟨zB4 _,rfl,rfl,rfl⟩
 intro k hk;conv=>whnf
 refine⟨fun h=>?_,fun h=>?_⟩
 ·have h:=zA1 h;have L7:k<l.length:=by omega
  conv=>whnf
  refine vc0 ?_;(repeat intro hh);(refine va2 [] [] ?_;(conv=>whnf);refine va3 [8] (HW l k L7 (ha k)) ?_);conv=>whnf
  refine⟨k+1,?_⟩;conv=>whnf
  refine kK ⟨⟨?_,?_⟩,?_,rfl,rfl⟩
  ·show l.length-(k+1)<l.length-k;omega
  ·show k+1<=l.length;omega
  ·rw[C7 _ va5 va5];rfl
 ·(conv=>whnf);try rfl
abbrev Q2(kind j8 a7 n j9:Int)(gauge:x8)(tru a8:List Int):AV := .agg [u8 kind,i64 j8,i64 a7,i64 n,u8 j9,i64 (H8 gauge),i64 (D9 gauge),i64 (J5 gauge).1.1,i64 (J5 gauge).1.2,i64 (J5 gauge).2.1,i64 (J5 gauge).2.2,i64 gauge.1.2.1,i64 gauge.1.2.2,i64 gauge.2.1,i64 gauge.2.2,C8 tru,C8 a8]
abbrev UK(kind j8 a7 n j9:Int)(gauge:x8)(tru a8:List Int):List AV:=[u8 kind,i64 j8,i64 a7,i64 n,u8 j9,i64 (H8 gauge),i64 (D9 gauge),i64 (J5 gauge).1.1,i64 (J5 gauge).1.2,i64 (J5 gauge).2.1,i64 (J5 gauge).2.2,i64 gauge.1.2.1,i64 gauge.1.2.2,i64 gauge.2.1,i64 gauge.2.2,C8 tru,C8 a8]
abbrev dkC(w:n9):List AV:=(eW w).set 25 (.own 1)
def H0(w:n9):List Row:=[.cells 154 (dkC w),.vec 76 7 n5 J6 w.n6]
theorem AZ(w:n9)(o:px w):va7 78 [eR w] [] (.ptr 0 0 0 0) (H0 w):=by
 have c1:va6 124 [U1 w.o8.k9] (U1 w.o8.k9):=(DI w.o8.k9 o.t).toPC 6 va4;have c3:va6 126 [Iy w.l9.p9] (Iy w.l9.p9):=(nN w.l9.p9 o.b.u).toPC 6 va4;have c4:=LB w.l9.recipes o.b.r o.b.a;have c5:=LC w.l9.log o.b.l o.b.p;have o2:=o.h;refine pW Tryz.func78 ⟨va4,?_⟩;conv=>whnf
 refine vb5 ?_;(repeat intro hh);(refine va2 [] [11] ?_;(conv=>whnf);refine va3 [] (sW w.n6 o2) ?_);conv=>whnf
 refine vb5 ?_;(repeat intro hh);refine⟨[33,11],va4,?_⟩;conv=>whnf
 exact⟨rfl,rfl⟩
theorem gR(w:n9)(b:o7)(n:Int):va7 227 [.ptr 0 0 0 0,i64 n,au b,i64 0] (H0 w) (.tup [i64 n,.nils,i64 0]) (H0 (lr w b)):=by
 refine pW Tryz.func227 ⟨va4,?_⟩;conv=>whnf
 refine vb6 ?_;(repeat intro hh);try exact va1
theorem gS(w:n9)(n e:Int)(h:¬e=0):va7 227 [.ptr 0 0 0 0,i64 n,mB 0,i64 e] (H0 w) (.tup [i64 0,.nils,i64 e]) (H0 w):=by
 refine pW Tryz.func227 ⟨va4,?_⟩;conv=>whnf
 try exact va1
theorem Ba(w:n9)(o:G8 w.l9)(kind j8 a7 n j9:Int)(gauge:x8)(tru a8:List Int)(h:iq w.l9 j9=0):va7 171 [.ptr 0 0 0 0,Q2 kind j8 a7 n j9 gauge tru a8] (H0 w) (.tup [i64 (w.l9.p9.length:Nat),.nils,i64 0]) (H0 (lr w (tO w.l9 j9))):=by
 have c:=xL w.l9 o j9 h;refine pW Tryz.func171 ⟨va4,?_⟩;conv=>whnf
 refine vb7 ?_;(repeat intro hh);(refine va2 [] [] ?_;(conv=>whnf);refine va3 [30,31] (gR w _ _) ?_);conv=>whnf
 try exact va1
theorem ya(w:n9)(o:G8 w.l9)(kind j8 a7 n j9:Int)(gauge:x8)(tru a8:List Int)(h:¬iq w.l9 j9=0):va7 171 [.ptr 0 0 0 0,Q2 kind j8 a7 n j9 gauge tru a8] (H0 w) (.tup [i64 0,.nils,i64 (iq w.l9 j9)]) (H0 w):=by
 have c:=tP w.l9 o j9 h;generalize iq w.l9 j9=e at *
 refine pW Tryz.func171 ⟨va4,?_⟩;conv=>whnf
 refine vb7 ?_;(repeat intro hh);(refine va2 [] [] ?_;(conv=>whnf);refine va3 [30,31] (gS w _ _ h) ?_);conv=>whnf
 try exact va1
theorem HX(w:n9)(o:G8 w.l9)(kind j8 a7 n j9:Int)(gauge:x8)(tru a8:List Int)(h:iU w.l9 j8 gauge=0):va7 172 [.ptr 0 0 0 0,Q2 kind j8 a7 n j9 gauge tru a8] (H0 w) (.tup [i64 (w.l9.recipes.length:Nat),.nils,i64 0]) (H0 (lr w (tQ w.l9 j8 gauge))):=by
 have c:=Dn w.l9 o j8 gauge h;refine pW Tryz.func172 ⟨va4,?_⟩;conv=>whnf
 refine vb7 ?_;(repeat intro hh);(refine va2 [] [] ?_;(conv=>whnf);refine va3 [32,33] (gR w _ _) ?_);conv=>whnf
 try exact va1
theorem DL(w:n9)(o:G8 w.l9)(kind j8 a7 n j9:Int)(gauge:x8)(tru a8:List Int)(h:¬iU w.l9 j8 gauge=0):va7 172 [.ptr 0 0 0 0,Q2 kind j8 a7 n j9 gauge tru a8] (H0 w) (.tup [i64 0,.nils,i64 (iU w.l9 j8 gauge)]) (H0 w):=by
 have c:=Ag w.l9 o j8 gauge h;generalize iU w.l9 j8 gauge=e at *
 refine pW Tryz.func172 ⟨va4,?_⟩;conv=>whnf
 refine vb7 ?_;(repeat intro hh);(refine va2 [] [] ?_;(conv=>whnf);refine va3 [32,33] (gS w _ _ h) ?_);conv=>whnf
 try exact va1
theorem Bb(w:n9)(o:G8 w.l9)(kind j8 a7 n j9:Int)(gauge:x8)(tru a8:List Int)(h:iY w.l9 j8 a7=0):va7 173 [.ptr 0 0 0 0,Q2 kind j8 a7 n j9 gauge tru a8] (H0 w) (.tup [i64 0,.nils,i64 0]) (H0 (lr w (nQ w.l9 j8 a7))):=by
 have c:=xM w.l9 o j8 a7 h;refine pW Tryz.func173 ⟨va4,?_⟩;conv=>whnf
 refine vb7 ?_;(repeat intro hh);(refine va2 [] [] ?_;(conv=>whnf);refine va3 [29,30] (gR w _ _) ?_);conv=>whnf
 try exact va1
theorem yb(w:n9)(o:G8 w.l9)(kind j8 a7 n j9:Int)(gauge:x8)(tru a8:List Int)(h:¬iY w.l9 j8 a7=0):va7 173 [.ptr 0 0 0 0,Q2 kind j8 a7 n j9 gauge tru a8] (H0 w) (.tup [i64 0,.nils,i64 (iY w.l9 j8 a7)]) (H0 w):=by
 have c:=tX w.l9 o j8 a7 h;generalize iY w.l9 j8 a7=e at *
 refine pW Tryz.func173 ⟨va4,?_⟩;conv=>whnf
 refine vb7 ?_;(repeat intro hh);(refine va2 [] [] ?_;(conv=>whnf);refine va3 [29,30] (gS w _ _ h) ?_);conv=>whnf
 try exact va1
theorem yc(w:n9)(o:G8 w.l9)(kind j8 a7 n j9:Int)(gauge:x8)(tru a8:List Int)(h:dq w.l9 j8 a7=0):va7 174 [.ptr 0 0 0 0,Q2 kind j8 a7 n j9 gauge tru a8] (H0 w) (.tup [i64 0,.nils,i64 0]) (H0 (lr w (fF w.l9 a7))):=by
 have c:=tY w.l9 o j8 a7 h;refine pW Tryz.func174 ⟨va4,?_⟩;conv=>whnf
 refine vb7 ?_;(repeat intro hh);(refine va2 [] [] ?_;(conv=>whnf);refine va3 [29,30] (gR w _ _) ?_);conv=>whnf
 try exact va1
theorem ui(w:n9)(o:G8 w.l9)(kind j8 a7 n j9:Int)(gauge:x8)(tru a8:List Int)(h:¬dq w.l9 j8 a7=0):va7 174 [.ptr 0 0 0 0,Q2 kind j8 a7 n j9 gauge tru a8] (H0 w) (.tup [i64 0,.nils,i64 (dq w.l9 j8 a7)]) (H0 w):=by
 have c:=su w.l9 o j8 a7 h;generalize dq w.l9 j8 a7=e at *
 refine pW Tryz.func174 ⟨va4,?_⟩;conv=>whnf
 refine vb7 ?_;(repeat intro hh);(refine va2 [] [] ?_;(conv=>whnf);refine va3 [29,30] (gS w _ _ h) ?_);conv=>whnf
 try exact va1
theorem DM(w:n9)(o:G8 w.l9)(kind j8 a7 n j9:Int)(gauge:x8)(tru a8:List Int)(h:iV w.l9 j8=0):va7 175 [.ptr 0 0 0 0,Q2 kind j8 a7 n j9 gauge tru a8] (H0 w) (.tup [i64 0,.nils,i64 0]) (H0 (lr w (mC w.l9 (A4 w.l9.recipes)))):=by
 have c:=An w.l9 o j8 h;refine pW Tryz.func175 ⟨va4,?_⟩;conv=>whnf
 refine vb7 ?_;(repeat intro hh);(refine va2 [] [] ?_;(conv=>whnf);refine va3 [27,28] (gR w _ _) ?_);conv=>whnf
 try exact va1
theorem Bc(w:n9)(o:G8 w.l9)(kind j8 a7 n j9:Int)(gauge:x8)(tru a8:List Int)(h:¬iV w.l9 j8=0):va7 175 [.ptr 0 0 0 0,Q2 kind j8 a7 n j9 gauge tru a8] (H0 w) (.tup [i64 0,.nils,i64 (iV w.l9 j8)]) (H0 w):=by
 have c:=xA w.l9 o j8 h;generalize iV w.l9 j8=e at *
 refine pW Tryz.func175 ⟨va4,?_⟩;conv=>whnf
 refine vb7 ?_;(repeat intro hh);(refine va2 [] [] ?_;(conv=>whnf);refine va3 [27,28] (gS w _ _ h) ?_);conv=>whnf
 try exact va1
theorem Bd(w:n9)(o:G8 w.l9)(kind j8 a7 n j9:Int)(gauge:x8)(tru a8:List Int)(h:sA w.l9 j8 a7=0):va7 176 [.ptr 0 0 0 0,Q2 kind j8 a7 n j9 gauge tru a8] (H0 w) (.tup [i64 0,.nils,i64 0]) (H0 (lr w (W0 w.l9 a7 true))):=by
 have c:=xN w.l9 o j8 a7 h;refine pW Tryz.func176 ⟨va4,?_⟩;conv=>whnf
 refine vb7 ?_;(repeat intro hh);(refine va2 [] [] ?_;(conv=>whnf);refine va3 [29,30] (gR w _ _) ?_);conv=>whnf
 try exact va1
theorem yd(w:n9)(o:G8 w.l9)(kind j8 a7 n j9:Int)(gauge:x8)(tru a8:List Int)(h:¬sA w.l9 j8 a7=0):va7 176 [.ptr 0 0 0 0,Q2 kind j8 a7 n j9 gauge tru a8] (H0 w) (.tup [i64 0,.nils,i64 (sA w.l9 j8 a7)]) (H0 w):=by
 have c:=tV w.l9 o j8 a7 h;generalize sA w.l9 j8 a7=e at *
 refine pW Tryz.func176 ⟨va4,?_⟩;conv=>whnf
 refine vb7 ?_;(repeat intro hh);(refine va2 [] [] ?_;(conv=>whnf);refine va3 [29,30] (gS w _ _ h) ?_);conv=>whnf
 try exact va1
theorem DN(w:n9)(o:G8 w.l9)(kind j8 a7 n j9:Int)(gauge:x8)(tru a8:List Int)(h:sB w.l9 j8 a7=0):va7 177 [.ptr 0 0 0 0,Q2 kind j8 a7 n j9 gauge tru a8] (H0 w) (.tup [i64 0,.nils,i64 0]) (H0 (lr w (W0 w.l9 a7 false))):=by
 have c:=Ao w.l9 o j8 a7 h;refine pW Tryz.func177 ⟨va4,?_⟩;conv=>whnf
 refine vb7 ?_;(repeat intro hh);(refine va2 [] [] ?_;(conv=>whnf);refine va3 [29,30] (gR w _ _) ?_);conv=>whnf
 try exact va1
theorem Be(w:n9)(o:G8 w.l9)(kind j8 a7 n j9:Int)(gauge:x8)(tru a8:List Int)(h:¬sB w.l9 j8 a7=0):va7 177 [.ptr 0 0 0 0,Q2 kind j8 a7 n j9 gauge tru a8] (H0 w) (.tup [i64 0,.nils,i64 (sB w.l9 j8 a7)]) (H0 w):=by
 have c:=xG w.l9 o j8 a7 h;generalize sB w.l9 j8 a7=e at *
 refine pW Tryz.func177 ⟨va4,?_⟩;conv=>whnf
 refine vb7 ?_;(repeat intro hh);(refine va2 [] [] ?_;(conv=>whnf);refine va3 [29,30] (gS w _ _ h) ?_);conv=>whnf
 try exact va1
theorem W7:va6 56 [] (.agg (eQ X3)):=by
 refine AJ.sub rfl (fun i hi=>absurd hi (zB3 i)) (Y0 (xs:=[i64 0,i64 0,.ff]) (ys:=eQ X3) rfl fun i hi=>?_).1
 match i with
 | 0=>exact .refl _
 | 1=>exact .refl _
 | 2=>exact Dp
 | (n+3)=>exact .refl _
theorem HY(w:n9)(hl:w.l9.p9.length<2^20)(kind j8 a7 n j9:Int)(gauge:x8)(tru a8:List Int)(h:oa w j8=0):va7 178 [.ptr 0 0 0 0,Q2 kind j8 a7 n j9 gauge tru a8] (H0 w) (.tup [i64 0,.nils,i64 0]) (H0 (Dz w)):=by
 have w1:IntKind.i64.wrap ((w.l9.p9.length:Int)-1)=(w.l9.p9.length:Int)-1:=C7 _ va5 va5;have c1:=Q8 0 (IntKind.i64.wrap ((w.l9.p9.length:Int)-1)) j8;have h1:0<=j8/\j8<=(w.l9.p9.length:Int)-1:=Decidable.byContradiction fun q=>by unfold oa at h;rw[if_pos q]at h;cases h
 have h2:w.l9.p9.getD j8.toNat 0=3:=Decidable.byContradiction fun q=>by unfold oa at h;rw[if_neg (fun f=>f h1),if_pos q]at h;cases h
 have e1:(decide (0<=j8) && decide (j8<=IntKind.i64.wrap ((w.l9.p9.length:Int)-1)))=true:=by rw[w1,zA4 h1.1,zA4 h1.2];rfl
 rw[e1]at c1;have cs:=W7;refine pW Tryz.func178 ⟨va4,?_⟩;conv=>whnf
 try exact rt
theorem DO(w:n9)(hl:w.l9.p9.length<2^20)(kind j8 a7 n j9:Int)(gauge:x8)(tru a8:List Int)(h:¬oa w j8=0):va7 178 [.ptr 0 0 0 0,Q2 kind j8 a7 n j9 gauge tru a8] (H0 w) (.tup [i64 0,.nils,i64 (oa w j8)]) (H0 w):=by
 have w1:IntKind.i64.wrap ((w.l9.p9.length:Int)-1)=(w.l9.p9.length:Int)-1:=C7 _ va5 va5;have c1:=Q8 0 (IntKind.i64.wrap ((w.l9.p9.length:Int)-1)) j8;by_cases h1:0<=j8/\j8<=(w.l9.p9.length:Int)-1
 ·have e1:(decide (0<=j8) && decide (j8<=IntKind.i64.wrap ((w.l9.p9.length:Int)-1)))=true:=by rw[w1,zA4 h1.1,zA4 h1.2];rfl
  rw[e1]at c1;by_cases h2:w.l9.p9.getD j8.toNat 0=3
  ·exact absurd (by unfold oa;rw[if_neg (fun f=>f h1),if_neg (fun f=>f h2)]) h
  ·have hr:oa w j8=100:=by unfold oa;rw[if_neg (fun f=>f h1),if_pos h2]
   rw[hr];refine pW Tryz.func178 ⟨va4,?_⟩;conv=>whnf
   try exact rt
 ·have hr:oa w j8=6:=by unfold oa;rw[if_pos h1]
  have e1:(decide (0<=j8) && decide (j8<=IntKind.i64.wrap ((w.l9.p9.length:Int)-1)))=false:=by
   rw[w1];cases h:(decide (0<=j8) && decide (j8<=(w.l9.p9.length:Int)-1))
   ·rfl
   ·rw[zA2,zA3,zA3]at h;exact absurd h h1
  rw[e1]at c1;rw[hr];refine pW Tryz.func178 ⟨va4,?_⟩;conv=>whnf
  try exact rt

end Go.Proofs.Tryz.My
