/- Helper lemmas. -/
import Derived.Test.YtdpnpdjnaimgaaaGreatMzBqY
import Derived.Test.YtdpnpdjnaimgaaaGreatMzWyD
set_option linter.unusedVariables false
set_option linter.unusedSimpArgs false
set_option maxRecDepth 100000
set_option maxHeartbeats 0
namespace Go.Proofs.Tryz.My
open Go Go.Ev
theorem a1Y(w:n9)(hl:w.n6.length<2^20)(g:T9 w.o8)(hI:G7 w.o8.n8.step):va6 179 [eR w] (eR (AP w (v8 w))):=by
 refine pF Tryz.func179 ?_;conv=>whnf
 refine Or.inr ⟨Nat,[3],[1],[],fun k=>[i64 k],fun k=>[.cells 42 (eW (AP w (jQ w.o8 (w.n6.take k))))],fun _=>[],fun k=>w.n6.length-k,fun k=>k<=w.n6.length,?_⟩;conv=>whnf
 refine⟨⟨0,?_⟩,?_⟩
 ·(conv=>whnf);exact kK ⟨zB4 _,rfl,rfl,rfl⟩
 intro k hk;conv=>whnf
 refine⟨fun h=>?_,fun h=>?_⟩
 ·have h:=zA1 h;have L7:k<w.n6.length:=by have h:(k:Int)<(w.n6.length:Nat):=h;omega
  have gs:=ou (w.n6.take k) _ g;have sm:=ot (w.n6.take k) w.o8;have st:=Hy w.o8 L7;generalize jQ w.o8 (w.n6.take k)=u at gs sm st;have ct:=a3R u (by rw[sm.1];exact hI) (L3.2 gs) (w.n6.getD k n5).id (w.n6.getD k n5).o6;have hkI:(k:Int)<((AP w u).n6.length:Nat):=by have:k<(AP w u).n6.length:=L7;omega
  have fin:∀ v,ud u (w.n6.getD k n5)=v->AP w v=AP w (jQ w.o8 (w.n6.take (k+1))):=fun v hv=>by rw[st,hv]
  unfold ud at fin;by_cases h1:((AP w u).n6.getD (Int.toNat (k:Int)) n5).o6=0∨¬((AP w u).n6.getD (Int.toNat (k:Int)) n5).due=(AP w u).o8.count
  ·have f:=fin u (if_pos (show(w.n6.getD k n5).o6=0∨¬(w.n6.getD k n5).due=u.count from h1));conv=>whnf
   (repeat' ((first|refine va0 (fun hh=>?_) fun hh=>?_|refine kT ?_|((try refine .inl ?_;conv=>whnf);(try refine⟨false,?_⟩;conv=>whnf);refine⟨_,by assumption,?_⟩)|fail)<;>first|exact hh.elim|conv=>whnf));all_goals
    refine⟨k+1,?_⟩;conv=>whnf
    refine kK ⟨⟨?_,?_⟩,?_,?_,rfl⟩
    ·show w.n6.length-(k+1)<w.n6.length-k;omega
    ·show k+1<=w.n6.length;omega
    ·rw[C7 _ va5 va5];rfl
    ·show _=[Row.cells 42 (eW (AP w (jQ w.o8 (w.n6.take (k+1)))))]
     rw[<- f]<;>rfl
  ·have hn:¬((w.n6.getD k n5).o6=0∨¬(w.n6.getD k n5).due=u.count):=h1;rw[if_neg hn]at fin;by_cases h2:mN u (w.n6.getD k n5).id (w.n6.getD k n5).o6=0
   ·rw[if_pos h2]at fin ct;have f:=fin _ rfl;conv=>whnf
    refine vb9 ?_;(repeat intro hh);all_goals
     refine⟨k+1,?_⟩;conv=>whnf
     refine kK ⟨⟨?_,?_⟩,?_,?_,rfl⟩
     ·show w.n6.length-(k+1)<w.n6.length-k;omega
     ·show k+1<=w.n6.length;omega
     ·rw[C7 _ va5 va5];rfl
     ·show _=[Row.cells 42 (eW (AP w (jQ w.o8 (w.n6.take (k+1)))))]
      rw[<- f]<;>rfl
   ·rw[if_neg h2]at fin ct;have f:=fin _ rfl;conv=>whnf
    refine vb9 ?_;(repeat intro hh);all_goals
     refine⟨k+1,?_⟩;conv=>whnf
     refine kK ⟨⟨?_,?_⟩,?_,?_,rfl⟩
     ·show w.n6.length-(k+1)<w.n6.length-k;omega
     ·show k+1<=w.n6.length;omega
     ·rw[C7 _ va5 va5];rfl
     ·show _=[Row.cells 42 (eW (AP w (jQ w.o8 (w.n6.take (k+1)))))]
      rw[<- f]<;>rfl
 ·have h:=zA0 h;have h:¬(k:Int)<(w.n6.length:Nat):=h;have ek:w.n6.take k=w.n6:=List.take_of_length_le va5;rw[ek];conv=>whnf
  try exact rt
abbrev a0q(e:Int):AV := .agg [i64 e,i64 0,.nils]
theorem a4t(b:G3)(op:Bool)(n:Int)(x:x7):(S9 b op n x).id=x.id:=rfl
abbrev bp(w:n9):AV := .agg ((eW w).set 25 (.own 0))
abbrev rp(l:List B6):Row := .vec 76 7 n5 J6 l
theorem a4u{g:x8}(h:S6 g=true):IG g:=by
 obtain⟨h1,h2,h3,h4,_⟩:=bz h;have sp:∀ s:X2,z7 s=true->I4 s:=fun s q=>by
  unfold z7 at q;simp only[zA2]at q;have a:=(F6 _).1 q.1.1;have b:=(F6 _).1 q.1.2;refine⟨?_,?_,?_,?_⟩<;>(unfold G7;omega)
 exact⟨by unfold G7;omega,by unfold G7;omega,sp _ h3,sp _ h4⟩
theorem bd{b:o7}(g:L5 b)(i:Nat):IG (b.recipes.getD i r9).gauge:=by
 by_cases hi:i<b.recipes.length
 ·rw[x9 hi];exact a4u (g.rc _ (List.getElem_mem hi)).2.2.2.1
 ·rw[List.getD,zA7 va5];show IG ao
  have z:G7 0:=⟨va8,va8⟩
  exact⟨z,z,⟨z,z,z,z⟩,⟨z,z,z,z⟩⟩
theorem gu{a b c:AV}(h:pI b c):pI (.tup [a,b]) (.tup [a,c]):=by
 refine(nB (xs:=[a,b]) (ys:=[a,c]) rfl fun i hi=>?_).2
 match i with
 | 0=>exact .refl _
 | 1=>exact h
 | (k+2)=>exact .refl _
abbrev pwS(f:FuncId)(w:n9)(x:AV)(w':n9)(e n:Int):Prop:=va7 f [bp w,x] [rp w.n6] (.tup [bp w',.agg [i64 e,i64 n,.nils]]) [rp w.n6]
abbrev pwA(w:n9)(o:r8):Prop:=va7 81 [bp w,ord o] [rp w.n6] (.tup [bp (Q6 w o),jB (G9 w o)]) [rp (Q6 w o).n6]
theorem a2w(w:n9)(kind j8 a7 n j9:Int)(gauge:x8)(tru a8:List Int)(hk:3<=kind/\kind<=9){w':n9}{e N:Int}(c:pwS 137 w (Q2 kind j8 a7 n j9 gauge tru a8) w' e N):pwS 81 w (Q2 kind j8 a7 n j9 gauge tru a8) w' e N:=by
 refine pW Tryz.func81 ⟨va4,?_⟩;conv=>whnf
 refine vb8 ?_;(repeat intro hh);(refine va2 [] [] ?_;(conv=>whnf);refine va3 [36] c ?_);conv=>whnf
 try exact va1
theorem a0v{w:n9}{kind j8 a7 n j9:Int}{gauge:x8}{tru a8:List Int}(hk:3<=kind/\kind<=9){b:o7}{e N:Int}(h1:K0 w ⟨kind,j8,a7,n,j9,gauge,tru,a8⟩=e)(h2:od w ⟨kind,j8,a7,n,j9,gauge,tru,a8⟩=lr w b)(h3:AI w ⟨kind,j8,a7,n,j9,gauge,tru,a8⟩=N)(h4:mO w ⟨kind,j8,a7,n,j9,gauge,tru,a8⟩=[])
  (c1:e=0->pwS 137 w (Q2 kind j8 a7 n j9 gauge tru a8) (lr w b) 0 N) (c2:¬e=0->pwS 137 w (Q2 kind j8 a7 n j9 gauge tru a8) w e 0):pwA w ⟨kind,j8,a7,n,j9,gauge,tru,a8⟩:=by
 by_cases h:e=0
 ·obtain⟨e1,e2⟩:=aO (h1.trans h);unfold pwA;rw[e1,e2,h2,h3,h4];exact(a2w w kind j8 a7 n j9 gauge tru a8 hk (c1 h)).sub (gu (OZ _ _))
 ·obtain⟨e1,e2⟩:=W8 (w:=w) (o:=⟨kind,j8,a7,n,j9,gauge,tru,a8⟩) (by rw[h1];exact h);unfold pwA;rw[e1,e2,h1];exact(a2w w kind j8 a7 n j9 gauge tru a8 hk (c2 h)).sub (gu (OZ _ _))
theorem a3W(w:n9)(g:I6 w)(j8 a7 n j9:Int)(gauge:x8)(hG:IG gauge)(tru a8:List Int)(h:iq w.l9 j9=0):pwS 137 w (Q2 3 j8 a7 n j9 gauge tru a8) (lr w (tO w.l9 j9)) 0 (w.l9.p9.length:Nat):=by
 have c:=a1a w.l9 (VB g.bk) (bd g.bk) j9 h;refine pW Tryz.func137 ⟨va4,?_⟩;conv=>whnf
 try exact va1
theorem a3l(w:n9)(g:I6 w)(j8 a7 n j9:Int)(gauge:x8)(hG:IG gauge)(tru a8:List Int)(h:¬iq w.l9 j9=0):pwS 137 w (Q2 3 j8 a7 n j9 gauge tru a8) w (iq w.l9 j9) 0:=by
 have c:=a0O w.l9 (VB g.bk) (bd g.bk) j9 h;refine pW Tryz.func137 ⟨va4,?_⟩;conv=>whnf
 try exact va1
theorem a3X(w:n9)(g:I6 w)(j8 a7 n j9:Int)(gauge:x8)(hG:IG gauge)(tru a8:List Int)(h:iU w.l9 j8 gauge=0):pwS 137 w (Q2 4 j8 a7 n j9 gauge tru a8) (lr w (tQ w.l9 j8 gauge)) 0 (w.l9.recipes.length:Nat):=by
 have c:=a1D w.l9 (VB g.bk) (bd g.bk) j8 gauge hG h;refine pW Tryz.func137 ⟨va4,?_⟩;conv=>whnf
 try exact va1
theorem a3m(w:n9)(g:I6 w)(j8 a7 n j9:Int)(gauge:x8)(hG:IG gauge)(tru a8:List Int)(h:¬iU w.l9 j8 gauge=0):pwS 137 w (Q2 4 j8 a7 n j9 gauge tru a8) w (iU w.l9 j8 gauge) 0:=by
 have c:=a1r w.l9 (VB g.bk) (bd g.bk) j8 gauge hG h;refine pW Tryz.func137 ⟨va4,?_⟩;conv=>whnf
 try exact va1
theorem a3Y(w:n9)(g:I6 w)(j8 a7 n j9:Int)(gauge:x8)(hG:IG gauge)(tru a8:List Int)(h:iY w.l9 j8 a7=0):pwS 137 w (Q2 5 j8 a7 n j9 gauge tru a8) (lr w (nQ w.l9 j8 a7)) 0 0:=by
 have c:=a1e w.l9 (VB g.bk) (bd g.bk) j8 a7 h;refine pW Tryz.func137 ⟨va4,?_⟩;conv=>whnf
 try exact va1
theorem a3n(w:n9)(g:I6 w)(j8 a7 n j9:Int)(gauge:x8)(hG:IG gauge)(tru a8:List Int)(h:¬iY w.l9 j8 a7=0):pwS 137 w (Q2 5 j8 a7 n j9 gauge tru a8) w (iY w.l9 j8 a7) 0:=by
 have c:=a0R w.l9 (VB g.bk) (bd g.bk) j8 a7 h;refine pW Tryz.func137 ⟨va4,?_⟩;conv=>whnf
 try exact va1
theorem a3Z(w:n9)(g:I6 w)(j8 a7 n j9:Int)(gauge:x8)(hG:IG gauge)(tru a8:List Int)(h:dq w.l9 j8 a7=0):pwS 137 w (Q2 6 j8 a7 n j9 gauge tru a8) (lr w (fF w.l9 a7)) 0 0:=by
 have c:=a0S w.l9 (VB g.bk) (bd g.bk) j8 a7 h;refine pW Tryz.func137 ⟨va4,?_⟩;conv=>whnf
 try exact va1
theorem a3o(w:n9)(g:I6 w)(j8 a7 n j9:Int)(gauge:x8)(hG:IG gauge)(tru a8:List Int)(h:¬dq w.l9 j8 a7=0):pwS 137 w (Q2 6 j8 a7 n j9 gauge tru a8) w (dq w.l9 j8 a7) 0:=by
 have c:=a0G w.l9 (VB g.bk) (bd g.bk) j8 a7 h;refine pW Tryz.func137 ⟨va4,?_⟩;conv=>whnf
 try exact va1
theorem a30(w:n9)(g:I6 w)(j8 a7 n j9:Int)(gauge:x8)(hG:IG gauge)(tru a8:List Int)(h:iV w.l9 j8=0):pwS 137 w (Q2 7 j8 a7 n j9 gauge tru a8) (lr w (mC w.l9 (A4 w.l9.recipes))) 0 0:=by
 have c:=a1u w.l9 (VB g.bk) (bd g.bk) j8 h;refine pW Tryz.func137 ⟨va4,?_⟩;conv=>whnf
 try exact va1
theorem a3p(w:n9)(g:I6 w)(j8 a7 n j9:Int)(gauge:x8)(hG:IG gauge)(tru a8:List Int)(h:¬iV w.l9 j8=0):pwS 137 w (Q2 7 j8 a7 n j9 gauge tru a8) w (iV w.l9 j8) 0:=by
 have c:=a1f w.l9 (VB g.bk) (bd g.bk) j8 h;refine pW Tryz.func137 ⟨va4,?_⟩;conv=>whnf
 try exact va1
theorem a31(w:n9)(g:I6 w)(j8 a7 n j9:Int)(gauge:x8)(hG:IG gauge)(tru a8:List Int)(h:sA w.l9 j8 a7=0):pwS 137 w (Q2 8 j8 a7 n j9 gauge tru a8) (lr w (W0 w.l9 a7 true)) 0 0:=by
 have c:=a1b w.l9 (VB g.bk) (bd g.bk) j8 a7 h;refine pW Tryz.func137 ⟨va4,?_⟩;conv=>whnf
 try exact va1
theorem a3q(w:n9)(g:I6 w)(j8 a7 n j9:Int)(gauge:x8)(hG:IG gauge)(tru a8:List Int)(h:¬sA w.l9 j8 a7=0):pwS 137 w (Q2 8 j8 a7 n j9 gauge tru a8) w (sA w.l9 j8 a7) 0:=by
 have c:=a0Q w.l9 (VB g.bk) (bd g.bk) j8 a7 h;refine pW Tryz.func137 ⟨va4,?_⟩;conv=>whnf
 try exact va1
theorem a32(w:n9)(g:I6 w)(j8 a7 n j9:Int)(gauge:x8)(hG:IG gauge)(tru a8:List Int)(h:sB w.l9 j8 a7=0):pwS 137 w (Q2 9 j8 a7 n j9 gauge tru a8) (lr w (W0 w.l9 a7 false)) 0 0:=by
 have c:=a1s w.l9 (VB g.bk) (bd g.bk) j8 a7 h;refine pW Tryz.func137 ⟨va4,?_⟩;conv=>whnf
 try exact va1
theorem a3r(w:n9)(g:I6 w)(j8 a7 n j9:Int)(gauge:x8)(hG:IG gauge)(tru a8:List Int)(h:¬sB w.l9 j8 a7=0):pwS 137 w (Q2 9 j8 a7 n j9 gauge tru a8) w (sB w.l9 j8 a7) 0:=by
 have c:=a1c w.l9 (VB g.bk) (bd g.bk) j8 a7 h;refine pW Tryz.func137 ⟨va4,?_⟩;conv=>whnf
 try exact va1
theorem kn(w:n9)(g:I6 w)(kind j8 a7 n j9:Int)(gauge:x8)(hG:IG gauge)(tru a8:List Int)(hk:3<=kind/\kind<=9):pwA w ⟨kind,j8,a7,n,j9,gauge,tru,a8⟩:=by
 have cs:kind=3∨kind=4∨kind=5∨kind=6∨kind=7∨kind=8∨kind=9:=by omega
 rcases cs with rfl|rfl|rfl|rfl|rfl|rfl|rfl
 ·exact a0v hk (b:=tO w.l9 j9) (N:=(w.l9.p9.length:Nat)) rfl rfl rfl rfl (a3W w g j8 a7 n j9 gauge hG tru a8) (a3l w g j8 a7 n j9 gauge hG tru a8)
 ·exact a0v hk (b:=tQ w.l9 j8 gauge) (N:=(w.l9.recipes.length:Nat)) rfl rfl rfl rfl (a3X w g j8 a7 n j9 gauge hG tru a8) (a3m w g j8 a7 n j9 gauge hG tru a8)
 ·exact a0v hk (b:=nQ w.l9 j8 a7) (N:=0) rfl rfl rfl rfl (a3Y w g j8 a7 n j9 gauge hG tru a8) (a3n w g j8 a7 n j9 gauge hG tru a8)
 ·exact a0v hk (b:=fF w.l9 a7) (N:=0) rfl rfl rfl rfl (a3Z w g j8 a7 n j9 gauge hG tru a8) (a3o w g j8 a7 n j9 gauge hG tru a8)
 ·exact a0v hk (b:=mC w.l9 (A4 w.l9.recipes)) (N:=0) rfl rfl rfl rfl (a30 w g j8 a7 n j9 gauge hG tru a8) (a3p w g j8 a7 n j9 gauge hG tru a8)
 ·exact a0v hk (b:=W0 w.l9 a7 true) (N:=0) rfl rfl rfl rfl (a31 w g j8 a7 n j9 gauge hG tru a8) (a3q w g j8 a7 n j9 gauge hG tru a8)
 ·exact a0v hk (b:=W0 w.l9 a7 false) (N:=0) rfl rfl rfl rfl (a32 w g j8 a7 n j9 gauge hG tru a8) (a3r w g j8 a7 n j9 gauge hG tru a8)

end Go.Proofs.Tryz.My
