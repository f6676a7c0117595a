/- Helper lemmas. -/
import Derived.Test.YtdpnpdjnaimgaaaGreatMzWxF
set_option linter.unusedVariables false
set_option linter.unusedSimpArgs false
set_option maxRecDepth 100000
set_option maxHeartbeats 0
namespace Go.Proofs.Tryz.My
open Go Go.Ev
theorem a2y(w:n9)(g:I6 w)(hI:G7 w.o8.n8.step)(kind j8 a7 n j9:Int)(gauge:x8)(tru a8:List Int)(ht:tru.length<2^40)(hn:a8.length<2^40)(h:¬jR w ⟨kind,j8,a7,n,j9,gauge,tru,a8⟩=0) :
  va7 135 [bp w,Q2 kind j8 a7 n j9 gauge tru a8] [rp w.n6] (.tup [bp w,a0q (jR w ⟨kind,j8,a7,n,j9,gauge,tru,a8⟩)]) [rp w.n6]:=by
 unfold jR at h ⊢;simp only[]at h ⊢;have c0:=u5 n 0 w.line.n8.len;have c1:=r6 tru ht;have c2:=a1R tru a8 ht hn;by_cases hN:0<=n/\n<=w.line.n8.len
 ·rw[zA4 hN.1,zA4 hN.2]at c0;by_cases ho:fJ tru a8
  ·rw[if_neg (fun q=>q ⟨ho,hN⟩)]at h ⊢;obtain⟨h1,h2,h3⟩:=ho;rw[h1]at c1;rw[zA4 h2,h3]at c2;by_cases ha:w.drift.alarm=true
   ·rw[if_pos ha];refine pW Tryz.func135 ⟨va4,?_⟩;conv=>whnf
    try exact va1
   ·rw[if_neg ha]at h ⊢;have ha:w.drift.alarm=false:=by simpa using ha
    have c3:=a1H w.o8 hI (L3.2 g.tk) h;generalize nY w.o8=e at h c3;refine pW Tryz.func135 ⟨va4,?_⟩;conv=>whnf
    try exact va1
  ·rw[if_pos (fun q=>ho q.1)];cases h1:L2 tru with
   | false =>
    rw[h1]at c1;refine pW Tryz.func135 ⟨va4,?_⟩;conv=>whnf
    try exact va1
   | true =>
    rw[h1]at c1;have e:(decide (tru.length=a8.length) && !a8.any lk)=false:=by
     cases q:(decide (tru.length=a8.length) && !a8.any lk)with
     | false=>rfl
     | true =>
      rw[zA2,zA3]at q;exact absurd ⟨h1,q.1,by simpa using q.2⟩ ho
    rw[e]at c2;refine pW Tryz.func135 ⟨va4,?_⟩;conv=>whnf
    try exact va1
 ·rw[if_pos (fun q=>hN q.2)];have e1:(decide (0<=n) && decide (n<=w.line.n8.len))=false:=by rw[<- Bool.decide_and,zA5 hN]
  rw[e1]at c0;refine pW Tryz.func135 ⟨va4,?_⟩;conv=>whnf
  try exact va1
theorem a2Q(w:n9)(g:I6 w)(hb:G8 w.l9)(hI:G7 w.o8.n8.step)(hA:G7 w.line.al.1/\G7 w.line.al.2)(hG:∀ i,IG (w.l9.recipes.getD i r9).gauge)(kind j8 a7 n j9:Int)(gauge:x8)(tru a8:List Int)(h:jR w ⟨kind,j8,a7,n,j9,gauge,tru,a8⟩=0) :
  va7 135 [bp w,Q2 kind j8 a7 n j9 gauge tru a8] [rp w.n6] (.tup [a0K (jc w ⟨kind,j8,a7,n,j9,gauge,tru,a8⟩),.agg [i64 0,i64 w.o8.next,.nils]]) [.none,rp (jc w ⟨kind,j8,a7,n,j9,gauge,tru,a8⟩).n6]:=by
 obtain⟨ho,h2,h3,h4⟩:=fP h;have ho:fJ tru a8:=ho;have h2:0<=n/\n<=w.line.n8.len:=h2;have Cl:(H4 tru a8).length<2^20:=by rw[aF];have:=M0 ho.1;omega
 have pB:=M0 ho.1;have c6:=a3c tru a8 ho.2.1 va5 (zV ho.1) ho.2.2;have c0:=u5 n 0 w.line.n8.len;have c1:=r6 tru va5;have c2:=a1R tru a8 va5 (by rw[<- ho.2.1];omega);rw[zA4 h2.1,zA4 h2.2]at c0;rw[ho.1]at c1;rw[zA4 ho.2.1,ho.2.2]at c2;have c3:=a3i w.o8 hI (L3.2 g.tk) h4;have w1:IntKind.i64.wrap (w.o8.count+w.line.lag)=w.o8.count+w.line.lag:=C7 _ (by have:=g.tk.ct;have:=xZ g.ln;omega) (by have:=g.tk.ct;have:=xZ g.ln;omega);have Pv:w.n6.length<=32:=by rw[g.lt];exact g.tk.ln
 by_cases hr:sR w ⟨kind,j8,a7,n,j9,gauge,tru,a8⟩
 ·have c4:va6 184 [au w.l9,i64 w.o8.next,C8 (H4 tru a8)] (.tup [au (pM w.l9 w.o8.next (H4 tru a8)),.agg [i64 w.l9.next,i64 (A4 w.l9.recipes),i64 w.o8.next,C8 (H4 tru a8),u8 (F8 (gK w.l9) (H4 tru a8)).2.1,.ff],i64 0]):=a1t w.l9 hb hG w.o8.next (H4 tru a8) Cl hr;have e:jc w ⟨kind,j8,a7,n,j9,gauge,tru,a8⟩=⟨w.line,ue w.o8,pM w.l9 w.o8.next (H4 tru a8),sQ w.line (jb w.drift) (!decide ((F8 (gK w.l9) (H4 tru a8)).2.1=1)),w.n6++[⟨w.o8.next,0,n,(F8 (gK w.l9) (H4 tru a8)).2.1,IntKind.i64.wrap (w.o8.count+w.line.lag),w.l9.next,false⟩]⟩:=by
   unfold jc;rw[if_pos hr,w1];rfl
  rw[e];clear e;generalize (F8 (gK w.l9) (H4 tru a8)).2.1=V at c4 ⊢;generalize pM w.l9 w.o8.next (H4 tru a8)=B at c4 ⊢;have hT:=(K3 g.ln).2.2;by_cases hd:w.drift.rounds=500
  ·have c5:va6 186 [VC w.line,.agg [i64 0,i64 0,.ff],.bool (!decide (V=1))] (.tup [.agg (eQ (sQ w.line X3 (!decide (V=1)))),i64 0]):=by
    refine(a2t w.line hT hA X3 jC va8 (!decide (V=1))).sub rfl (fun i hi=>?_) (.refl _)
    match i with
    | 0=>exact .refl _
    | 1 =>
     refine(Y0 (xs:=[i64 0,i64 0,.ff]) (ys:=[i64 0,i64 0,.bool false]) rfl fun j hj=>?_).1
     match j with
     | 0=>exact .refl _
     | 1=>exact .refl _
     | 2=>exact Dp
     | (m+3)=>exact .refl _
    | 2=>exact .refl _
    | (m+3)=>exact .refl _
   have ed:jb w.drift=X3:=by unfold jb;rw[if_pos hd]
   rw[ed];refine pW Tryz.func135 ⟨va4,?_⟩;conv=>whnf
   refine vb9 ?_;(repeat intro hh);refine⟨⟨B6,7,n5,J6,w.n6⟩,[⟨w.o8.next,0,n,V,IntKind.i64.wrap (w.o8.count+w.line.lag),w.l9.next,false⟩],rfl,rfl,⟨rfl,rfl⟩,?_,?_,fun y _=>⟨rfl,rfl,rfl⟩,?_⟩
   ·show(w.n6.length+1)*56<=_;omega
   ·show w.n6.length+1<=_;omega
   refine vc0 ?_;(repeat intro hh);refine⟨[112],va4,?_⟩;conv=>whnf
   exact⟨rfl,rfl⟩
  ·have c5:=a2t w.line hT hA w.drift g.df hd (!decide (V=1));have ed:jb w.drift=w.drift:=by unfold jb;rw[if_neg hd]
   rw[ed];refine pW Tryz.func135 ⟨va4,?_⟩;conv=>whnf
   refine vb9 ?_;(repeat intro hh);refine⟨⟨B6,7,n5,J6,w.n6⟩,[⟨w.o8.next,0,n,V,IntKind.i64.wrap (w.o8.count+w.line.lag),w.l9.next,false⟩],rfl,rfl,⟨rfl,rfl⟩,?_,?_,fun y _=>⟨rfl,rfl,rfl⟩,?_⟩
   ·show(w.n6.length+1)*56<=_;omega
   ·show w.n6.length+1<=_;omega
   refine vc0 ?_;(repeat intro hh);refine⟨[112],va4,?_⟩;conv=>whnf
   exact⟨rfl,rfl⟩
 ·have c4:=a1d w.l9 hb hG w.o8.next (H4 tru a8) Cl hr;have e:jc w ⟨kind,j8,a7,n,j9,gauge,tru,a8⟩=⟨w.line,ue w.o8,w.l9,w.drift,w.n6++[⟨w.o8.next,0,n,0,IntKind.i64.wrap (w.o8.count+w.line.lag),-1,false⟩]⟩:=by
   unfold jc UG;rw[if_neg hr,w1]
  rw[e];clear e;have hr:¬nS w.l9 w.o8.next (H4 tru a8)=0:=hr;generalize nS w.l9 w.o8.next (H4 tru a8)=e at c4 hr;refine pW Tryz.func135 ⟨va4,?_⟩;conv=>whnf
  refine vb9 ?_;(repeat intro hh);refine⟨⟨B6,7,n5,J6,w.n6⟩,[⟨w.o8.next,0,n,0,IntKind.i64.wrap (w.o8.count+w.line.lag),-1,false⟩],rfl,rfl,⟨rfl,rfl⟩,?_,?_,fun y _=>⟨rfl,rfl,rfl⟩,?_⟩
  ·show(w.n6.length+1)*56<=_;omega
  ·show w.n6.length+1<=_;omega
  refine vc0 ?_;(repeat intro hh);refine⟨[112],va4,?_⟩;conv=>whnf
  exact⟨rfl,rfl⟩
theorem a33{xs:List AV}{j:Nat}{a b:AV}(h:pI a b):pI (.agg (xs.set j a)) (.agg (xs.set j b)):=by
 refine(nB (xs:=xs.set j a) (ys:=xs.set j b) va9 fun i hi=>?_).1;simp only[List.getD,List.getElem?_set];split
 ·split
  ·exact h
  ·exact .refl _
 ·exact .refl _
theorem a3s{a b:AV}{l:List AV}(h:pI a b):pI (.tup (a :: l)) (.tup (b :: l)):=by
 refine(nB (xs:=a :: l) (ys:=b :: l) rfl fun i hi=>?_).2;cases i with
 | zero=>exact h
 | succ n=>exact .refl _
theorem a3t(w:n9)(hl:w.l9.p9.length<2^20)(j8:Int):va7 136 [bp w,i64 j8] [rp w.n6] (.tup [bp (if oa w j8=0 then Dz w else w),a0q (oa w j8)]) [rp w.n6]:=by
 have w1:IntKind.i64.wrap ((w.l9.p9.length:Int)-1)=(w.l9.p9.length:Int)-1:=C7 _ va5 va5;have c1:=u5 j8 0 (IntKind.i64.wrap ((w.l9.p9.length:Int)-1));by_cases h1:0<=j8/\j8<=(w.l9.p9.length:Int)-1
 ·have e1:(decide (0<=j8) && decide (j8<=IntKind.i64.wrap ((w.l9.p9.length:Int)-1)))=true:=by rw[w1,zA4 h1.1,zA4 h1.2];rfl
  rw[e1]at c1;by_cases h2:w.l9.p9.getD j8.toNat 0=3
  ·have hr:oa w j8=0:=by unfold oa;rw[if_neg (fun f=>f h1),if_neg (fun f=>f h2)]
   rw[hr,if_pos rfl];refine PW.sub (res := .tup [.agg (((eW (Dz w)).set 25 (.own 0)).set 24 .ff),a0q 0]) ?_ (a3s (a33 (xs:=(eW (Dz w)).set 25 (.own 0)) (j:=24) .ff));refine pW Tryz.func136 ⟨va4,?_⟩;conv=>whnf
   try exact rt
  ·have hr:oa w j8=100:=by unfold oa;rw[if_neg (fun f=>f h1),if_pos h2]
   rw[hr,if_neg va8];refine pW Tryz.func136 ⟨va4,?_⟩;conv=>whnf
   try exact rt
 ·have hr:oa w j8=6:=by unfold oa;rw[if_pos h1]
  rw[hr,if_neg va8];have e1:(decide (0<=j8) && decide (j8<=IntKind.i64.wrap ((w.l9.p9.length:Int)-1)))=false:=by
   rw[w1];cases h:(decide (0<=j8) && decide (j8<=(w.l9.p9.length:Int)-1))
   ·rfl
   ·rw[zA2,zA3,zA3]at h;exact absurd h h1
  rw[e1]at c1;refine pW Tryz.func136 ⟨va4,?_⟩;conv=>whnf
  try exact rt
theorem a2z(w:n9)(g:I6 w)(n:Int)(h:¬ir w n=0):va7 134 [bp w,i64 n] [rp w.n6] (.tup [bp w,a0q (ir w n)]) [rp w.n6]:=by
 have bl:=G1.1 g.tk.bl;rw[g.bl]at bl;have wa:IntKind.i64.wrap (w.line.n8.step-w.line.n8.A0)=w.line.n8.step-w.line.n8.A0:=C7 _ va5 va5;have wb:IntKind.i64.wrap (w.line.n8.step+w.line.n8.A0)=w.line.n8.step+w.line.n8.A0:=C7 _ va5 va5;have c1:=u5 n (IntKind.i64.wrap (w.line.n8.step-w.line.n8.A0)) (IntKind.i64.wrap (w.line.n8.step+w.line.n8.A0));by_cases h1:w.line.n8.step-w.line.n8.A0<=n/\n<=w.line.n8.step+w.line.n8.A0
 ·have e1:(decide (IntKind.i64.wrap (w.line.n8.step-w.line.n8.A0)<=n) && decide (n<=IntKind.i64.wrap (w.line.n8.step+w.line.n8.A0)))=true:=by rw[wa,wb,zA4 h1.1,zA4 h1.2];rfl
  rw[e1]at c1;by_cases h2:w.o8.count=1099511627776
  ·have er:ir w n=9:=by unfold ir;rw[if_neg (fun q=>q h1),if_pos h2]
   rw[er];refine pW Tryz.func134 ⟨va4,?_⟩;conv=>whnf
   try exact va1
  ·exact absurd (by unfold ir;rw[if_neg (fun q=>q h1),if_neg h2]) h
 ·have er:ir w n=2:=by unfold ir;rw[if_pos h1]
  have e1:(decide (IntKind.i64.wrap (w.line.n8.step-w.line.n8.A0)<=n) && decide (n<=IntKind.i64.wrap (w.line.n8.step+w.line.n8.A0)))=false:=by
   rw[wa,wb,<- Bool.decide_and,zA5 h1]
  rw[e1]at c1;rw[er];refine pW Tryz.func134 ⟨va4,?_⟩;conv=>whnf
  try exact va1
def is2(i:Nat):Bool:=Nat.beq i 2
theorem a34(w:n9)(g:I6 w)(hI:G7 w.o8.n8.step)(n:Int)(h:ir w n=0):va7 134 [bp w,i64 n] [rp w.n6] (.tup [a0K (X4 w n),.agg [i64 0,i64 (w.o8.count+1),n7 (aH w n)]]) [.none,rp (X4 w n).n6]:=by
 have k2:=(ak g).2.2.1;rw[<- k2];by_cases hg:N2 (v8 w)=true
 ·exact((a2x w g hI n h hg).frz is2 rfl).rows fun k=>by
   match k with
   | 0=>rfl
   | 1=>rfl
   | 2=>rfl
   | (k+3)=>rfl
 ·exact((a2P w g hI n h hg).frz is2 rfl).rows fun k=>by
   match k with
   | 0=>rfl
   | 1=>rfl
   | 2=>rfl
   | (k+3)=>rfl
theorem a3u(w w':n9)(e:Int)(j8 a7 n j9:Int)(gauge:x8)(tru a8:List Int)(c:va7 134 [bp w,i64 n] [rp w.n6] (.tup [bp w',a0q e]) [rp w.n6]) :
  va7 81 [bp w,Q2 1 j8 a7 n j9 gauge tru a8] [rp w.n6] (.tup [bp w',a0q e]) [rp w.n6]:=by
 refine pW Tryz.func81 ⟨va4,?_⟩;conv=>whnf
 refine vb8 ?_;(repeat intro hh);(refine va2 [] [] ?_;(conv=>whnf);refine va3 [36] c ?_);conv=>whnf
 try exact va1
theorem a3v(w w':n9)(N:Int)(l:List V5)(j8 a7 n j9:Int)(gauge:x8)(tru a8:List Int)(c:va7 134 [bp w,i64 n] [rp w.n6] (.tup [a0K w',.agg [i64 0,i64 N,n7 l]]) [.none,rp w'.n6]) :
  va7 81 [bp w,Q2 1 j8 a7 n j9 gauge tru a8] [rp w.n6] (.tup [a0K w',.agg [i64 0,i64 N,n7 l]]) [.none,rp w'.n6]:=by
 refine pW Tryz.func81 ⟨va4,?_⟩;conv=>whnf
 refine vb8 ?_;(repeat intro hh);(refine va2 [] [13] ?_;(conv=>whnf);refine va3 [36] c ?_);conv=>whnf
 refine⟨[13],va4,?_⟩;conv=>whnf
 exact⟨rfl,rfl⟩
theorem a3w(w w':n9)(e:Int)(j8 a7 n j9:Int)(gauge:x8)(tru a8:List Int)(c:va7 135 [bp w,Q2 2 j8 a7 n j9 gauge tru a8] [rp w.n6] (.tup [bp w',a0q e]) [rp w.n6]) :
  va7 81 [bp w,Q2 2 j8 a7 n j9 gauge tru a8] [rp w.n6] (.tup [bp w',a0q e]) [rp w.n6]:=by
 refine pW Tryz.func81 ⟨va4,?_⟩;conv=>whnf
 refine vb8 ?_;(repeat intro hh);(refine va2 [] [] ?_;(conv=>whnf);refine va3 [36] c ?_);conv=>whnf
 try exact va1
theorem a3x(w w':n9)(N:Int)(j8 a7 n j9:Int)(gauge:x8)(tru a8:List Int)(c:va7 135 [bp w,Q2 2 j8 a7 n j9 gauge tru a8] [rp w.n6] (.tup [a0K w',.agg [i64 0,i64 N,.nils]]) [.none,rp w'.n6]) :
  va7 81 [bp w,Q2 2 j8 a7 n j9 gauge tru a8] [rp w.n6] (.tup [a0K w',.agg [i64 0,i64 N,.nils]]) [.none,rp w'.n6]:=by
 refine pW Tryz.func81 ⟨va4,?_⟩;conv=>whnf
 refine vb8 ?_;(repeat intro hh);(refine va2 [] [20] ?_;(conv=>whnf);refine va3 [36] c ?_);conv=>whnf
 refine⟨[20],va4,?_⟩;conv=>whnf
 exact⟨rfl,rfl⟩
theorem a1z(w w':n9)(e:Int)(j8 a7 n j9:Int)(gauge:x8)(tru a8:List Int)(c:va7 136 [bp w,i64 j8] [rp w.n6] (.tup [bp w',a0q e]) [rp w.n6]) :
  va7 81 [bp w,Q2 10 j8 a7 n j9 gauge tru a8] [rp w.n6] (.tup [bp w',a0q e]) [rp w.n6]:=by
 refine pW Tryz.func81 ⟨va4,?_⟩;conv=>whnf
 refine vb8 ?_;(repeat intro hh);(refine va2 [] [] ?_;(conv=>whnf);refine va3 [36] c ?_);conv=>whnf
 try exact va1
theorem a4p(w:n9)(o:G8 w.l9)(j8 a7 n j9:Int)(gauge:x8)(tru a8:List Int):va7 81 [bp w,Q2 10 j8 a7 n j9 gauge tru a8] [rp w.n6] (.tup [bp (Q6 w ⟨10,j8,a7,n,j9,gauge,tru,a8⟩),jB (G9 w ⟨10,j8,a7,n,j9,gauge,tru,a8⟩)]) [rp (Q6 w ⟨10,j8,a7,n,j9,gauge,tru,a8⟩).n6]:=by
 have e:K0 w ⟨10,j8,a7,n,j9,gauge,tru,a8⟩=oa w j8:=rfl;have c:=a3t w o.u j8;by_cases h:oa w j8=0
 ·obtain⟨e1,e2⟩:=aO (e.trans h);rw[e1,e2];rw[if_pos h,h]at c;exact(a1z w (Dz w) _ j8 a7 n j9 gauge tru a8 c).sub (gu (OZ _ _))
 ·obtain⟨e1,e2⟩:=W8 (show ¬K0 w ⟨10,j8,a7,n,j9,gauge,tru,a8⟩=0 by rw[e];exact h);rw[e1,e2,e];rw[if_neg h]at c;exact(a1z w w _ j8 a7 n j9 gauge tru a8 c).sub (gu (OZ _ _))
theorem a35(w:n9)(g:I6 w)(hI:G7 w.o8.n8.step)(o:r8)(hG:IG o.gauge)(ho:B2 o=true)(ht:o.tru.length<2^40)(hn:o.a8.length<2^40)(h:oD w o=true):va7 81 [bp w,ord o] [rp w.n6] (.tup [bp (Q6 w o),jB (G9 w o)]) [rp (Q6 w o).n6]:=by
 have hk:1<=o.kind/\o.kind<=10:=by
  unfold B2 at ho;simp only[zA2,zA3]at ho;exact ho.1.1
 have hs:¬(K0 w o=0/\o.kind<=2):=by
  intro q;unfold oD at h;rw[zA4 q.1,zA4 q.2]at h;cases h
 have hb:=VB g.bk;obtain⟨kind,j8,a7,n,j9,gauge,tru,a8⟩:=o;simp only[]at hk ht hn hs hG;have cs:kind=1∨kind=2∨kind=3∨kind=4∨kind=5∨kind=6∨kind=7∨kind=8∨kind=9∨kind=10:=by omega
 rcases cs with rfl|rfl|rfl|rfl|rfl|rfl|rfl|rfl|rfl|rfl
 ·have he:¬K0 w ⟨1,j8,a7,n,j9,gauge,tru,a8⟩=0:=fun q=>hs ⟨q,va8⟩
  have e:K0 w ⟨1,j8,a7,n,j9,gauge,tru,a8⟩=ir w n:=rfl;obtain⟨e1,e2⟩:=W8 he;rw[e1,e2,e];exact(a3u w w _ j8 a7 n j9 gauge tru a8 (a2z w g n he)).sub (gu (OZ _ _))
 ·have he:¬K0 w ⟨2,j8,a7,n,j9,gauge,tru,a8⟩=0:=fun q=>hs ⟨q,va8⟩
  have e:K0 w ⟨2,j8,a7,n,j9,gauge,tru,a8⟩=jR w ⟨2,j8,a7,n,j9,gauge,tru,a8⟩:=rfl;obtain⟨e1,e2⟩:=W8 he;rw[e1,e2,e];exact(a3w w w _ j8 a7 n j9 gauge tru a8 (a2y w g hI 2 j8 a7 n j9 gauge tru a8 ht hn he)).sub (gu (OZ _ _))
 ·exact kn w g 3 j8 a7 n j9 gauge hG tru a8 va8
 ·exact kn w g 4 j8 a7 n j9 gauge hG tru a8 va8
 ·exact kn w g 5 j8 a7 n j9 gauge hG tru a8 va8
 ·exact kn w g 6 j8 a7 n j9 gauge hG tru a8 va8
 ·exact kn w g 7 j8 a7 n j9 gauge hG tru a8 va8
 ·exact kn w g 8 j8 a7 n j9 gauge hG tru a8 va8
 ·exact kn w g 9 j8 a7 n j9 gauge hG tru a8 va8
 ·exact a4p w hb j8 a7 n j9 gauge tru a8
theorem a36(w:n9)(g:I6 w)(hI:G7 w.o8.n8.step)(hA:G7 w.line.al.1/\G7 w.line.al.2)(o:r8)(ho:B2 o=true)(h:oD w o=false):va7 81 [bp w,ord o] [rp w.n6] (.tup [a0K (Q6 w o),jB (G9 w o)]) [.none,rp (Q6 w o).n6]:=by
 have hk:1<=o.kind/\o.kind<=10:=by
  unfold B2 at ho;simp only[zA2,zA3]at ho;exact ho.1.1
 have hs:K0 w o=0/\o.kind<=2:=by
  unfold oD at h;simpa using h
 obtain⟨kind,j8,a7,n,j9,gauge,tru,a8⟩:=o;simp only[]at hk hs;have cs:kind=1∨kind=2:=by omega
 rcases cs with rfl|rfl
 ·obtain⟨e1,e2⟩:=aO hs.1;rw[e1,e2];exact a3v w (X4 w n) _ _ j8 a7 n j9 gauge tru a8 (a34 w g hI n hs.1)
 ·obtain⟨e1,e2⟩:=aO hs.1;rw[e1,e2];exact(a3x w (jc w ⟨2,j8,a7,n,j9,gauge,tru,a8⟩) _ j8 a7 n j9 gauge tru a8 (a2Q w g (VB g.bk) hI hA (bd g.bk) 2 j8 a7 n j9 gauge tru a8 hs.1)).sub (gu (OZ _ _))
theorem a4v{w:n9}(g:I6 w):G7 w.o8.n8.step/\(G7 w.line.al.1/\G7 w.line.al.2):=by
 have bl:=G1.1 g.tk.bl;have lm:=(Ok.1 (Ld.1 (K3 g.ln).2.2).2).2;refine⟨?_,?_,?_⟩<;>(unfold G7;omega)
theorem a37(l:A5):pV (Fp l) (.agg ((eW (I8 l)).set 25 .nils)):=by
 refine(Y0 (xs:=[i64 l.n8.step,i64 l.n8.A0,i64 l.n8.y9,i64 l.n8.len,i64 l.lag,i64 l.keep,i64 l.p,i64 l.q,i64 l.al.1,i64 l.al.2,i64 l.n8.step,i64 l.n8.A0,i64 l.n8.y9,i64 l.n8.len,i64 0,i64 0,.nils,i64 l.keep,.nils,.nils,i64 0,.nils,i64 0,i64 0,.ff,.nils]) (ys:=(eW (I8 l)).set 25 .nils) rfl fun i hi=>?_).1
 match i with
 | 0|1|2|3|4|5|6|7|8|9|10|11|12|13|14|15=>exact .refl _
 | 16=>exact .nils _ _ _
 | 17=>exact .refl _
 | 18=>exact .nils _ _ _
 | 19=>exact .nils _ _ _
 | 20=>exact .refl _
 | 21=>exact .nils _ _ _
 | 22|23=>exact .refl _
 | 24=>exact Dp
 | 25=>exact .refl _
 | (n+26)=>exact .refl _
theorem a4q(l:A5)(hI:BY l)(h:J3 l=0):va6 17 [jP l] (.tup [.agg ((eW (I8 l)).set 25 .nils),i64 0]):=by
 refine(a0T l hI h).sub rfl (fun i hi => .refl _) (Y0 (xs:=[Fp l,i64 0]) (ys:=[.agg ((eW (I8 l)).set 25 .nils),i64 0]) rfl fun i hi=>?_).2
 match i with
 | 0=>exact a37 l
 | 1=>exact .refl _
 | (n+2)=>exact .refl _
theorem a1I(l:A5)(os:List r8)(hI:BY l)(h:¬J3 l=0):va6 44 [jP l,cG os] (BG (J3 l)):=by
 have c1:=a1G l hI h;generalize J3 l=e at *
 refine pF Tryz.func44 ?_;conv=>whnf
 try exact va1
 all_goals rfl
theorem a1J(l:A5)(os:List r8)(hI:BY l)(h:J3 l=0)(hle:500<os.length):va6 44 [jP l,cG os] (BG 4):=by
 have c1:=a0T l hI h;refine pF Tryz.func44 ?_;conv=>whnf
 try exact va1
 all_goals rfl
theorem a2f(l:A5)(os:List r8)(hI:BY l)(h:J3 l=0)(hle:os.length<=500)(hk:∀ i,OkayO (os.getD i B7))(hv:¬os.all B2=true):va6 44 [jP l,cG os] (BG 2):=by
 have c1:=a0T l hI h;refine pF Tryz.func44 ?_;conv=>whnf
 refine vb7 ?_;(repeat intro hh);refine Or.inr ⟨Nat,[9],[],[],fun k=>[i64 k],fun _=>[],fun _=>[],fun k=>os.length-k,fun k=>k<=os.length/\∀ j,j<k->B2 (os.getD j B7)=true,?_⟩;conv=>whnf
 refine⟨⟨0,?_⟩,?_⟩
 ·(conv=>whnf);exact kK ⟨⟨zB4 _,fun j hj=>absurd hj (zB3 j)⟩,rfl,rfl,rfl⟩
 rintro k ⟨Pl,ho⟩;have c2:=ug (os.getD k B7) (hk k).t (hk k).n;conv=>whnf
 refine⟨fun q=>?_,fun q=>?_⟩
 ·have q:=zA1 q;have L7:k<os.length:=by omega
  cases hq:B2 (os.getD k B7)
  ·rw[hq]at c2;conv=>whnf
   try exact rt
   all_goals rfl
  ·rw[hq]at c2;conv=>whnf
   refine vb9 ?_;(repeat intro hh);refine⟨k+1,?_⟩;conv=>whnf
   refine kK ⟨⟨?_,?_,fun j hj=>?_⟩,?_,rfl,rfl⟩
   ·show os.length-(k+1)<os.length-k;omega
   ·show k+1<=os.length;omega
   ·by_cases e:j=k
    ·subst e;exact hq
    ·exact ho j (by have hj:j<k+1:=hj;omega)
   ·rw[C7 _ va5 va5];rfl
 ·have q:=zA0 q;refine(hv (List.all_eq_true.2 fun o hm=>?_)).elim;obtain⟨j,hj,e⟩:=List.getElem_of_mem hm;have:=ho j va5;rwa[x9 hj,e]at this
abbrev dkR(w:n9):List AV:=(eW w).set 25 (.own 16)
abbrev thR:Nat:=16+65536*(1+7+4096*25)
theorem a38(l:A5)(os:List r8)(hI:BY l)(h:J3 l=0)(hle:os.length<=500)(hk:∀ i,OkayO (os.getD i B7))(hG:∀ i,IG (os.getD i B7).gauge)(hv:os.all B2=true):va6 44 [jP l,cG os] (.tup [eR (N3 (I8 l) os),XE (bY (I8 l) os),i64 0]):=by
 have c1:=a4q l hI h;have g0:=vM h;have vo:∀ k,k<os.length->B2 (os.getD k B7)=true:=fun k hk=>by
  rw[x9 hk];exact List.all_eq_true.1 hv _ (List.getElem_mem hk)
 have e0:(I8 l).n6=[]:=rfl;generalize SK:I8 l=w0 at *
 refine pF Tryz.func44 ?_;conv=>whnf
 refine vb7 ?_;(repeat intro hh);refine Or.inr ⟨Nat,[9],[],[],fun k=>[i64 k],fun _=>[],fun _=>[],fun k=>os.length-k,fun k=>k<=os.length,?_⟩;conv=>whnf
 refine⟨⟨0,?_⟩,?_⟩
 ·(conv=>whnf);exact kK ⟨zB4 _,rfl,rfl,rfl⟩
 intro k Pl;conv=>whnf
 refine⟨fun q=>?_,fun q=>?_⟩
 ·have q:=zA1 q;have L7:k<os.length:=by omega
  have c2:=ug (os.getD k B7) (hk k).t (hk k).n;rw[vo k L7]at c2;conv=>whnf
  refine vb9 ?_;(repeat intro hh);refine⟨k+1,?_⟩;conv=>whnf
  refine kK ⟨⟨?_,?_⟩,?_,rfl,rfl⟩
  ·show os.length-(k+1)<os.length-k;omega
  ·show k+1<=os.length;omega
  ·rw[C7 _ va5 va5];rfl
 ·clear q Pl;conv=>whnf
  refine vb6 ?_;(repeat intro hh);refine Or.inr ⟨Nat,[11],[7,16],[(thR,⟨B6,76,7,n5,J6⟩),(10,⟨bX,66,3,Y1,xX⟩)],fun k=>[i64 k],fun k=>[.cells 42 (dkR (N3 w0 (os.take k))),.vec 76 7 n5 J6 (N3 w0 (os.take k)).n6],fun k=>[.none,.vec 66 3 Y1 xX (bY w0 (os.take k))],fun k=>os.length-k,fun k=>k<=os.length,?_⟩;conv=>whnf
  refine⟨⟨0,?_⟩,?_⟩
  ·(conv=>whnf);refine kK ⟨zB4 _,rfl,?_,rfl⟩;first|rfl|(show _=[Row.cells 42 (dkR w0),Row.vec 76 7 n5 J6 w0.n6];rw[e0]<;>rfl)
  intro k Pl;conv=>whnf
  refine⟨fun q=>?_,fun q=>?_⟩
  ·have q:=zA1 q;have L7:k<os.length:=by omega
   have gk:=mU (os.take k) g0;have sw:=fS (os.getD k B7) (os.take k) w0;have sa:=vL (os.getD k B7) (os.take k) w0;rw[<- bJ L7]at sw sa;have la:=jh (os.take k) w0;rw[zB1]at la;generalize N3 w0 (os.take k)=u at gk sw sa;generalize bY w0 (os.take k)=A at sa la;obtain⟨i1,i2⟩:=a4v gk;by_cases hs:oD u (os.getD k B7)=true
   ·have c4:=a35 u gk i1 (os.getD k B7) (hG k) (vo k L7) (hk k).t (hk k).n hs;conv=>whnf
    refine vc0 ?_;(repeat intro hh);refine Or.inr ⟨false,[16],_,_,_,_,⟨c4,rfl,rfl,va4⟩,?_⟩;conv=>whnf
    refine vc0 ?_;(repeat intro hh);refine⟨⟨bX,3,Y1,xX,A⟩,[G9 u (os.getD k B7)],rfl,rfl,⟨rfl,rfl⟩,?_,?_,fun y _=>⟨rfl,rfl,rfl⟩,?_⟩
    ·show(A.length+1)*40<=_;omega
    ·show A.length+1<=_;omega
    conv=>whnf
    refine⟨k+1,?_⟩;conv=>whnf
    refine kK ⟨⟨?_,?_⟩,?_,?_,?_⟩
    ·show os.length-(k+1)<os.length-k;omega
    ·show k+1<=os.length;omega
    ·rw[C7 _ va5 va5];rfl
    ·show _=[Row.cells 42 (dkR (N3 w0 (os.take (k+1)))),Row.vec 76 7 n5 J6 (N3 w0 (os.take (k+1))).n6]
     rw[sw]<;>rfl
    ·show _=[Row.none,Row.vec 66 3 Y1 xX (bY w0 (os.take (k+1)))]
     rw[sa]<;>rfl
   ·have c4:=a36 u gk i1 i2 (os.getD k B7) (vo k L7) (by simpa using hs);conv=>whnf
    refine vc0 ?_;(repeat intro hh);refine Or.inr ⟨true,[16],_,_,_,_,⟨c4,rfl,rfl,va4⟩,?_⟩;conv=>whnf
    refine vc0 ?_;(repeat intro hh);refine⟨⟨bX,3,Y1,xX,A⟩,[G9 u (os.getD k B7)],rfl,rfl,⟨rfl,rfl⟩,?_,?_,fun y _=>⟨rfl,rfl,rfl⟩,?_⟩
    ·show(A.length+1)*40<=_;omega
    ·show A.length+1<=_;omega
    conv=>whnf
    refine⟨k+1,?_⟩;conv=>whnf
    refine kK ⟨⟨?_,?_⟩,?_,?_,?_⟩
    ·show os.length-(k+1)<os.length-k;omega
    ·show k+1<=os.length;omega
    ·rw[C7 _ va5 va5];rfl
    ·show _=[Row.cells 42 (dkR (N3 w0 (os.take (k+1)))),Row.vec 76 7 n5 J6 (N3 w0 (os.take (k+1))).n6]
     rw[sw]<;>rfl
    ·show _=[Row.none,Row.vec 66 3 Y1 xX (bY w0 (os.take (k+1)))]
     rw[sa]<;>rfl
  ·have q:=zA0 q;have ek:os.take k=os:=List.take_of_length_le va5;rw[ek];conv=>whnf
   refine vb6 ?_;(repeat intro hh);all_goals rfl

end Go.Proofs.Tryz.My
