/- Helper lemmas. -/
import Derived.Test.YtacahppoighegaaGreatMzBqY
import Derived.Test.YtacahppoighegaaGreatMzWyA
set_option linter.unusedVariables false
set_option linter.unusedSimpArgs false
set_option maxRecDepth 100000
set_option maxHeartbeats 0
namespace Go.Proofs.Tryz.My
open Go Go.Ev
theorem yx(w:n8)(hl:w.k8.length<2^20)(g:S5 w.o6)(hI:A4 w.o6.m0.step):va6 82 [ai w] (ai (U0 w (s7 w))):=by
 refine vb4 Tryz.func82 ?_;refine Or.inr ⟨Nat,[3],[1],[],fun k=>[i64 k],fun k=>[.cells 42 (eW (U0 w (ir w.o6 (w.k8.take k))))],fun _=>[],fun k=>w.k8.length-k,fun k=>k<=w.k8.length,vb3 ?_⟩;refine⟨⟨0,?_⟩,?_⟩
 ·(conv=>whnf);exact kK ⟨zB4 _,rfl,rfl,rfl⟩
 intro k hk;conv=>whnf
 refine⟨fun h=>?_,fun h=>?_⟩
 ·have h:=zA1 h;have L4:k<w.k8.length:=by have h:(k:Int)<(w.k8.length:Nat):=h;omega
  have gs:=qg (w.k8.take k) _ g;have sm:=qf (w.k8.take k) w.o6;have st:=yc w.o6 L4;generalize ir w.o6 (w.k8.take k)=u at gs sm st;have ct:=OG u (by rw[sm.1];exact hI) (C7.2 gs) (w.k8.getD k l5).id (w.k8.getD k l5).o5;have hkI:(k:Int)<((U0 w u).k8.length:Nat):=by have:k<(U0 w u).k8.length:=L4;omega
  have fin:∀ v,uW u (w.k8.getD k l5)=v->U0 w v=U0 w (ir w.o6 (w.k8.take (k+1))):=fun v hv=>by rw[st,hv]
  unfold uW at fin;by_cases h1:((U0 w u).k8.getD (Int.toNat (k:Int)) l5).o5=0∨¬((U0 w u).k8.getD (Int.toNat (k:Int)) l5).due=(U0 w u).o6.count
  ·have f:=fin u (if_pos (show(w.k8.getD k l5).o5=0∨¬(w.k8.getD k l5).due=u.count from h1));conv=>whnf
   refine vf1 ?_ ?_<;>intros
   all_goals
    refine⟨k+1,vb3 ?_⟩;refine kK ⟨⟨?_,?_⟩,?_,?_,rfl⟩
    ·show w.k8.length-(k+1)<w.k8.length-k;omega
    ·show k+1<=w.k8.length;omega
    ·rw[z5 _ va5 va5];rfl
    ·show _=[Row.cells 42 (eW (U0 w (ir w.o6 (w.k8.take (k+1)))))]
     rw[<- f]<;>rfl
  ·have hn:¬((w.k8.getD k l5).o5=0∨¬(w.k8.getD k l5).due=u.count):=h1;rw[if_neg hn]at fin;by_cases h2:fv u (w.k8.getD k l5).id (w.k8.getD k l5).o5=0
   ·rw[if_pos h2]at fin ct;have f:=fin _ rfl;conv=>whnf
    refine vf0 ?_;intros;all_goals
     refine⟨k+1,vb3 ?_⟩;refine kK ⟨⟨?_,?_⟩,?_,?_,rfl⟩
     ·show w.k8.length-(k+1)<w.k8.length-k;omega
     ·show k+1<=w.k8.length;omega
     ·rw[z5 _ va5 va5];rfl
     ·show _=[Row.cells 42 (eW (U0 w (ir w.o6 (w.k8.take (k+1)))))]
      rw[<- f]<;>rfl
   ·rw[if_neg h2]at fin ct;have f:=fin _ rfl;conv=>whnf
    refine vf0 ?_;intros;all_goals
     refine⟨k+1,vb3 ?_⟩;refine kK ⟨⟨?_,?_⟩,?_,?_,rfl⟩
     ·show w.k8.length-(k+1)<w.k8.length-k;omega
     ·show k+1<=w.k8.length;omega
     ·rw[z5 _ va5 va5];rfl
     ·show _=[Row.cells 42 (eW (U0 w (ir w.o6 (w.k8.take (k+1)))))]
      rw[<- f]<;>rfl
 ·have h:=zA0 h;have h:¬(k:Int)<(w.k8.length:Nat):=h;have ek:w.k8.take k=w.k8:=List.take_of_length_le va5;rw[ek];conv=>whnf
  try exact rt
abbrev lY(e:Int):AV := .agg [i64 e,i64 0,.nils]
theorem We(b:H2)(op:Bool)(n:Int)(x:u6):(G5 b op n x).id=x.id:=rfl
abbrev X0(w:n8):AV := .agg ((eW w).set 25 (.own 0))
theorem KD(w:n8)(o:jq w):va7 6 [ai w] [] (X0 w) [.vec 67 7 l5 B4 w.k8]:=by
 have c1:=vp w.o6 o.t;have c2:=eR w.n6 o.b;have hl:=o.h;obtain⟨ln,t,b,d,l⟩:=w;simp only at hl c1 c2;refine vb5 Tryz.func6 ?_;refine vc6 ?_;intros;refine⟨⟨B7,7,l5,B4,[]⟩,l,rfl,⟨rfl,rfl⟩,rfl,?_,?_,fun y _=>⟨rfl,rfl,rfl⟩,?_⟩
 ·show(0+l.length)*56<=_;omega
 ·show 0+l.length<=_;omega
 conv=>whnf
 refine⟨[14],va4,vb3 ?_⟩;exact⟨rfl,rfl⟩
abbrev fN(l:List B7):Row := .vec 67 7 l5 B4 l
theorem Wf{g:v7}(h:N0 g=true):IG g:=by
 obtain⟨h1,h2,h3,h4,_⟩:=X8 h;have sp:∀ s:V3,y9 s=true->I4 s:=fun s q=>by
  unfold y9 at q;simp only[zA2]at q;have a:=(A7 _).1 q.1.1;have b:=(A7 _).1 q.1.2;refine⟨?_,?_,?_,?_⟩<;>(unfold A4;omega)
 exact⟨by unfold A4;omega,by unfold A4;omega,sp _ h3,sp _ h4⟩
theorem U2{b:n9}(g:P4 b)(i:Nat):IG (b.j8.getD i p9).j9:=by
 by_cases hi:i<b.j8.length
 ·rw[A6 hi];exact Wf (g.rc _ (List.getElem_mem hi)).2.2.2.1
 ·rw[List.getD,zA7 va5];show IG NA
  have z:A4 0:=⟨va8,va8⟩
  exact⟨z,z,⟨z,z,z,z⟩,⟨z,z,z,z⟩⟩
theorem cz{a b c:AV}(h:jw b c):jw (.tup [a,b]) (.tup [a,c]):=by
 refine(bR (xs:=[a,b]) (ys:=[a,c]) rfl fun i hi=>?_).2
 match i with
 | 0=>exact .refl _
 | 1=>exact h
 | (k+2)=>exact .refl _
abbrev Bh(f:FuncId)(w:n8)(x:AV)(w':n8)(e n:Int):Prop:=va7 f [X0 w,x] [fN w.k8] (.tup [X0 w',.agg [i64 e,i64 n,.nils]]) [fN w.k8]
abbrev ZF(w:n8)(o:B5):Prop:=va7 22 [X0 w,ord o] [fN w.k8] (.tup [X0 (R9 w o),bw (Q6 w o)]) [fN (R9 w o).k8]
theorem DI(w:n8)(kind k7 a7 n n4:Int)(j9:v7)(o8 a8:List Int)(hk:3<=kind/\kind<=9){w':n8}{e N:Int}(c:Bh 49 w (I2 kind k7 a7 n n4 j9 o8 a8) w' e N):Bh 22 w (I2 kind k7 a7 n n4 j9 o8 a8) w' e N:=by
 refine vb5 Tryz.func22 ?_;refine ve4 ?_;intros;refine va2 [] [] (vb3 ?_);refine va3 [36] c ?_;conv=>whnf
 try exact va1
theorem mP{w:n8}{kind k7 a7 n n4:Int}{j9:v7}{o8 a8:List Int}(hk:3<=kind/\kind<=9){b:n9}{e N:Int}(h1:I7 w ⟨kind,k7,a7,n,n4,j9,o8,a8⟩=e)(h2:JN w ⟨kind,k7,a7,n,n4,j9,o8,a8⟩=cV w b)(h3:Rt w ⟨kind,k7,a7,n,n4,j9,o8,a8⟩=N)(h4:FK w ⟨kind,k7,a7,n,n4,j9,o8,a8⟩=[])
  (c1:e=0->Bh 49 w (I2 kind k7 a7 n n4 j9 o8 a8) (cV w b) 0 N) (c2:¬e=0->Bh 49 w (I2 kind k7 a7 n n4 j9 o8 a8) w e 0):ZF w ⟨kind,k7,a7,n,n4,j9,o8,a8⟩:=by
 by_cases h:e=0
 ·obtain⟨e1,e2⟩:=AJ (h1.trans h);unfold ZF;rw[e1,e2,h2,h3,h4];exact(DI w kind k7 a7 n n4 j9 o8 a8 hk (c1 h)).sub (cz (fM _ _))
 ·obtain⟨e1,e2⟩:=sx (w:=w) (o:=⟨kind,k7,a7,n,n4,j9,o8,a8⟩) (by rw[h1];exact h);unfold ZF;rw[e1,e2,h1];exact(DI w kind k7 a7 n n4 j9 o8 a8 hk (c2 h)).sub (cz (fM _ _))
theorem OT(w:n8)(g:C9 w)(k7 a7 n n4:Int)(j9:v7)(hG:IG j9)(o8 a8:List Int)(h:bZ w.n6 n4=0):Bh 49 w (I2 3 k7 a7 n n4 j9 o8 a8) (cV w (wh w.n6 n4)) 0 (w.n6.n5.length:Nat):=by
 have c:=rE w.n6 (Bf g.bk) (U2 g.bk) n4 h;refine pW Tryz.func49 ⟨va4,?_⟩;conv=>whnf
 try exact va1
theorem KE(w:n8)(g:C9 w)(k7 a7 n n4:Int)(j9:v7)(hG:IG j9)(o8 a8:List Int)(h:¬bZ w.n6 n4=0):Bh 49 w (I2 3 k7 a7 n n4 j9 o8 a8) w (bZ w.n6 n4) 0:=by
 have c:=qh w.n6 (Bf g.bk) (U2 g.bk) n4 h;refine pW Tryz.func49 ⟨va4,?_⟩;conv=>whnf
 try exact va1
theorem OU(w:n8)(g:C9 w)(k7 a7 n n4:Int)(j9:v7)(hG:IG j9)(o8 a8:List Int)(h:dq w.n6 k7 j9=0):Bh 49 w (I2 4 k7 a7 n n4 j9 o8 a8) (cV w (wo w.n6 k7 j9)) 0 (w.n6.j8.length:Nat):=by
 have c:=wH w.n6 (Bf g.bk) (U2 g.bk) k7 j9 hG h;refine pW Tryz.func49 ⟨va4,?_⟩;conv=>whnf
 try exact va1
theorem KF(w:n8)(g:C9 w)(k7 a7 n n4:Int)(j9:v7)(hG:IG j9)(o8 a8:List Int)(h:¬dq w.n6 k7 j9=0):Bh 49 w (I2 4 k7 a7 n n4 j9 o8 a8) w (dq w.n6 k7 j9) 0:=by
 have c:=uZ w.n6 (Bf g.bk) (U2 g.bk) k7 j9 hG h;refine pW Tryz.func49 ⟨va4,?_⟩;conv=>whnf
 try exact va1
theorem OV(w:n8)(g:C9 w)(k7 a7 n n4:Int)(j9:v7)(hG:IG j9)(o8 a8:List Int)(h:ft w.n6 k7 a7=0):Bh 49 w (I2 5 k7 a7 n n4 j9 o8 a8) (cV w (ou w.n6 k7 a7)) 0 0:=by
 have c:=rI w.n6 (Bf g.bk) (U2 g.bk) k7 a7 h;refine pW Tryz.func49 ⟨va4,?_⟩;conv=>whnf
 try exact va1
theorem KG(w:n8)(g:C9 w)(k7 a7 n n4:Int)(j9:v7)(hG:IG j9)(o8 a8:List Int)(h:¬ft w.n6 k7 a7=0):Bh 49 w (I2 5 k7 a7 n n4 j9 o8 a8) w (ft w.n6 k7 a7) 0:=by
 have c:=qk w.n6 (Bf g.bk) (U2 g.bk) k7 a7 h;refine pW Tryz.func49 ⟨va4,?_⟩;conv=>whnf
 try exact va1
theorem OW(w:n8)(g:C9 w)(k7 a7 n n4:Int)(j9:v7)(hG:IG j9)(o8 a8:List Int)(h:Z8 w.n6 k7 a7=0):Bh 49 w (I2 6 k7 a7 n n4 j9 o8 a8) (cV w (fK w.n6 a7)) 0 0:=by
 have c:=ql w.n6 (Bf g.bk) (U2 g.bk) k7 a7 h;refine pW Tryz.func49 ⟨va4,?_⟩;conv=>whnf
 try exact va1
theorem KH(w:n8)(g:C9 w)(k7 a7 n n4:Int)(j9:v7)(hG:IG j9)(o8 a8:List Int)(h:¬Z8 w.n6 k7 a7=0):Bh 49 w (I2 6 k7 a7 n n4 j9 o8 a8) w (Z8 w.n6 k7 a7) 0:=by
 have c:=oI w.n6 (Bf g.bk) (U2 g.bk) k7 a7 h;refine pW Tryz.func49 ⟨va4,?_⟩;conv=>whnf
 try exact va1
theorem OX(w:n8)(g:C9 w)(k7 a7 n n4:Int)(j9:v7)(hG:IG j9)(o8 a8:List Int)(h:du w.n6 k7=0):Bh 49 w (I2 7 k7 a7 n n4 j9 o8 a8) (cV w (mH w.n6 (C6 w.n6.j8))) 0 0:=by
 have c:=vh w.n6 (Bf g.bk) (U2 g.bk) k7 h;refine pW Tryz.func49 ⟨va4,?_⟩;conv=>whnf
 try exact va1
theorem KI(w:n8)(g:C9 w)(k7 a7 n n4:Int)(j9:v7)(hG:IG j9)(o8 a8:List Int)(h:¬du w.n6 k7=0):Bh 49 w (I2 7 k7 a7 n n4 j9 o8 a8) w (du w.n6 k7) 0:=by
 have c:=rJ w.n6 (Bf g.bk) (U2 g.bk) k7 h;refine pW Tryz.func49 ⟨va4,?_⟩;conv=>whnf
 try exact va1
theorem OY(w:n8)(g:C9 w)(k7 a7 n n4:Int)(j9:v7)(hG:IG j9)(o8 a8:List Int)(h:mJ w.n6 k7 a7=0):Bh 49 w (I2 8 k7 a7 n n4 j9 o8 a8) (cV w (S8 w.n6 a7 true)) 0 0:=by
 have c:=rF w.n6 (Bf g.bk) (U2 g.bk) k7 a7 h;refine pW Tryz.func49 ⟨va4,?_⟩;conv=>whnf
 try exact va1
theorem KJ(w:n8)(g:C9 w)(k7 a7 n n4:Int)(j9:v7)(hG:IG j9)(o8 a8:List Int)(h:¬mJ w.n6 k7 a7=0):Bh 49 w (I2 8 k7 a7 n n4 j9 o8 a8) w (mJ w.n6 k7 a7) 0:=by
 have c:=qj w.n6 (Bf g.bk) (U2 g.bk) k7 a7 h;refine pW Tryz.func49 ⟨va4,?_⟩;conv=>whnf
 try exact va1
theorem OZ(w:n8)(g:C9 w)(k7 a7 n n4:Int)(j9:v7)(hG:IG j9)(o8 a8:List Int)(h:mK w.n6 k7 a7=0):Bh 49 w (I2 9 k7 a7 n n4 j9 o8 a8) (cV w (S8 w.n6 a7 false)) 0 0:=by
 have c:=vf w.n6 (Bf g.bk) (U2 g.bk) k7 a7 h;refine pW Tryz.func49 ⟨va4,?_⟩;conv=>whnf
 try exact va1
theorem KK(w:n8)(g:C9 w)(k7 a7 n n4:Int)(j9:v7)(hG:IG j9)(o8 a8:List Int)(h:¬mK w.n6 k7 a7=0):Bh 49 w (I2 9 k7 a7 n n4 j9 o8 a8) w (mK w.n6 k7 a7) 0:=by
 have c:=rG w.n6 (Bf g.bk) (U2 g.bk) k7 a7 h;refine pW Tryz.func49 ⟨va4,?_⟩;conv=>whnf
 try exact va1
theorem cA(w:n8)(g:C9 w)(kind k7 a7 n n4:Int)(j9:v7)(hG:IG j9)(o8 a8:List Int)(hk:3<=kind/\kind<=9):ZF w ⟨kind,k7,a7,n,n4,j9,o8,a8⟩:=by
 have cs:kind=3∨kind=4∨kind=5∨kind=6∨kind=7∨kind=8∨kind=9:=by omega
 rcases cs with rfl|rfl|rfl|rfl|rfl|rfl|rfl
 ·exact mP hk (b:=wh w.n6 n4) (N:=(w.n6.n5.length:Nat)) rfl rfl rfl rfl (OT w g k7 a7 n n4 j9 hG o8 a8) (KE w g k7 a7 n n4 j9 hG o8 a8)
 ·exact mP hk (b:=wo w.n6 k7 j9) (N:=(w.n6.j8.length:Nat)) rfl rfl rfl rfl (OU w g k7 a7 n n4 j9 hG o8 a8) (KF w g k7 a7 n n4 j9 hG o8 a8)
 ·exact mP hk (b:=ou w.n6 k7 a7) (N:=0) rfl rfl rfl rfl (OV w g k7 a7 n n4 j9 hG o8 a8) (KG w g k7 a7 n n4 j9 hG o8 a8)
 ·exact mP hk (b:=fK w.n6 a7) (N:=0) rfl rfl rfl rfl (OW w g k7 a7 n n4 j9 hG o8 a8) (KH w g k7 a7 n n4 j9 hG o8 a8)
 ·exact mP hk (b:=mH w.n6 (C6 w.n6.j8)) (N:=0) rfl rfl rfl rfl (OX w g k7 a7 n n4 j9 hG o8 a8) (KI w g k7 a7 n n4 j9 hG o8 a8)
 ·exact mP hk (b:=S8 w.n6 a7 true) (N:=0) rfl rfl rfl rfl (OY w g k7 a7 n n4 j9 hG o8 a8) (KJ w g k7 a7 n n4 j9 hG o8 a8)
 ·exact mP hk (b:=S8 w.n6 a7 false) (N:=0) rfl rfl rfl rfl (OZ w g k7 a7 n n4 j9 hG o8 a8) (KK w g k7 a7 n n4 j9 hG o8 a8)

end Go.Proofs.Tryz.My
