/- Helper lemmas. -/
import Derived.Test.YtacahppoighegaaGreatMzVyB
set_option linter.unusedVariables false
set_option linter.unusedSimpArgs false
set_option maxRecDepth 100000
set_option maxHeartbeats 0
namespace Go.Proofs.Tryz.My
open Go Go.Ev
theorem Ph(t:r9)(hv:V0 t=0)(hc:t.count<1099511627776)(ao:¬t.k9.length=0)(hg:¬I9 t=true):va7 108 [gp t,i64 1] [] (.tup [Gi (W9 t) 0,lU [],i64 0]) [wM (W9 t).k9]:=by
 refine(Pb t hv hc ao hg).sub ?_;refine(bR (xs:=[Gi (W9 t) 0,.nils,i64 0]) (ys:=[Gi (W9 t) 0,lU [],i64 0]) rfl fun i hi=>?_).2
 match i with
 | 0=>exact .refl _
 | 1=>exact .nils _ _ _
 | 2=>exact .refl _
 | (k+3)=>exact .refl _
theorem DM{t:r9}(hg:I9 t=true):¬t.k9.length=0:=by
 unfold I9 at hg;have:=(zA1 hg).1;omega
theorem Gm(w:n8)(g:C9 w)(kind k7 a7 n n4:Int)(j9:v7)(o8 a8:List Int)(h:¬bz w n=0):va7 62 [.ptr 0 0 0 0,I2 kind k7 a7 n n4 j9 o8 a8] (J1 w) (.tup [i64 0,.nils,i64 (bz w n)]) (J1 w):=by
 have bl:=D3.1 g.tk.bl;rw[g.bl]at bl;have wa:IntKind.i64.wrap (w.line.m0.step-w.line.m0.v8)=w.line.m0.step-w.line.m0.v8:=z5 _ va5 va5;have wb:IntKind.i64.wrap (w.line.m0.step+w.line.m0.v8)=w.line.m0.step+w.line.m0.v8:=z5 _ va5 va5;have c1:=O2 (IntKind.i64.wrap (w.line.m0.step-w.line.m0.v8)) (IntKind.i64.wrap (w.line.m0.step+w.line.m0.v8)) n;by_cases h1:w.line.m0.step-w.line.m0.v8<=n/\n<=w.line.m0.step+w.line.m0.v8
 ·have e1:(decide (IntKind.i64.wrap (w.line.m0.step-w.line.m0.v8)<=n) && decide (n<=IntKind.i64.wrap (w.line.m0.step+w.line.m0.v8)))=true:=by rw[wa,wb,zA4 h1.1,zA4 h1.2];rfl
  rw[e1]at c1;by_cases h2:w.o6.count=1099511627776
  ·have er:bz w n=9:=by unfold bz;rw[if_neg (fun q=>q h1),if_pos h2]
   rw[er];refine pW Tryz.func62 ⟨va4,?_⟩;conv=>whnf
   try exact va1
  ·exact absurd (by unfold bz;rw[if_neg (fun q=>q h1),if_neg h2]) h
 ·have er:bz w n=2:=by unfold bz;rw[if_pos h1]
  have e1:(decide (IntKind.i64.wrap (w.line.m0.step-w.line.m0.v8)<=n) && decide (n<=IntKind.i64.wrap (w.line.m0.step+w.line.m0.v8)))=false:=by
   rw[wa,wb,<- Bool.decide_and,zA5 h1]
  rw[e1]at c1;rw[er];refine pW Tryz.func62 ⟨va4,?_⟩;conv=>whnf
  try exact va1
theorem Gn(w:n8)(g:C9 w)(kind k7 a7 n n4:Int)(j9:v7)(o8 a8:List Int)(h:bz w n=0)(hg:¬I9 (s7 w)=true)(ao:¬(s7 w).k9.length=0):va7 62 [.ptr 0 0 0 0,I2 kind k7 a7 n n4 j9 o8 a8] (kB w) (.tup [i64 ((s7 w).count+1),.nils,i64 0]) (PF ⟨w.line,W9 (s7 w),w.n6,w.drift,moved w n⟩):=by
 obtain⟨h1,h2⟩:=cn h;obtain⟨gt,sm⟩:=V5 g;obtain⟨k1,k2,k3,k4,k5⟩:=sm;have DY:w.k8.length<=32:=by rw[g.lt];exact g.tk.ln
 have ct:=g.tk.ct;have bl:=D3.1 g.tk.bl;rw[g.bl]at bl;have wa:IntKind.i64.wrap (w.line.m0.step-w.line.m0.v8)=w.line.m0.step-w.line.m0.v8:=z5 _ va5 va5;have wb:IntKind.i64.wrap (w.line.m0.step+w.line.m0.v8)=w.line.m0.step+w.line.m0.v8:=z5 _ va5 va5;have c1:=O2 (IntKind.i64.wrap (w.line.m0.step-w.line.m0.v8)) (IntKind.i64.wrap (w.line.m0.step+w.line.m0.v8)) n;have e1:(decide (IntKind.i64.wrap (w.line.m0.step-w.line.m0.v8)<=n) && decide (n<=IntKind.i64.wrap (w.line.m0.step+w.line.m0.v8)))=true:=by rw[wa,wb,zA4 h1.1,zA4 h1.2];rfl
 rw[e1]at c1;have c2:=vD w g;have c3:=AR (s7 w) (C7.2 gt);have c4:=Ph (s7 w) (C7.2 gt) va5 ao hg;have c5:=vC w.k8 DY kind k7 a7 n n4 j9 o8 a8 (N5 (s7 w) ((s7 w).count+1)) w.line.m0 (fun i hi=>⟨bl.2.2.1,by have:=(g.th i hi).2.1;omega,by have:=(g.th i hi).2.1;omega⟩) (fun i hi=>⟨kr g hi,va5,va5⟩);have em:w.k8.map (dy w.line.m0 (N5 (s7 w) ((s7 w).count+1)) n)=moved w n:=by unfold moved;rw[k2]
 rw[em]at c5;have lm:=V6 w n;refine vb5 Tryz.func62 ?_;refine vc6 ?_;intros;refine va2 [] [] (vb3 ?_);refine va3 [147,148,149] c2 (vb3 ?_);refine vc6 ?_;intros;refine va2 [] [64] (vb3 ?_);refine va3 [] c4 (vb3 ?_);refine ve4 ?_;intros;refine va2 [148] [89] (vb3 ?_);refine va3 [] c5 (vb3 ?_);refine ve4 ?_;intros;refine Or.inl ⟨1,vb3 ?_⟩;refine vb7 ?_;intros;refine⟨[89,64],va4,vb3 ?_⟩;exact⟨rfl,rfl⟩
theorem Gp(w:n8)(g:C9 w)(kind k7 a7 n n4:Int)(j9:v7)(o8 a8:List Int)(h:bz w n=0)(hg:I9 (s7 w)=true):va7 62 [.ptr 0 0 0 0,I2 kind k7 a7 n n4 j9 o8 a8] (kB w) (.tup [i64 ((s7 w).count+1),.own 5,i64 0]) (PF ⟨w.line,W9 (s7 w),w.n6,w.drift,(moved w n).drop 1⟩++[.vec 88 5 aa fi (cj w n)]):=by
 obtain⟨h1,h2⟩:=cn h;obtain⟨gt,sm⟩:=V5 g;obtain⟨k1,k2,k3,k4,k5⟩:=sm;have DY:w.k8.length<=32:=by rw[g.lt];exact g.tk.ln
 have ct:=g.tk.ct;have bl:=D3.1 g.tk.bl;rw[g.bl]at bl;have wa:IntKind.i64.wrap (w.line.m0.step-w.line.m0.v8)=w.line.m0.step-w.line.m0.v8:=z5 _ va5 va5;have wb:IntKind.i64.wrap (w.line.m0.step+w.line.m0.v8)=w.line.m0.step+w.line.m0.v8:=z5 _ va5 va5;have c1:=O2 (IntKind.i64.wrap (w.line.m0.step-w.line.m0.v8)) (IntKind.i64.wrap (w.line.m0.step+w.line.m0.v8)) n;have e1:(decide (IntKind.i64.wrap (w.line.m0.step-w.line.m0.v8)<=n) && decide (n<=IntKind.i64.wrap (w.line.m0.step+w.line.m0.v8)))=true:=by rw[wa,wb,zA4 h1.1,zA4 h1.2];rfl
 rw[e1]at c1;have c2:=vD w g;have c3:=AR (s7 w) (C7.2 gt);have c4:=KO (s7 w) (C7.2 gt) va5 (DM hg) hg;have c5:=vC w.k8 DY kind k7 a7 n n4 j9 o8 a8 (N5 (s7 w) ((s7 w).count+1)) w.line.m0 (fun i hi=>⟨bl.2.2.1,by have:=(g.th i hi).2.1;omega,by have:=(g.th i hi).2.1;omega⟩) (fun i hi=>⟨kr g hi,va5,va5⟩);have em:w.k8.map (dy w.line.m0 (N5 (s7 w) ((s7 w).count+1)) n)=moved w n:=by unfold moved;rw[k2]
 rw[em]at c5;have lm:=V6 w n;have af:aW (s7 w)=[bH ((hits (s7 w)).getD 0 l9)]:=by unfold aW;rw[if_pos hg]
 rw[af]at c4;have QF:0<w.k8.length:=by
  unfold I9 at hg;have:=(zA1 hg).1;rw[g.lt,<- k4];exact this
 have h0:0<(moved w n).length:=by omega
 have Ch:((moved w n).getD 0 l5).id=(bH ((hits (s7 w)).getD 0 l9)).id:=by
  show _=((hits (s7 w)).getD 0 l9).id
  rw[cu QF,Y5 _ _ (by rw[k4,<- g.lt];exact QF)];show(w.k8.getD 0 l5).id=((s7 w).k9.getD 0 l9).id
  rw[(k5 0).1,(g.th 0 QF).1]
 have eO:cj w n=[⟨((moved w n).getD 0 l5).id,((moved w n).getD 0 l5).seq,(bH ((hits (s7 w)).getD 0 l9)).o5,(bH ((hits (s7 w)).getD 0 l9)).hit,((moved w n).getD 0 l5).out⟩]:=by
  unfold cj Od;rw[if_pos hg]
 rw[eO];generalize bH ((hits (s7 w)).getD 0 l9)=f0 at c4 Ch;generalize moved w n=mv at c5 Ch h0 lm;have ci:=Se mv va5 h0 f0 Ch;have cd:=OQ mv h0;refine vb5 Tryz.func62 ?_;refine vc6 ?_;intros;refine va2 [] [] (vb3 ?_);refine va3 [147,148,149] c2 (vb3 ?_);refine vc6 ?_;intros;refine va2 [] [64] (vb3 ?_);refine va3 [] c4 (vb3 ?_);refine ve4 ?_;intros;refine va2 [148] [89] (vb3 ?_);refine va3 [] c5 (vb3 ?_);refine ve4 ?_;intros;refine Or.inl ⟨2,vb3 ?_⟩;refine vb7 ?_;intros;refine vf0 ?_;intros;refine⟨⟨dO,5,aa,fi,[]⟩,[⟨(mv.getD 0 l5).id,(mv.getD 0 l5).seq,f0.o5,f0.hit,(mv.getD 0 l5).out⟩],rfl,rfl,⟨rfl,rfl⟩,?_,?_,fun y _=>⟨rfl,rfl,rfl⟩,?_⟩
 ·show(0+1)*24<=1099511627776;decide
 ·show 0+1<=1099511627776;decide
 refine vf2 ?_;intros;refine va2 [] [139] (vb3 ?_);refine va3 [89] cd (vb3 ?_);refine vb7 ?_;intros;refine⟨[139,64,129],va4,vb3 ?_⟩;exact⟨rfl,rfl⟩
theorem KV(w:n8)(g:C9 w)(kind k7 a7 n n4:Int)(j9:v7)(o8 a8:List Int)(h:bz w n=0)(ao:¬(s7 w).k9.length=0):va7 62 [.ptr 0 0 0 0,I2 kind k7 a7 n n4 j9 o8 a8] (kB w) (.tup [i64 ((s7 w).count+1),o9 (cj w n),i64 0]) (PF (gz w n)):=by
 by_cases hg:I9 (s7 w)=true
 ·have c:va7 62 [.ptr 0 0 0 0,I2 kind k7 a7 n n4 j9 o8 a8] (kB w) (.tup [i64 ((s7 w).count+1),o9 (cj w n),i64 0]) (PF ⟨w.line,W9 (s7 w),w.n6,w.drift,(moved w n).drop 1⟩) :=
   ((Gp w g kind k7 a7 n n4 j9 o8 a8 h hg).shut 5 6 rfl).rows fun k=>by
    match k with
    | 0=>rfl
    | 1=>rfl
    | 2=>rfl
    | 3=>rfl
    | 4=>rfl
    | 5=>rfl
    | (k+6)=>rfl
  have e:gz w n=⟨w.line,W9 (s7 w),w.n6,w.drift,(moved w n).drop 1⟩:=by unfold gz;rw[if_pos hg]
  rw[e];exact c
 ·have c:=Gn w g kind k7 a7 n n4 j9 o8 a8 h hg ao;have e:gz w n=⟨w.line,W9 (s7 w),w.n6,w.drift,moved w n⟩:=by unfold gz;rw[if_neg hg]
  have eO:cj w n=[]:=by unfold cj;rw[if_neg hg]
  rw[e,eO];refine c.sub ?_;refine(bR (xs:=[i64 ((s7 w).count+1),.nils,i64 0]) (ys:=[i64 ((s7 w).count+1),o9 [],i64 0]) rfl fun i hi=>?_).2
  match i with
  | 0=>exact .refl _
  | 1=>exact .nils _ _ _
  | 2=>exact .refl _
  | (k+3)=>exact .refl _
def YU(w:n8):List Row:=[.cells 81 (((eW w).set 25 (.own 3)).set 21 (.own 2)),.none,rM w.n6.log,AS w.k8]
theorem Gq(w:n8)(g:C9 w)(kind k7 a7 n n4:Int)(j9:v7)(o8 a8:List Int)(h:bz w n=0)(hg:¬I9 (s7 w)=true):va7 62 [.ptr 0 0 0 0,I2 kind k7 a7 n n4 j9 o8 a8] (kB w) (.tup [i64 ((s7 w).count+1),.nils,i64 0]) (YU ⟨w.line,W9 (s7 w),w.n6,w.drift,moved w n⟩):=by
 obtain⟨h1,h2⟩:=cn h;obtain⟨gt,sm⟩:=V5 g;obtain⟨k1,k2,k3,k4,k5⟩:=sm;have DY:w.k8.length<=32:=by rw[g.lt];exact g.tk.ln
 have ct:=g.tk.ct;have bl:=D3.1 g.tk.bl;rw[g.bl]at bl;have wa:IntKind.i64.wrap (w.line.m0.step-w.line.m0.v8)=w.line.m0.step-w.line.m0.v8:=z5 _ va5 va5;have wb:IntKind.i64.wrap (w.line.m0.step+w.line.m0.v8)=w.line.m0.step+w.line.m0.v8:=z5 _ va5 va5;have c1:=O2 (IntKind.i64.wrap (w.line.m0.step-w.line.m0.v8)) (IntKind.i64.wrap (w.line.m0.step+w.line.m0.v8)) n;have e1:(decide (IntKind.i64.wrap (w.line.m0.step-w.line.m0.v8)<=n) && decide (n<=IntKind.i64.wrap (w.line.m0.step+w.line.m0.v8)))=true:=by rw[wa,wb,zA4 h1.1,zA4 h1.2];rfl
 rw[e1]at c1;have c2:=vD w g;have c3:=AR (s7 w) (C7.2 gt);have c4:=Ga (s7 w) (C7.2 gt) va5;have c5:=vC w.k8 DY kind k7 a7 n n4 j9 o8 a8 (N5 (s7 w) ((s7 w).count+1)) w.line.m0 (fun i hi=>⟨bl.2.2.1,by have:=(g.th i hi).2.1;omega,by have:=(g.th i hi).2.1;omega⟩) (fun i hi=>⟨kr g hi,va5,va5⟩);have em:w.k8.map (dy w.line.m0 (N5 (s7 w) ((s7 w).count+1)) n)=moved w n:=by unfold moved;rw[k2]
 rw[em]at c5;have lm:=V6 w n;have af:aW (s7 w)=[]:=by unfold aW;rw[if_neg hg]
 rw[af]at c4;refine vb5 Tryz.func62 ?_;refine vc6 ?_;intros;refine va2 [] [] (vb3 ?_);refine va3 [147,148,149] c2 (vb3 ?_);refine vc6 ?_;intros;refine va2 [148] [89] (vb3 ?_);refine va3 [] c5 (vb3 ?_);refine ve4 ?_;intros;refine Or.inl ⟨1,vb3 ?_⟩;refine vb7 ?_;intros;refine⟨[89],va4,vb3 ?_⟩;exact⟨rfl,rfl⟩
abbrev a1L(w:n8):St:=⟨[],List.replicate 28 .none++(J1 w).map (A0 [28,29,30,31]),.plain⟩
abbrev wO(w:n8)(k:Int)(f:FuncId):Prop:=(true=true)/\((0<=k/\k<11)/\∃ news:List Nat,
 (aw ([28,29,30,31]++news) && Nat.beq (J1 w).length ([28,29,30,31]++news).length && (AV.fn (.func f) [.ptr 0 0 0 0] []).under (J1 w).length && (J1 w).all (D9 (J1 w).length))=true /\
 ((AV.fn (.func f) [.ptr 28 0 0 0] [])=(AV.fn (.func f) [.ptr 0 0 0 0] []).ren ([28,29,30,31]++news)/\([28,29,30,31]++news).map (a1L w).row=(J1 w).map (A0 ([28,29,30,31]++news))))
theorem Sk(w:n8):va7 39 [.ptr 0 0 0 0,u8 1] (J1 w) (.fn (.func 62) [.ptr 0 0 0 0] []) (J1 w):=by
 have e:J8 Tryz.prog Tryz.f39 [.ptr 0 0 0 0,u8 1] (J1 w) (.fn (.func 62) [.ptr 0 0 0 0] []) (J1 w)=wO w 1 62:=by kernel_rfl
 refine u4 hm Tryz.func39 va4 ?_;rw[e];exact⟨rfl,⟨va8,va8⟩,[],va4,rfl,rfl⟩
theorem Sl(w:n8):va7 39 [.ptr 0 0 0 0,u8 2] (J1 w) (.fn (.func 63) [.ptr 0 0 0 0] []) (J1 w):=by
 have e:J8 Tryz.prog Tryz.f39 [.ptr 0 0 0 0,u8 2] (J1 w) (.fn (.func 63) [.ptr 0 0 0 0] []) (J1 w)=wO w 2 63:=by kernel_rfl
 refine u4 hm Tryz.func39 va4 ?_;rw[e];exact⟨rfl,⟨va8,va8⟩,[],va4,rfl,rfl⟩
theorem Sm(w:n8):va7 39 [.ptr 0 0 0 0,u8 3] (J1 w) (.fn (.func 64) [.ptr 0 0 0 0] []) (J1 w):=by
 have e:J8 Tryz.prog Tryz.f39 [.ptr 0 0 0 0,u8 3] (J1 w) (.fn (.func 64) [.ptr 0 0 0 0] []) (J1 w)=wO w 3 64:=by kernel_rfl
 refine u4 hm Tryz.func39 va4 ?_;rw[e];exact⟨rfl,⟨va8,va8⟩,[],va4,rfl,rfl⟩
theorem Sp(w:n8):va7 39 [.ptr 0 0 0 0,u8 4] (J1 w) (.fn (.func 65) [.ptr 0 0 0 0] []) (J1 w):=by
 have e:J8 Tryz.prog Tryz.f39 [.ptr 0 0 0 0,u8 4] (J1 w) (.fn (.func 65) [.ptr 0 0 0 0] []) (J1 w)=wO w 4 65:=by kernel_rfl
 refine u4 hm Tryz.func39 va4 ?_;rw[e];exact⟨rfl,⟨va8,va8⟩,[],va4,rfl,rfl⟩
theorem Sq(w:n8):va7 39 [.ptr 0 0 0 0,u8 5] (J1 w) (.fn (.func 66) [.ptr 0 0 0 0] []) (J1 w):=by
 have e:J8 Tryz.prog Tryz.f39 [.ptr 0 0 0 0,u8 5] (J1 w) (.fn (.func 66) [.ptr 0 0 0 0] []) (J1 w)=wO w 5 66:=by kernel_rfl
 refine u4 hm Tryz.func39 va4 ?_;rw[e];exact⟨rfl,⟨va8,va8⟩,[],va4,rfl,rfl⟩
theorem Sr(w:n8):va7 39 [.ptr 0 0 0 0,u8 6] (J1 w) (.fn (.func 67) [.ptr 0 0 0 0] []) (J1 w):=by
 have e:J8 Tryz.prog Tryz.f39 [.ptr 0 0 0 0,u8 6] (J1 w) (.fn (.func 67) [.ptr 0 0 0 0] []) (J1 w)=wO w 6 67:=by kernel_rfl
 refine u4 hm Tryz.func39 va4 ?_;rw[e];exact⟨rfl,⟨va8,va8⟩,[],va4,rfl,rfl⟩
theorem Ss(w:n8):va7 39 [.ptr 0 0 0 0,u8 7] (J1 w) (.fn (.func 68) [.ptr 0 0 0 0] []) (J1 w):=by
 have e:J8 Tryz.prog Tryz.f39 [.ptr 0 0 0 0,u8 7] (J1 w) (.fn (.func 68) [.ptr 0 0 0 0] []) (J1 w)=wO w 7 68:=by kernel_rfl
 refine u4 hm Tryz.func39 va4 ?_;rw[e];exact⟨rfl,⟨va8,va8⟩,[],va4,rfl,rfl⟩
theorem Su(w:n8):va7 39 [.ptr 0 0 0 0,u8 8] (J1 w) (.fn (.func 69) [.ptr 0 0 0 0] []) (J1 w):=by
 have e:J8 Tryz.prog Tryz.f39 [.ptr 0 0 0 0,u8 8] (J1 w) (.fn (.func 69) [.ptr 0 0 0 0] []) (J1 w)=wO w 8 69:=by kernel_rfl
 refine u4 hm Tryz.func39 va4 ?_;rw[e];exact⟨rfl,⟨va8,va8⟩,[],va4,rfl,rfl⟩
theorem Sv(w:n8):va7 39 [.ptr 0 0 0 0,u8 9] (J1 w) (.fn (.func 70) [.ptr 0 0 0 0] []) (J1 w):=by
 have e:J8 Tryz.prog Tryz.f39 [.ptr 0 0 0 0,u8 9] (J1 w) (.fn (.func 70) [.ptr 0 0 0 0] []) (J1 w)=wO w 9 70:=by kernel_rfl
 refine u4 hm Tryz.func39 va4 ?_;rw[e];exact⟨rfl,⟨va8,va8⟩,[],va4,rfl,rfl⟩
theorem DN(w:n8):va7 39 [.ptr 0 0 0 0,u8 10] (J1 w) (.fn (.func 71) [.ptr 0 0 0 0] []) (J1 w):=by
 have e:J8 Tryz.prog Tryz.f39 [.ptr 0 0 0 0,u8 10] (J1 w) (.fn (.func 71) [.ptr 0 0 0 0] []) (J1 w)=wO w 10 71:=by kernel_rfl
 refine u4 hm Tryz.func39 va4 ?_;rw[e];exact⟨rfl,⟨va8,va8⟩,[],va4,rfl,rfl⟩
abbrev a1M(w:n8):St:=⟨[],List.replicate 28 .none++(cG w).map (A0 [28,29,30]),.plain⟩
abbrev Gr(w:n8)(k:Int)(f:FuncId):Prop:=(true=true)/\((0<=k/\k<11)/\∃ news:List Nat,
 (aw ([28,29,30]++news) && Nat.beq (cG w).length ([28,29,30]++news).length && (AV.fn (.func f) [.ptr 0 0 0 0] []).under (cG w).length && (cG w).all (D9 (cG w).length))=true /\
 ((AV.fn (.func f) [.ptr 28 0 0 0] [])=(AV.fn (.func f) [.ptr 0 0 0 0] []).ren ([28,29,30]++news)/\([28,29,30]++news).map (a1M w).row=(cG w).map (A0 ([28,29,30]++news))))
theorem Sw(w:n8):va7 39 [.ptr 0 0 0 0,u8 3] (cG w) (.fn (.func 64) [.ptr 0 0 0 0] []) (cG w):=by
 have e:J8 Tryz.prog Tryz.f39 [.ptr 0 0 0 0,u8 3] (cG w) (.fn (.func 64) [.ptr 0 0 0 0] []) (cG w)=Gr w 3 64:=by kernel_rfl
 refine u4 hm Tryz.func39 va4 ?_;rw[e];exact⟨rfl,⟨va8,va8⟩,[],va4,rfl,rfl⟩
theorem Sx(w:n8):va7 39 [.ptr 0 0 0 0,u8 4] (cG w) (.fn (.func 65) [.ptr 0 0 0 0] []) (cG w):=by
 have e:J8 Tryz.prog Tryz.f39 [.ptr 0 0 0 0,u8 4] (cG w) (.fn (.func 65) [.ptr 0 0 0 0] []) (cG w)=Gr w 4 65:=by kernel_rfl
 refine u4 hm Tryz.func39 va4 ?_;rw[e];exact⟨rfl,⟨va8,va8⟩,[],va4,rfl,rfl⟩
theorem Sy(w:n8):va7 39 [.ptr 0 0 0 0,u8 5] (cG w) (.fn (.func 66) [.ptr 0 0 0 0] []) (cG w):=by
 have e:J8 Tryz.prog Tryz.f39 [.ptr 0 0 0 0,u8 5] (cG w) (.fn (.func 66) [.ptr 0 0 0 0] []) (cG w)=Gr w 5 66:=by kernel_rfl
 refine u4 hm Tryz.func39 va4 ?_;rw[e];exact⟨rfl,⟨va8,va8⟩,[],va4,rfl,rfl⟩
theorem Sz(w:n8):va7 39 [.ptr 0 0 0 0,u8 6] (cG w) (.fn (.func 67) [.ptr 0 0 0 0] []) (cG w):=by
 have e:J8 Tryz.prog Tryz.f39 [.ptr 0 0 0 0,u8 6] (cG w) (.fn (.func 67) [.ptr 0 0 0 0] []) (cG w)=Gr w 6 67:=by kernel_rfl
 refine u4 hm Tryz.func39 va4 ?_;rw[e];exact⟨rfl,⟨va8,va8⟩,[],va4,rfl,rfl⟩
theorem SA(w:n8):va7 39 [.ptr 0 0 0 0,u8 7] (cG w) (.fn (.func 68) [.ptr 0 0 0 0] []) (cG w):=by
 have e:J8 Tryz.prog Tryz.f39 [.ptr 0 0 0 0,u8 7] (cG w) (.fn (.func 68) [.ptr 0 0 0 0] []) (cG w)=Gr w 7 68:=by kernel_rfl
 refine u4 hm Tryz.func39 va4 ?_;rw[e];exact⟨rfl,⟨va8,va8⟩,[],va4,rfl,rfl⟩
theorem SB(w:n8):va7 39 [.ptr 0 0 0 0,u8 8] (cG w) (.fn (.func 69) [.ptr 0 0 0 0] []) (cG w):=by
 have e:J8 Tryz.prog Tryz.f39 [.ptr 0 0 0 0,u8 8] (cG w) (.fn (.func 69) [.ptr 0 0 0 0] []) (cG w)=Gr w 8 69:=by kernel_rfl
 refine u4 hm Tryz.func39 va4 ?_;rw[e];exact⟨rfl,⟨va8,va8⟩,[],va4,rfl,rfl⟩
theorem SC(w:n8):va7 39 [.ptr 0 0 0 0,u8 9] (cG w) (.fn (.func 70) [.ptr 0 0 0 0] []) (cG w):=by
 have e:J8 Tryz.prog Tryz.f39 [.ptr 0 0 0 0,u8 9] (cG w) (.fn (.func 70) [.ptr 0 0 0 0] []) (cG w)=Gr w 9 70:=by kernel_rfl
 refine u4 hm Tryz.func39 va4 ?_;rw[e];exact⟨rfl,⟨va8,va8⟩,[],va4,rfl,rfl⟩
abbrev a1N(w:n8):St:=⟨[],List.replicate 28 .none++(kB w).map (A0 [28,29,30]),.plain⟩
abbrev YV(w:n8)(k:Int)(f:FuncId):Prop:=(true=true)/\((0<=k/\k<11)/\∃ news:List Nat,
 (aw ([28,29,30]++news) && Nat.beq (kB w).length ([28,29,30]++news).length && (AV.fn (.func f) [.ptr 0 0 0 0] []).under (kB w).length && (kB w).all (D9 (kB w).length))=true /\
 ((AV.fn (.func f) [.ptr 28 0 0 0] [])=(AV.fn (.func f) [.ptr 0 0 0 0] []).ren ([28,29,30]++news)/\([28,29,30]++news).map (a1N w).row=(kB w).map (A0 ([28,29,30]++news))))
theorem HP(w:n8):va7 39 [.ptr 0 0 0 0,u8 1] (kB w) (.fn (.func 62) [.ptr 0 0 0 0] []) (kB w):=by
 have e:J8 Tryz.prog Tryz.f39 [.ptr 0 0 0 0,u8 1] (kB w) (.fn (.func 62) [.ptr 0 0 0 0] []) (kB w)=YV w 1 62:=by kernel_rfl
 refine u4 hm Tryz.func39 va4 ?_;rw[e];exact⟨rfl,⟨va8,va8⟩,[],va4,rfl,rfl⟩
theorem SD(w:n8):va7 39 [.ptr 0 0 0 0,u8 2] (kB w) (.fn (.func 63) [.ptr 0 0 0 0] []) (kB w):=by
 have e:J8 Tryz.prog Tryz.f39 [.ptr 0 0 0 0,u8 2] (kB w) (.fn (.func 63) [.ptr 0 0 0 0] []) (kB w)=YV w 2 63:=by kernel_rfl
 refine u4 hm Tryz.func39 va4 ?_;rw[e];exact⟨rfl,⟨va8,va8⟩,[],va4,rfl,rfl⟩

end Go.Proofs.Tryz.My
