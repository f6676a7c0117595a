/- Helper lemmas. -/
import Derived.Test.YtacahppoighegaaGreatMzWyA
import Derived.Test.YtacahppoighegaaGreatEvEle
set_option linter.unusedVariables false
set_option linter.unusedSimpArgs false
set_option maxRecDepth 100000
set_option maxHeartbeats 0
namespace Go.Proofs.Tryz.My
open Go Go.Ev
abbrev Sg(k:Nat)(l:List A2):Row := .opq (rz 71 6 3 3 s9 K6 A2.n7 k none l)
abbrev YP(Bk:Option Nat)(C:Nat)(k:Nat)(l:List A2):Row := .opq (eD 71 6 3 3 s9 K6 A2.n7 Bk C k l)
theorem KA(l:List A2)(k:Nat)(hk:k<l.length)(ha:(l.getD k s9).n7.length<2^20)(Bk:Option Nat)(C:Nat):va7 38 [.ptr 0 6 k 0] [YP Bk C k l] (.tup []) [.none,YP Bk C (k+1) l]:=by
 refine vb5 Tryz.func38 ?_;refine⟨_,Fa (k:=k) (i:=k) (show Tryz.prog.underlying 47=some (.slice 3)by kernel_rfl) rfl rfl rfl hk (Nat.le_refl k) va8,?_⟩;rintro _ rfl;conv=>whnf
 refine va2 [] [7] (vb3 ?_);refine va3 [] (aI (l.getD k s9).n7 ha) (vb3 ?_);refine⟨_,zL (k:=k) (e:=7) (dn:=2) va4 rfl rfl va4 rfl rfl rfl rfl rfl hk va8 va4,?_⟩;rintro _ rfl;conv=>whnf
 refine⟨[2],va4,vb3 ?_⟩;exact⟨rfl,rfl⟩
theorem DC(l:List A2)(hl:l.length<2^20):va7 61 [od l] [] (.own 0) [Sg 0 l] :=
 PW.o9 (o9:=[.vec 71 6 s9 K6 l]) (k:=0) (fun _ _ _ _ z=>QO (l:=l) z) nofun nofun (Gd l hl)
theorem Si(l:List A2)(hl:l.length<2^20)(ha:∀ i,(l.getD i s9).n7.length<2^20):va7 37 [od l,.fn (.func 38) [] []] [] (.own 0) [Sg l.length l]:=by
 refine vb5 Tryz.func37 ?_;refine va2 [] [8] (vb3 ?_);refine va3 [] (DC l hl) (vb3 ?_);refine⟨_,Jb (l:=l) (k:=0) (show Tryz.prog.underlying 35=some (.slice 71)by kernel_rfl) rfl rfl rfl rfl rfl rfl,?_⟩;rintro _ rfl;conv=>whnf
 refine Or.inr ⟨Nat,[11],[8],[],fun k=>[i64 k],fun k=>[Sg k l],fun _=>[],fun k=>l.length-k,fun k=>k<=l.length,vb3 ?_⟩;refine⟨⟨0,?_⟩,?_⟩
 ·(conv=>whnf);exact kK ⟨zB4 _,rfl,rfl,rfl⟩
 intro k hk;by_cases L4:k<l.length
 ·(conv=>whnf);refine vf2 ?_;intros;refine⟨_,Ja (i:=k) (k:=k) (l:=l) (show Tryz.prog.underlying 35=some (.slice 71)by kernel_rfl) va4 rfl rfl rfl rfl L4,?_⟩;rintro _ rfl;conv=>whnf
  refine⟨_,Fb (k:=k) (n:=2) rfl rfl rfl rfl (fun Bk C=>KA l k L4 (ha k) Bk C) va4 va4 va4 va4 rfl rfl rfl rfl,?_⟩;rintro _ rfl;conv=>whnf
  refine⟨k+1,vb3 ?_⟩;refine kK ⟨⟨?_,?_⟩,?_,rfl,rfl⟩
  ·show l.length-(k+1)<l.length-k;omega
  ·show k+1<=l.length;omega
  ·rw[z5 _ va5 va5];rfl
 ·have e:l.length=k:=by omega
  rw[e];conv=>whnf
  refine ve4 ?_;intros;refine⟨[8],va4,vb3 ?_⟩;exact⟨rfl,rfl⟩
theorem OS(l:List A2)(hl:l.length<2^20)(ha:∀ i,(l.getD i s9).n7.length<2^20):va7 37 [od l,.fn (.func 38) [] []] [] (.own 0) [.nest 71 6 3 3 s9 K6 A2.n7 none l]:=by
 have h:=Si l hl ha;exact PW.o9 (o9:=[Sg l.length l]) (k:=0) (fun _ _ _ _ z=>MW (l:=l) z) nofun nofun h
abbrev dkB(w:n8):List AV:=(((eW w).set 25 (.own 1)).set 16 (.own 2)).set 21 (.own 3)
abbrev rM(l:List A2):Row := .nest 71 6 3 3 s9 K6 A2.n7 none l
abbrev AS(l:List B7):Row := .vec 67 7 l5 B4 l
abbrev wM(l:List u6):Row := .vec 69 4 l9 C2 l
def J1(w:n8):List Row:=[.cells 81 (dkB w),AS w.k8,wM w.o6.k9,rM w.n6.log]
theorem kA(w:n8)(o:jq w):va7 18 [ai w] [] (.ptr 0 0 0 0) (J1 w):=by
 have c3:va6 33 [Nz w.n6.n5] (Nz w.n6.n5):=(pY w.n6.n5 o.b.u).toPC 6 va4;have c4:=ON w.n6.j8 o.b.r o.b.a;refine vb5 Tryz.func18 ?_;refine va2 [] [6] (vb3 ?_);refine va3 [] (Gb w.o6.k9 o.t) (vb3 ?_);refine va2 [] [11] (vb3 ?_);refine va3 [] (vB w.k8 o.h) (vb3 ?_);refine vc0 ?_;intros;refine va2 [] [28] (vb3 ?_);refine va3 [] (OS w.n6.log o.b.l o.b.p) (vb3 ?_);refine⟨[33,11,6,28],va4,vb3 ?_⟩;exact⟨rfl,rfl⟩
abbrev ZE(b:n9)(j:Nat):AV := .agg [i64 b.keep,Nz b.n5,uq b.j8,i64 b.next,.own j]
theorem oT{f:FuncId}{args:List AV}{b:n9}{x:Int}(h:va7 f args [] (.tup [mF b,i64 x]) (mG b)):va7 f args [] (.tup [ZE b 0,i64 x]) [rM b.log] :=
 ((h.frz (fun i=>Nat.blt i 2) rfl).pick rfl 2 va8 nofun).rows fun k=>by
  match k with
  | 0=>rfl
  | 1=>rfl
  | 2=>rfl
  | (n+3)=>rfl
theorem HO{f:FuncId}{args:List AV}{b:n9}{x y:Int}(h:va7 f args [] (.tup [mF b,i64 x,i64 y]) (mG b)):va7 f args [] (.tup [ZE b 0,i64 x,i64 y]) [rM b.log] :=
 ((h.frz (fun i=>Nat.blt i 2) rfl).pick rfl 2 va8 nofun).rows fun k=>by
  match k with
  | 0=>rfl
  | 1=>rfl
  | 2=>rfl
  | (n+3)=>rfl
abbrev dkF(w:n8):List AV:=((eW w).set 25 (.own 1)).set 16 (.own 2)
def cG(w:n8):List Row:=[.cells 81 (dkF w),AS w.k8,wM w.o6.k9]
theorem jg(w:n8)(b:n9)(n:Int):va7 120 [.ptr 0 0 0 0,i64 n,ZE b 3,i64 0] (cG w++[rM b.log]) (.tup [i64 n,.nils,i64 0]) (J1 (cV w b)):=by
 refine vb5 Tryz.func120 ?_;refine vc4 ?_;intros;try exact va1
theorem fk(w:n8)(n e:Int)(h:¬e=0):va7 120 [.ptr 0 0 0 0,i64 n,dL 0,i64 e] (J1 w) (.tup [i64 0,.nils,i64 e]) (J1 w):=by
 refine pW Tryz.func120 ⟨va4,?_⟩;conv=>whnf
 try exact va1
theorem DD(w:n8)(o:C8 w.n6)(kind k7 a7 n n4:Int)(j9:v7)(o8 a8:List Int)(h:bZ w.n6 n4=0):va7 64 [.ptr 0 0 0 0,I2 kind k7 a7 n n4 j9 o8 a8] (cG w) (.tup [i64 (w.n6.n5.length:Nat),.nils,i64 0]) (J1 (cV w (wh w.n6 n4))):=by
 have c:=HO (Am w.n6 o n4 h);refine vb5 Tryz.func64 ?_;refine ve4 ?_;intros;refine Or.inr ⟨_,_,⟨c,va4,va4,va4⟩,vb3 ?_⟩;refine ve4 ?_;intros;refine va2 [] [] (vb3 ?_);refine va3 [30,31,32,18] (jg w _ _) (vb3 ?_);refine⟨[18],va4,vb3 ?_⟩;exact⟨rfl,rfl⟩
theorem AT(w:n8)(o:C8 w.n6)(kind k7 a7 n n4:Int)(j9:v7)(o8 a8:List Int)(h:¬bZ w.n6 n4=0):va7 64 [.ptr 0 0 0 0,I2 kind k7 a7 n n4 j9 o8 a8] (J1 w) (.tup [i64 0,.nils,i64 (bZ w.n6 n4)]) (J1 w):=by
 have c:=wj w.n6 o n4 h;generalize bZ w.n6 n4=e at *
 refine vb5 Tryz.func64 ?_;refine vc6 ?_;intros;refine va2 [] [] (vb3 ?_);refine va3 [30,31,32,33] (fk w _ _ h) ?_;conv=>whnf
 try exact va1
theorem KB(w:n8)(o:C8 w.n6)(kind k7 a7 n n4:Int)(j9:v7)(o8 a8:List Int)(h:dq w.n6 k7 j9=0):va7 65 [.ptr 0 0 0 0,I2 kind k7 a7 n n4 j9 o8 a8] (cG w) (.tup [i64 (w.n6.j8.length:Nat),.nils,i64 0]) (J1 (cV w (wo w.n6 k7 j9))):=by
 have c:=HO (Fz w.n6 o k7 j9 h);refine vb5 Tryz.func65 ?_;refine ve4 ?_;intros;refine Or.inr ⟨_,_,⟨c,va4,va4,va4⟩,vb3 ?_⟩;refine ve4 ?_;intros;refine va2 [] [] (vb3 ?_);refine va3 [32,33,34,20] (jg w _ _) (vb3 ?_);refine⟨[20],va4,vb3 ?_⟩;exact⟨rfl,rfl⟩
theorem Ge(w:n8)(o:C8 w.n6)(kind k7 a7 n n4:Int)(j9:v7)(o8 a8:List Int)(h:¬dq w.n6 k7 j9=0):va7 65 [.ptr 0 0 0 0,I2 kind k7 a7 n n4 j9 o8 a8] (J1 w) (.tup [i64 0,.nils,i64 (dq w.n6 k7 j9)]) (J1 w):=by
 have c:=CN w.n6 o k7 j9 h;generalize dq w.n6 k7 j9=e at *
 refine vb5 Tryz.func65 ?_;refine vc6 ?_;intros;refine va2 [] [] (vb3 ?_);refine va3 [32,33,34,35] (fk w _ _ h) ?_;conv=>whnf
 try exact va1
theorem DE(w:n8)(o:C8 w.n6)(kind k7 a7 n n4:Int)(j9:v7)(o8 a8:List Int)(h:ft w.n6 k7 a7=0):va7 66 [.ptr 0 0 0 0,I2 kind k7 a7 n n4 j9 o8 a8] (cG w) (.tup [i64 0,.nils,i64 0]) (J1 (cV w (ou w.n6 k7 a7))):=by
 have c:=oT (Aw w.n6 o k7 a7 h);refine vb5 Tryz.func66 ?_;refine ve4 ?_;intros;refine Or.inr ⟨_,_,⟨c,va4,va4,va4⟩,vb3 ?_⟩;refine ve4 ?_;intros;refine va2 [] [] (vb3 ?_);refine va3 [29,30,31,19] (jg w _ _) (vb3 ?_);refine⟨[19],va4,vb3 ?_⟩;exact⟨rfl,rfl⟩
theorem AU(w:n8)(o:C8 w.n6)(kind k7 a7 n n4:Int)(j9:v7)(o8 a8:List Int)(h:¬ft w.n6 k7 a7=0):va7 66 [.ptr 0 0 0 0,I2 kind k7 a7 n n4 j9 o8 a8] (J1 w) (.tup [i64 0,.nils,i64 (ft w.n6 k7 a7)]) (J1 w):=by
 have c:=wC w.n6 o k7 a7 h;generalize ft w.n6 k7 a7=e at *
 refine vb5 Tryz.func66 ?_;refine vc6 ?_;intros;refine va2 [] [] (vb3 ?_);refine va3 [29,30,31,32] (fk w _ _ h) ?_;conv=>whnf
 try exact va1
theorem AW(w:n8)(o:C8 w.n6)(kind k7 a7 n n4:Int)(j9:v7)(o8 a8:List Int)(h:Z8 w.n6 k7 a7=0):va7 67 [.ptr 0 0 0 0,I2 kind k7 a7 n n4 j9 o8 a8] (cG w) (.tup [i64 0,.nils,i64 0]) (J1 (cV w (fK w.n6 a7))):=by
 have c:=oT (wv w.n6 o k7 a7 h);refine vb5 Tryz.func67 ?_;refine ve4 ?_;intros;refine Or.inr ⟨_,_,⟨c,va4,va4,va4⟩,vb3 ?_⟩;refine ve4 ?_;intros;refine va2 [] [] (vb3 ?_);refine va3 [29,30,31,19] (jg w _ _) (vb3 ?_);refine⟨[19],va4,vb3 ?_⟩;exact⟨rfl,rfl⟩
theorem wN(w:n8)(o:C8 w.n6)(kind k7 a7 n n4:Int)(j9:v7)(o8 a8:List Int)(h:¬Z8 w.n6 k7 a7=0):va7 67 [.ptr 0 0 0 0,I2 kind k7 a7 n n4 j9 o8 a8] (J1 w) (.tup [i64 0,.nils,i64 (Z8 w.n6 k7 a7)]) (J1 w):=by
 have c:=uC w.n6 o k7 a7 h;generalize Z8 w.n6 k7 a7=e at *
 refine vb5 Tryz.func67 ?_;refine vc6 ?_;intros;refine va2 [] [] (vb3 ?_);refine va3 [29,30,31,32] (fk w _ _ h) ?_;conv=>whnf
 try exact va1
theorem Gf(w:n8)(o:C8 w.n6)(kind k7 a7 n n4:Int)(j9:v7)(o8 a8:List Int)(h:du w.n6 k7=0):va7 68 [.ptr 0 0 0 0,I2 kind k7 a7 n n4 j9 o8 a8] (cG w) (.tup [i64 0,.nils,i64 0]) (J1 (cV w (mH w.n6 (C6 w.n6.j8)))):=by
 have c:=oT (CO w.n6 o k7 h);refine vb5 Tryz.func68 ?_;refine ve4 ?_;intros;refine Or.inr ⟨_,_,⟨c,va4,va4,va4⟩,vb3 ?_⟩;refine ve4 ?_;intros;refine va2 [] [] (vb3 ?_);refine va3 [27,28,29,17] (jg w _ _) (vb3 ?_);refine⟨[17],va4,vb3 ?_⟩;exact⟨rfl,rfl⟩
theorem DF(w:n8)(o:C8 w.n6)(kind k7 a7 n n4:Int)(j9:v7)(o8 a8:List Int)(h:¬du w.n6 k7=0):va7 68 [.ptr 0 0 0 0,I2 kind k7 a7 n n4 j9 o8 a8] (J1 w) (.tup [i64 0,.nils,i64 (du w.n6 k7)]) (J1 w):=by
 have c:=An w.n6 o k7 h;generalize du w.n6 k7=e at *
 refine vb5 Tryz.func68 ?_;refine vc6 ?_;intros;refine va2 [] [] (vb3 ?_);refine va3 [27,28,29,30] (fk w _ _ h) ?_;conv=>whnf
 try exact va1
theorem DG(w:n8)(o:C8 w.n6)(kind k7 a7 n n4:Int)(j9:v7)(o8 a8:List Int)(h:mJ w.n6 k7 a7=0):va7 69 [.ptr 0 0 0 0,I2 kind k7 a7 n n4 j9 o8 a8] (cG w) (.tup [i64 0,.nils,i64 0]) (J1 (cV w (S8 w.n6 a7 true))):=by
 have c:=oT (As w.n6 o k7 a7 h);refine vb5 Tryz.func69 ?_;refine ve4 ?_;intros;refine Or.inr ⟨_,_,⟨c,va4,va4,va4⟩,vb3 ?_⟩;refine ve4 ?_;intros;refine va2 [] [] (vb3 ?_);refine va3 [29,30,31,19] (jg w _ _) (vb3 ?_);refine⟨[19],va4,vb3 ?_⟩;exact⟨rfl,rfl⟩
theorem AX(w:n8)(o:C8 w.n6)(kind k7 a7 n n4:Int)(j9:v7)(o8 a8:List Int)(h:¬mJ w.n6 k7 a7=0):va7 69 [.ptr 0 0 0 0,I2 kind k7 a7 n n4 j9 o8 a8] (J1 w) (.tup [i64 0,.nils,i64 (mJ w.n6 k7 a7)]) (J1 w):=by
 have c:=wA w.n6 o k7 a7 h;generalize mJ w.n6 k7 a7=e at *
 refine vb5 Tryz.func69 ?_;refine vc6 ?_;intros;refine va2 [] [] (vb3 ?_);refine va3 [29,30,31,32] (fk w _ _ h) ?_;conv=>whnf
 try exact va1
theorem Gg(w:n8)(o:C8 w.n6)(kind k7 a7 n n4:Int)(j9:v7)(o8 a8:List Int)(h:mK w.n6 k7 a7=0):va7 70 [.ptr 0 0 0 0,I2 kind k7 a7 n n4 j9 o8 a8] (cG w) (.tup [i64 0,.nils,i64 0]) (J1 (cV w (S8 w.n6 a7 false))):=by
 have c:=oT (CT w.n6 o k7 a7 h);refine vb5 Tryz.func70 ?_;refine ve4 ?_;intros;refine Or.inr ⟨_,_,⟨c,va4,va4,va4⟩,vb3 ?_⟩;refine ve4 ?_;intros;refine va2 [] [] (vb3 ?_);refine va3 [29,30,31,19] (jg w _ _) (vb3 ?_);refine⟨[19],va4,vb3 ?_⟩;exact⟨rfl,rfl⟩
theorem DH(w:n8)(o:C8 w.n6)(kind k7 a7 n n4:Int)(j9:v7)(o8 a8:List Int)(h:¬mK w.n6 k7 a7=0):va7 70 [.ptr 0 0 0 0,I2 kind k7 a7 n n4 j9 o8 a8] (J1 w) (.tup [i64 0,.nils,i64 (mK w.n6 k7 a7)]) (J1 w):=by
 have c:=At w.n6 o k7 a7 h;generalize mK w.n6 k7 a7=e at *
 refine vb5 Tryz.func70 ?_;refine vc6 ?_;intros;refine va2 [] [] (vb3 ?_);refine va3 [29,30,31,32] (fk w _ _ h) ?_;conv=>whnf
 try exact va1
theorem KC(w:n8)(hl:w.n6.n5.length<2^20)(kind k7 a7 n n4:Int)(j9:v7)(o8 a8:List Int)(h:fw w k7=0):va7 71 [.ptr 0 0 0 0,I2 kind k7 a7 n n4 j9 o8 a8] (J1 w) (.tup [i64 0,.nils,i64 0]) (J1 (Dg w)):=by
 have w1:IntKind.i64.wrap ((w.n6.n5.length:Int)-1)=(w.n6.n5.length:Int)-1:=z5 _ va5 va5;have c1:=O2 0 (IntKind.i64.wrap ((w.n6.n5.length:Int)-1)) k7;have h1:0<=k7/\k7<=(w.n6.n5.length:Int)-1:=Decidable.byContradiction fun q=>by unfold fw at h;rw[if_pos q]at h;cases h
 have h2:w.n6.n5.getD k7.toNat 0=3:=Decidable.byContradiction fun q=>by unfold fw at h;rw[if_neg (fun f=>f h1),if_pos q]at h;cases h
 have e1:(decide (0<=k7) && decide (k7<=IntKind.i64.wrap ((w.n6.n5.length:Int)-1)))=true:=by rw[w1,zA4 h1.1,zA4 h1.2];rfl
 rw[e1]at c1;have cs:=yu;refine pW Tryz.func71 ⟨va4,?_⟩;conv=>whnf
 try exact rt
theorem Gh(w:n8)(hl:w.n6.n5.length<2^20)(kind k7 a7 n n4:Int)(j9:v7)(o8 a8:List Int)(h:¬fw w k7=0):va7 71 [.ptr 0 0 0 0,I2 kind k7 a7 n n4 j9 o8 a8] (J1 w) (.tup [i64 0,.nils,i64 (fw w k7)]) (J1 w):=by
 have w1:IntKind.i64.wrap ((w.n6.n5.length:Int)-1)=(w.n6.n5.length:Int)-1:=z5 _ va5 va5;have c1:=O2 0 (IntKind.i64.wrap ((w.n6.n5.length:Int)-1)) k7;by_cases h1:0<=k7/\k7<=(w.n6.n5.length:Int)-1
 ·have e1:(decide (0<=k7) && decide (k7<=IntKind.i64.wrap ((w.n6.n5.length:Int)-1)))=true:=by rw[w1,zA4 h1.1,zA4 h1.2];rfl
  rw[e1]at c1;by_cases h2:w.n6.n5.getD k7.toNat 0=3
  ·exact absurd (by unfold fw;rw[if_neg (fun f=>f h1),if_neg (fun f=>f h2)]) h
  ·have hr:fw w k7=100:=by unfold fw;rw[if_neg (fun f=>f h1),if_pos h2]
   rw[hr];refine pW Tryz.func71 ⟨va4,?_⟩;conv=>whnf
   try exact rt
 ·have hr:fw w k7=6:=by unfold fw;rw[if_pos h1]
  have e1:(decide (0<=k7) && decide (k7<=IntKind.i64.wrap ((w.n6.n5.length:Int)-1)))=false:=by
   rw[w1];cases h:(decide (0<=k7) && decide (k7<=(w.n6.n5.length:Int)-1))
   ·rfl
   ·rw[zA2,zA3,zA3]at h;exact absurd h h1
  rw[e1]at c1;rw[hr];refine pW Tryz.func71 ⟨va4,?_⟩;conv=>whnf
  try exact rt
abbrev dkL(w:n8):List AV:=((eW w).set 25 (.own 1)).set 21 (.own 2)
def kB(w:n8):List Row:=[.cells 81 (dkL w),AS w.k8,rM w.n6.log]
theorem vD(w:n8)(g:C9 w):va7 106 [.ptr 0 0 0 0] (kB w) (.tup []) (kB (U0 w (s7 w))):=by
 have hl:w.k8.length<=32:=by rw[g.lt];exact g.tk.ln
 refine vb5 Tryz.func106 ?_;refine Or.inr ⟨Nat,[12],[51],[],fun k=>[i64 k],fun k=>[.cells 81 (((eW (U0 w (ir w.o6 (w.k8.take k)))).set 25 (.own 52)).set 21 (.own 53))],fun _=>[],fun k=>w.k8.length-k,fun k=>k<=w.k8.length,vb3 ?_⟩;refine⟨⟨0,?_⟩,?_⟩
 ·(conv=>whnf);exact kK ⟨zB4 _,rfl,rfl,rfl⟩
 intro k hk;conv=>whnf
 refine⟨fun h=>?_,fun h=>?_⟩
 ·have h:=zA1 h;have L4:k<w.k8.length:=by have h:(k:Int)<(w.k8.length:Nat):=h;omega
  have gs:=qg (w.k8.take k) _ g.tk;have sm:=qf (w.k8.take k) w.o6;have st:=yc w.o6 L4;generalize ir w.o6 (w.k8.take k)=u at gs sm st;have ct:=RM u (C7.2 gs) (w.k8.getD k l5).id (w.k8.getD k l5).o5;have cb:=Dq u (C7.2 gs) (w.k8.getD k l5).id (w.k8.getD k l5).o5;have fin:∀ v,uW u (w.k8.getD k l5)=v->U0 w v=U0 w (ir w.o6 (w.k8.take (k+1))):=fun v hv=>by rw[st,hv]
  unfold uW at fin;by_cases h1:(w.k8.getD (Int.toNat (k:Int)) l5).o5=0∨¬(w.k8.getD (Int.toNat (k:Int)) l5).due=(U0 w u).o6.count
  ·have f:=fin u (if_pos (show(w.k8.getD k l5).o5=0∨¬(w.k8.getD k l5).due=u.count from h1));conv=>whnf
   refine vf3 ?_ ?_<;>intros
   all_goals
    refine⟨k+1,vb3 ?_⟩;refine kK ⟨⟨?_,?_⟩,?_,?_,rfl⟩
    ·show w.k8.length-(k+1)<w.k8.length-k;omega
    ·show k+1<=w.k8.length;omega
    ·rw[z5 _ va5 va5];rfl
    ·show _=[Row.cells 81 (((eW (U0 w (ir w.o6 (w.k8.take (k+1))))).set 25 (.own 52)).set 21 (.own 53))]
     rw[<- f]<;>rfl
  ·have hn:¬((w.k8.getD k l5).o5=0∨¬(w.k8.getD k l5).due=u.count):=h1;rw[if_neg hn]at fin;by_cases h2:fv u (w.k8.getD k l5).id (w.k8.getD k l5).o5=0
   ·rw[if_pos h2]at fin;have ct:=ct h2;have f:=fin _ rfl;conv=>whnf
    refine vf0 ?_;intros;all_goals
     refine⟨k+1,vb3 ?_⟩;refine kK ⟨⟨?_,?_⟩,?_,?_,rfl⟩
     ·show w.k8.length-(k+1)<w.k8.length-k;omega
     ·show k+1<=w.k8.length;omega
     ·rw[z5 _ va5 va5];rfl
     ·show _=[Row.cells 81 (((eW (U0 w (ir w.o6 (w.k8.take (k+1))))).set 25 (.own 52)).set 21 (.own 53))]
      rw[<- f]<;>rfl
   ·rw[if_neg h2]at fin;have ct:=cb h2;have f:=fin _ rfl;generalize fv u (w.k8.getD k l5).id (w.k8.getD k l5).o5=e at ct h2;conv=>whnf
    refine vf0 ?_;intros;all_goals
     refine⟨k+1,vb3 ?_⟩;refine kK ⟨⟨?_,?_⟩,?_,?_,rfl⟩
     ·show w.k8.length-(k+1)<w.k8.length-k;omega
     ·show k+1<=w.k8.length;omega
     ·rw[z5 _ va5 va5];rfl
     ·show _=[Row.cells 81 (((eW (U0 w (ir w.o6 (w.k8.take (k+1))))).set 25 (.own 52)).set 21 (.own 53))]
      rw[<- f]<;>rfl
 ·have h:=zA0 h;have h:¬(k:Int)<(w.k8.length:Nat):=h;have ek:w.k8.take k=w.k8:=List.take_of_length_le va5;rw[ek];conv=>whnf
  try exact va1
def YQ(b:n9)(n7:List Int):List Row:=mG b++[.vec 3 1 0 eI n7]
abbrev Tz(b:n9)(part:Int)(n7:List Int):AV := .agg [i64 b.next,i64 (C6 b.j8),i64 part,.own 3,u8 (E8 (gj b) n7).2.1,.ff]
theorem AY(b:n9)(o:C8 b)(part:Int)(n7:List Int)(hp:n7.length<2^20)(h:ij b part n7=0) :
  va7 116 [R5 b,i64 part,A9 n7] [] (.tup [mF (lE b part n7),Tz b part n7,i64 0]) (YQ (lE b part n7) n7):=by
 obtain⟨hc,Vd,ha,Ab,ng,rC⟩:=kU h;clear h;have s:=B0 hc;have nx:=oz hc;have c1:va6 99 [i64 0,i64 1099511627776,i64 part] (.bool (decide (0<=part) && decide (part<=1099511627776))):=O4 0 _ part;have c2:=xS b o;have hN:JD b=C6 b.j8:=by unfold JD;rw[if_pos hc,if_pos ha]
 have hE:CQ b=0:=by unfold CQ;rw[if_pos hc,if_pos ha]
 rw[hN,hE]at c2;have c3:=mB (b.j8.getD (C6 b.j8) p9).j9 n7 (P1 hp);have hm1:(E8 (b.j8.getD (C6 b.j8) p9).j9 n7).2.2=0:=Ab;rw[hm1]at c3;have hA:=O1 ha;have c4:=xU b.log (P1 o.l);unfold Eb at c4;have w1:IntKind.i64.wrap (b.next+1)=b.next+1:=z5 _ va5 va5;unfold lE Tz uI ig gj YQ mG;generalize C6 b.j8=n at *
 by_cases hf:(b.log.length:Int)=b.keep
 ·have vN:=ng hf;rw[if_pos vN]at c4;rw[if_pos hf];have hi:=hH vN;generalize b.log.findIdx R6=i at *
  have hdl:=qd hi;have w2:IntKind.i64.wrap ((i:Int)+1)=(i:Int)+1:=z5 _ va5 va5;refine vb5 Tryz.func116 ?_;refine va2 [] [22,19,20,21] (vb3 ?_);refine va3 [] (K0 b o hc) (vb3 ?_);refine vc4 ?_;intros;refine vc6 ?_;intros;refine⟨hA,vb3 ?_⟩;refine vc6 ?_;intros;rw[w2];refine va2 [] [94] (vb3 ?_);refine va3 [21] (Vc b.log i hi) (vb3 ?_);refine ve4 ?_;intros;refine Or.inr ⟨_,_,⟨aI n7 hp,va4,va4,va4⟩,vb3 ?_⟩;refine ve4 ?_;intros;refine⟨n7,⟨b.next,n,part,n7,(E8 (b.j8.getD n p9).j9 n7).2.1,false⟩,⟨rfl,rfl,rfl,?_,?_⟩,?_⟩
  ·show((eX b.log i).length+1)*56<=_;omega
  ·show(eX b.log i).length+1<=_;omega
  conv=>whnf
  refine ve4 ?_;intros;refine va2 [] [137] (vb3 ?_);refine va3 [] (aI n7 hp) (vb3 ?_);refine ve4 ?_;intros;refine⟨[19,20,132,137],va4,vb3 ?_⟩;rw[w1];exact⟨rfl,rfl⟩
 ·rw[if_neg hf];refine vb5 Tryz.func116 ?_;refine va2 [] [22,19,20,21] (vb3 ?_);refine va3 [] (K0 b o hc) (vb3 ?_);refine vc4 ?_;intros;refine vc6 ?_;intros;refine⟨hA,vb3 ?_⟩;refine vc6 ?_;intros;refine Or.inr ⟨_,_,⟨aI n7 hp,va4,va4,va4⟩,vb3 ?_⟩;refine ve4 ?_;intros;refine⟨n7,⟨b.next,n,part,n7,(E8 (b.j8.getD n p9).j9 n7).2.1,false⟩,⟨rfl,rfl,rfl,?_,?_⟩,?_⟩
  ·show(b.log.length+1)*56<=_;omega
  ·show b.log.length+1<=_;omega
  conv=>whnf
  refine ve4 ?_;intros;refine va2 [] [137] (vb3 ?_);refine va3 [] (aI n7 hp) (vb3 ?_);refine ve4 ?_;intros;refine⟨[19,20,132,137],va4,vb3 ?_⟩;rw[w1];exact⟨rfl,rfl⟩
abbrev Gi(t:r9)(j:Nat):AV := .agg ((uN t).set 6 (.own j))
theorem yw(t:r9)(hv:V0 t=0)(hs:jA t=0):va7 115 [gp t] [] (.tup [Gi (oF t) 0,i64 t.next,i64 0]) [wM (oF t).k9]:=by
 have sz:=U1 hv;have c:=I1 t va5;rw[hv]at c;unfold jA at hs;split at hs
 ·cases hs
 split at hs
 ·cases hs
 rename_i h1 h2;have w1:IntKind.i64.wrap (t.next+1)=t.next+1:=z5 _ va5 va5;have z0:=sB t.k9 l9;unfold oF;rw[<- w1];refine vb5 Tryz.func115 ?_;refine vc8 ?_ ?_ ?_<;>intros
 ·(exfalso;have e:=(z0 va5 va5).2;clear z0;simp only[e]at *; omega)
 ·refine⟨⟨u6,4,l9,C2,t.k9⟩,[⟨t.next,t.count,0,false⟩],rfl,congrArg (Pq.mk u6 4 l9 C2) (List.take_of_length_le va9),⟨rfl,rfl⟩,?_,?_,fun y _=>⟨rfl,rfl,rfl⟩,?_⟩
  ·show(t.k9.length+1)*24<=_;omega
  ·show t.k9.length+1<=_;omega
  refine ve4 ?_;intros;refine⟨[52],va4,vb3 ?_⟩;exact⟨rfl,rfl⟩
 ·refine⟨⟨u6,4,l9,C2,t.k9⟩,[⟨t.next,t.count,0,false⟩],rfl,congrArg (Pq.mk u6 4 l9 C2) (List.take_of_length_le va9),⟨rfl,rfl⟩,?_,?_,fun y _=>⟨rfl,rfl,rfl⟩,?_⟩
  ·show(t.k9.length+1)*24<=_;omega
  ·show t.k9.length+1<=_;omega
  refine ve4 ?_;intros;refine⟨[52],va4,vb3 ?_⟩;exact⟨rfl,rfl⟩
theorem Gj(b:n9)(o:C8 b)(part:Int)(n7:List Int)(hp:n7.length<2^20)(h:ij b part n7=0) :
  va7 116 [R5 b,i64 part,A9 n7] [] (.tup [ZE (lE b part n7) 0,.agg [i64 b.next,i64 (C6 b.j8),i64 part,A9 n7,u8 (E8 (gj b) n7).2.1,.ff],i64 0]) [rM (lE b part n7).log] :=
 (((AY b o part n7 hp h).frz (fun i=>Nat.blt i 2 || Nat.beq i 3) rfl).pick rfl 2 va8 nofun).rows fun k=>by
  match k with
  | 0=>rfl
  | 1=>rfl
  | 2=>rfl
  | 3=>rfl
  | (n+4)=>rfl

end Go.Proofs.Tryz.My
