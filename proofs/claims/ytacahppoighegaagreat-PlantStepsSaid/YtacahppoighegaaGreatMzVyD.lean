/- Helper lemmas. -/
import Derived.Test.YtacahppoighegaaGreatMzVyC
import Derived.Test.YtacahppoighegaaGreatMzWxK
set_option linter.unusedVariables false
set_option linter.unusedSimpArgs false
set_option maxRecDepth 100000
set_option maxHeartbeats 0
namespace Go.Proofs.Tryz.My
open Go Go.Ev
theorem yz(w w':n8)(f:FuncId)(kind k7 a7 n n4:Int)(j9:v7)(o8 a8:List Int)(hw:va7 39 [.ptr 0 0 0 0,u8 kind] (kB w) (.fn (.func f) [.ptr 0 0 0 0] []) (kB w))(N:Int)(l:List dO)(ha:va7 f [.ptr 0 0 0 0,I2 kind k7 a7 n n4 j9 o8 a8] (kB w) (.tup [i64 N,o9 l,i64 0]) (PF w')) :
  va7 19 [.ptr 0 0 0 0,I2 kind k7 a7 n n4 j9 o8 a8] (kB w) (bw ⟨0,N,l⟩) (PF w'):=by
 refine vb5 Tryz.func19 ?_;refine⟨va4,vb3 ?_⟩;refine Or.inr ⟨false,[25,26,27],[.ptr 0 0 0 0,u8 kind],_,_,_,⟨hw,rfl,rfl,va4⟩,vb3 ?_⟩;refine⟨_,_,dS (ids:=[25,26,27]) (news:=[0,1]) ha rfl rfl rfl rfl rfl va4 va4,vb3 ?_⟩;refine⟨va4,vb3 ?_⟩;refine ve4 ?_;intros;refine⟨[0,1],va4,vb3 ?_⟩;exact⟨rfl,rfl⟩
theorem KW(w w':n8)(f:FuncId)(kind k7 a7 n n4:Int)(j9:v7)(o8 a8:List Int)(hw:va7 39 [.ptr 0 0 0 0,u8 kind] (kB w) (.fn (.func f) [.ptr 0 0 0 0] []) (kB w))(N:Int)(l:List dO)(ha:va7 f [.ptr 0 0 0 0,I2 kind k7 a7 n n4 j9 o8 a8] (kB w) (.tup [i64 N,o9 l,i64 0]) (YU w')) :
  va7 19 [.ptr 0 0 0 0,I2 kind k7 a7 n n4 j9 o8 a8] (kB w) (bw ⟨0,N,l⟩) (YU w'):=by
 refine vb5 Tryz.func19 ?_;refine⟨va4,vb3 ?_⟩;refine Or.inr ⟨false,[25,26,27],[.ptr 0 0 0 0,u8 kind],_,_,_,⟨hw,rfl,rfl,va4⟩,vb3 ?_⟩;refine⟨_,_,dS (ids:=[25,26,27]) (news:=[0]) ha rfl rfl rfl rfl rfl va4 va4,vb3 ?_⟩;refine⟨va4,vb3 ?_⟩;refine ve4 ?_;intros;refine⟨[0],va4,vb3 ?_⟩;exact⟨rfl,rfl⟩
theorem KX(w w':n8)(f:FuncId)(kind k7 a7 n n4:Int)(j9:v7)(o8 a8:List Int)(hw:va7 39 [.ptr 0 0 0 0,u8 kind] (DB w) (.fn (.func f) [.ptr 0 0 0 0] []) (DB w))(N:Int)(l:List dO)(ha:va7 f [.ptr 0 0 0 0,I2 kind k7 a7 n n4 j9 o8 a8] (DB w) (.tup [i64 N,o9 l,i64 0]) (YR w')) :
  va7 19 [.ptr 0 0 0 0,I2 kind k7 a7 n n4 j9 o8 a8] (DB w) (bw ⟨0,N,l⟩) (YR w'):=by
 refine vb5 Tryz.func19 ?_;refine⟨va4,vb3 ?_⟩;refine Or.inr ⟨false,[25,26],[.ptr 0 0 0 0,u8 kind],_,_,_,⟨hw,rfl,rfl,va4⟩,vb3 ?_⟩;refine⟨_,_,dS (ids:=[25,26]) (news:=[0,1,2]) ha rfl rfl rfl rfl rfl va4 va4,vb3 ?_⟩;refine⟨va4,vb3 ?_⟩;refine ve4 ?_;intros;refine⟨[0,1,2],va4,vb3 ?_⟩;exact⟨rfl,rfl⟩
theorem cB(w w':n8)(f:FuncId)(kind k7 a7 n n4:Int)(j9:v7)(o8 a8:List Int)(hw:va7 39 [.ptr 0 0 0 0,u8 kind] (cG w) (.fn (.func f) [.ptr 0 0 0 0] []) (cG w))(N:Int)(l:List dO)(ha:va7 f [.ptr 0 0 0 0,I2 kind k7 a7 n n4 j9 o8 a8] (cG w) (.tup [i64 N,o9 l,i64 0]) (J1 w')) :
  va7 19 [.ptr 0 0 0 0,I2 kind k7 a7 n n4 j9 o8 a8] (cG w) (bw ⟨0,N,l⟩) (J1 w'):=by
 refine vb5 Tryz.func19 ?_;refine⟨va4,vb3 ?_⟩;refine Or.inr ⟨false,[25,26,27],[.ptr 0 0 0 0,u8 kind],_,_,_,⟨hw,rfl,rfl,va4⟩,vb3 ?_⟩;refine⟨_,_,dS (ids:=[25,26,27]) (news:=[0]) ha rfl rfl rfl rfl rfl va4 va4,vb3 ?_⟩;refine⟨va4,vb3 ?_⟩;refine ve4 ?_;intros;refine⟨[0],va4,vb3 ?_⟩;exact⟨rfl,rfl⟩
theorem KY(w w':n8)(f:FuncId)(kind k7 a7 n n4:Int)(j9:v7)(o8 a8:List Int)(hw:va7 39 [.ptr 0 0 0 0,u8 kind] (J1 w) (.fn (.func f) [.ptr 0 0 0 0] []) (J1 w))(N:Int)(l:List dO)(ha:va7 f [.ptr 0 0 0 0,I2 kind k7 a7 n n4 j9 o8 a8] (J1 w) (.tup [i64 N,o9 l,i64 0]) (J1 w')) :
  va7 19 [.ptr 0 0 0 0,I2 kind k7 a7 n n4 j9 o8 a8] (J1 w) (bw ⟨0,N,l⟩) (J1 w'):=by
 refine vb5 Tryz.func19 ?_;refine⟨va4,vb3 ?_⟩;refine Or.inr ⟨false,[25,26,27,28],[.ptr 0 0 0 0,u8 kind],_,_,_,⟨hw,rfl,rfl,va4⟩,vb3 ?_⟩;refine⟨_,_,dS (ids:=[25,26,27,28]) (news:=[]) ha rfl rfl rfl rfl rfl va4 va4,vb3 ?_⟩;refine⟨va4,?_⟩;conv=>whnf
 try exact va1
theorem V7(w:n8)(f:FuncId)(kind k7 a7 n n4:Int)(j9:v7)(o8 a8:List Int)(hw:va7 39 [.ptr 0 0 0 0,u8 kind] (J1 w) (.fn (.func f) [.ptr 0 0 0 0] []) (J1 w))(e:Int)(he:¬e=0)(ha:va7 f [.ptr 0 0 0 0,I2 kind k7 a7 n n4 j9 o8 a8] (J1 w) (.tup [i64 0,.nils,i64 e]) (J1 w)) :
  va7 19 [.ptr 0 0 0 0,I2 kind k7 a7 n n4 j9 o8 a8] (J1 w) (bw ⟨e,0,[]⟩) (J1 w):=by
 refine PW.sub (res := .agg [i64 e,i64 0,.nils]) ?_ (fM e 0);refine vb5 Tryz.func19 ?_;refine⟨va4,vb3 ?_⟩;refine Or.inr ⟨false,[25,26,27,28],[.ptr 0 0 0 0,u8 kind],_,_,_,⟨hw,rfl,rfl,va4⟩,vb3 ?_⟩;refine⟨_,_,dS (ids:=[25,26,27,28]) (news:=[]) ha rfl rfl rfl rfl rfl va4 va4,vb3 ?_⟩;refine⟨va4,?_⟩;conv=>whnf
 try exact va1
theorem Y6{w:n8}{o:B5}(h:I7 w o=0):Q6 w o=⟨0,Rt w o,FK w o⟩/\R9 w o=JN w o:=by
 unfold Q6 R9;rw[if_pos h,if_pos h];exact⟨rfl,rfl⟩
theorem J2{w:n8}{o:B5}(h:¬I7 w o=0):Q6 w o=⟨I7 w o,0,[]⟩/\R9 w o=w:=by
 unfold Q6 R9;rw[if_neg h,if_neg h];exact⟨rfl,rfl⟩
theorem SE(w:n8)(hb:C8 w.n6)(k7 a7 n n4:Int)(j9:v7)(o8 a8:List Int)(h:¬I7 w ⟨3,k7,a7,n,n4,j9,o8,a8⟩=0):va7 19 [.ptr 0 0 0 0,ord ⟨3,k7,a7,n,n4,j9,o8,a8⟩] (J1 w) (bw (Q6 w ⟨3,k7,a7,n,n4,j9,o8,a8⟩)) (J1 w):=by
 have e:I7 w ⟨3,k7,a7,n,n4,j9,o8,a8⟩=bZ w.n6 n4:=rfl;obtain⟨e1,e2⟩:=J2 h;rw[e1,e];exact V7 w _ 3 k7 a7 n n4 j9 o8 a8 (Sm w) _ h (AT w hb 3 k7 a7 n n4 j9 o8 a8 h)
theorem Wg(w:n8)(hb:C8 w.n6)(k7 a7 n n4:Int)(j9:v7)(o8 a8:List Int)(h:I7 w ⟨3,k7,a7,n,n4,j9,o8,a8⟩=0):va7 19 [.ptr 0 0 0 0,ord ⟨3,k7,a7,n,n4,j9,o8,a8⟩] (cG w) (bw (Q6 w ⟨3,k7,a7,n,n4,j9,o8,a8⟩)) (J1 (R9 w ⟨3,k7,a7,n,n4,j9,o8,a8⟩)):=by
 obtain⟨e1,e2⟩:=Y6 h;rw[e1,e2];exact cB w (cV w (wh w.n6 n4)) _ 3 k7 a7 n n4 j9 o8 a8 (Sw w) (w.n6.n5.length:Nat) [] ((DD w hb 3 k7 a7 n n4 j9 o8 a8 h).sub (br _ _))
theorem SF(w:n8)(hb:C8 w.n6)(k7 a7 n n4:Int)(j9:v7)(o8 a8:List Int)(h:¬I7 w ⟨4,k7,a7,n,n4,j9,o8,a8⟩=0):va7 19 [.ptr 0 0 0 0,ord ⟨4,k7,a7,n,n4,j9,o8,a8⟩] (J1 w) (bw (Q6 w ⟨4,k7,a7,n,n4,j9,o8,a8⟩)) (J1 w):=by
 have e:I7 w ⟨4,k7,a7,n,n4,j9,o8,a8⟩=dq w.n6 k7 j9:=rfl;obtain⟨e1,e2⟩:=J2 h;rw[e1,e];exact V7 w _ 4 k7 a7 n n4 j9 o8 a8 (Sp w) _ h (Ge w hb 4 k7 a7 n n4 j9 o8 a8 h)
theorem Wh(w:n8)(hb:C8 w.n6)(k7 a7 n n4:Int)(j9:v7)(o8 a8:List Int)(h:I7 w ⟨4,k7,a7,n,n4,j9,o8,a8⟩=0):va7 19 [.ptr 0 0 0 0,ord ⟨4,k7,a7,n,n4,j9,o8,a8⟩] (cG w) (bw (Q6 w ⟨4,k7,a7,n,n4,j9,o8,a8⟩)) (J1 (R9 w ⟨4,k7,a7,n,n4,j9,o8,a8⟩)):=by
 obtain⟨e1,e2⟩:=Y6 h;rw[e1,e2];exact cB w (cV w (wo w.n6 k7 j9)) _ 4 k7 a7 n n4 j9 o8 a8 (Sx w) (w.n6.j8.length:Nat) [] ((KB w hb 4 k7 a7 n n4 j9 o8 a8 h).sub (br _ _))
theorem SG(w:n8)(hb:C8 w.n6)(k7 a7 n n4:Int)(j9:v7)(o8 a8:List Int)(h:¬I7 w ⟨5,k7,a7,n,n4,j9,o8,a8⟩=0):va7 19 [.ptr 0 0 0 0,ord ⟨5,k7,a7,n,n4,j9,o8,a8⟩] (J1 w) (bw (Q6 w ⟨5,k7,a7,n,n4,j9,o8,a8⟩)) (J1 w):=by
 have e:I7 w ⟨5,k7,a7,n,n4,j9,o8,a8⟩=ft w.n6 k7 a7:=rfl;obtain⟨e1,e2⟩:=J2 h;rw[e1,e];exact V7 w _ 5 k7 a7 n n4 j9 o8 a8 (Sq w) _ h (AU w hb 5 k7 a7 n n4 j9 o8 a8 h)
theorem Wi(w:n8)(hb:C8 w.n6)(k7 a7 n n4:Int)(j9:v7)(o8 a8:List Int)(h:I7 w ⟨5,k7,a7,n,n4,j9,o8,a8⟩=0):va7 19 [.ptr 0 0 0 0,ord ⟨5,k7,a7,n,n4,j9,o8,a8⟩] (cG w) (bw (Q6 w ⟨5,k7,a7,n,n4,j9,o8,a8⟩)) (J1 (R9 w ⟨5,k7,a7,n,n4,j9,o8,a8⟩)):=by
 obtain⟨e1,e2⟩:=Y6 h;rw[e1,e2];exact cB w (cV w (ou w.n6 k7 a7)) _ 5 k7 a7 n n4 j9 o8 a8 (Sy w) 0 [] ((DE w hb 5 k7 a7 n n4 j9 o8 a8 h).sub (br _ _))
theorem SH(w:n8)(hb:C8 w.n6)(k7 a7 n n4:Int)(j9:v7)(o8 a8:List Int)(h:¬I7 w ⟨6,k7,a7,n,n4,j9,o8,a8⟩=0):va7 19 [.ptr 0 0 0 0,ord ⟨6,k7,a7,n,n4,j9,o8,a8⟩] (J1 w) (bw (Q6 w ⟨6,k7,a7,n,n4,j9,o8,a8⟩)) (J1 w):=by
 have e:I7 w ⟨6,k7,a7,n,n4,j9,o8,a8⟩=Z8 w.n6 k7 a7:=rfl;obtain⟨e1,e2⟩:=J2 h;rw[e1,e];exact V7 w _ 6 k7 a7 n n4 j9 o8 a8 (Sr w) _ h (wN w hb 6 k7 a7 n n4 j9 o8 a8 h)
theorem Wj(w:n8)(hb:C8 w.n6)(k7 a7 n n4:Int)(j9:v7)(o8 a8:List Int)(h:I7 w ⟨6,k7,a7,n,n4,j9,o8,a8⟩=0):va7 19 [.ptr 0 0 0 0,ord ⟨6,k7,a7,n,n4,j9,o8,a8⟩] (cG w) (bw (Q6 w ⟨6,k7,a7,n,n4,j9,o8,a8⟩)) (J1 (R9 w ⟨6,k7,a7,n,n4,j9,o8,a8⟩)):=by
 obtain⟨e1,e2⟩:=Y6 h;rw[e1,e2];exact cB w (cV w (fK w.n6 a7)) _ 6 k7 a7 n n4 j9 o8 a8 (Sz w) 0 [] ((AW w hb 6 k7 a7 n n4 j9 o8 a8 h).sub (br _ _))
theorem SI(w:n8)(hb:C8 w.n6)(k7 a7 n n4:Int)(j9:v7)(o8 a8:List Int)(h:¬I7 w ⟨7,k7,a7,n,n4,j9,o8,a8⟩=0):va7 19 [.ptr 0 0 0 0,ord ⟨7,k7,a7,n,n4,j9,o8,a8⟩] (J1 w) (bw (Q6 w ⟨7,k7,a7,n,n4,j9,o8,a8⟩)) (J1 w):=by
 have e:I7 w ⟨7,k7,a7,n,n4,j9,o8,a8⟩=du w.n6 k7:=rfl;obtain⟨e1,e2⟩:=J2 h;rw[e1,e];exact V7 w _ 7 k7 a7 n n4 j9 o8 a8 (Ss w) _ h (DF w hb 7 k7 a7 n n4 j9 o8 a8 h)
theorem Wk(w:n8)(hb:C8 w.n6)(k7 a7 n n4:Int)(j9:v7)(o8 a8:List Int)(h:I7 w ⟨7,k7,a7,n,n4,j9,o8,a8⟩=0):va7 19 [.ptr 0 0 0 0,ord ⟨7,k7,a7,n,n4,j9,o8,a8⟩] (cG w) (bw (Q6 w ⟨7,k7,a7,n,n4,j9,o8,a8⟩)) (J1 (R9 w ⟨7,k7,a7,n,n4,j9,o8,a8⟩)):=by
 obtain⟨e1,e2⟩:=Y6 h;rw[e1,e2];exact cB w (cV w (mH w.n6 (C6 w.n6.j8))) _ 7 k7 a7 n n4 j9 o8 a8 (SA w) 0 [] ((Gf w hb 7 k7 a7 n n4 j9 o8 a8 h).sub (br _ _))
theorem SJ(w:n8)(hb:C8 w.n6)(k7 a7 n n4:Int)(j9:v7)(o8 a8:List Int)(h:¬I7 w ⟨8,k7,a7,n,n4,j9,o8,a8⟩=0):va7 19 [.ptr 0 0 0 0,ord ⟨8,k7,a7,n,n4,j9,o8,a8⟩] (J1 w) (bw (Q6 w ⟨8,k7,a7,n,n4,j9,o8,a8⟩)) (J1 w):=by
 have e:I7 w ⟨8,k7,a7,n,n4,j9,o8,a8⟩=mJ w.n6 k7 a7:=rfl;obtain⟨e1,e2⟩:=J2 h;rw[e1,e];exact V7 w _ 8 k7 a7 n n4 j9 o8 a8 (Su w) _ h (AX w hb 8 k7 a7 n n4 j9 o8 a8 h)
theorem Wl(w:n8)(hb:C8 w.n6)(k7 a7 n n4:Int)(j9:v7)(o8 a8:List Int)(h:I7 w ⟨8,k7,a7,n,n4,j9,o8,a8⟩=0):va7 19 [.ptr 0 0 0 0,ord ⟨8,k7,a7,n,n4,j9,o8,a8⟩] (cG w) (bw (Q6 w ⟨8,k7,a7,n,n4,j9,o8,a8⟩)) (J1 (R9 w ⟨8,k7,a7,n,n4,j9,o8,a8⟩)):=by
 obtain⟨e1,e2⟩:=Y6 h;rw[e1,e2];exact cB w (cV w (S8 w.n6 a7 true)) _ 8 k7 a7 n n4 j9 o8 a8 (SB w) 0 [] ((DG w hb 8 k7 a7 n n4 j9 o8 a8 h).sub (br _ _))
theorem SK(w:n8)(hb:C8 w.n6)(k7 a7 n n4:Int)(j9:v7)(o8 a8:List Int)(h:¬I7 w ⟨9,k7,a7,n,n4,j9,o8,a8⟩=0):va7 19 [.ptr 0 0 0 0,ord ⟨9,k7,a7,n,n4,j9,o8,a8⟩] (J1 w) (bw (Q6 w ⟨9,k7,a7,n,n4,j9,o8,a8⟩)) (J1 w):=by
 have e:I7 w ⟨9,k7,a7,n,n4,j9,o8,a8⟩=mK w.n6 k7 a7:=rfl;obtain⟨e1,e2⟩:=J2 h;rw[e1,e];exact V7 w _ 9 k7 a7 n n4 j9 o8 a8 (Sv w) _ h (DH w hb 9 k7 a7 n n4 j9 o8 a8 h)
theorem Wm(w:n8)(hb:C8 w.n6)(k7 a7 n n4:Int)(j9:v7)(o8 a8:List Int)(h:I7 w ⟨9,k7,a7,n,n4,j9,o8,a8⟩=0):va7 19 [.ptr 0 0 0 0,ord ⟨9,k7,a7,n,n4,j9,o8,a8⟩] (cG w) (bw (Q6 w ⟨9,k7,a7,n,n4,j9,o8,a8⟩)) (J1 (R9 w ⟨9,k7,a7,n,n4,j9,o8,a8⟩)):=by
 obtain⟨e1,e2⟩:=Y6 h;rw[e1,e2];exact cB w (cV w (S8 w.n6 a7 false)) _ 9 k7 a7 n n4 j9 o8 a8 (SC w) 0 [] ((Gg w hb 9 k7 a7 n n4 j9 o8 a8 h).sub (br _ _))
theorem Pj(w:n8)(hb:C8 w.n6)(k7 a7 n n4:Int)(j9:v7)(o8 a8:List Int)(h:¬I7 w ⟨10,k7,a7,n,n4,j9,o8,a8⟩=0):va7 19 [.ptr 0 0 0 0,ord ⟨10,k7,a7,n,n4,j9,o8,a8⟩] (J1 w) (bw (Q6 w ⟨10,k7,a7,n,n4,j9,o8,a8⟩)) (J1 w):=by
 have e:I7 w ⟨10,k7,a7,n,n4,j9,o8,a8⟩=fw w k7:=rfl;obtain⟨e1,e2⟩:=J2 h;rw[e1,e];exact V7 w _ 10 k7 a7 n n4 j9 o8 a8 (DN w) _ h (Gh w (show w.n6.n5.length<2^20 by have:=hb.u;omega) 10 k7 a7 n n4 j9 o8 a8 h)
theorem SL(w:n8)(hb:C8 w.n6)(k7 a7 n n4:Int)(j9:v7)(o8 a8:List Int)(h:I7 w ⟨10,k7,a7,n,n4,j9,o8,a8⟩=0):va7 19 [.ptr 0 0 0 0,ord ⟨10,k7,a7,n,n4,j9,o8,a8⟩] (J1 w) (bw (Q6 w ⟨10,k7,a7,n,n4,j9,o8,a8⟩)) (J1 (R9 w ⟨10,k7,a7,n,n4,j9,o8,a8⟩)):=by
 obtain⟨e1,e2⟩:=Y6 h;rw[e1,e2];exact KY w (Dg w) _ 10 k7 a7 n n4 j9 o8 a8 (DN w) 0 [] ((KC w (show w.n6.n5.length<2^20 by have:=hb.u;omega) 10 k7 a7 n n4 j9 o8 a8 h).sub (br _ _))
theorem SM(w:n8)(g:C9 w)(k7 a7 n n4:Int)(j9:v7)(o8 a8:List Int)(h:¬I7 w ⟨1,k7,a7,n,n4,j9,o8,a8⟩=0):va7 19 [.ptr 0 0 0 0,ord ⟨1,k7,a7,n,n4,j9,o8,a8⟩] (J1 w) (bw (Q6 w ⟨1,k7,a7,n,n4,j9,o8,a8⟩)) (J1 w):=by
 have e:I7 w ⟨1,k7,a7,n,n4,j9,o8,a8⟩=bz w n:=rfl;obtain⟨e1,e2⟩:=J2 h;rw[e1,e];exact V7 w _ 1 k7 a7 n n4 j9 o8 a8 (Sk w) _ h (Gm w g 1 k7 a7 n n4 j9 o8 a8 h)
theorem SN(w:n8)(g:C9 w)(k7 a7 n n4:Int)(j9:v7)(o8 a8:List Int)(ht:o8.length<2^40)(hn:a8.length<2^40)(h:¬I7 w ⟨2,k7,a7,n,n4,j9,o8,a8⟩=0):va7 19 [.ptr 0 0 0 0,ord ⟨2,k7,a7,n,n4,j9,o8,a8⟩] (J1 w) (bw (Q6 w ⟨2,k7,a7,n,n4,j9,o8,a8⟩)) (J1 w):=by
 have e:I7 w ⟨2,k7,a7,n,n4,j9,o8,a8⟩=mM w ⟨2,k7,a7,n,n4,j9,o8,a8⟩:=rfl;obtain⟨e1,e2⟩:=J2 h;rw[e1,e];exact V7 w _ 2 k7 a7 n n4 j9 o8 a8 (Sl w) _ h (KL w g 2 k7 a7 n n4 j9 o8 a8 ht hn h)
theorem Wn(w:n8)(g:C9 w)(k7 a7 n n4:Int)(j9:v7)(o8 a8:List Int)(h:I7 w ⟨1,k7,a7,n,n4,j9,o8,a8⟩=0)(ao:¬(s7 w).k9.length=0):va7 19 [.ptr 0 0 0 0,ord ⟨1,k7,a7,n,n4,j9,o8,a8⟩] (kB w) (bw (Q6 w ⟨1,k7,a7,n,n4,j9,o8,a8⟩)) (PF (R9 w ⟨1,k7,a7,n,n4,j9,o8,a8⟩)):=by
 obtain⟨e1,e2⟩:=Y6 h;rw[e1,e2];obtain⟨gt,k1,k2,k3⟩:=V5 g;have c:=KV w g 1 k7 a7 n n4 j9 o8 a8 h ao;rw[k2]at c;exact yz w (gz w n) _ 1 k7 a7 n n4 j9 o8 a8 (HP w) _ _ c
theorem SO(w:n8)(g:C9 w)(k7 a7 n n4:Int)(j9:v7)(o8 a8:List Int)(h:I7 w ⟨1,k7,a7,n,n4,j9,o8,a8⟩=0)(ao:(s7 w).k9.length=0):va7 19 [.ptr 0 0 0 0,ord ⟨1,k7,a7,n,n4,j9,o8,a8⟩] (kB w) (bw (Q6 w ⟨1,k7,a7,n,n4,j9,o8,a8⟩)) (YU (R9 w ⟨1,k7,a7,n,n4,j9,o8,a8⟩)):=by
 obtain⟨e1,e2⟩:=Y6 h;rw[e1,e2];have hg:¬I9 (s7 w)=true:=fun q=>DM q ao
 have q1:JN w ⟨1,k7,a7,n,n4,j9,o8,a8⟩=⟨w.line,W9 (s7 w),w.n6,w.drift,moved w n⟩:=by
  show gz w n=_
  unfold gz;rw[if_neg hg]
 have q2:FK w ⟨1,k7,a7,n,n4,j9,o8,a8⟩=[]:=by
  show cj w n=_
  unfold cj;rw[if_neg hg]
 rw[q1,q2];obtain⟨gt,k1,k2,k3⟩:=V5 g;have c:=Gq w g 1 k7 a7 n n4 j9 o8 a8 h hg;rw[k2]at c;exact KW w _ _ 1 k7 a7 n n4 j9 o8 a8 (HP w) _ [] (c.sub (br _ _))
theorem SP(w:n8)(g:C9 w)(hb:C8 w.n6)(k7 a7 n n4:Int)(j9:v7)(o8 a8:List Int)(h:I7 w ⟨2,k7,a7,n,n4,j9,o8,a8⟩=0)(hr:wG w ⟨2,k7,a7,n,n4,j9,o8,a8⟩):va7 19 [.ptr 0 0 0 0,ord ⟨2,k7,a7,n,n4,j9,o8,a8⟩] (DB w) (bw (Q6 w ⟨2,k7,a7,n,n4,j9,o8,a8⟩)) (YR (R9 w ⟨2,k7,a7,n,n4,j9,o8,a8⟩)):=by
 obtain⟨e1,e2⟩:=Y6 h;rw[e1,e2];exact KX w (jB w ⟨2,k7,a7,n,n4,j9,o8,a8⟩) _ 2 k7 a7 n n4 j9 o8 a8 (OR w) _ [] ((KM w g hb 2 k7 a7 n n4 j9 o8 a8 h hr).sub (br _ _))
theorem SR(w:n8)(g:C9 w)(hb:C8 w.n6)(k7 a7 n n4:Int)(j9:v7)(o8 a8:List Int)(h:I7 w ⟨2,k7,a7,n,n4,j9,o8,a8⟩=0)(hr:¬wG w ⟨2,k7,a7,n,n4,j9,o8,a8⟩):va7 19 [.ptr 0 0 0 0,ord ⟨2,k7,a7,n,n4,j9,o8,a8⟩] (kB w) (bw (Q6 w ⟨2,k7,a7,n,n4,j9,o8,a8⟩)) (PF (R9 w ⟨2,k7,a7,n,n4,j9,o8,a8⟩)):=by
 obtain⟨e1,e2⟩:=Y6 h;rw[e1,e2];exact yz w (jB w ⟨2,k7,a7,n,n4,j9,o8,a8⟩) _ 2 k7 a7 n n4 j9 o8 a8 (SD w) _ [] ((KN w g hb 2 k7 a7 n n4 j9 o8 a8 h hr).sub (br _ _))
theorem mQ{w:n8}(g:C9 w):jq w:=⟨Bf g.bk,by have:=g.tk.ln;omega,by have:=g.tk.ln;have:=g.lt;omega⟩
abbrev Pk(w:n8)(i j k:Nat):AV := .agg ((((eW w).set 25 (.own i)).set 16 (.own j)).set 21 (.own k))
abbrev YW(w:n8)(i j:Nat):AV := .agg (((eW w).set 25 (.own i)).set 21 (.own j))
def YX(w:n8):List Row:=[AS w.k8,wM w.o6.k9,rM w.n6.log]
theorem fo(w w':n8)(g:C9 w)(o:B5)(ho:K9 o=true)(ht:o.o8.length<2^40)(hn:o.a8.length<2^40)(hr:0<=o.n4/\o.n4<=255)(a:oE)
  (c4:va7 19 [.ptr 0 0 0 0,ord o] (J1 w) (bw a) (J1 w')):va7 7 [ai w,ord o] [] (.tup [Pk w' 0 1 2,bw a,i64 0]) (YX w'):=by
 have c1:va6 17 [ai w] (i64 0):=by have c:=cw w (mQ g);rwa[bo.2 g]at c
 have c2:va6 11 [ord o] (i64 0):=by have c:=Q8 o ht hn hr;rwa[if_pos ho]at c
 have c3:=kA w (mQ g);refine vb5 Tryz.func7 ?_;refine vc0 ?_;intros;refine va2 [] [22,11,12,13] (vb3 ?_);refine va3 [] c3 (vb3 ?_);refine va2 [] [] (vb3 ?_);refine va3 [22,11,12,13] c4 (vb3 ?_);refine vc4 ?_;intros;all_goals
  refine⟨[11,12,13],va4,vb3 ?_⟩;exact⟨rfl,rfl⟩
theorem mR(w w':n8)(g:C9 w)(o:B5)(ho:K9 o=true)(ht:o.o8.length<2^40)(hn:o.a8.length<2^40)(hr:0<=o.n4/\o.n4<=255)(a:oE)
  (c4:va7 19 [.ptr 0 0 0 0,ord o] (cG w) (bw a) (J1 w')):va7 7 [ai w,ord o] [] (.tup [Pk w' 0 1 2,bw a,i64 0]) (YX w'):=by
 have c1:va6 17 [ai w] (i64 0):=by have c:=cw w (mQ g);rwa[bo.2 g]at c
 have c2:va6 11 [ord o] (i64 0):=by have c:=Q8 o ht hn hr;rwa[if_pos ho]at c
 have c3:=kA w (mQ g);refine vb5 Tryz.func7 ?_;refine vc0 ?_;intros;refine va2 [] [22,11,12,13] (vb3 ?_);refine va3 [] c3 (vb3 ?_);refine va2 [13] [14] (vb3 ?_);refine va3 [22,11,12] c4 (vb3 ?_);refine vc4 ?_;intros;all_goals
  refine⟨[11,12,14],va4,vb3 ?_⟩;exact⟨rfl,rfl⟩
theorem Pl(w w':n8)(g:C9 w)(o:B5)(ho:K9 o=true)(ht:o.o8.length<2^40)(hn:o.a8.length<2^40)(hr:0<=o.n4/\o.n4<=255)(a:oE)
  (c4:va7 19 [.ptr 0 0 0 0,ord o] (kB w) (bw a) (PF w')):va7 7 [ai w,ord o] [] (.tup [Pk w' 0 1 2,bw a,i64 0]) (YX w'):=by
 have c1:va6 17 [ai w] (i64 0):=by have c:=cw w (mQ g);rwa[bo.2 g]at c
 have c2:va6 11 [ord o] (i64 0):=by have c:=Q8 o ht hn hr;rwa[if_pos ho]at c
 have c3:=kA w (mQ g);refine vb5 Tryz.func7 ?_;refine vc0 ?_;intros;refine va2 [] [22,11,12,13] (vb3 ?_);refine va3 [] c3 (vb3 ?_);refine va2 [12] [14,15] (vb3 ?_);refine va3 [22,11,13] c4 (vb3 ?_);refine vc4 ?_;intros;all_goals
  refine⟨[14,15,13],va4,vb3 ?_⟩;exact⟨rfl,rfl⟩
theorem Wo(w w':n8)(g:C9 w)(o:B5)(ho:K9 o=true)(ht:o.o8.length<2^40)(hn:o.a8.length<2^40)(hr:0<=o.n4/\o.n4<=255)(a:oE)
  (c4:va7 19 [.ptr 0 0 0 0,ord o] (DB w) (bw a) (YR w')):va7 7 [ai w,ord o] [] (.tup [Pk w' 0 1 2,bw a,i64 0]) (YX w'):=by
 have c1:va6 17 [ai w] (i64 0):=by have c:=cw w (mQ g);rwa[bo.2 g]at c
 have c2:va6 11 [ord o] (i64 0):=by have c:=Q8 o ht hn hr;rwa[if_pos ho]at c
 have c3:=kA w (mQ g);refine vb5 Tryz.func7 ?_;refine vc0 ?_;intros;refine va2 [] [22,11,12,13] (vb3 ?_);refine va3 [] c3 (vb3 ?_);refine va2 [12,13] [14,15,16] (vb3 ?_);refine va3 [22,11] c4 (vb3 ?_);refine vc4 ?_;intros;all_goals
  refine⟨[14,15,16],va4,vb3 ?_⟩;exact⟨rfl,rfl⟩
theorem Wp(w w':n8)(g:C9 w)(o:B5)(ho:K9 o=true)(ht:o.o8.length<2^40)(hn:o.a8.length<2^40)(hr:0<=o.n4/\o.n4<=255)(a:oE)
  (c4:va7 19 [.ptr 0 0 0 0,ord o] (kB w) (bw a) (YU w')):va7 7 [ai w,ord o] [] (.tup [YW w' 0 1,bw a,i64 0]) ([AS w'.k8,rM w'.n6.log]):=by
 have c1:va6 17 [ai w] (i64 0):=by have c:=cw w (mQ g);rwa[bo.2 g]at c
 have c2:va6 11 [ord o] (i64 0):=by have c:=Q8 o ht hn hr;rwa[if_pos ho]at c
 have c3:=kA w (mQ g);refine vb5 Tryz.func7 ?_;refine vc0 ?_;intros;refine va2 [] [22,11,12,13] (vb3 ?_);refine va3 [] c3 (vb3 ?_);refine va2 [12] [14] (vb3 ?_);refine va3 [22,11,13] c4 (vb3 ?_);refine vc4 ?_;intros;all_goals
  refine⟨[14,13],va4,vb3 ?_⟩;exact⟨rfl,rfl⟩

end Go.Proofs.Tryz.My
