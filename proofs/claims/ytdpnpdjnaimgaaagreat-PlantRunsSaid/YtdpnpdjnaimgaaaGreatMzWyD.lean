/- Helper lemmas. -/
import Derived.Test.YtdpnpdjnaimgaaaGreatMzWyC
import Derived.Test.YtdpnpdjnaimgaaaGreatMzWxK
set_option linter.unusedVariables false
set_option linter.unusedSimpArgs false
set_option maxRecDepth 100000
set_option maxHeartbeats 0
namespace Go.Proofs.Tryz.My
open Go Go.Ev
abbrev wkS(w:n9):St:=⟨[],List.replicate 28 .none++(H0 w).map (C1 [28,29]),.plain⟩
abbrev MB(w:n9)(k:Int)(f:FuncId):Prop:=(true=true)/\((0<=k/\k<11)/\∃ news:List Nat,
 (di ([28,29]++news) && Nat.beq (H0 w).length ([28,29]++news).length && (AV.fn (.func f) [.ptr 0 0 0 0] []).under (H0 w).length && (H0 w).all (E4 (H0 w).length))=true /\
 ((AV.fn (.func f) [.ptr 28 0 0 0] [])=(AV.fn (.func f) [.ptr 0 0 0 0] []).ren ([28,29]++news)/\([28,29]++news).map (wkS w).row=(H0 w).map (C1 ([28,29]++news))))
theorem Bt(w:n9):va7 132 [.ptr 0 0 0 0,u8 1] (H0 w) (.fn (.func 169) [.ptr 0 0 0 0] []) (H0 w):=by
 have e:V8 Tryz.prog Tryz.f132 [.ptr 0 0 0 0,u8 1] (H0 w) (.fn (.func 169) [.ptr 0 0 0 0] []) (H0 w)=MB w 1 169:=by kernel_rfl
 refine A7 hm Tryz.func132 va4 ?_;rw[e];exact⟨rfl,⟨va8,va8⟩,[],va4,rfl,rfl⟩
theorem Bu(w:n9):va7 132 [.ptr 0 0 0 0,u8 2] (H0 w) (.fn (.func 170) [.ptr 0 0 0 0] []) (H0 w):=by
 have e:V8 Tryz.prog Tryz.f132 [.ptr 0 0 0 0,u8 2] (H0 w) (.fn (.func 170) [.ptr 0 0 0 0] []) (H0 w)=MB w 2 170:=by kernel_rfl
 refine A7 hm Tryz.func132 va4 ?_;rw[e];exact⟨rfl,⟨va8,va8⟩,[],va4,rfl,rfl⟩
theorem Bv(w:n9):va7 132 [.ptr 0 0 0 0,u8 3] (H0 w) (.fn (.func 171) [.ptr 0 0 0 0] []) (H0 w):=by
 have e:V8 Tryz.prog Tryz.f132 [.ptr 0 0 0 0,u8 3] (H0 w) (.fn (.func 171) [.ptr 0 0 0 0] []) (H0 w)=MB w 3 171:=by kernel_rfl
 refine A7 hm Tryz.func132 va4 ?_;rw[e];exact⟨rfl,⟨va8,va8⟩,[],va4,rfl,rfl⟩
theorem Bw(w:n9):va7 132 [.ptr 0 0 0 0,u8 4] (H0 w) (.fn (.func 172) [.ptr 0 0 0 0] []) (H0 w):=by
 have e:V8 Tryz.prog Tryz.f132 [.ptr 0 0 0 0,u8 4] (H0 w) (.fn (.func 172) [.ptr 0 0 0 0] []) (H0 w)=MB w 4 172:=by kernel_rfl
 refine A7 hm Tryz.func132 va4 ?_;rw[e];exact⟨rfl,⟨va8,va8⟩,[],va4,rfl,rfl⟩
theorem Bx(w:n9):va7 132 [.ptr 0 0 0 0,u8 5] (H0 w) (.fn (.func 173) [.ptr 0 0 0 0] []) (H0 w):=by
 have e:V8 Tryz.prog Tryz.f132 [.ptr 0 0 0 0,u8 5] (H0 w) (.fn (.func 173) [.ptr 0 0 0 0] []) (H0 w)=MB w 5 173:=by kernel_rfl
 refine A7 hm Tryz.func132 va4 ?_;rw[e];exact⟨rfl,⟨va8,va8⟩,[],va4,rfl,rfl⟩
theorem By(w:n9):va7 132 [.ptr 0 0 0 0,u8 6] (H0 w) (.fn (.func 174) [.ptr 0 0 0 0] []) (H0 w):=by
 have e:V8 Tryz.prog Tryz.f132 [.ptr 0 0 0 0,u8 6] (H0 w) (.fn (.func 174) [.ptr 0 0 0 0] []) (H0 w)=MB w 6 174:=by kernel_rfl
 refine A7 hm Tryz.func132 va4 ?_;rw[e];exact⟨rfl,⟨va8,va8⟩,[],va4,rfl,rfl⟩
theorem Bz(w:n9):va7 132 [.ptr 0 0 0 0,u8 7] (H0 w) (.fn (.func 175) [.ptr 0 0 0 0] []) (H0 w):=by
 have e:V8 Tryz.prog Tryz.f132 [.ptr 0 0 0 0,u8 7] (H0 w) (.fn (.func 175) [.ptr 0 0 0 0] []) (H0 w)=MB w 7 175:=by kernel_rfl
 refine A7 hm Tryz.func132 va4 ?_;rw[e];exact⟨rfl,⟨va8,va8⟩,[],va4,rfl,rfl⟩
theorem BA(w:n9):va7 132 [.ptr 0 0 0 0,u8 8] (H0 w) (.fn (.func 176) [.ptr 0 0 0 0] []) (H0 w):=by
 have e:V8 Tryz.prog Tryz.f132 [.ptr 0 0 0 0,u8 8] (H0 w) (.fn (.func 176) [.ptr 0 0 0 0] []) (H0 w)=MB w 8 176:=by kernel_rfl
 refine A7 hm Tryz.func132 va4 ?_;rw[e];exact⟨rfl,⟨va8,va8⟩,[],va4,rfl,rfl⟩
theorem BB(w:n9):va7 132 [.ptr 0 0 0 0,u8 9] (H0 w) (.fn (.func 177) [.ptr 0 0 0 0] []) (H0 w):=by
 have e:V8 Tryz.prog Tryz.f132 [.ptr 0 0 0 0,u8 9] (H0 w) (.fn (.func 177) [.ptr 0 0 0 0] []) (H0 w)=MB w 9 177:=by kernel_rfl
 refine A7 hm Tryz.func132 va4 ?_;rw[e];exact⟨rfl,⟨va8,va8⟩,[],va4,rfl,rfl⟩
theorem vK(w:n9):va7 132 [.ptr 0 0 0 0,u8 10] (H0 w) (.fn (.func 178) [.ptr 0 0 0 0] []) (H0 w):=by
 have e:V8 Tryz.prog Tryz.f132 [.ptr 0 0 0 0,u8 10] (H0 w) (.fn (.func 178) [.ptr 0 0 0 0] []) (H0 w)=MB w 10 178:=by kernel_rfl
 refine A7 hm Tryz.func132 va4 ?_;rw[e];exact⟨rfl,⟨va8,va8⟩,[],va4,rfl,rfl⟩
theorem cP(a b:Int):pI (.tup [i64 a,.nils,i64 b]) (.tup [i64 a,n7 [],i64 b]):=by
 refine(nB (xs:=[i64 a,.nils,i64 b]) (ys:=[i64 a,n7 [],i64 b]) rfl fun i hi=>?_).2
 match i with
 | 0=>exact .refl _
 | 1=>exact .nils _ _ _
 | 2=>exact .refl _
 | (k+3)=>exact .refl _
theorem OZ(a b:Int):pI (.agg [i64 a,i64 b,.nils]) (jB ⟨a,b,[]⟩):=by
 refine(nB (xs:=[i64 a,i64 b,.nils]) (ys:=xX ⟨a,b,[]⟩) rfl fun i hi=>?_).1
 match i with
 | 0=>exact .refl _
 | 1=>exact .refl _
 | 2=>exact .nils _ _ _
 | (k+3)=>exact .refl _
theorem cj(w w':n9)(f:FuncId)(kind j8 a7 n j9:Int)(gauge:x8)(tru a8:List Int)(N:Int)(l:List V5)(hw:va7 132 [.ptr 0 0 0 0,u8 kind] (H0 w) (.fn (.func f) [.ptr 0 0 0 0] []) (H0 w))(ha:va7 f [.ptr 0 0 0 0,Q2 kind j8 a7 n j9 gauge tru a8] (H0 w) (.tup [i64 N,n7 l,i64 0]) (H0 w')) :
  va7 79 [.ptr 0 0 0 0,Q2 kind j8 a7 n j9 gauge tru a8] (H0 w) (jB ⟨0,N,l⟩) (H0 w'):=by
 refine pW Tryz.func79 ⟨va4,?_⟩;conv=>whnf
 refine⟨va4,?_⟩;conv=>whnf
 refine Or.inr ⟨false,[25,26],[.ptr 0 0 0 0,u8 kind],_,_,_,⟨hw,rfl,rfl,va4⟩,?_⟩;conv=>whnf
 refine Or.inr ⟨false,[25,26],[.ptr 0 0 0 0,Q2 kind j8 a7 n j9 gauge tru a8],_,_,_,⟨ha,rfl,rfl,va4⟩,?_⟩;conv=>whnf
 refine⟨va4,?_⟩;conv=>whnf
 try exact va1
theorem BC(w w':n9)(f:FuncId)(kind j8 a7 n j9:Int)(gauge:x8)(tru a8:List Int)(N:Int)(l:List V5)(hw:va7 132 [.ptr 0 0 0 0,u8 kind] (H0 w) (.fn (.func f) [.ptr 0 0 0 0] []) (H0 w))(ha:va7 f [.ptr 0 0 0 0,Q2 kind j8 a7 n j9 gauge tru a8] (H0 w) (.tup [i64 N,n7 l,i64 0]) (yg w')) :
  va7 79 [.ptr 0 0 0 0,Q2 kind j8 a7 n j9 gauge tru a8] (H0 w) (jB ⟨0,N,l⟩) (yg w'):=by
 refine pW Tryz.func79 ⟨va4,?_⟩;conv=>whnf
 refine⟨va4,?_⟩;conv=>whnf
 refine Or.inr ⟨false,[25,26],[.ptr 0 0 0 0,u8 kind],_,_,_,⟨hw,rfl,rfl,va4⟩,?_⟩;conv=>whnf
 refine Or.inr ⟨true,[25,26],[.ptr 0 0 0 0,Q2 kind j8 a7 n j9 gauge tru a8],_,_,_,⟨ha,rfl,rfl,va4⟩,?_⟩;conv=>whnf
 refine⟨va4,?_⟩;conv=>whnf
 refine vb8 ?_;(repeat intro hh);refine⟨[14],va4,?_⟩;conv=>whnf
 exact⟨rfl,rfl⟩
theorem Y3(w:n9)(f:FuncId)(kind j8 a7 n j9:Int)(gauge:x8)(tru a8:List Int)(e:Int)(he:¬e=0)(hw:va7 132 [.ptr 0 0 0 0,u8 kind] (H0 w) (.fn (.func f) [.ptr 0 0 0 0] []) (H0 w))(ha:va7 f [.ptr 0 0 0 0,Q2 kind j8 a7 n j9 gauge tru a8] (H0 w) (.tup [i64 0,.nils,i64 e]) (H0 w)) :
  va7 79 [.ptr 0 0 0 0,Q2 kind j8 a7 n j9 gauge tru a8] (H0 w) (jB ⟨e,0,[]⟩) (H0 w):=by
 refine PW.sub (res := .agg [i64 e,i64 0,.nils]) ?_ (OZ e 0);refine pW Tryz.func79 ⟨va4,?_⟩;conv=>whnf
 refine⟨va4,?_⟩;conv=>whnf
 refine Or.inr ⟨false,[25,26],[.ptr 0 0 0 0,u8 kind],_,_,_,⟨hw,rfl,rfl,va4⟩,?_⟩;conv=>whnf
 refine Or.inr ⟨false,[25,26],[.ptr 0 0 0 0,Q2 kind j8 a7 n j9 gauge tru a8],_,_,_,⟨ha,rfl,rfl,va4⟩,?_⟩;conv=>whnf
 refine⟨va4,?_⟩;conv=>whnf
 try exact va1
theorem aO{w:n9}{o:r8}(h:K0 w o=0):G9 w o=⟨0,AI w o,mO w o⟩/\Q6 w o=od w o:=by
 unfold G9 Q6;rw[if_pos h,if_pos h];exact⟨rfl,rfl⟩
theorem W8{w:n9}{o:r8}(h:¬K0 w o=0):G9 w o=⟨K0 w o,0,[]⟩/\Q6 w o=w:=by
 unfold G9 Q6;rw[if_neg h,if_neg h];exact⟨rfl,rfl⟩
theorem Pb(w:n9)(hb:G8 w.l9)(j8 a7 n j9:Int)(gauge:x8)(tru a8:List Int):va7 79 [.ptr 0 0 0 0,ord ⟨3,j8,a7,n,j9,gauge,tru,a8⟩] (H0 w) (jB (G9 w ⟨3,j8,a7,n,j9,gauge,tru,a8⟩)) (H0 (Q6 w ⟨3,j8,a7,n,j9,gauge,tru,a8⟩)):=by
 have e:K0 w ⟨3,j8,a7,n,j9,gauge,tru,a8⟩=iq w.l9 j9:=rfl;by_cases h:iq w.l9 j9=0
 ·obtain⟨e1,e2⟩:=aO (e.trans h);rw[e1,e2];exact cj w (lr w (tO w.l9 j9)) _ 3 j8 a7 n j9 gauge tru a8 (w.l9.p9.length:Nat) [] (Bv w) ((Ba w hb 3 j8 a7 n j9 gauge tru a8 h).sub (cP _ _))
 ·obtain⟨e1,e2⟩:=W8 (show ¬K0 w ⟨3,j8,a7,n,j9,gauge,tru,a8⟩=0 by rw[e];exact h);rw[e1,e2,e];exact Y3 w _ 3 j8 a7 n j9 gauge tru a8 _ h (Bv w) (ya w hb 3 j8 a7 n j9 gauge tru a8 h)
theorem Pc(w:n9)(hb:G8 w.l9)(j8 a7 n j9:Int)(gauge:x8)(tru a8:List Int):va7 79 [.ptr 0 0 0 0,ord ⟨4,j8,a7,n,j9,gauge,tru,a8⟩] (H0 w) (jB (G9 w ⟨4,j8,a7,n,j9,gauge,tru,a8⟩)) (H0 (Q6 w ⟨4,j8,a7,n,j9,gauge,tru,a8⟩)):=by
 have e:K0 w ⟨4,j8,a7,n,j9,gauge,tru,a8⟩=iU w.l9 j8 gauge:=rfl;by_cases h:iU w.l9 j8 gauge=0
 ·obtain⟨e1,e2⟩:=aO (e.trans h);rw[e1,e2];exact cj w (lr w (tQ w.l9 j8 gauge)) _ 4 j8 a7 n j9 gauge tru a8 (w.l9.recipes.length:Nat) [] (Bw w) ((HX w hb 4 j8 a7 n j9 gauge tru a8 h).sub (cP _ _))
 ·obtain⟨e1,e2⟩:=W8 (show ¬K0 w ⟨4,j8,a7,n,j9,gauge,tru,a8⟩=0 by rw[e];exact h);rw[e1,e2,e];exact Y3 w _ 4 j8 a7 n j9 gauge tru a8 _ h (Bw w) (DL w hb 4 j8 a7 n j9 gauge tru a8 h)
theorem Pd(w:n9)(hb:G8 w.l9)(j8 a7 n j9:Int)(gauge:x8)(tru a8:List Int):va7 79 [.ptr 0 0 0 0,ord ⟨5,j8,a7,n,j9,gauge,tru,a8⟩] (H0 w) (jB (G9 w ⟨5,j8,a7,n,j9,gauge,tru,a8⟩)) (H0 (Q6 w ⟨5,j8,a7,n,j9,gauge,tru,a8⟩)):=by
 have e:K0 w ⟨5,j8,a7,n,j9,gauge,tru,a8⟩=iY w.l9 j8 a7:=rfl;by_cases h:iY w.l9 j8 a7=0
 ·obtain⟨e1,e2⟩:=aO (e.trans h);rw[e1,e2];exact cj w (lr w (nQ w.l9 j8 a7)) _ 5 j8 a7 n j9 gauge tru a8 0 [] (Bx w) ((Bb w hb 5 j8 a7 n j9 gauge tru a8 h).sub (cP _ _))
 ·obtain⟨e1,e2⟩:=W8 (show ¬K0 w ⟨5,j8,a7,n,j9,gauge,tru,a8⟩=0 by rw[e];exact h);rw[e1,e2,e];exact Y3 w _ 5 j8 a7 n j9 gauge tru a8 _ h (Bx w) (yb w hb 5 j8 a7 n j9 gauge tru a8 h)
theorem Pe(w:n9)(hb:G8 w.l9)(j8 a7 n j9:Int)(gauge:x8)(tru a8:List Int):va7 79 [.ptr 0 0 0 0,ord ⟨6,j8,a7,n,j9,gauge,tru,a8⟩] (H0 w) (jB (G9 w ⟨6,j8,a7,n,j9,gauge,tru,a8⟩)) (H0 (Q6 w ⟨6,j8,a7,n,j9,gauge,tru,a8⟩)):=by
 have e:K0 w ⟨6,j8,a7,n,j9,gauge,tru,a8⟩=dq w.l9 j8 a7:=rfl;by_cases h:dq w.l9 j8 a7=0
 ·obtain⟨e1,e2⟩:=aO (e.trans h);rw[e1,e2];exact cj w (lr w (fF w.l9 a7)) _ 6 j8 a7 n j9 gauge tru a8 0 [] (By w) ((yc w hb 6 j8 a7 n j9 gauge tru a8 h).sub (cP _ _))
 ·obtain⟨e1,e2⟩:=W8 (show ¬K0 w ⟨6,j8,a7,n,j9,gauge,tru,a8⟩=0 by rw[e];exact h);rw[e1,e2,e];exact Y3 w _ 6 j8 a7 n j9 gauge tru a8 _ h (By w) (ui w hb 6 j8 a7 n j9 gauge tru a8 h)
theorem Pf(w:n9)(hb:G8 w.l9)(j8 a7 n j9:Int)(gauge:x8)(tru a8:List Int):va7 79 [.ptr 0 0 0 0,ord ⟨7,j8,a7,n,j9,gauge,tru,a8⟩] (H0 w) (jB (G9 w ⟨7,j8,a7,n,j9,gauge,tru,a8⟩)) (H0 (Q6 w ⟨7,j8,a7,n,j9,gauge,tru,a8⟩)):=by
 have e:K0 w ⟨7,j8,a7,n,j9,gauge,tru,a8⟩=iV w.l9 j8:=rfl;by_cases h:iV w.l9 j8=0
 ·obtain⟨e1,e2⟩:=aO (e.trans h);rw[e1,e2];exact cj w (lr w (mC w.l9 (A4 w.l9.recipes))) _ 7 j8 a7 n j9 gauge tru a8 0 [] (Bz w) ((DM w hb 7 j8 a7 n j9 gauge tru a8 h).sub (cP _ _))
 ·obtain⟨e1,e2⟩:=W8 (show ¬K0 w ⟨7,j8,a7,n,j9,gauge,tru,a8⟩=0 by rw[e];exact h);rw[e1,e2,e];exact Y3 w _ 7 j8 a7 n j9 gauge tru a8 _ h (Bz w) (Bc w hb 7 j8 a7 n j9 gauge tru a8 h)
theorem Pg(w:n9)(hb:G8 w.l9)(j8 a7 n j9:Int)(gauge:x8)(tru a8:List Int):va7 79 [.ptr 0 0 0 0,ord ⟨8,j8,a7,n,j9,gauge,tru,a8⟩] (H0 w) (jB (G9 w ⟨8,j8,a7,n,j9,gauge,tru,a8⟩)) (H0 (Q6 w ⟨8,j8,a7,n,j9,gauge,tru,a8⟩)):=by
 have e:K0 w ⟨8,j8,a7,n,j9,gauge,tru,a8⟩=sA w.l9 j8 a7:=rfl;by_cases h:sA w.l9 j8 a7=0
 ·obtain⟨e1,e2⟩:=aO (e.trans h);rw[e1,e2];exact cj w (lr w (W0 w.l9 a7 true)) _ 8 j8 a7 n j9 gauge tru a8 0 [] (BA w) ((Bd w hb 8 j8 a7 n j9 gauge tru a8 h).sub (cP _ _))
 ·obtain⟨e1,e2⟩:=W8 (show ¬K0 w ⟨8,j8,a7,n,j9,gauge,tru,a8⟩=0 by rw[e];exact h);rw[e1,e2,e];exact Y3 w _ 8 j8 a7 n j9 gauge tru a8 _ h (BA w) (yd w hb 8 j8 a7 n j9 gauge tru a8 h)
theorem Ph(w:n9)(hb:G8 w.l9)(j8 a7 n j9:Int)(gauge:x8)(tru a8:List Int):va7 79 [.ptr 0 0 0 0,ord ⟨9,j8,a7,n,j9,gauge,tru,a8⟩] (H0 w) (jB (G9 w ⟨9,j8,a7,n,j9,gauge,tru,a8⟩)) (H0 (Q6 w ⟨9,j8,a7,n,j9,gauge,tru,a8⟩)):=by
 have e:K0 w ⟨9,j8,a7,n,j9,gauge,tru,a8⟩=sB w.l9 j8 a7:=rfl;by_cases h:sB w.l9 j8 a7=0
 ·obtain⟨e1,e2⟩:=aO (e.trans h);rw[e1,e2];exact cj w (lr w (W0 w.l9 a7 false)) _ 9 j8 a7 n j9 gauge tru a8 0 [] (BB w) ((DN w hb 9 j8 a7 n j9 gauge tru a8 h).sub (cP _ _))
 ·obtain⟨e1,e2⟩:=W8 (show ¬K0 w ⟨9,j8,a7,n,j9,gauge,tru,a8⟩=0 by rw[e];exact h);rw[e1,e2,e];exact Y3 w _ 9 j8 a7 n j9 gauge tru a8 _ h (BB w) (Be w hb 9 j8 a7 n j9 gauge tru a8 h)
theorem LP(w:n9)(hb:G8 w.l9)(j8 a7 n j9:Int)(gauge:x8)(tru a8:List Int):va7 79 [.ptr 0 0 0 0,ord ⟨10,j8,a7,n,j9,gauge,tru,a8⟩] (H0 w) (jB (G9 w ⟨10,j8,a7,n,j9,gauge,tru,a8⟩)) (H0 (Q6 w ⟨10,j8,a7,n,j9,gauge,tru,a8⟩)):=by
 have e:K0 w ⟨10,j8,a7,n,j9,gauge,tru,a8⟩=oa w j8:=rfl;by_cases h:oa w j8=0
 ·obtain⟨e1,e2⟩:=aO (e.trans h);rw[e1,e2];exact cj w (Dz w) _ 10 j8 a7 n j9 gauge tru a8 0 [] (vK w) ((HY w hb.u 10 j8 a7 n j9 gauge tru a8 h).sub (cP _ _))
 ·obtain⟨e1,e2⟩:=W8 (show ¬K0 w ⟨10,j8,a7,n,j9,gauge,tru,a8⟩=0 by rw[e];exact h);rw[e1,e2,e];exact Y3 w _ 10 j8 a7 n j9 gauge tru a8 _ h (vK w) (DO w hb.u 10 j8 a7 n j9 gauge tru a8 h)
theorem LQ(w:n9)(g:I6 w)(j8 a7 n j9:Int)(gauge:x8)(tru a8:List Int)(h:¬K0 w ⟨1,j8,a7,n,j9,gauge,tru,a8⟩=0):va7 79 [.ptr 0 0 0 0,ord ⟨1,j8,a7,n,j9,gauge,tru,a8⟩] (H0 w) (jB (G9 w ⟨1,j8,a7,n,j9,gauge,tru,a8⟩)) (H0 (Q6 w ⟨1,j8,a7,n,j9,gauge,tru,a8⟩)):=by
 have e:K0 w ⟨1,j8,a7,n,j9,gauge,tru,a8⟩=ir w n:=rfl;obtain⟨e1,e2⟩:=W8 h;rw[e1,e2,e];exact Y3 w _ 1 j8 a7 n j9 gauge tru a8 _ h (Bt w) (DS w g 1 j8 a7 n j9 gauge tru a8 h)
theorem Pj(w:n9)(g:I6 w)(j8 a7 n j9:Int)(gauge:x8)(tru a8:List Int)(h:K0 w ⟨1,j8,a7,n,j9,gauge,tru,a8⟩=0):va7 79 [.ptr 0 0 0 0,ord ⟨1,j8,a7,n,j9,gauge,tru,a8⟩] (H0 w) (jB (G9 w ⟨1,j8,a7,n,j9,gauge,tru,a8⟩)) (yg (Q6 w ⟨1,j8,a7,n,j9,gauge,tru,a8⟩)):=by
 obtain⟨e1,e2⟩:=aO h;rw[e1,e2];exact BC w (X4 w n) _ 1 j8 a7 n j9 gauge tru a8 _ _ (Bt w) (Ic w g 1 j8 a7 n j9 gauge tru a8 h)
theorem LR(w:n9)(g:I6 w)(j8 a7 n j9:Int)(gauge:x8)(tru a8:List Int)(ht:tru.length<2^40)(hn:a8.length<2^40)(h:¬K0 w ⟨2,j8,a7,n,j9,gauge,tru,a8⟩=0):va7 79 [.ptr 0 0 0 0,ord ⟨2,j8,a7,n,j9,gauge,tru,a8⟩] (H0 w) (jB (G9 w ⟨2,j8,a7,n,j9,gauge,tru,a8⟩)) (H0 (Q6 w ⟨2,j8,a7,n,j9,gauge,tru,a8⟩)):=by
 have e:K0 w ⟨2,j8,a7,n,j9,gauge,tru,a8⟩=jR w ⟨2,j8,a7,n,j9,gauge,tru,a8⟩:=rfl;obtain⟨e1,e2⟩:=W8 h;rw[e1,e2,e];exact Y3 w _ 2 j8 a7 n j9 gauge tru a8 _ h (Bu w) (Ib w g 2 j8 a7 n j9 gauge tru a8 ht hn h)
theorem Pk(w:n9)(g:I6 w)(j8 a7 n j9:Int)(gauge:x8)(tru a8:List Int)(h:K0 w ⟨2,j8,a7,n,j9,gauge,tru,a8⟩=0):va7 79 [.ptr 0 0 0 0,ord ⟨2,j8,a7,n,j9,gauge,tru,a8⟩] (H0 w) (jB (G9 w ⟨2,j8,a7,n,j9,gauge,tru,a8⟩)) (yg (Q6 w ⟨2,j8,a7,n,j9,gauge,tru,a8⟩)):=by
 obtain⟨e1,e2⟩:=aO h;rw[e1,e2];exact BC w (jc w ⟨2,j8,a7,n,j9,gauge,tru,a8⟩) _ 2 j8 a7 n j9 gauge tru a8 _ [] (Bu w) ((LL w g (VB g.bk) 2 j8 a7 n j9 gauge tru a8 h).sub (cP _ _))
def oD(w:n9)(o:r8):Bool := !(decide (K0 w o=0) && decide (o.kind<=2))
theorem BD(w:n9)(g:I6 w)(o:r8)(ho:B2 o=true)(ht:o.tru.length<2^40)(hn:o.a8.length<2^40)(h:oD w o=true):va7 79 [.ptr 0 0 0 0,ord o] (H0 w) (jB (G9 w o)) (H0 (Q6 w o)):=by
 have hk:1<=o.kind/\o.kind<=10:=by
  unfold B2 at ho;simp only[zA2,zA3]at ho;exact ho.1.1
 have hs:¬(K0 w o=0/\o.kind<=2):=by
  intro q;unfold oD at h;rw[zA4 q.1,zA4 q.2]at h;cases h
 have hb:=VB g.bk;obtain⟨kind,j8,a7,n,j9,gauge,tru,a8⟩:=o;simp only[]at hk ht hn hs;have cs:kind=1∨kind=2∨kind=3∨kind=4∨kind=5∨kind=6∨kind=7∨kind=8∨kind=9∨kind=10:=by omega
 rcases cs with rfl|rfl|rfl|rfl|rfl|rfl|rfl|rfl|rfl|rfl
 ·exact LQ w g j8 a7 n j9 gauge tru a8 (fun q=>hs ⟨q,va8⟩)
 ·exact LR w g j8 a7 n j9 gauge tru a8 ht hn (fun q=>hs ⟨q,va8⟩)
 ·exact Pb w hb j8 a7 n j9 gauge tru a8
 ·exact Pc w hb j8 a7 n j9 gauge tru a8
 ·exact Pd w hb j8 a7 n j9 gauge tru a8
 ·exact Pe w hb j8 a7 n j9 gauge tru a8
 ·exact Pf w hb j8 a7 n j9 gauge tru a8
 ·exact Pg w hb j8 a7 n j9 gauge tru a8
 ·exact Ph w hb j8 a7 n j9 gauge tru a8
 ·exact LP w hb j8 a7 n j9 gauge tru a8
theorem BE(w:n9)(g:I6 w)(o:r8)(ho:B2 o=true)(h:oD w o=false):va7 79 [.ptr 0 0 0 0,ord o] (H0 w) (jB (G9 w o)) (yg (Q6 w o)):=by
 have hk:1<=o.kind/\o.kind<=10:=by
  unfold B2 at ho;simp only[zA2,zA3]at ho;exact ho.1.1
 have hs:K0 w o=0/\o.kind<=2:=by
  unfold oD at h;simpa using h
 obtain⟨kind,j8,a7,n,j9,gauge,tru,a8⟩:=o;simp only[]at hk hs;have cs:kind=1∨kind=2:=by omega
 rcases cs with rfl|rfl
 ·exact Pj w g j8 a7 n j9 gauge tru a8 hs.1
 ·exact Pk w g j8 a7 n j9 gauge tru a8 hs.1
theorem yh{w:n9}(g:I6 w):px w:=⟨VB g.bk,by have:=g.tk.ln;omega,by have:=g.tk.ln;have:=g.lt;omega⟩
theorem bJ{l:List r8}{k:Nat}(hk:k<l.length):l.take (k+1)=l.take k++[l.getD k B7]:=by
 rw[List.take_add_one,zA6 hk];simp[List.getD,hk]
theorem fS(o:r8):∀ (l:List r8) (w:n9),N3 w (l++[o])=Q6 (N3 w l) o
 | [],_=>rfl
 | x :: l,w=>fS o l (Q6 w x)
theorem vL(o:r8):∀ (l:List r8) (w:n9),bY w (l++[o])=bY w l++[G9 (N3 w l) o]
 | [],_=>rfl
 | x :: l,w=>congrArg (G9 w x :: ·) (vL o l (Q6 w x))
theorem jh:∀ (l:List r8) (w:n9),(bY w l).length=l.length
 | [],_=>rfl
 | x :: l,w=>congrArg (· + 1) (jh l (Q6 w x))
theorem mU:∀ (l:List r8) {w:n9},I6 w->I6 (N3 w l)
 | [],_,g=>g
 | x :: l,_,g=>mU l (AO g x)
theorem vM{l:A5}(h:J3 l=0):I6 (I8 l):=by
 have hb:=(K3 h).1;have hk:=(K3 h).2.1.2;refine⟨h,rfl,rfl,rfl,by show Z4 ⟨0,0,false⟩=true;decide,⟨hb,⟨Int.le_refl _,by show(0:Int)<=1099511627776;decide⟩,⟨Int.le_refl _,by show(0:Int)<=1099511627776;decide⟩,by show(0:Nat)<=32;decide,List.Pairwise.nil,fun s hs=>(by cases hs)⟩,?_,fun i hi=>absurd hi (zB3 i)⟩;exact⟨hk,⟨Int.le_refl _,by show(0:Int)<=1099511627776;decide⟩,by show(0:Nat)<=16;decide,by show(0:Nat)<=16;decide,by show((0:Nat):Int)<=l.keep;omega,fun r hr=>(by cases hr),fun r hr=>(by cases hr),by show C4 []<=1;decide,List.Pairwise.nil,fun s hs=>(by cases hs)⟩
def PR(l:List r8):Int:=if l.all B2=true then 0 else 2
theorem LS(l:List r8)(o:r8):PR (l++[o])=if PR l=0 then(if B2 o=true then 0 else 2)else PR l:=by
 unfold PR;rw[List.all_append];cases h:l.all B2
 ·simp
 ·simp
structure OkayO (o:r8):Prop where
 t:o.tru.length<2^40
 n:o.a8.length<2^40
 r:0<=o.j9/\o.j9<=255
abbrev BG(e:Int):AV := .tup [Te,.nils,i64 e]
theorem BH(l:A5)(os:List r8)(kq:os.length<2^40)(h:¬J3 l=0):va6 40 [jP l,cG os] (BG (J3 l)):=by
 have c1:=je l h;generalize J3 l=e at *
 refine pF Tryz.func40 ?_;conv=>whnf
 refine vb7 ?_;(repeat intro hh);refine Or.inr ⟨Nat,[29,8],[],[],fun k=>[i64 k,i64 e],fun _=>[],fun _=>[],fun k=>os.length-k,fun k=>k<=os.length,?_⟩;conv=>whnf
 refine⟨⟨0,?_⟩,?_⟩
 ·(conv=>whnf);exact kK ⟨zB4 _,rfl,rfl,rfl⟩
 intro k hk;conv=>whnf
 refine⟨fun q=>?_,fun q=>?_⟩
 ·have q:=zA1 q;have L7:k<os.length:=by omega
  conv=>whnf
  refine vc0 ?_;(repeat intro hh);refine⟨k+1,?_⟩;conv=>whnf
  refine kK ⟨⟨?_,?_⟩,?_,rfl,rfl⟩
  ·show os.length-(k+1)<os.length-k;omega
  ·show k+1<=os.length;omega
  ·rw[C7 _ va5 va5];rfl
 ·(conv=>whnf);try exact va1
  all_goals rfl
theorem a2v(l:A5)(os:List r8)(kq:os.length<2^40)(h:J3 l=0)(hle:500<os.length):va6 40 [jP l,cG os] (BG 4):=by
 have c1:=qg l h;refine pF Tryz.func40 ?_;conv=>whnf
 refine vb7 ?_;(repeat intro hh);refine Or.inr ⟨Nat,[29,8],[],[],fun k=>[i64 k,i64 4],fun _=>[],fun _=>[],fun k=>os.length-k,fun k=>k<=os.length,?_⟩;conv=>whnf
 refine⟨⟨0,?_⟩,?_⟩
 ·(conv=>whnf);exact kK ⟨zB4 _,rfl,rfl,rfl⟩
 intro k hk;conv=>whnf
 refine⟨fun q=>?_,fun q=>?_⟩
 ·have q:=zA1 q;have L7:k<os.length:=by omega
  conv=>whnf
  refine vc0 ?_;(repeat intro hh);refine⟨k+1,?_⟩;conv=>whnf
  refine kK ⟨⟨?_,?_⟩,?_,rfl,rfl⟩
  ·show os.length-(k+1)<os.length-k;omega
  ·show k+1<=os.length;omega
  ·rw[C7 _ va5 va5];rfl
 ·(conv=>whnf);try exact va1
  all_goals rfl
theorem DV(l:A5)(os:List r8)(h:J3 l=0)(hle:os.length<=500)(hk:∀ i,OkayO (os.getD i B7))(hv:¬os.all B2=true):va6 40 [jP l,cG os] (BG 2):=by
 have c1:=qg l h;refine pF Tryz.func40 ?_;conv=>whnf
 refine vb7 ?_;(repeat intro hh);refine Or.inr ⟨Nat,[29,8],[],[],fun k=>[i64 k,i64 (PR (os.take k))],fun _=>[],fun _=>[],fun k=>os.length-k,fun k=>k<=os.length,?_⟩;conv=>whnf
 refine⟨⟨0,?_⟩,?_⟩
 ·(conv=>whnf);exact kK ⟨zB4 _,rfl,rfl,rfl⟩
 intro k Pl;conv=>whnf
 refine⟨fun q=>?_,fun q=>?_⟩
 ·have q:=zA1 q;have L7:k<os.length:=by omega
  have st:=LS (os.take k) (os.getD k B7);rw[<- bJ L7]at st;have c2:=Y2 (os.getD k B7) (hk k).t (hk k).n (hk k).r;generalize PR (os.take k)=e at st ⊢;generalize (if B2 (os.getD k B7)=true then(0:Int)else 2)=f at st c2;by_cases he:e=0
  ·rw[if_pos he]at st;conv=>whnf
   refine vb9 ?_;(repeat intro hh);refine⟨k+1,?_⟩;conv=>whnf
   refine kK ⟨⟨?_,?_⟩,?_,?_⟩
   ·show os.length-(k+1)<os.length-k;omega
   ·show k+1<=os.length;omega
   ·rw[C7 _ va5 va5,<- st];rfl
   ·exact⟨rfl,rfl⟩
  ·rw[if_neg he]at st;conv=>whnf
   refine vc0 ?_;(repeat intro hh);refine⟨k+1,?_⟩;conv=>whnf
   refine kK ⟨⟨?_,?_⟩,?_,?_⟩
   ·show os.length-(k+1)<os.length-k;omega
   ·show k+1<=os.length;omega
   ·rw[C7 _ va5 va5,<- st];rfl
   ·exact⟨rfl,rfl⟩
 ·have q:=zA0 q;have ek:os.take k=os:=List.take_of_length_le va5;have e2:PR os=2:=by unfold PR;rw[if_neg hv]
  rw[ek,e2];conv=>whnf
  try exact va1
  all_goals rfl
theorem ta(l:A5):pV (Fp l) (eR (I8 l)):=by
 refine(Y0 (xs:=[i64 l.n8.step,i64 l.n8.A0,i64 l.n8.y9,i64 l.n8.len,i64 l.lag,i64 l.keep,i64 l.p,i64 l.q,i64 l.al.1,i64 l.al.2,i64 l.n8.step,i64 l.n8.A0,i64 l.n8.y9,i64 l.n8.len,i64 0,i64 0,.nils,i64 l.keep,.nils,.nils,i64 0,.nils,i64 0,i64 0,.ff,.nils]) (ys:=eW (I8 l)) rfl fun i hi=>?_).1
 match i with
 | 0|1|2|3|4|5|6|7|8|9|10|11|12|13|14|15=>exact .refl _
 | 16=>exact .nils _ _ _
 | 17=>exact .refl _
 | 18=>exact .nils _ _ _
 | 19=>exact .nils _ _ _
 | 20=>exact .refl _
 | 21=>exact .nils _ _ _
 | 22|23=>exact .refl _
 | 24=>exact Dp
 | 25=>exact .nils _ _ _
 | (n+26)=>exact .refl _
theorem mV(l:A5)(h:J3 l=0):va6 16 [jP l] (.tup [eR (I8 l),i64 0]):=by
 refine(qg l h).sub rfl (fun i hi => .refl _) (Y0 (xs:=[Fp l,i64 0]) (ys:=[eR (I8 l),i64 0]) rfl fun i hi=>?_).2
 match i with
 | 0=>exact ta l
 | 1=>exact .refl _
 | (n+2)=>exact .refl _
abbrev XX(w:n9):List AV:=(eW w).set 25 (.own 15)
abbrev thK:Nat:=15+65536*(1+43+4096*25)
theorem DW(l:A5)(os:List r8)(h:J3 l=0)(hle:os.length<=500)(hk:∀ i,OkayO (os.getD i B7))(hv:os.all B2=true):va6 40 [jP l,cG os] (.tup [eR (N3 (I8 l) os),XE (bY (I8 l) os),i64 0]):=by
 have c1:=mV l h;have g0:=vM h;have c3:=AZ (I8 l) (yh g0);have vo:∀ k,k<os.length->B2 (os.getD k B7)=true:=fun k hk=>by
  rw[x9 hk];exact List.all_eq_true.1 hv _ (List.getElem_mem hk)
 generalize SK:I8 l=w0 at *
 refine pF Tryz.func40 ?_;conv=>whnf
 refine vb7 ?_;(repeat intro hh);refine Or.inr ⟨Nat,[29,8],[],[],fun k=>[i64 k,i64 0],fun _=>[],fun _=>[],fun k=>os.length-k,fun k=>k<=os.length,?_⟩;conv=>whnf
 refine⟨⟨0,?_⟩,?_⟩
 ·(conv=>whnf);exact kK ⟨zB4 _,rfl,rfl,rfl⟩
 intro k Pl;conv=>whnf
 refine⟨fun q=>?_,fun q=>?_⟩
 ·have q:=zA1 q;have L7:k<os.length:=by omega
  have c2:=Y2 (os.getD k B7) (hk k).t (hk k).n (hk k).r;rw[if_pos (vo k L7)]at c2;conv=>whnf
  refine vb9 ?_;(repeat intro hh);refine⟨k+1,?_⟩;conv=>whnf
  refine kK ⟨⟨?_,?_⟩,?_,rfl,rfl⟩
  ·show os.length-(k+1)<os.length-k;omega
  ·show k+1<=os.length;omega
  ·rw[C7 _ va5 va5];rfl
 ·clear q Pl;conv=>whnf
  refine vb6 ?_;(repeat intro hh);(refine va2 [] [43,15] ?_;(conv=>whnf);refine va3 [] c3 ?_);conv=>whnf
  refine vb6 ?_;(repeat intro hh);refine Or.inr ⟨Nat,[46],[43,15],[(thK,⟨B6,76,7,n5,J6⟩),(12,⟨bX,66,3,Y1,xX⟩)],fun k=>[i64 k],fun k=>[.cells 154 (XX (N3 w0 (os.take k))),.vec 76 7 n5 J6 (N3 w0 (os.take k)).n6],fun k=>[.none,.vec 66 3 Y1 xX (bY w0 (os.take k))],fun k=>os.length-k,fun k=>k<=os.length,?_⟩;conv=>whnf
  refine⟨⟨0,?_⟩,?_⟩
  ·(conv=>whnf);exact kK ⟨zB4 _,rfl,rfl,rfl⟩
  intro k Pl;conv=>whnf
  refine⟨fun q=>?_,fun q=>?_⟩
  ·have q:=zA1 q;have L7:k<os.length:=by omega
   have gk:=mU (os.take k) g0;have sw:=fS (os.getD k B7) (os.take k) w0;have sa:=vL (os.getD k B7) (os.take k) w0;rw[<- bJ L7]at sw sa;have la:=jh (os.take k) w0;rw[zB1]at la;generalize N3 w0 (os.take k)=u at gk sw sa;generalize bY w0 (os.take k)=A at sa la;by_cases hs:oD u (os.getD k B7)=true
   ·have c4:=BD u gk (os.getD k B7) (vo k L7) (hk k).t (hk k).n hs;conv=>whnf
    refine vc0 ?_;(repeat intro hh);(refine va2 [] [] ?_;(conv=>whnf);refine va3 [43,15] c4 ?_);conv=>whnf
    refine⟨⟨bX,3,Y1,xX,A⟩,[G9 u (os.getD k B7)],rfl,rfl,⟨rfl,rfl⟩,?_,?_,fun y _=>⟨rfl,rfl,rfl⟩,?_⟩
    ·show(A.length+1)*40<=_;omega
    ·show A.length+1<=_;omega
    conv=>whnf
    refine⟨k+1,?_⟩;conv=>whnf
    refine kK ⟨⟨?_,?_⟩,?_,?_,?_⟩
    ·show os.length-(k+1)<os.length-k;omega
    ·show k+1<=os.length;omega
    ·rw[C7 _ va5 va5];rfl
    ·show _=[Row.cells 154 (XX (N3 w0 (os.take (k+1)))),Row.vec 76 7 n5 J6 (N3 w0 (os.take (k+1))).n6]
     rw[sw]<;>rfl
    ·show _=[Row.none,Row.vec 66 3 Y1 xX (bY w0 (os.take (k+1)))]
     rw[sa]<;>rfl
   ·have c4:=BE u gk (os.getD k B7) (vo k L7) (by simpa using hs);conv=>whnf
    refine vc0 ?_;(repeat intro hh);(refine va2 [] [53] ?_;(conv=>whnf);refine va3 [43,15] c4 ?_);conv=>whnf
    refine⟨⟨bX,3,Y1,xX,A⟩,[G9 u (os.getD k B7)],rfl,rfl,⟨rfl,rfl⟩,?_,?_,fun y _=>⟨rfl,rfl,rfl⟩,?_⟩
    ·show(A.length+1)*40<=_;omega
    ·show A.length+1<=_;omega
    conv=>whnf
    refine⟨k+1,?_⟩;conv=>whnf
    refine kK ⟨⟨?_,?_⟩,?_,?_,?_⟩
    ·show os.length-(k+1)<os.length-k;omega
    ·show k+1<=os.length;omega
    ·rw[C7 _ va5 va5];rfl
    ·show _=[Row.cells 154 (XX (N3 w0 (os.take (k+1)))),Row.vec 76 7 n5 J6 (N3 w0 (os.take (k+1))).n6]
     rw[sw]<;>rfl
    ·show _=[Row.none,Row.vec 66 3 Y1 xX (bY w0 (os.take (k+1)))]
     rw[sa]<;>rfl
  ·have q:=zA0 q;have ek:os.take k=os:=List.take_of_length_le va5;rw[ek];conv=>whnf
   refine vb6 ?_;(repeat intro hh);all_goals rfl

end Go.Proofs.Tryz.My
