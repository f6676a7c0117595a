/- Helper lemmas. -/
import Derived.Test.YtdpnpdjnaimgaaaGreatMzGdB
set_option linter.unusedVariables false
set_option linter.unusedSimpArgs false
set_option maxRecDepth 100000
set_option maxHeartbeats 0
namespace Go.Proofs.Tryz.My
open Go Go.Ev
def ES(p:List Int):Nat->Int
 | 0=>p.getD 0 0
 | k+1=>if p.getD (k+1) 0 > ES p k then p.getD (k+1) 0 else ES p k
theorem a3I(p:List Int):∀ k j,j<=k->p.getD j 0<=ES p k
 | 0,j,h=>by
  obtain rfl:j=0:=va5;exact Int.le_refl _
 | k+1,j,h=>by
  by_cases e:j=k+1
  ·subst e;simp only[ES];split<;>omega
  ·have:=a3I p k j va5;simp only[ES];split<;>omega
theorem ET(p:List Int):∀ k,∃ j,j<=k/\ES p k=p.getD j 0
 | 0=>⟨0,va5,rfl⟩
 | k+1=>by
  obtain⟨j,h1,h2⟩:=ET p k;simp only[ES];split
  ·exact⟨k+1,va5,rfl⟩
  ·exact⟨j,va5,h2⟩
theorem Rh(p:List Int)(h0:0<p.length)(hl:p.length<2^40):va6 91 [C8 p] (i64 (ES p (p.length-1))):=by
 refine pF Tryz.func91 ?_;conv=>whnf
 refine⟨fun h=>absurd h (by simp;omega),fun _=>?_⟩;conv=>whnf
 refine⟨⟨va5,va5⟩,?_⟩;conv=>whnf
 refine Or.inr ⟨Nat,[3,4],[],[],fun k=>[i64 (ES p k),i64 ((k+1:Nat):Int)],fun _=>[],fun _=>[],fun k=>p.length-k,fun k=>k+1<=p.length,?_⟩;conv=>whnf
 refine⟨⟨0,?_⟩,?_⟩
 ·(conv=>whnf);exact kK ⟨va5,rfl,rfl,rfl⟩
 ·intro k hk;conv=>whnf
  refine⟨fun h=>?_,fun h=>?_⟩
  ·have h:=zA1 h;conv=>whnf
   refine⟨⟨va5,va5⟩,?_⟩;conv=>whnf
   refine⟨k+1,?_⟩;conv=>whnf
   refine kK ⟨⟨Nat.sub_lt_sub_left va5 (Nat.lt_succ_self k),va5⟩,?_,rfl,rfl⟩;rw[C7 _ va5 va5];rfl
  ·have h:=zA0 h;obtain rfl:k=p.length-1:=by omega
   conv=>whnf
theorem a3J{p:List Int}{thr a8:Int}(hp:L2 p=true)(t1:1<=thr)(t2:thr<=255):(EP (C6 p a8) thr).2=decide (thr<=ES p (p.length-1)+a8):=by
 have hlen:=M0 hp;have hv:∀ j,j<p.length->(R9 (C6 p a8) 0 1 j<thr↔p.getD j 0+a8<thr):=by
  intro j hj;unfold R9;rw[show((0:Int)+1*(j:Int)).toNat=j by omega,cT,if_pos hj];unfold aE;split
  ·omega
  ·split<;>omega
 have e:(EP (C6 p a8) thr).2=(Da (C6 p a8) thr 0 1).2:=by
  unfold EP;cases h:(Da (C6 p a8) thr 0 1).2<;>simp
 rw[e];obtain⟨j,vR,Qd⟩:=ET p (p.length-1);cases hb:tL (C6 p a8) thr 0 1 with
 | none =>
  rw[rM hb];have:=mh.1 hb;have h1:=(hv j va5).1 (this j (by simp[N5,z8];omega));rw[<- Qd]at h1;simp;omega
 | some k =>
  rw[bU hb];obtain⟨h1,h2,_⟩:=J1.1 hb;simp[N5,z8]at h1;have h3:=mt (hv k va5).2 va5;have:=a3I p (p.length-1) k va5;simp;omega
abbrev Tb:X2:=((0,1),(0,1))
def xm(g:x8)(w m:X2×Int)(v:Int):X2×Int×Int :=
 if w.2=6 then(Tb,v,0)else if w.2=0 then(if m.2=0 then(m.1,mr m.1 (kV g),0)else(zS,0,m.2))else(zS,0,w.2)
def F8(g:x8)(p:List Int):X2×Int×Int :=
 if S6 g then xm g (H6 p (H8 g) (D9 g)) (P0 (H6 p (H8 g) (D9 g)).1 (J5 g)) (if H8 g<=ES p (p.length-1)+D9 g then 3 else 2)else(zS,0,8)
theorem bz{g:x8}(h:S6 g=true):(1<=H8 g/\H8 g<=255)/\(0<=D9 g/\D9 g<=64)/\z7 (J5 g)=true/\z7 (kV g)=true/\0<(J5 g).1.1/\(Iw (J5 g).1=true/\Iw (J5 g).2=true/\Iw g.1.2=true/\Iw g.2=true):=by
 simp only[S6,D1,zA2,zA3]at h;simp only[and_assoc]at h ⊢;exact h
theorem EU{p:List Int}{thr a8:Int}(t1:1<=thr)(t2:thr<=255)(n1:0<=a8)(n2:a8<=64) :
  (L2 p=false/\H6 p thr a8=(zS,50))∨(L2 p=true/\((H6 p thr a8)=(zS,6)∨(H6 p thr a8).2=0)):=by
 unfold H6;cases hp:L2 p
 ·left;simp
 ·right
  have hlen:=M0 hp;have hq:dF p thr 0 a8=true:=by
   simp only[dF,zA2,zA3];omega
  rw[hq];simp only[if_true,true_and];rcases qa (p:=p) va5 hlen.2 t1 t2 n1 with ⟨h1,h2⟩|⟨h1,h2,_,_,h3,h4,_⟩
  ·exact .inl h2
  ·exact .inr h4
theorem GR(thr a8 a1 a2 b1 b2 l1 l2 h1 h2:Int)(p:List Int)
  (c1:va6 89 [.agg [i64 thr,i64 a8,i64 a1,i64 a2,i64 b1,i64 b2,i64 l1,i64 l2,i64 h1,i64 h2]] (i64 8)) :
  va6 48 [.agg [i64 thr,i64 a8,i64 a1,i64 a2,i64 b1,i64 b2,i64 l1,i64 l2,i64 h1,i64 h2],C8 p] (.tup [sp zS,u8 0,i64 8]):=by
 refine pF Tryz.func48 ?_;conv=>whnf
 (repeat' (first|(refine⟨_,by first|with_reducible exact c1,?_⟩;(conv=>whnf))|(refine Or.inl ?_;(conv=>whnf);refine⟨_,by first|with_reducible exact c1,?_⟩;(conv=>whnf))|(refine Or.inl ?_;(conv=>whnf);refine⟨false,?_⟩;(conv=>whnf);refine⟨_,by first|with_reducible exact c1,?_⟩;(conv=>whnf))|(refine⟨va4,?_⟩;(conv=>whnf))|(refine⟨fun _=>?_,fun h=>absurd h (by first|decide|(simp;done)|fail)⟩;(conv=>whnf))|(refine⟨fun h=>absurd h (by first|decide|(simp;done)|fail),fun _=>?_⟩;(conv=>whnf))|fail))
theorem Ri(thr a8 a1 a2 b1 b2 l1 l2 h1 h2 M v ve:Int)(p:List Int)(gb:Bool)(w m:X2×Int)
  (c1:va6 89 [.agg [i64 thr,i64 a8,i64 a1,i64 a2,i64 b1,i64 b2,i64 l1,i64 l2,i64 h1,i64 h2]] (i64 (if gb then 0 else 8)))
  (c2:va6 90 [C8 p,i64 thr,i64 a8] (.tup [sp w.1,i64 w.2])) (cm:w.2=6->va6 91 [C8 p] (i64 M))
  (c3:va6 93 [sp w.1,sp ((a1,a2),(b1,b2))] (.tup [sp m.1,i64 m.2])) (c4:va6 94 [sp m.1,fr (l1,l2),fr (h1,h2)] (.tup [u8 v,i64 ve]))
  (wz:va6 92 [i64 0] (fr (0,1))) (wm:w.2=6->IntKind.i64.wrap (M+a8)=M+a8) :
  va6 48 [.agg [i64 thr,i64 a8,i64 a1,i64 a2,i64 b1,i64 b2,i64 l1,i64 l2,i64 h1,i64 h2],C8 p]
   (.tup [sp (if gb then(if w.2=6 then(Tb,(if thr<=M+a8 then(3:Int)else 2),(0:Int))else if w.2=0 then(if m.2=0 then(m.1,v,ve)else(zS,0,m.2))else(zS,0,w.2))else(zS,0,8)).1,
    u8 (if gb then(if w.2=6 then(Tb,(if thr<=M+a8 then(3:Int)else 2),(0:Int))else if w.2=0 then(if m.2=0 then(m.1,v,ve)else(zS,0,m.2))else(zS,0,w.2))else(zS,0,8)).2.1,
    i64 (if gb then(if w.2=6 then(Tb,(if thr<=M+a8 then(3:Int)else 2),(0:Int))else if w.2=0 then(if m.2=0 then(m.1,v,ve)else(zS,0,m.2))else(zS,0,w.2))else(zS,0,8)).2.2]):=by
 refine pF Tryz.func48 ?_;conv=>whnf
 (repeat' (first|(refine⟨_,by first|with_reducible exact c1,?_⟩;(conv=>whnf))|(refine Or.inl ?_;(conv=>whnf);refine⟨_,by first|with_reducible exact c1,?_⟩;(conv=>whnf))|(refine Or.inl ?_;(conv=>whnf);refine⟨false,?_⟩;(conv=>whnf);refine⟨_,by first|with_reducible exact c1,?_⟩;(conv=>whnf))|(refine⟨va4,?_⟩;(conv=>whnf))|fail));refine⟨fun hh=>?_,fun hh=>?_⟩
 ·(conv=>whnf);clear c1 c2 c3 c4 cm wz wm;cases gb<;>simp_all
 conv=>whnf
 (repeat' (first|(refine⟨_,by first|with_reducible exact c2,?_⟩;(conv=>whnf))|(refine Or.inl ?_;(conv=>whnf);refine⟨_,by first|with_reducible exact c2,?_⟩;(conv=>whnf))|(refine Or.inl ?_;(conv=>whnf);refine⟨false,?_⟩;(conv=>whnf);refine⟨_,by first|with_reducible exact c2,?_⟩;(conv=>whnf))|(refine⟨va4,?_⟩;(conv=>whnf))|fail));refine⟨fun h6=>?_,fun h6=>?_⟩
 ·have h6:=zA1 h6;have cm:=cm h6;have wm:=wm h6;conv=>whnf
  (repeat' (first|(refine⟨_,by first|with_reducible exact cm,?_⟩;(conv=>whnf))|(refine Or.inl ?_;(conv=>whnf);refine⟨_,by first|with_reducible exact cm,?_⟩;(conv=>whnf))|(refine Or.inl ?_;(conv=>whnf);refine⟨false,?_⟩;(conv=>whnf);refine⟨_,by first|with_reducible exact cm,?_⟩;(conv=>whnf))|(refine⟨va4,?_⟩;(conv=>whnf))|fail));rw[wm];refine⟨fun hM=>?_,fun hM=>?_⟩
  ·(conv=>whnf);(repeat' (first|(refine⟨_,by first|with_reducible exact wz,?_⟩;(conv=>whnf))|(refine Or.inl ?_;(conv=>whnf);refine⟨_,by first|with_reducible exact wz,?_⟩;(conv=>whnf))|(refine Or.inl ?_;(conv=>whnf);refine⟨false,?_⟩;(conv=>whnf);refine⟨_,by first|with_reducible exact wz,?_⟩;(conv=>whnf))|(refine⟨va4,?_⟩;(conv=>whnf))|fail));clear c1 c2 c3 c4 cm wz wm;cases gb<;>simp_all
  ·(conv=>whnf);(repeat' (first|(refine⟨_,by first|with_reducible exact wz,?_⟩;(conv=>whnf))|(refine Or.inl ?_;(conv=>whnf);refine⟨_,by first|with_reducible exact wz,?_⟩;(conv=>whnf))|(refine Or.inl ?_;(conv=>whnf);refine⟨false,?_⟩;(conv=>whnf);refine⟨_,by first|with_reducible exact wz,?_⟩;(conv=>whnf))|(refine⟨va4,?_⟩;(conv=>whnf))|fail));clear c1 c2 c3 c4 cm wz wm;cases gb<;>simp_all
 conv=>whnf
 refine⟨fun h7=>?_,fun h7=>?_⟩
 ·(conv=>whnf);clear c1 c2 c3 c4 cm wz wm;cases gb<;>simp_all
 conv=>whnf
 (repeat' (first|(refine⟨_,by first|with_reducible exact c3,?_⟩;(conv=>whnf))|(refine Or.inl ?_;(conv=>whnf);refine⟨_,by first|with_reducible exact c3,?_⟩;(conv=>whnf))|(refine Or.inl ?_;(conv=>whnf);refine⟨false,?_⟩;(conv=>whnf);refine⟨_,by first|with_reducible exact c3,?_⟩;(conv=>whnf))|(refine⟨va4,?_⟩;(conv=>whnf))|fail));refine⟨fun h8=>?_,fun h8=>?_⟩
 ·(conv=>whnf);clear c1 c2 c3 c4 cm wz wm;cases gb<;>simp_all
 conv=>whnf
 (repeat' (first|(refine⟨_,by first|with_reducible exact c4,?_⟩;(conv=>whnf))|(refine Or.inl ?_;(conv=>whnf);refine⟨_,by first|with_reducible exact c4,?_⟩;(conv=>whnf))|(refine Or.inl ?_;(conv=>whnf);refine⟨false,?_⟩;(conv=>whnf);refine⟨_,by first|with_reducible exact c4,?_⟩;(conv=>whnf))|(refine⟨va4,?_⟩;(conv=>whnf))|fail));clear c1 c2 c3 c4 cm wz wm;cases gb<;>simp_all
theorem bA(g:x8)(p:List Int)(hl:p.length<2^40):va6 48 [Ta g,C8 p] (.tup [sp (F8 g p).1,u8 (F8 g p).2.1,i64 (F8 g p).2.2]):=by
 have Xr:(H6 p (H8 g) (D9 g)).2=6->L2 p=true:=fun h=>by
  unfold H6 at h;cases hp:L2 p
  ·rw[hp]at h;simp at h
  ·rfl
 have hM:(H6 p (H8 g) (D9 g)).2=6->S6 g=true->IntKind.i64.wrap (ES p (p.length-1)+D9 g)=ES p (p.length-1)+D9 g:=fun h hg=>by
  have hlen:=M0 (Xr h);obtain⟨j,vR,Qd⟩:=ET p (p.length-1);have hv:=jr (Xr h) j va5;rw[<- Qd]at hv;have:=(bz hg).2.1;exact C7 _ va5 va5
 cases hg:S6 g
 ·have e:F8 g p=(zS,0,8):=by unfold F8;rw[hg];rfl
  rw[e];have c1:=X9 g;rw[hg]at c1;exact GR (H8 g) (D9 g) (J5 g).1.1 (J5 g).1.2 (J5 g).2.1 (J5 g).2.2 g.1.2.1 g.1.2.2 g.2.1 g.2.2 p c1
 ·have h:=Ri (H8 g) (D9 g) (J5 g).1.1 (J5 g).1.2 (J5 g).2.1 (J5 g).2.2 g.1.2.1 g.1.2.2 g.2.1 g.2.2 (ES p (p.length-1)) (xl (P0 (H6 p (H8 g) (D9 g)).1 (J5 g)).1 (kV g)).1 (xl (P0 (H6 p (H8 g) (D9 g)).1 (J5 g)).1 (kV g)).2 p (S6 g) (H6 p (H8 g) (D9 g)) (P0 (H6 p (H8 g) (D9 g)).1 (J5 g))
   (X9 g) (GL p (H8 g) (D9 g) hl) (fun h6=>Rh p (by have:=M0 (Xr h6);omega) hl) (zP _ _) (GQ _ _ _) (fB 0) (fun h6=>hM h6 hg)
  have e:F8 g p=(if S6 g=true then(if (H6 p (H8 g) (D9 g)).2=6 then(Tb,(if H8 g<=ES p (p.length-1)+D9 g then(3:Int)else 2),(0:Int))else if (H6 p (H8 g) (D9 g)).2=0 then(if (P0 (H6 p (H8 g) (D9 g)).1 (J5 g)).2=0 then((P0 (H6 p (H8 g) (D9 g)).1 (J5 g)).1,(xl (P0 (H6 p (H8 g) (D9 g)).1 (J5 g)).1 (kV g)).1,(xl (P0 (H6 p (H8 g) (D9 g)).1 (J5 g)).1 (kV g)).2)else(zS,0,(P0 (H6 p (H8 g) (D9 g)).1 (J5 g)).2))else(zS,0,(H6 p (H8 g) (D9 g)).2))else(zS,0,8)):=by
   unfold F8 xm;rw[hg];simp only[if_true];split
   ·rfl
   ·split
    ·split
     ·rename_i h3;have hd:xl (P0 (H6 p (H8 g) (D9 g)).1 (J5 g)).1 (kV g)=(mr (P0 (H6 p (H8 g) (D9 g)).1 (J5 g)).1 (kV g),0):=by
       unfold xl;rw[(mq h3).2.2,(bz hg).2.2.2.1];rfl
      rw[hd]
     ·rfl
    ·rfl
  rw[<- e]at h;exact h
abbrev gcs(thr a8 a1 a2 b1 b2 l1 l2 h1 h2:Int):AV := .agg [i64 thr,i64 a8,i64 a1,i64 a2,i64 b1,i64 b2,i64 l1,i64 l2,i64 h1,i64 h2]
theorem a4w(thr a8 a1 a2 b1 b2 l1 l2 h1 h2:Int)(p:List Int)(c1:va6 162 [gcs thr a8 a1 a2 b1 b2 l1 l2 h1 h2] (.bool false)) :
  va6 166 [gcs thr a8 a1 a2 b1 b2 l1 l2 h1 h2,C8 p] (.tup [sp zS,u8 0,i64 8]):=by
 refine pF Tryz.func166 ?_;conv=>whnf
 (repeat' (first|(refine⟨_,by first|with_reducible exact c1,?_⟩;(conv=>whnf))|(refine Or.inl ?_;(conv=>whnf);refine⟨_,by first|with_reducible exact c1,?_⟩;(conv=>whnf))|(refine Or.inl ?_;(conv=>whnf);refine⟨false,?_⟩;(conv=>whnf);refine⟨_,by first|with_reducible exact c1,?_⟩;(conv=>whnf))|(refine⟨va4,?_⟩;(conv=>whnf))|(refine⟨fun _=>?_,fun h=>absurd h (by first|decide|(simp;done)|fail)⟩;(conv=>whnf))|(refine⟨fun h=>absurd h (by first|decide|(simp;done)|fail),fun _=>?_⟩;(conv=>whnf))|fail))
theorem a4x(thr a8 a1 a2 b1 b2 l1 l2 h1 h2:Int)(p:List Int)(c1:va6 162 [gcs thr a8 a1 a2 b1 b2 l1 l2 h1 h2] (.bool true))
  (c2:va6 120 [C8 p] (.bool false)) :
  va6 166 [gcs thr a8 a1 a2 b1 b2 l1 l2 h1 h2,C8 p] (.tup [sp zS,u8 0,i64 50]):=by
 refine pF Tryz.func166 ?_;conv=>whnf
 (repeat' (first|(refine⟨_,by first|with_reducible exact c1|with_reducible exact c2,?_⟩;(conv=>whnf))|(refine Or.inl ?_;(conv=>whnf);refine⟨_,by first|with_reducible exact c1|with_reducible exact c2,?_⟩;(conv=>whnf))|(refine Or.inl ?_;(conv=>whnf);refine⟨false,?_⟩;(conv=>whnf);refine⟨_,by first|with_reducible exact c1|with_reducible exact c2,?_⟩;(conv=>whnf))|(refine⟨va4,?_⟩;(conv=>whnf))|(refine⟨fun _=>?_,fun h=>absurd h (by first|decide|(simp;done)|fail)⟩;(conv=>whnf))|(refine⟨fun h=>absurd h (by first|decide|(simp;done)|fail),fun _=>?_⟩;(conv=>whnf))|fail))
theorem a4y(thr a8 a1 a2 b1 b2 l1 l2 h1 h2:Int)(p q:List Int)(x1 x2:Int)(b:Bool)(c1:va6 162 [gcs thr a8 a1 a2 b1 b2 l1 l2 h1 h2] (.bool true))
  (c2:va6 120 [C8 p] (.bool true)) (c3:va6 211 [C8 p,i64 thr,i64 a8] (.tup [.agg [i64 0,i64 0,i64 0,i64 0],i64 6])) (c4:va6 213 [C8 p,i64 a8] (C8 q))
  (c5:va6 212 [C8 q,i64 thr] (.tup [.agg [i64 x1,i64 x2],.bool b])) :
  va6 166 [gcs thr a8 a1 a2 b1 b2 l1 l2 h1 h2,C8 p] (.tup [.agg [i64 0,i64 1,i64 0,i64 1],u8 (if b then 3 else 2),i64 0]):=by
 refine pF Tryz.func166 ?_;conv=>whnf
 (repeat' (first|(refine⟨_,by first|with_reducible exact c1|with_reducible exact c2|with_reducible exact c3|with_reducible exact c4|with_reducible exact c5,?_⟩;(conv=>whnf))|(refine Or.inl ?_;(conv=>whnf);refine⟨_,by first|with_reducible exact c1|with_reducible exact c2|with_reducible exact c3|with_reducible exact c4|with_reducible exact c5,?_⟩;(conv=>whnf))|(refine Or.inl ?_;(conv=>whnf);refine⟨false,?_⟩;(conv=>whnf);refine⟨_,by first|with_reducible exact c1|with_reducible exact c2|with_reducible exact c3|with_reducible exact c4|with_reducible exact c5,?_⟩;(conv=>whnf))|(refine⟨va4,?_⟩;(conv=>whnf))|(refine⟨fun _=>?_,fun h=>absurd h (by first|decide|(simp;done)|fail)⟩;(conv=>whnf))|(refine⟨fun h=>absurd h (by first|decide|(simp;done)|fail),fun _=>?_⟩;(conv=>whnf))|fail));refine⟨fun h=>?_,fun h=>?_⟩
 ·subst h;conv=>whnf
  try rfl
 ·subst h;conv=>whnf
  try rfl
theorem a4z(thr a8 a1 a2 b1 b2 l1 l2 h1 h2:Int)(p:List Int)(w m:X2)(me:Int)(PM:me≠0)(c1:va6 162 [gcs thr a8 a1 a2 b1 b2 l1 l2 h1 h2] (.bool true))
  (c2:va6 120 [C8 p] (.bool true)) (c3:va6 211 [C8 p,i64 thr,i64 a8] (.tup [sp w,i64 0])) (c4:va6 214 [sp w,sp ((a1,a2),(b1,b2))] (.tup [sp m,i64 me])) :
  va6 166 [gcs thr a8 a1 a2 b1 b2 l1 l2 h1 h2,C8 p] (.tup [sp zS,u8 0,i64 me]):=by
 refine pF Tryz.func166 ?_;conv=>whnf
 (repeat' (first|(refine⟨_,by first|with_reducible exact c1|with_reducible exact c2|with_reducible exact c3|with_reducible exact c4,?_⟩;(conv=>whnf))|(refine Or.inl ?_;(conv=>whnf);refine⟨_,by first|with_reducible exact c1|with_reducible exact c2|with_reducible exact c3|with_reducible exact c4,?_⟩;(conv=>whnf))|(refine Or.inl ?_;(conv=>whnf);refine⟨false,?_⟩;(conv=>whnf);refine⟨_,by first|with_reducible exact c1|with_reducible exact c2|with_reducible exact c3|with_reducible exact c4,?_⟩;(conv=>whnf))|(refine⟨va4,?_⟩;(conv=>whnf))|(refine⟨fun _=>?_,fun h=>absurd h (by first|decide|(simp;done)|fail)⟩;(conv=>whnf))|(refine⟨fun h=>absurd h (by first|decide|(simp;done)|fail),fun _=>?_⟩;(conv=>whnf))|fail));refine⟨fun _=>?_,fun h=>absurd (show me=0 by simpa using h) PM⟩;conv=>whnf
theorem a4A(thr a8 a1 a2 b1 b2 l1 l2 h1 h2:Int)(p:List Int)(w m:X2)(v:Int)(c1:va6 162 [gcs thr a8 a1 a2 b1 b2 l1 l2 h1 h2] (.bool true))
  (c2:va6 120 [C8 p] (.bool true)) (c3:va6 211 [C8 p,i64 thr,i64 a8] (.tup [sp w,i64 0])) (c4:va6 214 [sp w,sp ((a1,a2),(b1,b2))] (.tup [sp m,i64 0]))
  (c5:va6 215 [sp m,fr (l1,l2),fr (h1,h2)] (u8 v)) :
  va6 166 [gcs thr a8 a1 a2 b1 b2 l1 l2 h1 h2,C8 p] (.tup [sp m,u8 v,i64 0]):=by
 refine pF Tryz.func166 ?_;conv=>whnf
 (repeat' (first|(refine⟨_,by first|with_reducible exact c1|with_reducible exact c2|with_reducible exact c3|with_reducible exact c4|with_reducible exact c5,?_⟩;(conv=>whnf))|(refine Or.inl ?_;(conv=>whnf);refine⟨_,by first|with_reducible exact c1|with_reducible exact c2|with_reducible exact c3|with_reducible exact c4|with_reducible exact c5,?_⟩;(conv=>whnf))|(refine Or.inl ?_;(conv=>whnf);refine⟨false,?_⟩;(conv=>whnf);refine⟨_,by first|with_reducible exact c1|with_reducible exact c2|with_reducible exact c3|with_reducible exact c4|with_reducible exact c5,?_⟩;(conv=>whnf))|(refine⟨va4,?_⟩;(conv=>whnf))|(refine⟨fun _=>?_,fun h=>absurd h (by first|decide|(simp;done)|fail)⟩;(conv=>whnf))|(refine⟨fun h=>absurd h (by first|decide|(simp;done)|fail),fun _=>?_⟩;(conv=>whnf))|fail))
theorem a0b(g:x8)(p:List Int)(hI:IG g)(hl:p.length<2^40):va6 166 [Ta g,C8 p] (.tup [sp (F8 g p).1,u8 (F8 g p).2.1,i64 (F8 g p).2.2]):=by
 have c1:=te g hI;have c2:=r6 p hl;have c3:=a2F p (H8 g) (D9 g) hl;cases hg:S6 g
 ·have e:F8 g p=(zS,0,8):=by unfold F8;rw[hg];rfl
  rw[e];rw[hg]at c1;exact a4w (H8 g) (D9 g) (J5 g).1.1 (J5 g).1.2 (J5 g).2.1 (J5 g).2.2 g.1.2.1 g.1.2.2 g.2.1 g.2.2 p c1
 rw[hg]at c1;obtain⟨⟨t1,t2⟩,⟨n1,n2⟩,hsc,htol,_⟩:=bz hg;have e:F8 g p=xm g (H6 p (H8 g) (D9 g)) (P0 (H6 p (H8 g) (D9 g)).1 (J5 g)) (if H8 g<=ES p (p.length-1)+D9 g then 3 else 2):=by unfold F8;rw[hg];rfl
 rw[e];rcases EU (p:=p) t1 t2 n1 n2 with ⟨hp,he⟩|⟨hp,he|he⟩
 ·rw[hp]at c2;rw[he];exact a4x (H8 g) (D9 g) (J5 g).1.1 (J5 g).1.2 (J5 g).2.1 (J5 g).2.2 g.1.2.1 g.1.2.2 g.2.1 g.2.2 p c1 c2
 ·rw[hp]at c2;rw[he]at c3 ⊢;have hlen:=M0 hp;have c4:=a1o p (D9 g) va5 (jr hp) va5 va5;have c5:=a19 (C6 p (D9 g)) (H8 g) (T7 _ _) (by rw[z8];omega) (by rw[z8];omega) t1 t2;rw[a3J hp t1 t2]at c5;have:=a4y (H8 g) (D9 g) (J5 g).1.1 (J5 g).1.2 (J5 g).2.1 (J5 g).2.2 g.1.2.1 g.1.2.2 g.2.1 g.2.2 p _ _ _ _ c1 c2 c3 c4 c5;by_cases hM:H8 g<=ES p (p.length-1)+D9 g
  ·rw[zA4 hM]at this;rw[if_pos hM];exact this
  ·rw[zA5 hM]at this;rw[if_neg hM];exact this
 ·rw[hp]at c2;rw[he]at c3;have hw:=jt he;have c4:=a3H (H6 p (H8 g) (D9 g)).1 (J5 g) (a4d hw.2.2.2.2.1) hI.2.2.1;unfold xm;rw[if_neg (by rw[he];decide),if_pos he];by_cases PM:(P0 (H6 p (H8 g) (D9 g)).1 (J5 g)).2=0
  ·rw[if_pos PM];rw[PM]at c4;have c5:=a2G (P0 (H6 p (H8 g) (D9 g)).1 (J5 g)).1 g.1.2 g.2 (mq PM).2.2 htol;exact a4A (H8 g) (D9 g) (J5 g).1.1 (J5 g).1.2 (J5 g).2.1 (J5 g).2.2 g.1.2.1 g.1.2.2 g.2.1 g.2.2 p _ _ _ c1 c2 c3 c4 c5
  ·rw[if_neg PM];exact a4z (H8 g) (D9 g) (J5 g).1.1 (J5 g).1.2 (J5 g).2.1 (J5 g).2.2 g.1.2.1 g.1.2.2 g.2.1 g.2.2 p _ _ _ PM c1 c2 c3 c4

end Go.Proofs.Tryz.My
