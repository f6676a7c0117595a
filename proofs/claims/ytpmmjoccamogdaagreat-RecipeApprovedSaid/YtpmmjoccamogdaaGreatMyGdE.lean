/- Helper lemmas. -/
import Derived.Test.YtpmmjoccamogdaaGreatMyGdB
set_option linter.unusedVariables false
set_option linter.unusedSimpArgs false
set_option maxRecDepth 100000
set_option maxHeartbeats 0
namespace Go.Proofs.Tryz.My
open Go Go.Ev
def yH (p:List Int):Nat->Int
 | 0=>p.getD 0 0
 | k + 1=>if p.getD (k + 1) 0 > yH p k then p.getD (k + 1) 0 else yH p k
theorem tS (p:List Int):∀ k,∃ j,j<=k/\yH p k=p.getD j 0
 | 0=>⟨0,by omega,rfl⟩
 | k + 1=>by
  obtain ⟨j,h1,h2⟩:=tS p k
  simp only [yH]
  split
  ·exact ⟨k + 1,by omega,rfl⟩
  ·exact ⟨j,by omega,h2⟩
theorem DL (p:List Int) (h0:0 < p.length) (hl:p.length < 2 ^ 40):PC Tryz.prog 27 [I7 p] (i64 (yH p (p.length - 1))):=by
 refine pF Tryz.func27 ?_
 conv=>whnf
 refine ⟨fun h=>absurd h (by simp;omega),fun _=>?_⟩
 conv=>whnf
 refine ⟨⟨by omega,by omega⟩,?_⟩
 conv=>whnf
 refine Or.inr ⟨Nat,[3,4],[],[],fun k=>[i64 (yH p k),i64 ((k + 1:Nat):Int)],fun _=>[],fun _=>[],fun k=>p.length - k,fun k=>k + 1<=p.length,?_⟩
 conv=>whnf
 refine ⟨⟨0,?_⟩,?_⟩
 ·(conv=>whnf)
  exact kK ⟨by omega,rfl,rfl,rfl⟩
 ·intro k hk
  conv=>whnf
  refine ⟨fun h=>?_,fun h=>?_⟩
  ·have h:=of_decide_eq_true h
   conv=>whnf
   refine ⟨⟨by omega,by omega⟩,?_⟩
   conv=>whnf
   refine ⟨k + 1,?_⟩
   conv=>whnf
   refine kK ⟨⟨Nat.sub_lt_sub_left (by omega) (Nat.lt_succ_self k),by omega⟩,?_,rfl,rfl⟩
   rw [L9 _ (by omega) (by omega)]
   rfl
  ·have h:=of_decide_eq_false h
   obtain rfl:k=p.length - 1:=by omega
   conv=>whnf
abbrev FY:S6:=((0,1),(0,1))
def DM (g:H4) (w m:S6×Int) (v:Int):S6×Int×Int :=
 if w.2=6 then (FY,v,0) else if w.2=0 then (if m.2=0 then (m.1,Bk m.1 (kj g),0) else (zS,0,m.2)) else (zS,0,w.2)
def I3 (g:H4) (p:List Int):S6×Int×Int :=
 if N3 g then DM g (R3 p (K4 g) (J2 g)) (cA (R3 p (K4 g) (J2 g)).1 (K7 g)) (if K4 g<=yH p (p.length - 1) + J2 g then 3 else 2) else (zS,0,8)
theorem dU {g:H4} (h:N3 g=true):(1<=K4 g/\K4 g<=255)/\(0<=J2 g/\J2 g<=64)/\x9 (K7 g)=true/\x9 (kj g)=true/\0 < (K7 g).1.1/\(Ch (K7 g).1=true/\Ch (K7 g).2=true/\Ch g.1.2=true/\Ch g.2=true):=by
 simp only [N3,A0,Bool.and_eq_true,decide_eq_true_eq] at h
 simp only [and_assoc] at h ⊢
 exact h
theorem Bl {p:List Int} {thr j9:Int} (t1:1<=thr) (t2:thr<=255) (n1:0<=j9) (n2:j9<=64) :
  (P6 p=false/\R3 p thr j9=(zS,50))∨(P6 p=true/\((R3 p thr j9)=(zS,6)∨(R3 p thr j9).2=0)):=by
 unfold R3
 cases hp:P6 p
 ·left;simp
 ·right
  have hlen:=aX hp
  have hq:gx p thr 0 j9=true:=by
   simp only [gx,Bool.and_eq_true,decide_eq_true_eq];omega
  rw [hq]
  simp only [if_true,true_and]
  rcases tP (p:=p) (by omega) hlen.2 t1 t2 n1 with ⟨h1,h2⟩|⟨h1,h2,_,_,h3,h4,_⟩
  ·exact .inl h2
  ·exact .inr h4
theorem vF (thr j9 a1 a2 b1 b2 l1 l2 h1 h2:Int) (p:List Int)
  (c1:PC Tryz.prog 25 [.agg [i64 thr,i64 j9,i64 a1,i64 a2,i64 b1,i64 b2,i64 l1,i64 l2,i64 h1,i64 h2]] (i64 8)) :
  PC Tryz.prog 11 [.agg [i64 thr,i64 j9,i64 a1,i64 a2,i64 b1,i64 b2,i64 l1,i64 l2,i64 h1,i64 h2],I7 p] (.tup [sp zS,u8 0,i64 8]):=by
 refine pF Tryz.func11 ?_
 conv=>whnf
 (repeat' (first|(refine ⟨_,by first|with_reducible exact c1,?_⟩;(conv=>whnf))|(refine Or.inl ?_;(conv=>whnf);refine ⟨_,by first|with_reducible exact c1,?_⟩;(conv=>whnf))|(refine Or.inl ?_;(conv=>whnf);refine ⟨false,?_⟩;(conv=>whnf);refine ⟨_,by first|with_reducible exact c1,?_⟩;(conv=>whnf))|(refine ⟨by kernel_rfl,?_⟩;(conv=>whnf))|(refine ⟨fun _=>?_,fun h=>absurd h (by first|decide|(simp;done)|fail)⟩;(conv=>whnf))|(refine ⟨fun h=>absurd h (by first|decide|(simp;done)|fail),fun _=>?_⟩;(conv=>whnf))|fail))
theorem DN (thr j9 a1 a2 b1 b2 l1 l2 h1 h2 M v ve:Int) (p:List Int) (gb:Bool) (w m:S6×Int)
  (c1:PC Tryz.prog 25 [.agg [i64 thr,i64 j9,i64 a1,i64 a2,i64 b1,i64 b2,i64 l1,i64 l2,i64 h1,i64 h2]] (i64 (if gb then 0 else 8)))
  (c2:PC Tryz.prog 26 [I7 p,i64 thr,i64 j9] (.tup [sp w.1,i64 w.2])) (cm:w.2=6->PC Tryz.prog 27 [I7 p] (i64 M))
  (c3:PC Tryz.prog 29 [sp w.1,sp ((a1,a2),(b1,b2))] (.tup [sp m.1,i64 m.2])) (c4:PC Tryz.prog 30 [sp m.1,fr (l1,l2),fr (h1,h2)] (.tup [u8 v,i64 ve]))
  (wz:PC Tryz.prog 28 [i64 0] (fr (0,1))) (wm:w.2=6->IntKind.i64.wrap (M + j9)=M + j9) :
  PC Tryz.prog 11 [.agg [i64 thr,i64 j9,i64 a1,i64 a2,i64 b1,i64 b2,i64 l1,i64 l2,i64 h1,i64 h2],I7 p]
   (.tup [sp (if gb then (if w.2=6 then (FY,(if thr<=M + j9 then (3:Int) else 2),(0:Int)) else if w.2=0 then (if m.2=0 then (m.1,v,ve) else (zS,0,m.2)) else (zS,0,w.2)) else (zS,0,8)).1,
    u8 (if gb then (if w.2=6 then (FY,(if thr<=M + j9 then (3:Int) else 2),(0:Int)) else if w.2=0 then (if m.2=0 then (m.1,v,ve) else (zS,0,m.2)) else (zS,0,w.2)) else (zS,0,8)).2.1,
    i64 (if gb then (if w.2=6 then (FY,(if thr<=M + j9 then (3:Int) else 2),(0:Int)) else if w.2=0 then (if m.2=0 then (m.1,v,ve) else (zS,0,m.2)) else (zS,0,w.2)) else (zS,0,8)).2.2]):=by
 refine pF Tryz.func11 ?_
 conv=>whnf
 (repeat' (first|(refine ⟨_,by first|with_reducible exact c1,?_⟩;(conv=>whnf))|(refine Or.inl ?_;(conv=>whnf);refine ⟨_,by first|with_reducible exact c1,?_⟩;(conv=>whnf))|(refine Or.inl ?_;(conv=>whnf);refine ⟨false,?_⟩;(conv=>whnf);refine ⟨_,by first|with_reducible exact c1,?_⟩;(conv=>whnf))|(refine ⟨by kernel_rfl,?_⟩;(conv=>whnf))|fail))
 refine ⟨fun hh=>?_,fun hh=>?_⟩
 ·(conv=>whnf)
  clear c1 c2 c3 c4 cm wz wm
  cases gb<;>simp_all
 conv=>whnf
 (repeat' (first|(refine ⟨_,by first|with_reducible exact c2,?_⟩;(conv=>whnf))|(refine Or.inl ?_;(conv=>whnf);refine ⟨_,by first|with_reducible exact c2,?_⟩;(conv=>whnf))|(refine Or.inl ?_;(conv=>whnf);refine ⟨false,?_⟩;(conv=>whnf);refine ⟨_,by first|with_reducible exact c2,?_⟩;(conv=>whnf))|(refine ⟨by kernel_rfl,?_⟩;(conv=>whnf))|fail))
 refine ⟨fun h6=>?_,fun h6=>?_⟩
 ·have h6:=of_decide_eq_true h6
  have cm:=cm h6
  have wm:=wm h6
  conv=>whnf
  (repeat' (first|(refine ⟨_,by first|with_reducible exact cm,?_⟩;(conv=>whnf))|(refine Or.inl ?_;(conv=>whnf);refine ⟨_,by first|with_reducible exact cm,?_⟩;(conv=>whnf))|(refine Or.inl ?_;(conv=>whnf);refine ⟨false,?_⟩;(conv=>whnf);refine ⟨_,by first|with_reducible exact cm,?_⟩;(conv=>whnf))|(refine ⟨by kernel_rfl,?_⟩;(conv=>whnf))|fail))
  rw [wm]
  refine ⟨fun hM=>?_,fun hM=>?_⟩
  ·(conv=>whnf)
   (repeat' (first|(refine ⟨_,by first|with_reducible exact wz,?_⟩;(conv=>whnf))|(refine Or.inl ?_;(conv=>whnf);refine ⟨_,by first|with_reducible exact wz,?_⟩;(conv=>whnf))|(refine Or.inl ?_;(conv=>whnf);refine ⟨false,?_⟩;(conv=>whnf);refine ⟨_,by first|with_reducible exact wz,?_⟩;(conv=>whnf))|(refine ⟨by kernel_rfl,?_⟩;(conv=>whnf))|fail))
   clear c1 c2 c3 c4 cm wz wm
   cases gb<;>simp_all
  ·(conv=>whnf)
   (repeat' (first|(refine ⟨_,by first|with_reducible exact wz,?_⟩;(conv=>whnf))|(refine Or.inl ?_;(conv=>whnf);refine ⟨_,by first|with_reducible exact wz,?_⟩;(conv=>whnf))|(refine Or.inl ?_;(conv=>whnf);refine ⟨false,?_⟩;(conv=>whnf);refine ⟨_,by first|with_reducible exact wz,?_⟩;(conv=>whnf))|(refine ⟨by kernel_rfl,?_⟩;(conv=>whnf))|fail))
   clear c1 c2 c3 c4 cm wz wm
   cases gb<;>simp_all
 conv=>whnf
 refine ⟨fun h7=>?_,fun h7=>?_⟩
 ·(conv=>whnf)
  clear c1 c2 c3 c4 cm wz wm
  cases gb<;>simp_all
 conv=>whnf
 (repeat' (first|(refine ⟨_,by first|with_reducible exact c3,?_⟩;(conv=>whnf))|(refine Or.inl ?_;(conv=>whnf);refine ⟨_,by first|with_reducible exact c3,?_⟩;(conv=>whnf))|(refine Or.inl ?_;(conv=>whnf);refine ⟨false,?_⟩;(conv=>whnf);refine ⟨_,by first|with_reducible exact c3,?_⟩;(conv=>whnf))|(refine ⟨by kernel_rfl,?_⟩;(conv=>whnf))|fail))
 refine ⟨fun h8=>?_,fun h8=>?_⟩
 ·(conv=>whnf)
  clear c1 c2 c3 c4 cm wz wm
  cases gb<;>simp_all
 conv=>whnf
 (repeat' (first|(refine ⟨_,by first|with_reducible exact c4,?_⟩;(conv=>whnf))|(refine Or.inl ?_;(conv=>whnf);refine ⟨_,by first|with_reducible exact c4,?_⟩;(conv=>whnf))|(refine Or.inl ?_;(conv=>whnf);refine ⟨false,?_⟩;(conv=>whnf);refine ⟨_,by first|with_reducible exact c4,?_⟩;(conv=>whnf))|(refine ⟨by kernel_rfl,?_⟩;(conv=>whnf))|fail))
 clear c1 c2 c3 c4 cm wz wm
 cases gb<;>simp_all
theorem Y5 (g:H4) (p:List Int) (hl:p.length < 2 ^ 40):PC Tryz.prog 11 [DF g,I7 p] (.tup [sp (I3 g p).1,u8 (I3 g p).2.1,i64 (I3 g p).2.2]):=by
 have IP:(R3 p (K4 g) (J2 g)).2=6->P6 p=true:=fun h=>by
  unfold R3 at h
  cases hp:P6 p
  ·rw [hp] at h;simp at h
  ·rfl
 have hM:(R3 p (K4 g) (J2 g)).2=6->N3 g=true->IntKind.i64.wrap (yH p (p.length - 1) + J2 g)=yH p (p.length - 1) + J2 g:=fun h hg=>by
  have hlen:=aX (IP h)
  obtain ⟨j,mT,Cz⟩:=tS p (p.length - 1)
  have hv:=gB (IP h) j (by omega)
  rw [<- Cz] at hv
  have:=(dU hg).2.1
  exact L9 _ (by omega) (by omega)
 cases hg:N3 g
 ·have e:I3 g p=(zS,0,8):=by unfold I3;rw [hg];rfl
  rw [e]
  have c1:=O0 g
  rw [hg] at c1
  exact vF (K4 g) (J2 g) (K7 g).1.1 (K7 g).1.2 (K7 g).2.1 (K7 g).2.2 g.1.2.1 g.1.2.2 g.2.1 g.2.2 p c1
 ·have h:=DN (K4 g) (J2 g) (K7 g).1.1 (K7 g).1.2 (K7 g).2.1 (K7 g).2.2 g.1.2.1 g.1.2.2 g.2.1 g.2.2 (yH p (p.length - 1)) (oo (cA (R3 p (K4 g) (J2 g)).1 (K7 g)).1 (kj g)).1 (oo (cA (R3 p (K4 g) (J2 g)).1 (K7 g)).1 (kj g)).2 p (N3 g) (R3 p (K4 g) (J2 g)) (cA (R3 p (K4 g) (J2 g)).1 (K7 g))
   (O0 g) (vB p (K4 g) (J2 g) hl) (fun h6=>DL p (by have:=aX (IP h6);omega) hl) (qq _ _) (vE _ _ _) (aY 0) (fun h6=>hM h6 hg)
  have e:I3 g p=(if N3 g=true then (if (R3 p (K4 g) (J2 g)).2=6 then (FY,(if K4 g<=yH p (p.length - 1) + J2 g then (3:Int) else 2),(0:Int)) else if (R3 p (K4 g) (J2 g)).2=0 then (if (cA (R3 p (K4 g) (J2 g)).1 (K7 g)).2=0 then ((cA (R3 p (K4 g) (J2 g)).1 (K7 g)).1,(oo (cA (R3 p (K4 g) (J2 g)).1 (K7 g)).1 (kj g)).1,(oo (cA (R3 p (K4 g) (J2 g)).1 (K7 g)).1 (kj g)).2) else (zS,0,(cA (R3 p (K4 g) (J2 g)).1 (K7 g)).2)) else (zS,0,(R3 p (K4 g) (J2 g)).2)) else (zS,0,8)):=by
   unfold I3 DM
   rw [hg]
   simp only [if_true]
   split
   ·rfl
   ·split
    ·split
     ·rename_i h3
      have hd:oo (cA (R3 p (K4 g) (J2 g)).1 (K7 g)).1 (kj g)=(Bk (cA (R3 p (K4 g) (J2 g)).1 (K7 g)).1 (kj g),0):=by
       unfold oo
       rw [(Be h3).2.2,(dU hg).2.2.2.1]
       rfl
      rw [hd]
     ·rfl
    ·rfl
  rw [<- e] at h
  exact h

end Go.Proofs.Tryz.My
