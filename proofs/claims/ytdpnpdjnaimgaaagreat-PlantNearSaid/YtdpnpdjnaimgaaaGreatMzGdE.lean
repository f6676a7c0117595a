/- A helper text: contracts of functions of the program, and plain lemmas. -/
import Derived.Test.YtdpnpdjnaimgaaaGreatEvSix
import Derived.Test.YtdpnpdjnaimgaaaGreatMzGdB
import Derived.Test.YtdpnpdjnaimgaaaGreatMzGdD
import Derived.Test.YtdpnpdjnaimgaaaGreatMzEaA
import Derived.Test.YtdpnpdjnaimgaaaGreatChecked
set_option maxRecDepth 100000
set_option maxHeartbeats 0
set_option linter.unusedVariables false
set_option linter.unusedSimpArgs false
namespace Go.Proofs.Tryz.My
open Go Go.Ev
def mxK (p:List Int):Nat->Int
 | 0=>p.getD 0 0
 | k + 1=>if p.getD (k + 1) 0 > mxK p k then p.getD (k + 1) 0 else mxK p k
theorem a9C (p:List Int):∀ k,∃ j,j<=k/\mxK p k=p.getD j 0
 | 0=>⟨0,by omega,rfl⟩
 | k + 1=>by
  obtain ⟨j,h1,h2⟩:=a9C p k
  simp only [mxK]
  split
  ·exact ⟨k + 1,by omega,rfl⟩
  ·exact ⟨j,by omega,h2⟩
theorem b4S (p:List Int) (h0:0 < p.length) (hl:p.length < 2 ^ 40):PC Tryz.prog 91 [ints p] (i64 (mxK p (p.length - 1))):=by
 refine a7 hm Tryz.func91 (by kernel_rfl) ?_
 conv=>whnf
 refine ⟨fun h=>absurd h (by simp; omega),fun _ => ?_⟩
 conv=>whnf
 refine ⟨⟨by omega,by omega⟩,?_⟩
 conv=>whnf
 refine Or.inr ⟨Nat,[3,4],[],[],fun k=>[i64 (mxK p k),i64 ((k + 1:Nat):Int)],fun _=>[],fun _=>[],fun k=>p.length - k,fun k=>k + 1<=p.length,?_⟩
 conv=>whnf
 refine ⟨⟨0,?_⟩,?_⟩
 ·(conv=>whnf)
  exact ⟨⟨by omega,rfl,rfl,rfl⟩,by kernel_rfl,by kernel_rfl⟩
 ·intro k hk
  conv=>whnf
  refine ⟨fun h => ?_,fun h => ?_⟩
  ·have h:=of_decide_eq_true h
   conv=>whnf
   refine ⟨⟨by omega,by omega⟩,?_⟩
   conv=>whnf
   refine ⟨k + 1,?_⟩
   conv=>whnf
   refine ⟨⟨⟨Nat.sub_lt_sub_left (by omega) (Nat.lt_succ_self k),by omega⟩,?_,rfl,rfl⟩,by kernel_rfl,by kernel_rfl⟩
   rw [w64 _ (by omega) (by omega)]
   rfl
  ·have h:=of_decide_eq_false h
   obtain rfl:k=p.length - 1:=by omega
   conv=>whnf
abbrev s00:SpT:=((0,1),(0,1))
def meaG (g:GauT) (w m:SpT×Int) (v:Int):SpT×Int×Int :=
 if w.2=6 then (s00,v,0) else if w.2=0 then (if m.2=0 then (m.1,verV m.1 (gTol g),0) else (zS,0,m.2)) else (zS,0,w.2)
def meaF (g:GauT) (p:List Int):SpT×Int×Int :=
 if gauB g then meaG g (widE p (gThr g) (gNoi g)) (mulS (widE p (gThr g) (gNoi g)).1 (gSc g)) (if gThr g<=mxK p (p.length - 1) + gNoi g then 3 else 2) else (zS,0,8)
theorem a0F {g:GauT} (h:gauB g=true):(1<=gThr g/\gThr g<=255)/\(0<=gNoi g/\gNoi g<=64)/\k7 (gSc g)=true/\k7 (gTol g)=true/\0 < (gSc g).1.1/\(smB (gSc g).1=true/\smB (gSc g).2=true/\smB g.1.2=true/\smB g.2=true):=by
 simp only [gauB,n8,Bool.and_eq_true,decide_eq_true_eq] at h
 simp only [and_assoc] at h ⊢
 exact h
theorem b3I {p:List Int} {thr noise:Int} (t1:1<=thr) (t2:thr<=255) (n1:0<=noise) (n2:noise<=64) :
  (y8 p=false/\widE p thr noise=(zS,50))∨(y8 p=true/\((widE p thr noise)=(zS,6)∨(widE p thr noise).2=0)):=by
 unfold widE
 cases hp:y8 p
 ·left; simp
 ·right
  have hlen:=E6 hp
  have hq:askE p thr 0 noise=true:=by
   simp only [askE,Bool.and_eq_true,decide_eq_true_eq]; omega
  rw [hq]
  simp only [if_true,true_and]
  rcases a9A (p:=p) (by omega) hlen.2 t1 t2 n1 with ⟨h1,h2⟩ | ⟨h1,h2,_,_,h3,h4,_⟩
  ·exact .inl h2
  ·exact .inr h4
theorem b0D (thr noise a1 a2 b1 b2 l1 l2 h1 h2:Int) (p:List Int)
  (c1:PC Tryz.prog 89 [.agg [i64 thr,i64 noise,i64 a1,i64 a2,i64 b1,i64 b2,i64 l1,i64 l2,i64 h1,i64 h2]] (i64 8)) :
  PC Tryz.prog 48 [.agg [i64 thr,i64 noise,i64 a1,i64 a2,i64 b1,i64 b2,i64 l1,i64 l2,i64 h1,i64 h2],ints p] (.tup [sp zS,u8 0,i64 8]):=by
 refine a7 hm Tryz.func48 (by kernel_rfl) ?_
 conv=>whnf
 (repeat' (first|(refine ⟨_,by first | with_reducible exact c1,?_⟩; (conv=>whnf)) | (refine Or.inl ?_; (conv=>whnf); refine ⟨_,by first | with_reducible exact c1,?_⟩; (conv=>whnf)) | (refine Or.inl ?_; (conv=>whnf); refine ⟨false,?_⟩; (conv=>whnf); refine ⟨_,by first | with_reducible exact c1,?_⟩; (conv=>whnf)) | (refine ⟨by kernel_rfl,?_⟩; (conv=>whnf)) | (refine ⟨fun _ => ?_,fun h=>absurd h (by first | decide | (simp; done) | fail)⟩; (conv=>whnf)) | (refine ⟨fun h=>absurd h (by first | decide | (simp; done) | fail),fun _ => ?_⟩; (conv=>whnf)) | fail))
theorem b4T (thr noise a1 a2 b1 b2 l1 l2 h1 h2 M v ve:Int) (p:List Int) (gb:Bool) (w m:SpT×Int)
  (c1:PC Tryz.prog 89 [.agg [i64 thr,i64 noise,i64 a1,i64 a2,i64 b1,i64 b2,i64 l1,i64 l2,i64 h1,i64 h2]] (i64 (if gb then 0 else 8)))
  (c2:PC Tryz.prog 90 [ints p,i64 thr,i64 noise] (.tup [sp w.1,i64 w.2])) (cm:w.2=6->PC Tryz.prog 91 [ints p] (i64 M))
  (c3:PC Tryz.prog 93 [sp w.1,sp ((a1,a2),(b1,b2))] (.tup [sp m.1,i64 m.2])) (c4:PC Tryz.prog 94 [sp m.1,fr (l1,l2),fr (h1,h2)] (.tup [u8 v,i64 ve]))
  (wz:PC Tryz.prog 92 [i64 0] (fr (0,1))) (wm:w.2=6->IntKind.i64.wrap (M + noise)=M + noise) :
  PC Tryz.prog 48 [.agg [i64 thr,i64 noise,i64 a1,i64 a2,i64 b1,i64 b2,i64 l1,i64 l2,i64 h1,i64 h2],ints p]
   (.tup [sp (if gb then (if w.2=6 then (s00,(if thr<=M + noise then (3:Int) else 2),(0:Int)) else if w.2=0 then (if m.2=0 then (m.1,v,ve) else (zS,0,m.2)) else (zS,0,w.2)) else (zS,0,8)).1,
    u8 (if gb then (if w.2=6 then (s00,(if thr<=M + noise then (3:Int) else 2),(0:Int)) else if w.2=0 then (if m.2=0 then (m.1,v,ve) else (zS,0,m.2)) else (zS,0,w.2)) else (zS,0,8)).2.1,
    i64 (if gb then (if w.2=6 then (s00,(if thr<=M + noise then (3:Int) else 2),(0:Int)) else if w.2=0 then (if m.2=0 then (m.1,v,ve) else (zS,0,m.2)) else (zS,0,w.2)) else (zS,0,8)).2.2]):=by
 refine a7 hm Tryz.func48 (by kernel_rfl) ?_
 conv=>whnf
 (repeat' (first|(refine ⟨_,by first | with_reducible exact c1,?_⟩; (conv=>whnf)) | (refine Or.inl ?_; (conv=>whnf); refine ⟨_,by first | with_reducible exact c1,?_⟩; (conv=>whnf)) | (refine Or.inl ?_; (conv=>whnf); refine ⟨false,?_⟩; (conv=>whnf); refine ⟨_,by first | with_reducible exact c1,?_⟩; (conv=>whnf)) | (refine ⟨by kernel_rfl,?_⟩; (conv=>whnf)) | fail))
 refine ⟨fun hh => ?_,fun hh => ?_⟩
 ·(conv=>whnf)
  clear c1 c2 c3 c4 cm wz wm
  cases gb<;>simp_all
 conv=>whnf
 (repeat' (first|(refine ⟨_,by first | with_reducible exact c2,?_⟩; (conv=>whnf)) | (refine Or.inl ?_; (conv=>whnf); refine ⟨_,by first | with_reducible exact c2,?_⟩; (conv=>whnf)) | (refine Or.inl ?_; (conv=>whnf); refine ⟨false,?_⟩; (conv=>whnf); refine ⟨_,by first | with_reducible exact c2,?_⟩; (conv=>whnf)) | (refine ⟨by kernel_rfl,?_⟩; (conv=>whnf)) | fail))
 refine ⟨fun h6 => ?_,fun h6 => ?_⟩
 ·have h6:=of_decide_eq_true h6
  have cm:=cm h6
  have wm:=wm h6
  conv=>whnf
  (repeat' (first|(refine ⟨_,by first | with_reducible exact cm,?_⟩; (conv=>whnf)) | (refine Or.inl ?_; (conv=>whnf); refine ⟨_,by first | with_reducible exact cm,?_⟩; (conv=>whnf)) | (refine Or.inl ?_; (conv=>whnf); refine ⟨false,?_⟩; (conv=>whnf); refine ⟨_,by first | with_reducible exact cm,?_⟩; (conv=>whnf)) | (refine ⟨by kernel_rfl,?_⟩; (conv=>whnf)) | fail))
  rw [wm]
  refine ⟨fun hM => ?_,fun hM => ?_⟩
  ·(conv=>whnf)
   (repeat' (first|(refine ⟨_,by first | with_reducible exact wz,?_⟩; (conv=>whnf)) | (refine Or.inl ?_; (conv=>whnf); refine ⟨_,by first | with_reducible exact wz,?_⟩; (conv=>whnf)) | (refine Or.inl ?_; (conv=>whnf); refine ⟨false,?_⟩; (conv=>whnf); refine ⟨_,by first | with_reducible exact wz,?_⟩; (conv=>whnf)) | (refine ⟨by kernel_rfl,?_⟩; (conv=>whnf)) | fail))
   clear c1 c2 c3 c4 cm wz wm
   cases gb<;>simp_all
  ·(conv=>whnf)
   (repeat' (first|(refine ⟨_,by first | with_reducible exact wz,?_⟩; (conv=>whnf)) | (refine Or.inl ?_; (conv=>whnf); refine ⟨_,by first | with_reducible exact wz,?_⟩; (conv=>whnf)) | (refine Or.inl ?_; (conv=>whnf); refine ⟨false,?_⟩; (conv=>whnf); refine ⟨_,by first | with_reducible exact wz,?_⟩; (conv=>whnf)) | (refine ⟨by kernel_rfl,?_⟩; (conv=>whnf)) | fail))
   clear c1 c2 c3 c4 cm wz wm
   cases gb<;>simp_all
 conv=>whnf
 refine ⟨fun h7 => ?_,fun h7 => ?_⟩
 ·(conv=>whnf)
  clear c1 c2 c3 c4 cm wz wm
  cases gb<;>simp_all
 conv=>whnf
 (repeat' (first|(refine ⟨_,by first | with_reducible exact c3,?_⟩; (conv=>whnf)) | (refine Or.inl ?_; (conv=>whnf); refine ⟨_,by first | with_reducible exact c3,?_⟩; (conv=>whnf)) | (refine Or.inl ?_; (conv=>whnf); refine ⟨false,?_⟩; (conv=>whnf); refine ⟨_,by first | with_reducible exact c3,?_⟩; (conv=>whnf)) | (refine ⟨by kernel_rfl,?_⟩; (conv=>whnf)) | fail))
 refine ⟨fun h8 => ?_,fun h8 => ?_⟩
 ·(conv=>whnf)
  clear c1 c2 c3 c4 cm wz wm
  cases gb<;>simp_all
 conv=>whnf
 (repeat' (first|(refine ⟨_,by first | with_reducible exact c4,?_⟩; (conv=>whnf)) | (refine Or.inl ?_; (conv=>whnf); refine ⟨_,by first | with_reducible exact c4,?_⟩; (conv=>whnf)) | (refine Or.inl ?_; (conv=>whnf); refine ⟨false,?_⟩; (conv=>whnf); refine ⟨_,by first | with_reducible exact c4,?_⟩; (conv=>whnf)) | (refine ⟨by kernel_rfl,?_⟩; (conv=>whnf)) | fail))
 clear c1 c2 c3 c4 cm wz wm
 cases gb<;>simp_all
theorem a0G (g:GauT) (p:List Int) (hl:p.length < 2 ^ 40):PC Tryz.prog 48 [gau g,ints p] (.tup [sp (meaF g p).1,u8 (meaF g p).2.1,i64 (meaF g p).2.2]):=by
 have six:(widE p (gThr g) (gNoi g)).2=6->y8 p=true:=fun h=>by
  unfold widE at h
  cases hp:y8 p
  ·rw [hp] at h; simp at h
  ·rfl
 have hM:(widE p (gThr g) (gNoi g)).2=6->gauB g=true->IntKind.i64.wrap (mxK p (p.length - 1) + gNoi g)=mxK p (p.length - 1) + gNoi g:=fun h hg=>by
  have hlen:=E6 (six h)
  obtain ⟨j,hj1,hj2⟩:=a9C p (p.length - 1)
  have hv:=a1w (six h) j (by omega)
  rw [<- hj2] at hv
  have:=(a0F hg).2.1
  exact w64 _ (by omega) (by omega)
 cases hg:gauB g
 ·have e:meaF g p=(zS,0,8):=by unfold meaF; rw [hg]; rfl
  rw [e]
  have c1:=E7 g
  rw [hg] at c1
  exact b0D (gThr g) (gNoi g) (gSc g).1.1 (gSc g).1.2 (gSc g).2.1 (gSc g).2.2 g.1.2.1 g.1.2.2 g.2.1 g.2.2 p c1
 ·have h:=b4T (gThr g) (gNoi g) (gSc g).1.1 (gSc g).1.2 (gSc g).2.1 (gSc g).2.2 g.1.2.1 g.1.2.2 g.2.1 g.2.2 (mxK p (p.length - 1)) (decF (mulS (widE p (gThr g) (gNoi g)).1 (gSc g)).1 (gTol g)).1 (decF (mulS (widE p (gThr g) (gNoi g)).1 (gSc g)).1 (gTol g)).2 p (gauB g) (widE p (gThr g) (gNoi g)) (mulS (widE p (gThr g) (gNoi g)).1 (gSc g))
   (E7 g) (b0B p (gThr g) (gNoi g) hl) (fun h6=>b4S p (by have:=E6 (six h6); omega) hl) (a61 _ _) (b0C _ _ _) (R7 0) (fun h6=>hM h6 hg)
  have e:meaF g p=(if gauB g=true then (if (widE p (gThr g) (gNoi g)).2=6 then (s00,(if gThr g<=mxK p (p.length - 1) + gNoi g then (3:Int) else 2),(0:Int)) else if (widE p (gThr g) (gNoi g)).2=0 then (if (mulS (widE p (gThr g) (gNoi g)).1 (gSc g)).2=0 then ((mulS (widE p (gThr g) (gNoi g)).1 (gSc g)).1,(decF (mulS (widE p (gThr g) (gNoi g)).1 (gSc g)).1 (gTol g)).1,(decF (mulS (widE p (gThr g) (gNoi g)).1 (gSc g)).1 (gTol g)).2) else (zS,0,(mulS (widE p (gThr g) (gNoi g)).1 (gSc g)).2)) else (zS,0,(widE p (gThr g) (gNoi g)).2)) else (zS,0,8)):=by
   unfold meaF meaG
   rw [hg]
   simp only [if_true]
   split
   ·rfl
   ·split
    ·split
     ·rename_i h3
      have hd:decF (mulS (widE p (gThr g) (gNoi g)).1 (gSc g)).1 (gTol g)=(verV (mulS (widE p (gThr g) (gNoi g)).1 (gSc g)).1 (gTol g),0):=by
       unfold decF
       rw [(b3F h3).2.2,(a0F hg).2.2.2.1]
       rfl
      rw [hd]
     ·rfl
    ·rfl
  rw [<- e] at h
  exact h
abbrev gcs (thr noise a1 a2 b1 b2 l1 l2 h1 h2:Int):AV := .agg [i64 thr,i64 noise,i64 a1,i64 a2,i64 b1,i64 b2,i64 l1,i64 l2,i64 h1,i64 h2]

end Go.Proofs.Tryz.My
