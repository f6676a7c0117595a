/- Helper lemmas. -/
import Derived.Test.YtdpnpdjnaimgaaaGreatMzGeA
set_option linter.unusedVariables false
set_option linter.unusedSimpArgs false
set_option maxRecDepth 100000
set_option maxHeartbeats 0
namespace Go.Proofs.Tryz.My
open Go Go.Ev
theorem GM {a b:Int×Int} (ha:r7 a=true) (hb:r7 b=true) (h:qv b<=qv a):X7 a b=a:=by
 unfold X7
 rw [if_neg (fun k=>by have:=(EM hb ha).1 k;grind)]
theorem GN {a b:Int×Int} (ha:r7 a=true) (hb:r7 b=true) (h:qv a<=qv b):X6 a b=a:=by
 unfold X6
 rw [if_neg (fun k=>by have:=(mf hb ha).1 k;grind)]
theorem js {p:List Int} {thr a a8 d:Int} (hd:hC d) (h:(N6 p thr a a8 d).2=0) :
  L2 p=true/\dF p thr a a8=true/\N6 p thr a a8 d=X0 p thr a a8 d/\z7 (N6 p thr a a8 d).1=true /\
  ∃ k j,tL (C6 p (-a8)) thr a d=some k/\tL (C6 p a8) thr a d=some j /\
   (N6 p thr a a8 d).1=(if d < 0 then (E7 (C6 p (-a8)) thr a d k,E7 (C6 p a8) thr a d j) else (E7 (C6 p a8) thr a d j,E7 (C6 p (-a8)) thr a d k)) /\
   qv (E7 (C6 p (-a8)) thr a d k)=(a:Rat) + (d:Rat) * bT (R9 (C6 p (-a8)) a d) thr k /\
   qv (E7 (C6 p a8) thr a d j)=(a:Rat) + (d:Rat) * bT (R9 (C6 p a8) a d) thr j:=by
 unfold N6 at h ⊢
 cases hp:L2 p
 ·rw [hp] at h;simp at h
 cases hq:dF p thr a a8
 ·rw [hp,hq] at h;simp at h
 rw [hp,hq] at h
 simp only [if_true] at h ⊢
 obtain ⟨t1,t2,a1,a2,n1,n2⟩:=ag hq
 rcases gF (p:=p) (M0 hp).2 (thr:=thr) (a:=a) (a8:=a8) (d:=d) a1 a2 hd t1 t2 n1 with ⟨h1,h2⟩|⟨k,j,hk,hj,_,v1,v2,q1,q2,_,e,sp⟩
 ·rw [h2] at h;simp at h
 ·exact ⟨trivial,trivial,trivial,sp,k,j,hk,hj,by rw [e],q1,q2⟩
theorem GO {p:List Int} {thr a a8 d:Int} (hd:hC d) (hp:L2 p=true) (hq:dF p thr a a8=true) {k:Nat} (hk:tL (C6 p (-a8)) thr a d=some k):(N6 p thr a a8 d).2=0:=by
 obtain ⟨t1,t2,a1,a2,n1,n2⟩:=ag hq
 unfold N6
 rw [hp,hq]
 simp only [if_true]
 rcases gF (p:=p) (M0 hp).2 (thr:=thr) (a:=a) (a8:=a8) (d:=d) a1 a2 hd t1 t2 n1 with ⟨h1,h2⟩|⟨k,j,hk,hj,_,v1,v2,q1,q2,_,e,sp⟩
 ·rw [h1] at hk;cases hk
 ·rw [e]
theorem jt {p:List Int} {thr a8:Int} (h:(H6 p thr a8).2=0) :
  L2 p=true/\dF p thr 0 a8=true/\(N6 p thr 0 a8 1).2=0/\(N6 p thr ((p.length:Int) - 1) a8 (-1)).2=0/\z7 (H6 p thr a8).1=true /\
   qv (H6 p thr a8).1.1=qv (N6 p thr ((p.length:Int) - 1) a8 (-1)).1.1 - qv (N6 p thr 0 a8 1).1.2/\qv (H6 p thr a8).1.2=qv (N6 p thr ((p.length:Int) - 1) a8 (-1)).1.2 - qv (N6 p thr 0 a8 1).1.1:=by
 unfold H6 at h ⊢
 unfold N6
 cases hp:L2 p
 ·rw [hp] at h;simp at h
 cases hq:dF p thr 0 a8
 ·rw [hp,hq] at h;simp at h
 rw [hp,hq] at h
 obtain ⟨t1,t2,a1,a2,n1,n2⟩:=ag hq
 have hlen:=M0 hp
 have It:dF p thr ((p.length:Int) - 1) a8=true:=by
  simp only [dF,Bool.and_eq_true,decide_eq_true_eq];omega
 rw [It]
 simp only [if_true] at h ⊢
 rcases qa (p:=p) (by omega) hlen.2 t1 t2 n1 with ⟨h1,h2⟩|⟨h1,h2,_,_,h3,h4,h5,h6,h7⟩
 ·rw [h2] at h;simp at h
 ·exact ⟨trivial,trivial,h1,h2,h5,h6,h7⟩
theorem GP {p:List Int} {thr a8:Int} (h:(N6 p thr 0 a8 1).2=0):(H6 p thr a8).2=0:=by
 obtain ⟨hp,hq,e,_⟩:=js (.inl rfl) h
 rw [e] at h
 unfold H6
 rw [hp,hq]
 obtain ⟨t1,t2,a1,a2,n1,n2⟩:=ag hq
 have hlen:=M0 hp
 simp only [if_true]
 rcases qa (p:=p) (by omega) hlen.2 t1 t2 n1 with ⟨h1,h2⟩|⟨h1,h2,_,_,h3,h4,h5,h6,h7⟩
 ·rw [h1] at h;simp at h
 ·exact h4

end Go.Proofs.Tryz.My
