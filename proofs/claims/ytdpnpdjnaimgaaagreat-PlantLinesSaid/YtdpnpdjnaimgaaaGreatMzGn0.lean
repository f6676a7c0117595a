/- A helper text: contracts of functions of the program, and plain lemmas. -/
import Derived.Test.YtdpnpdjnaimgaaaGreatMzGeA
import Derived.Test.YtdpnpdjnaimgaaaGreatMzEaA
set_option maxRecDepth 100000
set_option maxHeartbeats 0
set_option linter.unusedVariables false
set_option linter.unusedSimpArgs false
namespace Go.Proofs.Tryz.My
open Go Go.Ev
theorem greF_left {a b : Int × Int} (ha : validB a = true) (hb : validB b = true) (h : qv b ≤ qv a) : greF a b = a := by
  unfold greF
  rw [if_neg (fun k => by have := (cmpF_gt hb ha).1 k; grind)]
theorem lesF_left {a b : Int × Int} (ha : validB a = true) (hb : validB b = true) (h : qv a ≤ qv b) : lesF a b = a := by
  unfold lesF
  rw [if_neg (fun k => by have := (cmpF_lt hb ha).1 k; grind)]
theorem edg_known {p : List Int} {thr a noise d : Int} (hd : ways1 d) (h : (edgF p thr a noise d).2 = 0) :
    profB p = true ∧ askE p thr a noise = true ∧ edgF p thr a noise d = edgeF p thr a noise d ∧ spanB (edgF p thr a noise d).1 = true ∧
    ∃ k j, brk (movL p (-noise)) thr a d = some k ∧ brk (movL p noise) thr a d = some j ∧
      (edgF p thr a noise d).1 = (if d < 0 then (placeF (movL p (-noise)) thr a d k, placeF (movL p noise) thr a d j) else (placeF (movL p noise) thr a d j, placeF (movL p (-noise)) thr a d k)) ∧
      qv (placeF (movL p (-noise)) thr a d k) = (a : Rat) + (d : Rat) * stepR (atK (movL p (-noise)) a d) thr k ∧
      qv (placeF (movL p noise) thr a d j) = (a : Rat) + (d : Rat) * stepR (atK (movL p noise) a d) thr j := by
  unfold edgF at h ⊢
  cases hp : profB p
  · rw [hp] at h; simp at h
  cases hq : askE p thr a noise
  · rw [hp, hq] at h; simp at h
  rw [hp, hq] at h
  simp only [if_true] at h ⊢
  obtain ⟨t1, t2, a1, a2, n1, n2⟩ := ask_known hq
  rcases edge_known (p := p) (prof_len hp).2 (thr := thr) (a := a) (noise := noise) (d := d) a1 a2 hd t1 t2 n1 with ⟨h1, h2⟩ | ⟨k, j, hk, hj, _, v1, v2, q1, q2, _, e, sp⟩
  · rw [h2] at h; simp at h
  · exact ⟨trivial, trivial, trivial, sp, k, j, hk, hj, by rw [e], q1, q2⟩
theorem wid_known {p : List Int} {thr noise : Int} (h : (widE p thr noise).2 = 0) :
    profB p = true ∧ askE p thr 0 noise = true ∧ (edgF p thr 0 noise 1).2 = 0 ∧ (edgF p thr ((p.length : Int) - 1) noise (-1)).2 = 0 ∧ spanB (widE p thr noise).1 = true ∧
      qv (widE p thr noise).1.1 = qv (edgF p thr ((p.length : Int) - 1) noise (-1)).1.1 - qv (edgF p thr 0 noise 1).1.2 ∧ qv (widE p thr noise).1.2 = qv (edgF p thr ((p.length : Int) - 1) noise (-1)).1.2 - qv (edgF p thr 0 noise 1).1.1 := by
  unfold widE at h ⊢
  unfold edgF
  cases hp : profB p
  · rw [hp] at h; simp at h
  cases hq : askE p thr 0 noise
  · rw [hp, hq] at h; simp at h
  rw [hp, hq] at h
  obtain ⟨t1, t2, a1, a2, n1, n2⟩ := ask_known hq
  have hlen := prof_len hp
  have hq2 : askE p thr ((p.length : Int) - 1) noise = true := by
    simp only [askE, Bool.and_eq_true, decide_eq_true_eq]; omega
  rw [hq2]
  simp only [if_true] at h ⊢
  rcases wid_law (p := p) (by omega) hlen.2 t1 t2 n1 with ⟨h1, h2⟩ | ⟨h1, h2, _, _, h3, h4, h5, h6, h7⟩
  · rw [h2] at h; simp at h
  · exact ⟨trivial, trivial, h1, h2, h5, h6, h7⟩
end Go.Proofs.Tryz.My
