/- A helper text: contracts of functions of the program, and plain lemmas. -/
import Derived.Test.YtiimhccemdcnpaaGreatMzGeA
import Derived.Test.YtiimhccemdcnpaaGreatMzEa
import Derived.Test.YtiimhccemdcnpaaGreatMzTlq
set_option maxRecDepth 100000
set_option maxHeartbeats 0
set_option linter.unusedVariables false
set_option linter.unusedSimpArgs false
namespace Go.Proofs.Tryz.My
open Go Go.Ev

theorem greF_left {a b : Int × Int} (ha : validB a = true) (hb : validB b = true) (h : qv b ≤ qv a) : greF a b = a := by
  unfold greF
  rw [if_neg (fun k => by have := (cmpF_gt hb ha).1 k; grind)]
theorem lesF_left {a b : Int × Int} (ha : validB a = true) (hb : validB b = true) (h : qv a ≤ qv b) : lesF a b = a := by
  unfold lesF
  rw [if_neg (fun k => by have := (cmpF_lt hb ha).1 k; grind)]
/-- All that is known of the span of a bright place. -/
theorem edg_known {p : List Int} {thr a noise d : Int} (hd : ways1 d) (h : (edgF p thr a noise d).2 = 0) :
    profB p = true ∧ askE p thr a noise = true ∧ edgF p thr a noise d = edgeF p thr a noise d ∧ spanB (edgF p thr a noise d).1 = true ∧
    ∃ k j, brk (movL p (-noise)) thr a d = some k ∧ brk (movL p noise) thr a d = some j ∧
      (edgF p thr a noise d).1 = (if d < 0 then (placeF (movL p (-noise)) thr a d k, placeF (movL p noise) thr a d j) else (placeF (movL p noise) thr a d j, placeF (movL p (-noise)) thr a d k)) ∧
      qv (placeF (movL p (-noise)) thr a d k) = (a : Rat) + (d : Rat) * stepR (atK (movL p (-noise)) a d) thr k ∧
      qv (placeF (movL p noise) thr a d j) = (a : Rat) + (d : Rat) * stepR (atK (movL p noise) a d) thr j := by
  unfold edgF at h ⊢
  cases hp : profB p
  · rw [hp] at h; simp at h
  cases hq : askE p thr a noise
  · rw [hp, hq] at h; simp at h
  rw [hp, hq] at h
  simp only [if_true] at h ⊢
  obtain ⟨t1, t2, a1, a2, n1, n2⟩ := ask_known hq
  rcases edge_known (p := p) (prof_len hp).2 (thr := thr) (a := a) (noise := noise) (d := d) a1 a2 hd t1 t2 n1 with ⟨h1, h2⟩ | ⟨k, j, hk, hj, _, v1, v2, q1, q2, _, e, sp⟩
  · rw [h2] at h; simp at h
  · exact ⟨trivial, trivial, trivial, sp, k, j, hk, hj, by rw [e], q1, q2⟩
theorem ask_less {p : List Int} {thr a less more : Int} (h : askE p thr a more = true) (h0 : 0 ≤ less) (h1 : less ≤ more) : askE p thr a less = true := by
  have := ask_known h
  simp only [askE, Bool.and_eq_true, decide_eq_true_eq]
  omega
theorem edg_ok_of {p : List Int} {thr a noise d : Int} (hd : ways1 d) (hp : profB p = true) (hq : askE p thr a noise = true) {k : Nat} (hk : brk (movL p (-noise)) thr a d = some k) : (edgF p thr a noise d).2 = 0 := by
  obtain ⟨t1, t2, a1, a2, n1, n2⟩ := ask_known hq
  unfold edgF
  rw [hp, hq]
  simp only [if_true]
  rcases edge_known (p := p) (prof_len hp).2 (thr := thr) (a := a) (noise := noise) (d := d) a1 a2 hd t1 t2 n1 with ⟨h1, h2⟩ | ⟨k, j, hk, hj, _, v1, v2, q1, q2, _, e, sp⟩
  · rw [h1] at hk; cases hk
  · rw [e]
/-- Less noise: a narrower span. -/
theorem edge_noise {p : List Int} {thr a less more d : Int} (hd : ways1 d) (h0 : 0 ≤ less) (h1 : less ≤ more) (h : (edgF p thr a more d).2 = 0) :
    (edgF p thr a less d).2 = 0 ∧ spanB (edgF p thr a less d).1 = true ∧ spanB (edgF p thr a more d).1 = true ∧ qv (edgF p thr a more d).1.1 ≤ qv (edgF p thr a less d).1.1 ∧ qv (edgF p thr a less d).1.2 ≤ qv (edgF p thr a more d).1.2 := by
  obtain ⟨hp, hq, _, sp, k, j, hk, hj, e, q1, q2⟩ := edg_known hd h
  have hq' := ask_less hq h0 h1
  obtain ⟨k', hk', _, m1⟩ := brk_mono (p := movL p (-more)) (q := movL p (-less)) (by simp [movL_length]) (movL_mono p (by omega)) hk
  have ok := edg_ok_of hd hp hq' hk'
  obtain ⟨_, _, _, sp', k2, j', hk2, hj', e', q1', q2'⟩ := edg_known hd ok
  obtain rfl : k2 = k' := by rw [hk'] at hk2; exact (Option.some.inj hk2).symm
  obtain ⟨j2, hj2, _, m2⟩ := brk_mono (p := movL p less) (q := movL p more) (by simp [movL_length]) (movL_mono p (by omega)) hj'
  obtain rfl : j2 = j := by rw [hj] at hj2; exact (Option.some.inj hj2).symm
  refine ⟨ok, sp', sp, ?_⟩
  rw [e, e']
  rcases hd with rfl | rfl
  · simp only [show ¬ ((1 : Int) < 0) by decide, if_false]
    rw [q1, q2, q1', q2', show ((1 : Int) : Rat) = 1 from rfl]
    constructor <;> grind
  · simp only [show ((-1 : Int) < 0) by decide, if_true]
    rw [q1, q2, q1', q2', show ((-1 : Int) : Rat) = -1 from rfl]
    constructor <;> grind
/-- All that is known of a width. -/
theorem wid_known {p : List Int} {thr noise : Int} (h : (widE p thr noise).2 = 0) :
    profB p = true ∧ askE p thr 0 noise = true ∧ (edgF p thr 0 noise 1).2 = 0 ∧ (edgF p thr ((p.length : Int) - 1) noise (-1)).2 = 0 ∧ spanB (widE p thr noise).1 = true ∧
      qv (widE p thr noise).1.1 = qv (edgF p thr ((p.length : Int) - 1) noise (-1)).1.1 - qv (edgF p thr 0 noise 1).1.2 ∧ qv (widE p thr noise).1.2 = qv (edgF p thr ((p.length : Int) - 1) noise (-1)).1.2 - qv (edgF p thr 0 noise 1).1.1 := by
  unfold widE at h ⊢
  unfold edgF
  cases hp : profB p
  · rw [hp] at h; simp at h
  cases hq : askE p thr 0 noise
  · rw [hp, hq] at h; simp at h
  rw [hp, hq] at h
  obtain ⟨t1, t2, a1, a2, n1, n2⟩ := ask_known hq
  have hlen := prof_len hp
  have hq2 : askE p thr ((p.length : Int) - 1) noise = true := by
    simp only [askE, Bool.and_eq_true, decide_eq_true_eq]; omega
  rw [hq2]
  simp only [if_true] at h ⊢
  rcases wid_law (p := p) (by omega) hlen.2 t1 t2 n1 with ⟨h1, h2⟩ | ⟨h1, h2, _, _, h3, h4, h5, h6, h7⟩
  · rw [h2] at h; simp at h
  · exact ⟨trivial, trivial, h1, h2, h5, h6, h7⟩
theorem wid_ok_of {p : List Int} {thr noise : Int} (h : (edgF p thr 0 noise 1).2 = 0) : (widE p thr noise).2 = 0 := by
  obtain ⟨hp, hq, e, _⟩ := edg_known (.inl rfl) h
  rw [e] at h
  unfold widE
  rw [hp, hq]
  obtain ⟨t1, t2, a1, a2, n1, n2⟩ := ask_known hq
  have hlen := prof_len hp
  simp only [if_true]
  rcases wid_law (p := p) (by omega) hlen.2 t1 t2 n1 with ⟨h1, h2⟩ | ⟨h1, h2, _, _, h3, h4, h5, h6, h7⟩
  · rw [h1] at h; simp at h
  · exact h4
theorem wid_noise {p : List Int} {thr less more : Int} (h0 : 0 ≤ less) (h1 : less ≤ more) (h : (widE p thr more).2 = 0) :
    (widE p thr less).2 = 0 ∧ spanB (widE p thr less).1 = true ∧ spanB (widE p thr more).1 = true ∧ qv (widE p thr more).1.1 ≤ qv (widE p thr less).1.1 ∧ qv (widE p thr less).1.2 ≤ qv (widE p thr more).1.2 := by
  obtain ⟨_, _, r1, f1, s1, x1, y1⟩ := wid_known h
  obtain ⟨r2, _, _, r3, r4⟩ := edge_noise (.inl rfl) h0 h1 r1
  obtain ⟨f2, _, _, f3, f4⟩ := edge_noise (.inr rfl) h0 h1 f1
  have ok := wid_ok_of r2
  obtain ⟨_, _, _, _, s2, x2, y2⟩ := wid_known ok
  exact ⟨ok, s2, s1, by grind, by grind⟩
end Go.Proofs.Tryz.My
