/- A helper text: contracts of functions of the program, and plain lemmas. -/
import Derived.Test.YtblmmhmdnnnidaaMyGkA
import Derived.Test.YtblmmhmdnnnidaaMySi
set_option maxRecDepth 100000
set_option maxHeartbeats 0
set_option linter.unusedVariables false
set_option linter.unusedSimpArgs false
namespace Go.Proofs.Try.My
open Go Go.Ev

/-! ### Corners of lines within the spans -/
theorem with_ok {op : SpT → SpT → SpT × Int} {x : SpT × Int} {s : SpT} (h : (withF op x s).2 = 0) : x.2 = 0 ∧ (op x.1 s).2 = 0 ∧ withF op x s = op x.1 s := by
  unfold withF at h ⊢
  by_cases e : x.2 = 0
  · rw [if_pos e] at h ⊢
    exact ⟨e, h, rfl⟩
  · rw [if_neg e] at h
    exact absurd h e
theorem with_pt {op : SpT → SpT → SpT × Int} {x : SpT × Int} {s : SpT} {X Y : Rat} (hx : PtR x X) (hop : ∀ w, validB w = true → qv w = X → PtR (op (w, w) s) Y) : PtR (withF op x s) Y := by
  rcases hx with ⟨w, v, q, e⟩ | e
  · rw [e]
    unfold withF
    rw [if_pos rfl]
    exact hop w v q
  · right
    unfold withF
    rw [if_neg (by rw [e]; decide)]
    exact e
theorem with0 (op : SpT → SpT → SpT × Int) (a s : SpT) : withF op (a, 0) s = op a s := by unfold withF; rw [if_pos rfl]
theorem corP_inR {a b : CamT} {d : SpT} (h : (corP a b d).2 = 0) {F G C D : Rat} (hf : InR a.1 F) (hg : InR b.2 G) (hc : InR a.2 C) (hd : InR d D) : InR (corP a b d).1 ((F * G + C) / D) := by
  have hp : corP a b d = withF divS (withF addS (withF mulS (a.1, 0) b.2) a.2) d := rfl
  rw [hp] at h ⊢
  obtain ⟨e1, k1, r1⟩ := with_ok h
  obtain ⟨e2, k2, r2⟩ := with_ok e1
  obtain ⟨e3, k3, r3⟩ := with_ok e2
  rw [r1]
  refine (divS_inR k1 ?_ hd).2
  rw [r2]
  refine addS_inR k2 ?_ hc
  rw [r3]
  exact mulS_inR k3 hf hg
theorem corP_pt {fa ca cb w : Int × Int} (v1 : validB fa = true) (v2 : validB ca = true) (v4 : validB cb = true) (vw : validB w = true) (h0 : qv w ≠ 0) (x : SpT) : PtR (corP ((fa, fa), (ca, ca)) (x, (cb, cb)) (w, w)) ((qv fa * qv cb + qv ca) / qv w) := by
  have hp : corP ((fa, fa), (ca, ca)) (x, (cb, cb)) (w, w) = withF divS (withF addS (withF mulS ((fa, fa), 0) (cb, cb)) (ca, ca)) (w, w) := rfl
  rw [hp]
  refine with_pt (X := qv fa * qv cb + qv ca) (with_pt (X := qv fa * qv cb) ?_ fun u vu qu => ?_) fun u vu qu => ?_
  · rw [with0]; exact mulS_pt v1 v4
  · rw [← qu]; exact addS_pt vu v2
  · rw [← qu]; exact divS_pt vu vw h0
theorem corD_eq (a b : CamT) : corD a b = withF bus (mulS a.1 b.1) oneS := by
  unfold corD
  rw [with0]
theorem cor_meets {a b : CamT} (h : (corN a b).2 = 0) {fa ca fb cb : Int × Int} (v1 : validB fa = true) (v2 : validB ca = true) (v3 : validB fb = true) (v4 : validB cb = true)
    (i1 : InR a.1 (qv fa)) (i2 : InR a.2 (qv ca)) (i3 : InR b.1 (qv fb)) (i4 : InR b.2 (qv cb)) :
    (corN ((fa, fa), (ca, ca)) ((fb, fb), (cb, cb))).2 = 4 ∨ ∃ u v, corN ((fa, fa), (ca, ca)) ((fb, fb), (cb, cb)) = (((u, u), (v, v)), 0) ∧ insB (u, u) (corN a b).1.1 = true ∧ insB (v, v) (corN a b).1.2 = true := by
  have vo : validB (1, 1) = true := by decide
  have qo : qv (1, 1) = 1 := by
    have e1 : ((1 : Int) : Rat) = 1 := rfl
    unfold qv
    simp only [e1]
    grind
  unfold corN at h ⊢
  by_cases hs : (spanB a.1 && spanB a.2 && spanB b.1 && spanB b.2) = true
  rotate_left
  · rw [if_neg hs] at h; simp at h
  rw [if_pos hs] at h ⊢
  rw [show (spanB (fa, fa) && spanB (ca, ca) && spanB (fb, fb) && spanB (cb, cb)) = true by rw [span_pt v1, span_pt v2, span_pt v3, span_pt v4]; rfl]
  rw [if_pos rfl]
  unfold corG at h
  by_cases hD : (corD a b).2 = 0
  rotate_left
  · rw [if_neg hD] at h; exact absurd h hD
  rw [if_pos hD] at h
  cases hz : hasB (corD a b).1 (0, 1)
  rotate_left
  · rw [hz] at h; simp at h
  rw [hz] at h
  by_cases hP : (corP a b (corD a b).1).2 = 0
  rotate_left
  · rw [if_neg (by decide), if_neg hP] at h; exact absurd h hP
  by_cases hQ : (corP b a (corD a b).1).2 = 0
  rotate_left
  · rw [if_neg (by decide), if_pos hP, if_neg hQ] at h; exact absurd h hQ
  have eN : corG (corD a b) (corP a b (corD a b).1) (corP b a (corD a b).1) false = (((corP a b (corD a b).1).1, (corP b a (corD a b).1).1), 0) := by
    unfold corG
    rw [if_pos hD, if_neg (by decide), if_pos hP, if_pos hQ]
  rw [eN]
  have ok := corD_ok hD
  obtain ⟨d1, d2, d3⟩ := spanB_qv.1 ok
  have e0 := corD_eq a b
  have hD' := hD
  rw [e0] at hD'
  obtain ⟨k1, k2, k3⟩ := with_ok hD'
  have xD : InR (corD a b).1 (1 - qv fa * qv fb) := by
    rw [e0, k3]
    unfold bus at k2 ⊢
    refine subS_inR k2 ?_ (mulS_inR k1 i1 i3)
    exact ⟨by rw [qo]; exact Rat.le_refl, by rw [qo]; exact Rat.le_refl⟩
  have nz : 1 - qv fa * qv fb ≠ 0 := fun k => by
    rw [k] at xD
    have := (hasB_qv2 d1 d2 (by decide : validB (0, 1) = true)).2 (by rw [qv_zero]; exact xD)
    rw [hz] at this
    cases this
  have pD : PtR (corD ((fa, fa), (ca, ca)) ((fb, fb), (cb, cb))) (1 - qv fa * qv fb) := by
    rw [corD_eq]
    refine with_pt (X := qv fa * qv fb) (mulS_pt v1 v3) fun w vw qw => ?_
    unfold bus
    have := subS_pt vo vw
    rw [qo, qw] at this
    exact this
  rcases pD with ⟨w, vw, qw, ew⟩ | k
  rotate_left
  · left
    unfold corG
    rw [if_neg (by rw [k]; decide)]
    exact k
  rw [ew]
  have nw : qv w ≠ 0 := by rw [qw]; exact nz
  have hw : hasB (w, w) (0, 1) = false := by
    rw [← Bool.not_eq_true]
    intro k
    have := (hasB_qv2 (s := (w, w)) vw vw (by decide : validB (0, 1) = true)).1 k
    rw [qv_zero] at this
    exact nw (Rat.le_antisymm this.1 this.2)
  have xP := corP_inR hP i1 i4 i2 xD
  have xQ := corP_inR hQ i3 i2 i4 xD
  have sP : spanB (corP a b (corD a b).1).1 = true := by
    obtain ⟨_, q2, q3⟩ := with_ok (show (withF divS (withF addS (withF mulS (a.1, 0) b.2) a.2) (corD a b).1).2 = 0 from hP)
    rw [show corP a b (corD a b).1 = divS (withF addS (withF mulS (a.1, 0) b.2) a.2).1 (corD a b).1 from q3]
    exact (divS_ok q2).2.2.2
  have sQ : spanB (corP b a (corD a b).1).1 = true := by
    obtain ⟨_, q2, q3⟩ := with_ok (show (withF divS (withF addS (withF mulS (b.1, 0) a.2) b.2) (corD a b).1).2 = 0 from hQ)
    rw [show corP b a (corD a b).1 = divS (withF addS (withF mulS (b.1, 0) a.2) b.2).1 (corD a b).1 from q3]
    exact (divS_ok q2).2.2.2
  unfold corG
  simp only [hw, if_true, Bool.false_eq_true, if_false]
  rcases corP_pt v1 v2 v4 vw nw (fb, fb) with ⟨u, u1, u2, u3⟩ | k
  rotate_left
  · left
    rw [if_neg (by rw [k]; decide)]
    exact k
  rcases corP_pt v3 v4 v2 vw nw (fa, fa) with ⟨v, g1, g2, g3⟩ | k
  rotate_left
  · left
    rw [u3, if_pos rfl, if_neg (by rw [k]; decide)]
    exact k
  right
  rw [u3, g3]
  refine ⟨u, v, rfl, ins_pt u1 sP ?_, ins_pt g1 sQ ?_⟩
  · rw [u2, qw]; exact xP
  · rw [g2, qw]; exact xQ
end Go.Proofs.Try.My
