/- A helper text: contracts of functions of the program, and plain lemmas. -/
import Derived.Test.YtiimhccemdcnpaaMyTlq
set_option maxRecDepth 100000
set_option maxHeartbeats 0
set_option linter.unusedVariables false
set_option linter.unusedSimpArgs false
namespace Go.Proofs.Try.My
open Go Go.Ev

/-! ### Results of spans hold the results -/
theorem mulS_okk {a b : SpT} (h : (mulS a b).2 = 0) : spanB a = true ∧ spanB b = true ∧ spanB (mulS a b).1 = true := by
  unfold mulS at h ⊢
  cases ha : spanB a <;> cases hb : spanB b <;> rw [ha, hb] at h <;> simp at h
  exact ⟨rfl, rfl, (endsF_ok mulF_ok2 _ (allP_valid ha hb) (by simp [allP]) h).1⟩
theorem addS_okk {a b : SpT} (h : (addS a b).2 = 0) : spanB a = true ∧ spanB b = true ∧ spanB (addS a b).1 = true := by
  unfold addS at h ⊢
  cases ha : spanB a <;> cases hb : spanB b <;> rw [ha, hb] at h <;> simp at h
  obtain ⟨a1, a2, _⟩ := spanB_iff.1 ha
  obtain ⟨b1, b2, _⟩ := spanB_iff.1 hb
  exact ⟨rfl, rfl, (endsF_ok addF_ok2 _ (by simp [a1, a2, b1, b2]) (by simp) h).1⟩
theorem mid_ge0 {A B X Y L : Rat} (h1 : A ≤ X) (h2 : X ≤ B) (a : L ≤ A * Y) (b : L ≤ B * Y) : L ≤ X * Y := by
  by_cases hY : 0 ≤ Y
  · exact Rat.le_trans a (Rat.mul_le_mul_of_nonneg_right h1 hY)
  · have h := Rat.mul_le_mul_of_nonneg_right h2 (show 0 ≤ -Y by grind)
    grind
theorem mid_le0 {A B X Y L : Rat} (h1 : A ≤ X) (h2 : X ≤ B) (a : A * Y ≤ L) (b : B * Y ≤ L) : X * Y ≤ L := by
  by_cases hY : 0 ≤ Y
  · exact Rat.le_trans (Rat.mul_le_mul_of_nonneg_right h2 hY) b
  · have h := Rat.mul_le_mul_of_nonneg_right h1 (show 0 ≤ -Y by grind)
    grind
/-- Between four products. -/
theorem four_in {A B C D X Y L H : Rat} (x1 : A ≤ X) (x2 : X ≤ B) (y1 : C ≤ Y) (y2 : Y ≤ D) (k1 : L ≤ A * C ∧ A * C ≤ H) (k2 : L ≤ A * D ∧ A * D ≤ H) (k3 : L ≤ B * C ∧ B * C ≤ H) (k4 : L ≤ B * D ∧ B * D ≤ H) : L ≤ X * Y ∧ X * Y ≤ H := by
  have l1 : L ≤ Y * A := mid_ge0 y1 y2 (by grind) (by grind)
  have l2 : L ≤ Y * B := mid_ge0 y1 y2 (by grind) (by grind)
  have g1 : Y * A ≤ H := mid_le0 y1 y2 (by grind) (by grind)
  have g2 : Y * B ≤ H := mid_le0 y1 y2 (by grind) (by grind)
  exact ⟨mid_ge0 x1 x2 (by grind) (by grind), mid_le0 x1 x2 (by grind) (by grind)⟩
theorem addS_inR {a b : SpT} (h : (addS a b).2 = 0) {X Y : Rat} (hx : InR a X) (hy : InR b Y) : InR (addS a b).1 (X + Y) := by
  obtain ⟨ha, hb, _⟩ := addS_okk h
  have e : addS a b = endsF addF [(a.1, b.1), (a.2, b.2)] := by unfold addS; rw [ha, hb]; rfl
  rw [e] at h ⊢
  obtain ⟨a1, a2, _⟩ := spanB_iff.1 ha
  obtain ⟨b1, b2, _⟩ := spanB_iff.1 hb
  obtain ⟨_, h1, _, _⟩ := endsF_ok addF_ok2 _ (by simp [a1, a2, b1, b2]) (by simp) h
  have k1 := h1 (a.1, b.1) (by simp)
  have k2 := h1 (a.2, b.2) (by simp)
  simp only [] at k1 k2
  rw [((addF_fits a1 b1).ok k1.1).2] at k1
  rw [((addF_fits a2 b2).ok k2.1).2] at k2
  unfold InR at hx hy ⊢
  constructor <;> grind
theorem subS_inR {a b : SpT} (h : (subS a b).2 = 0) {X Y : Rat} (hx : InR a X) (hy : InR b Y) : InR (subS a b).1 (X - Y) := by
  obtain ⟨ha, hb, _⟩ := subS_ok h
  have e : subS a b = endsF subF [(a.1, b.2), (a.2, b.1)] := by unfold subS; rw [ha, hb]; rfl
  rw [e] at h ⊢
  obtain ⟨a1, a2, _⟩ := spanB_iff.1 ha
  obtain ⟨b1, b2, _⟩ := spanB_iff.1 hb
  obtain ⟨_, h1, _, _⟩ := endsF_ok subF_ok2 _ (by simp [a1, a2, b1, b2]) (by simp) h
  have k1 := h1 (a.1, b.2) (by simp)
  have k2 := h1 (a.2, b.1) (by simp)
  simp only [] at k1 k2
  rw [((subF_fits a1 b2).ok k1.1).2] at k1
  rw [((subF_fits a2 b1).ok k2.1).2] at k2
  unfold InR at hx hy ⊢
  constructor <;> grind
theorem mulS_inR {a b : SpT} (h : (mulS a b).2 = 0) {X Y : Rat} (hx : InR a X) (hy : InR b Y) : InR (mulS a b).1 (X * Y) := by
  obtain ⟨ha, hb, _⟩ := mulS_okk h
  have e : mulS a b = endsF mulF (allP a b) := by unfold mulS; rw [ha, hb]; rfl
  rw [e] at h ⊢
  obtain ⟨a1, a2, _⟩ := spanB_iff.1 ha
  obtain ⟨b1, b2, _⟩ := spanB_iff.1 hb
  obtain ⟨_, h1, _, _⟩ := endsF_ok mulF_ok2 _ (allP_valid ha hb) (by simp [allP]) h
  have k1 := h1 (a.1, b.1) (by simp [allP])
  have k2 := h1 (a.1, b.2) (by simp [allP])
  have k3 := h1 (a.2, b.1) (by simp [allP])
  have k4 := h1 (a.2, b.2) (by simp [allP])
  simp only [] at k1 k2 k3 k4
  rw [((mulF_fits a1 b1).ok k1.1).2] at k1
  rw [((mulF_fits a1 b2).ok k2.1).2] at k2
  rw [((mulF_fits a2 b1).ok k3.1).2] at k3
  rw [((mulF_fits a2 b2).ok k4.1).2] at k4
  exact four_in hx.1 hx.2 hy.1 hy.2 k1.2 k2.2 k3.2 k4.2
theorem hasB_qv2 {s : SpT} {x : Int × Int} (h1 : validB s.1 = true) (h2 : validB s.2 = true) (hx : validB x = true) : hasB s x = true ↔ InR s (qv x) := by
  unfold hasB InR
  rw [Bool.and_eq_true, decide_eq_true_eq, decide_eq_true_eq, cmpF_le h1 hx, cmpF_le hx h2]
theorem inv_mono {a b : Rat} (h : a ≤ b) (hs : 0 < a ∨ b < 0) : b⁻¹ ≤ a⁻¹ := by
  have key : ∀ a b : Rat, 0 < a → a ≤ b → b⁻¹ ≤ a⁻¹ := fun a b ha h => by
    have hb : 0 < b := by grind
    have e1 : a * a⁻¹ = 1 := Rat.mul_inv_cancel a (by grind)
    have e2 : b * b⁻¹ = 1 := Rat.mul_inv_cancel b (by grind)
    have f1 : b⁻¹ * (a * b) = a * (b * b⁻¹) := by grind
    have f2 : a⁻¹ * (a * b) = b * (a * a⁻¹) := by grind
    refine rat_le_of_mul (Rat.mul_pos ha hb) ?_
    rw [f1, f2, e1, e2, Rat.mul_one, Rat.mul_one]
    exact h
  rcases hs with ha | hb
  · exact key a b ha h
  · have := key (-b) (-a) (by grind) (by grind)
    have e1 : (-b)⁻¹ = -b⁻¹ := by grind
    have e2 : (-a)⁻¹ = -a⁻¹ := by grind
    rw [e1, e2] at this
    grind
theorem divS_inR {a b : SpT} (h : (divS a b).2 = 0) {X Y : Rat} (hx : InR a X) (hy : InR b Y) : Y ≠ 0 ∧ InR (divS a b).1 (X / Y) := by
  obtain ⟨ha, hb, hz, _⟩ := divS_ok h
  have e : divS a b = endsF quoF (allP a b) := by unfold divS; rw [ha, hb, hz]; rfl
  rw [e] at h ⊢
  obtain ⟨a1, a2, _⟩ := spanB_iff.1 ha
  obtain ⟨b1, b2, b3⟩ := spanB_qv.1 hb
  have v0 : validB (0, 1) = true := by decide
  have nz : ¬ InR b 0 := fun k => by
    have := (hasB_qv2 b1 b2 v0).2 (by rw [qv_zero]; exact k)
    rw [hz] at this; cases this
  have sg : 0 < qv b.1 ∨ qv b.2 < 0 := by
    by_cases k : 0 < qv b.1
    · exact .inl k
    · right
      by_cases j : qv b.2 < 0
      · exact j
      · exact absurd ⟨by grind, by grind⟩ nz
  have n1 : b.1.1 ≠ 0 := fun k => by have := (qv_sign b1).2.2.2 k; grind
  have n2 : b.2.1 ≠ 0 := fun k => by have := (qv_sign b2).2.2.2 k; grind
  obtain ⟨_, h1, _, _⟩ := endsF_ok quoF_ok2 _ (allP_valid ha hb) (by simp [allP]) h
  have k1 := h1 (a.1, b.1) (by simp [allP])
  have k2 := h1 (a.1, b.2) (by simp [allP])
  have k3 := h1 (a.2, b.1) (by simp [allP])
  have k4 := h1 (a.2, b.2) (by simp [allP])
  simp only [] at k1 k2 k3 k4
  rw [((quoF_fits a1 b1 n1).ok k1.1).2] at k1
  rw [((quoF_fits a1 b2 n2).ok k2.1).2] at k2
  rw [((quoF_fits a2 b1 n1).ok k3.1).2] at k3
  rw [((quoF_fits a2 b2 n2).ok k4.1).2] at k4
  unfold InR at hx hy ⊢
  have i1 := inv_mono (a := qv b.1) (b := Y) hy.1 (by rcases sg with s | s; exact .inl s; right; grind)
  have i2 := inv_mono (a := Y) (b := qv b.2) hy.2 (by rcases sg with s | s; left; grind; exact .inr s)
  refine ⟨by grind, ?_⟩
  simp only [Rat.div_def] at k1 k2 k3 k4 ⊢
  exact four_in hx.1 hx.2 i2 i1 k2.2 k1.2 k4.2 k3.2
/-! Spans of one number -/
theorem lesF_self (a : Int × Int) : lesF a a = a := by unfold lesF; split <;> rfl
theorem greF_self (a : Int × Int) : greF a a = a := by unfold greF; split <;> rfl
theorem ends_pt2 (op : Int × Int → Int × Int → (Int × Int) × Int) (x y : Int × Int) : endsF op [(x, y), (x, y)] = if (op x y).2 = 0 then (((op x y).1, (op x y).1), 0) else (zS, (op x y).2) := by
  simp only [endsF, endsG, lesF_self, greF_self]
  by_cases h : (op x y).2 = 0 <;> simp [h]
theorem ends_pt4 (op : Int × Int → Int × Int → (Int × Int) × Int) (x y : Int × Int) : endsF op [(x, y), (x, y), (x, y), (x, y)] = if (op x y).2 = 0 then (((op x y).1, (op x y).1), 0) else (zS, (op x y).2) := by
  simp only [endsF, endsG, lesF_self, greF_self]
  by_cases h : (op x y).2 = 0 <;> simp [h]
theorem span_pt {x : Int × Int} (hx : validB x = true) : spanB (x, x) = true := spanB_qv.2 ⟨hx, hx, Rat.le_refl⟩
/-- One number as a result, or a number that does not fit. -/
def PtR (r : SpT × Int) (X : Rat) : Prop := (∃ w, validB w = true ∧ qv w = X ∧ r = ((w, w), 0)) ∨ r.2 = 4
theorem pt_of {op : (Int × Int) × Int} {X : Rat} (h : Fits X op) : PtR (if op.2 = 0 then ((op.1, op.1), 0) else (zS, op.2)) X := by
  by_cases h0 : op.2 = 0
  · rw [if_pos h0]
    obtain ⟨v, q⟩ := h.ok h0
    exact .inl ⟨_, v, q, rfl⟩
  · rw [if_neg h0]
    right
    rw [h.bad h0]
theorem addS_pt {x y : Int × Int} (hx : validB x = true) (hy : validB y = true) : PtR (addS (x, x) (y, y)) (qv x + qv y) := by
  unfold addS
  rw [span_pt hx, span_pt hy]
  simp only [Bool.and_self, if_true]
  rw [ends_pt2]
  exact pt_of (addF_fits hx hy)
theorem subS_pt {x y : Int × Int} (hx : validB x = true) (hy : validB y = true) : PtR (subS (x, x) (y, y)) (qv x - qv y) := by
  unfold subS
  rw [span_pt hx, span_pt hy]
  simp only [Bool.and_self, if_true]
  rw [ends_pt2]
  exact pt_of (subF_fits hx hy)
theorem mulS_pt {x y : Int × Int} (hx : validB x = true) (hy : validB y = true) : PtR (mulS (x, x) (y, y)) (qv x * qv y) := by
  unfold mulS
  rw [span_pt hx, span_pt hy]
  simp only [Bool.and_self, if_true, allP]
  rw [ends_pt4]
  exact pt_of (mulF_fits hx hy)
theorem divS_pt {x y : Int × Int} (hx : validB x = true) (hy : validB y = true) (h0 : qv y ≠ 0) : PtR (divS (x, x) (y, y)) (qv x / qv y) := by
  unfold divS
  have v0 : validB (0, 1) = true := by decide
  have hz : hasB (y, y) (0, 1) = false := by
    rw [← Bool.not_eq_true]
    intro k
    have := (hasB_qv2 (s := (y, y)) hy hy v0).1 k
    rw [qv_zero] at this
    obtain ⟨k1, k2⟩ := this
    simp only [] at k1 k2
    exact h0 (Rat.le_antisymm k1 k2)
  rw [span_pt hx, span_pt hy, hz]
  simp only [Bool.and_self, if_true, Bool.false_eq_true, if_false, allP]
  rw [ends_pt4]
  exact pt_of (quoF_fits hx hy fun k => h0 ((qv_sign hy).2.2.2 k))
theorem ins_pt {w : Int × Int} {s : SpT} (hw : validB w = true) (hs : spanB s = true) (h : InR s (qv w)) : insB (w, w) s = true := insB_true (span_pt hw) hs h.1 h.2
/-! Depths -/
theorem tan_pt {f c u : Int × Int} (hf : validB f = true) (hc : validB c = true) (hu : validB u = true) (h0 : 0 < qv f) : PtR (tanF ((f, f), (c, c)) (u, u)) ((qv u - qv c) / qv f) := by
  unfold tanF
  have hn : 0 < f.1 := (qv_sign hf).1.1 h0
  simp only [span_pt hf, span_pt hc, Bool.and_self, Bool.true_and, decide_eq_true_eq, hn, if_true]
  rcases subS_pt hu hc with ⟨w, v, q, e⟩ | e
  · rw [e, if_pos rfl, ← q]
    exact divS_pt v hf (by grind)
  · rw [if_neg (by rw [e]; decide)]
    exact .inr e
theorem tan_inR {c : CamT} {u : SpT} (h : (tanF c u).2 = 0) {F C U : Rat} (hf : InR c.1 F) (hc : InR c.2 C) (hu : InR u U) : 0 < F ∧ InR (tanF c u).1 ((U - C) / F) := by
  unfold tanF at h ⊢
  split at h
  · rename_i h1
    rw [if_pos h1]
    simp only [Bool.and_eq_true, decide_eq_true_eq] at h1
    split at h
    · rename_i h2
      rw [if_pos h2]
      have := (qv_sign (spanB_qv.1 h1.1.1).1).1.2 h1.2
      exact ⟨by have := hf.1; grind, (divS_inR h (subS_inR h2 hu hc) hf).2⟩
    · rename_i h2; exact absurd h h2
  · simp at h
theorem tan_known {c : CamT} {u : SpT} (h : (tanF c u).2 = 0) : spanB c.1 = true ∧ spanB c.2 = true ∧ spanB u = true := by
  unfold tanF at h
  split at h
  · rename_i h1
    simp only [Bool.and_eq_true, decide_eq_true_eq] at h1
    split at h
    · rename_i h2
      exact ⟨h1.1.1, h1.1.2, (subS_ok h2).1⟩
    · rename_i h2; exact absurd h h2
  · simp at h
theorem dep_known {a b : CamT} {base : Int} {u v : SpT} (h : (depF a b base u v).2 = 0) : (1 ≤ base ∧ base ≤ 1000) ∧ (tanF a u).2 = 0 ∧ (tanF b v).2 = 0 ∧ (subS (tanF a u).1 (tanF b v).1).2 = 0 ∧ ¬ (subS (tanF a u).1 (tanF b v).1).1.1.1 ≤ 0 ∧
    depF a b base u v = divS ((base, 1), (base, 1)) (subS (tanF a u).1 (tanF b v).1).1 := by
  unfold depF at h ⊢
  split at h
  rotate_left
  · simp at h
  rename_i h1
  split at h
  rotate_left
  · rename_i k; exact absurd h k
  rename_i h2
  split at h
  rotate_left
  · rename_i k; exact absurd h k
  rename_i h3
  unfold depG at h ⊢
  split at h
  rotate_left
  · rename_i k; exact absurd h k
  rename_i h4
  split at h
  · simp at h
  rename_i h5
  rw [if_pos h1, if_pos h2, if_pos h3, if_pos h4, if_neg h5]
  exact ⟨h1, h2, h3, h4, h5, rfl⟩
/-- Depths of places and cameras within the spans. -/
theorem dep_law {a b : CamT} {base : Int} {u v : SpT} (h : (depF a b base u v).2 = 0) {fa ca fb cb pu pv : Int × Int} (v1 : validB fa = true) (v2 : validB ca = true) (v3 : validB fb = true) (v4 : validB cb = true) (v5 : validB pu = true) (v6 : validB pv = true)
    (i1 : InR a.1 (qv fa)) (i2 : InR a.2 (qv ca)) (i3 : InR b.1 (qv fb)) (i4 : InR b.2 (qv cb)) (i5 : InR u (qv pu)) (i6 : InR v (qv pv)) :
    (depF ((fa, fa), (ca, ca)) ((fb, fb), (cb, cb)) base (pu, pu) (pv, pv)).2 = 4 ∨ ∃ w, depF ((fa, fa), (ca, ca)) ((fb, fb), (cb, cb)) base (pu, pu) (pv, pv) = ((w, w), 0) ∧ insB (w, w) (depF a b base u v).1 = true := by
  obtain ⟨hb, t1, t2, s0, d0, e⟩ := dep_known h
  obtain ⟨g1, x1⟩ := tan_inR t1 i1 i2 i5
  obtain ⟨g2, x2⟩ := tan_inR t2 i3 i4 i6
  have x3 := subS_inR s0 x1 x2
  obtain ⟨sv1, sv2, sv3⟩ := spanB_qv.1 (subS_ok s0).2.2
  have pos : 0 < qv (subS (tanF a u).1 (tanF b v).1).1.1 := (qv_sign sv1).1.2 (by omega)
  have vb : validB (base, 1) = true := by
    rw [validB_iff]
    simp only []
    refine ⟨by omega, by omega, by omega, by omega, ?_⟩
    show Nat.gcd base.natAbs 1 = 1
    simp
  rw [e] at h ⊢
  clear e
  unfold depF
  rw [if_pos hb]
  rcases tan_pt v1 v2 v5 g1 with ⟨w1, a1, b1, e1⟩ | k
  rotate_left
  · left; rw [if_neg (by rw [k]; decide)]; exact k
  rcases tan_pt v3 v4 v6 g2 with ⟨w2, a2, b2, e2⟩ | k
  rotate_left
  · left; rw [e1, if_pos rfl, if_neg (by rw [k]; decide)]; exact k
  rw [e1, e2, if_pos rfl, if_pos rfl]
  unfold depG
  rw [← b1, ← b2] at x3
  rcases subS_pt a1 a2 with ⟨w3, a3, b3, e3⟩ | k
  rotate_left
  · left; rw [if_neg (by rw [k]; decide)]; exact k
  rw [e3, if_pos rfl]
  rw [← b3] at x3
  have p3 : 0 < qv w3 := by have := x3.1; grind
  have n3 : ¬ w3.1 ≤ 0 := by have := (qv_sign a3).1.1 p3; omega
  simp only [] at *
  rw [if_neg n3]
  rcases divS_pt vb a3 (by grind) with ⟨w4, a4, b4, e4⟩ | k
  rotate_left
  · exact .inl k
  right
  refine ⟨w4, e4, ?_⟩
  refine ins_pt a4 (divS_ok h).2.2.2 ?_
  rw [b4]
  exact (divS_inR h ⟨Rat.le_refl, Rat.le_refl⟩ x3).2
end Go.Proofs.Try.My
