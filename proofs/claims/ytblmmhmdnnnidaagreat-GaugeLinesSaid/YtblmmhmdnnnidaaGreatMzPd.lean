/- A helper text: contracts of functions of the program, and plain lemmas. -/
import Derived.Test.YtblmmhmdnnnidaaGreatMzPc
import Derived.Test.YtblmmhmdnnnidaaGreatMzSi
set_option maxRecDepth 100000
set_option maxHeartbeats 0
set_option linter.unusedVariables false
set_option linter.unusedSimpArgs false
namespace Go.Proofs.Tryz.My
open Go Go.Ev

/-! ### Spans of corners -/
theorem makeF_smallI {n d : Int} (h1 : -4611686018427387903 ≤ n) (h2 : n ≤ 4611686018427387903) (h3 : 0 < d) (h4 : d ≤ 4611686018427387903) : validB (makeF n d).1 = true ∧ qv (makeF n d).1 = (n : Rat) / (d : Rat) := by
  obtain ⟨a, _, b⟩ := makeF_small h1 h2 h3 h4
  exact ⟨a, b⟩
/-- A pair whose parts are not great. -/
def okP (p : PrT) : Prop := (-17179869184 ≤ p.1.1 ∧ p.1.1 ≤ 17179869184) ∧ (-17179869184 ≤ p.1.2 ∧ p.1.2 ≤ 17179869184) ∧ -17179869184 ≤ p.2 ∧ p.2 ≤ 17179869184
theorem metP_ok {v w : SpT} {a b : Int} (hv : viewB v = true) (hw : viewB w = true) (ha : -4096 ≤ a ∧ a ≤ 4096) (hb : -4096 ≤ b ∧ b ≤ 4096) : okP (metP v w a b) ∧ (-2000000 ≤ slopeP v w ∧ slopeP v w ≤ 2000000) ∧ (-8192000 ≤ (a - b) * v.1.2 ∧ (a - b) * v.1.2 ≤ 8192000) ∧ (-8192000000 ≤ (a - b) * v.1.2 * w.1.2 ∧ (a - b) * v.1.2 * w.1.2 ≤ 8192000000) ∧
    (-8192000000 ≤ a * slopeP v w ∧ a * slopeP v w ≤ 8192000000) ∧ (-8192000 ≤ (a - b) * w.1.2 ∧ (a - b) * w.1.2 ≤ 8192000) ∧ (-8192000000 ≤ (a - b) * w.1.2 * v.1.1 ∧ (a - b) * w.1.2 * v.1.1 ≤ 8192000000) := by
  have vi := (viewB_iff v).1 hv
  have vj := (viewB_iff w).1 hw
  have m1 := mul_pm (a := v.1.1) (b := w.1.2) (A := 1000) (B := 1000) (by omega) (by omega) (by omega) (by omega)
  have m2 := mul_pm (a := w.1.1) (b := v.1.2) (A := 1000) (B := 1000) (by omega) (by omega) (by omega) (by omega)
  have s : -2000000 ≤ slopeP v w ∧ slopeP v w ≤ 2000000 := by unfold slopeP; omega
  have m3 := mul_pm (a := a - b) (b := v.1.2) (A := 8192) (B := 1000) (by omega) (by omega) (by omega) (by omega)
  have m4 := mul_pm (a := (a - b) * v.1.2) (b := w.1.2) (A := 8192000) (B := 1000) (by omega) (by omega) (by omega) (by omega)
  have m5 := mul_pm (a := a) (b := slopeP v w) (A := 4096) (B := 2000000) (by omega) (by omega) (by omega) (by omega)
  have m6 := mul_pm (a := a - b) (b := w.1.2) (A := 8192) (B := 1000) (by omega) (by omega) (by omega) (by omega)
  have m7 := mul_pm (a := (a - b) * w.1.2) (b := v.1.1) (A := 8192000) (B := 1000) (by omega) (by omega) (by omega) (by omega)
  refine ⟨?_, s, by omega, by omega, by omega, by omega, by omega⟩
  unfold metP okP
  split <;> simp only [] <;> omega
theorem corL_okP {l : List SpT} (hl : ∀ v ∈ l, viewB v = true) {p : PrT} (h : p ∈ corL l) : okP p := by
  obtain ⟨i, hi, k, hk, h⟩ := corL_mem.1 h
  obtain ⟨_, h2, _⟩ := corO_mem.1 h
  have gv : viewB (l.getD i z4) = true := hl _ (by simp only [List.getD, List.getElem?_eq_getElem hi, Option.getD_some]; exact List.getElem_mem hi)
  have gw : viewB (l.getD k z4) = true := hl _ (by simp only [List.getD, List.getElem?_eq_getElem (show k < l.length by omega), Option.getD_some]; exact List.getElem_mem _)
  have vi := (viewB_iff _).1 gv
  have vj := (viewB_iff _).1 gw
  unfold fourP at h2
  simp only [List.mem_cons, List.not_mem_nil, or_false] at h2
  rcases h2 with rfl | rfl | rfl | rfl <;> exact (metP_ok gv gw (by omega) (by omega)).1
def valP (x y z : Int) (p : PrT) : Int × Int := (makeF (p.1.1 * x + p.1.2 * y) (p.2 * z)).1
theorem valP_ok {x y z : Int} {p : PrT} (hp : okP p) (h0 : 0 < p.2) (hx : -1000 ≤ x ∧ x ≤ 1000) (hy : -1000 ≤ y ∧ y ≤ 1000) (hz : 1 ≤ z ∧ z ≤ 1000) :
    validB (valP x y z p) = true ∧ qv (valP x y z p) = (pFo p * (x : Rat) + pCe p * (y : Rat)) / (z : Rat) ∧ (-17179869184000 ≤ p.1.1 * x ∧ p.1.1 * x ≤ 17179869184000) ∧ (-17179869184000 ≤ p.1.2 * y ∧ p.1.2 * y ≤ 17179869184000) ∧ (0 < p.2 * z ∧ p.2 * z ≤ 17179869184000) := by
  obtain ⟨p1, p2, p3⟩ := hp
  have m1 := mul_pm (a := p.1.1) (b := x) (A := 17179869184) (B := 1000) (by omega) (by omega) (by omega) (by omega)
  have m2 := mul_pm (a := p.1.2) (b := y) (A := 17179869184) (B := 1000) (by omega) (by omega) (by omega) (by omega)
  have m3 := mul_pm (a := p.2) (b := z) (A := 17179869184) (B := 1000) (by omega) (by omega) (by omega) (by omega)
  have m4 : 0 < p.2 * z := Int.mul_pos h0 (by omega)
  obtain ⟨v, q⟩ := makeF_smallI (n := p.1.1 * x + p.1.2 * y) (d := p.2 * z) (by omega) (by omega) m4 (by omega)
  refine ⟨v, ?_, by omega, by omega, by omega⟩
  unfold valP
  rw [q]
  have z1 := cast_pos h0
  have z2 := cast_pos (show 0 < z by omega)
  unfold pFo pCe
  simp only [Rat.intCast_add, Rat.intCast_mul]
  generalize (p.1.1 : Rat) = N at *
  generalize (p.1.2 : Rat) = M at *
  generalize (p.2 : Rat) = D at *
  generalize (x : Rat) = x at *
  generalize (y : Rat) = y at *
  generalize (z : Rat) = z at *
  have n1 : D ≠ 0 := by grind
  have n2 : z ≠ 0 := by grind
  grind
def stepS (s : Option SpT) (a : Int × Int) : Option SpT := some (match s with
  | none => (a, a)
  | some s => (lesF s.1 a, greF s.2 a))
def spnO (f : PrT → Int × Int) (l : List PrT) : Option SpT := l.foldl (fun s p => stepS s (f p)) none
def spnS (f : PrT → Int × Int) (l : List PrT) : SpT := (spnO f l).getD z4
theorem spnO_step (f : PrT → Int × Int) (l : List PrT) {k : Nat} (hk : k < l.length) : spnO f (l.take (k + 1)) = stepS (spnO f (l.take k)) (f (l.getD k z3)) := by
  unfold spnO
  rw [List.take_succ_eq_append_getElem hk, List.foldl_append]
  simp [List.getD, List.getElem?_eq_getElem hk]
def SpnG (f : PrT → Int × Int) (p : List PrT) : Option SpT → Prop
  | none => p = []
  | some s => spanB s = true ∧ (∀ x ∈ p, qv s.1 ≤ qv (f x) ∧ qv (f x) ≤ qv s.2) ∧ (∃ x ∈ p, f x = s.1) ∧ (∃ x ∈ p, f x = s.2)
theorem stepS_good {f : PrT → Int × Int} {p : List PrT} {s : Option SpT} {x : PrT} (h : SpnG f p s) (hx : validB (f x) = true) : SpnG f (p ++ [x]) (stepS s (f x)) := by
  have mx : x ∈ p ++ [x] := List.mem_append_right _ (List.mem_singleton.2 rfl)
  cases s with
  | none =>
    have h : p = [] := h
    subst h
    show spanB (f x, f x) = true ∧ _
    refine ⟨span_pt hx, fun y hy => ?_, ⟨x, mx, rfl⟩, ⟨x, mx, rfl⟩⟩
    rw [List.mem_singleton.1 hy]
    exact ⟨Rat.le_refl, Rat.le_refl⟩
  | some s =>
    obtain ⟨h1, h2, ⟨a, a1, a2⟩, ⟨b, b1, b2⟩⟩ := h
    obtain ⟨s1, s2, s3⟩ := spanB_qv.1 h1
    obtain ⟨l1, l2, l3⟩ := lesF_qv s1 hx
    obtain ⟨g1, g2, g3⟩ := greF_qv s2 hx
    show spanB (lesF s.1 (f x), greF s.2 (f x)) = true ∧ _
    refine ⟨spanB_qv.2 ⟨lesF_valid s1 hx, greF_valid s2 hx, by simp only []; grind⟩, fun y hy => ?_, ?_, ?_⟩
    · simp only []
      rcases List.mem_append.1 hy with k | k
      · have := h2 y k; grind
      · rw [List.mem_singleton.1 k]; exact ⟨l2, g2⟩
    · rcases l3 with e | e
      · exact ⟨a, List.mem_append_left _ a1, by simp only [e, a2]⟩
      · exact ⟨x, mx, e.symm⟩
    · rcases g3 with e | e
      · exact ⟨b, List.mem_append_left _ b1, by simp only [e, b2]⟩
      · exact ⟨x, mx, e.symm⟩
theorem spnO_good0 {f : PrT → Int × Int} : ∀ (l p : List PrT) (s : Option SpT), (∀ x ∈ l, validB (f x) = true) → SpnG f p s → SpnG f (p ++ l) (l.foldl (fun s p => stepS s (f p)) s)
  | [], p, s, _, h => by simpa using h
  | x :: l, p, s, hl, h => by
    have k := spnO_good0 l (p ++ [x]) (stepS s (f x)) (fun y hy => hl y (List.mem_cons_of_mem _ hy)) (stepS_good h (hl x (List.mem_cons_self ..)))
    simpa using k
theorem spnO_good {f : PrT → Int × Int} {l : List PrT} (hl : ∀ x ∈ l, validB (f x) = true) : SpnG f l (spnO f l) := by
  have := spnO_good0 l [] none hl rfl
  simpa [spnO] using this
theorem spn_eq {f : PrT → Int × Int} {l : List PrT} {S : SpT} (hl : ∀ x ∈ l, validB (f x) = true) (hS : spanB S = true) (hin : ∀ x ∈ l, InR S (qv (f x))) (h1 : ∃ x ∈ l, qv (f x) = qv S.1) (h2 : ∃ x ∈ l, qv (f x) = qv S.2) : spnS f l = S := by
  have g := spnO_good hl
  unfold spnS
  generalize spnO f l = o at *
  cases o with
  | none =>
    have g : l = [] := g
    subst g
    obtain ⟨x, hx, _⟩ := h1
    cases hx
  | some s =>
    obtain ⟨g1, g2, ⟨a, a1, a2⟩, ⟨b, b1, b2⟩⟩ := g
    obtain ⟨s1, s2, _⟩ := spanB_qv.1 g1
    obtain ⟨S1, S2, _⟩ := spanB_qv.1 hS
    obtain ⟨x, x1, x2⟩ := h1
    obtain ⟨y, y1, y2⟩ := h2
    have e1 := (g2 x x1).1
    have e2 := (g2 y y1).2
    have e3 := (hin a a1).1
    have e4 := (hin b b1).2
    rw [a2] at e3
    rw [b2] at e4
    rw [x2] at e1
    rw [y2] at e2
    show s = S
    exact Prod.ext ((qv_eq s1 S1).1 (Rat.le_antisymm e1 e3)) ((qv_eq s2 S2).1 (Rat.le_antisymm e4 e2))
/-- The camera of the corners is the camera. -/
theorem cor_cam {l : List SpT} (hv : ∀ v ∈ l, viewB v = true) {f0 c0 : Rat} (h0 : Feas l f0 c0) (ha : ¬ AlikeP l) :
    spnS (valP 1 0 1) (corL l) = (narF (focL l)).1 ∧ ∀ x z, -1000 ≤ x ∧ x ≤ 1000 → 1 ≤ z ∧ z ≤ 1000 → spnS (valP x z z) (corL l) = (narF (seeL l x z)).1 := by
  have e1 : ((1 : Int) : Rat) = 1 := rfl
  have e0 : ((0 : Int) : Rat) = 0 := rfl
  constructor
  · obtain ⟨w, sb, hin⟩ := foc_span hv h0 ha
    obtain ⟨_, _, _, kin, ⟨x, x1, x2, x3⟩, ⟨y, y1, y2, y3⟩⟩ := (narF_good (focL_ok hv)).span w
    obtain ⟨_, _, s3⟩ := spanB_qv.1 sb
    have val : ∀ p ∈ corL l, validB (valP 1 0 1 p) = true ∧ qv (valP 1 0 1 p) = pFo p := fun p hp => by
      obtain ⟨a, b, _⟩ := valP_ok (x := 1) (y := 0) (z := 1) (corL_okP hv hp) (corL_ok hp).1 (by omega) (by omega) (by omega)
      refine ⟨a, ?_⟩
      rw [b, e1, e0]
      grind
    refine spn_eq (fun p hp => (val p hp).1) sb (fun p hp => ?_) ?_ ?_
    · rw [(val p hp).2]
      exact (hin _).2 ⟨_, (corL_ok hp).2⟩
    · obtain ⟨c, hc⟩ := (hin (qv (narF (focL l)).1.1)).1 ⟨Rat.le_refl, s3⟩
      obtain ⟨p, hp, k, _⟩ := cor_foc hv x1 (by omega) hc x3
      exact ⟨p, hp, by rw [(val p hp).2, k]⟩
    · obtain ⟨c, hc⟩ := (hin (qv (narF (focL l)).1.2)).1 ⟨s3, Rat.le_refl⟩
      obtain ⟨p, hp, k, _⟩ := cor_foc hv y1 (by omega) hc y3
      exact ⟨p, hp, by rw [(val p hp).2, k]⟩
  · intro x z hx hz
    obtain ⟨w, sb, hin⟩ := see_span (x := x) (z := z) hv hx hz h0 ha
    obtain ⟨_, _, _, kin, ⟨a, a1, a2, a3⟩, ⟨b, b1, b2, b3⟩⟩ := (narF_good (seeL_ok hx hz hv)).span w
    obtain ⟨_, _, s3⟩ := spanB_qv.1 sb
    have z1 := cast_pos (show 0 < z by omega)
    have val : ∀ p ∈ corL l, validB (valP x z z p) = true ∧ qv (valP x z z p) * (z : Rat) = pFo p * (x : Rat) + pCe p * (z : Rat) := fun p hp => by
      obtain ⟨a, b, _⟩ := valP_ok (x := x) (y := z) (z := z) (corL_okP hv hp) (corL_ok hp).1 hx (by omega) hz
      refine ⟨a, ?_⟩
      rw [b]
      exact Rat.div_mul_cancel (by grind)
    have nz : (z : Rat) ≠ 0 := by grind
    refine spn_eq (fun p hp => (val p hp).1) sb (fun p hp => ?_) ?_ ?_
    · refine (hin _).2 ⟨pFo p, pCe p, ?_, (corL_ok hp).2⟩
      rw [(val p hp).2]
      grind
    · obtain ⟨p, hp, k⟩ := cor_see hv ha (by omega) a1 (by omega) ((kin _).2 ⟨Rat.le_refl, s3⟩) a3
      refine ⟨p, hp, rat_eq_of_mul nz ?_⟩
      rw [(val p hp).2, k]
      grind
    · obtain ⟨p, hp, k⟩ := cor_see hv ha (by omega) b1 (by omega) ((kin _).2 ⟨s3, Rat.le_refl⟩) b3
      refine ⟨p, hp, rat_eq_of_mul nz ?_⟩
      rw [(val p hp).2, k]
      grind
theorem cor_some {l : List SpT} (hv : ∀ v ∈ l, viewB v = true) (ha : ¬ AlikeP l) : (0 < (corL l).length) ↔ ∃ f c, Feas l f c := by
  constructor
  · intro h
    obtain ⟨p, hp⟩ : ∃ p, p ∈ corL l := by
      cases e : corL l with
      | nil => rw [e] at h; simp at h
      | cons a m => exact ⟨a, List.mem_cons_self ..⟩
    exact ⟨_, _, (corL_ok hp).2⟩
  · rintro ⟨f, c, hf⟩
    obtain ⟨w, sb, hin⟩ := foc_span hv hf ha
    obtain ⟨_, _, _, kin, ⟨x, x1, x2, x3⟩, _⟩ := (narF_good (focL_ok hv)).span w
    obtain ⟨_, _, s3⟩ := spanB_qv.1 sb
    obtain ⟨c, hc⟩ := (hin (qv (narF (focL l)).1.1)).1 ⟨Rat.le_refl, s3⟩
    obtain ⟨p, hp, _⟩ := cor_foc hv x1 (by omega) hc x3
    exact List.length_pos_of_mem hp
end Go.Proofs.Tryz.My
