/- A helper text: contracts of functions of the program, and plain lemmas. -/
import Derived.Test.YtblmmhmdnnnidaaGreatMzRcA
import Derived.Test.YtblmmhmdnnnidaaGreatMzPvA
set_option maxRecDepth 100000
set_option maxHeartbeats 0
set_option linter.unusedVariables false
set_option linter.unusedSimpArgs false
namespace Go.Proofs.Tryz.My
open Go Go.Ev

/-! ### Agreement by the corners -/
theorem fold_hi : ∀ (l : List SpT) (m : Int), (∀ v ∈ l, v.2.1 ≤ l.foldl (fun m v => max m v.2.1) m) ∧ m ≤ l.foldl (fun m v => max m v.2.1) m ∧ (l.foldl (fun m v => max m v.2.1) m = m ∨ ∃ v ∈ l, l.foldl (fun m v => max m v.2.1) m = v.2.1)
  | [], m => ⟨fun v hv => (by cases hv), Int.le_refl _, .inl rfl⟩
  | a :: l, m => by
    obtain ⟨h1, h2, h3⟩ := fold_hi l (max m a.2.1)
    simp only [List.foldl_cons]
    refine ⟨fun v hv => ?_, by omega, ?_⟩
    · rcases List.mem_cons.1 hv with rfl | hv
      · omega
      · exact h1 v hv
    · rcases h3 with h3 | ⟨v, v1, v2⟩
      · rw [h3]
        by_cases e : m ≤ a.2.1
        · right; exact ⟨a, List.mem_cons_self .., by omega⟩
        · left; omega
      · right; exact ⟨v, List.mem_cons_of_mem _ v1, v2⟩
theorem fold_lo : ∀ (l : List SpT) (m : Int), (∀ v ∈ l, l.foldl (fun m v => min m v.2.2) m ≤ v.2.2) ∧ l.foldl (fun m v => min m v.2.2) m ≤ m ∧ (l.foldl (fun m v => min m v.2.2) m = m ∨ ∃ v ∈ l, l.foldl (fun m v => min m v.2.2) m = v.2.2)
  | [], m => ⟨fun v hv => (by cases hv), Int.le_refl _, .inl rfl⟩
  | a :: l, m => by
    obtain ⟨h1, h2, h3⟩ := fold_lo l (min m a.2.2)
    simp only [List.foldl_cons]
    refine ⟨fun v hv => ?_, by omega, ?_⟩
    · rcases List.mem_cons.1 hv with rfl | hv
      · omega
      · exact h1 v hv
    · rcases h3 with h3 | ⟨v, v1, v2⟩
      · rw [h3]
        by_cases e : a.2.2 ≤ m
        · right; exact ⟨a, List.mem_cons_self .., by omega⟩
        · left; omega
      · right; exact ⟨v, List.mem_cons_of_mem _ v1, v2⟩
def loF (l : List SpT) : Int := l.foldl (fun m v => max m v.2.1) (-4096)
def hiF (l : List SpT) : Int := l.foldl (fun m v => min m v.2.2) 4096
theorem loF_step (l : List SpT) {k : Nat} (hk : k < l.length) : loF (l.take (k + 1)) = max (loF (l.take k)) (l.getD k z4).2.1 := by
  unfold loF
  rw [List.take_succ_eq_append_getElem hk, List.foldl_append]
  simp [List.getD, List.getElem?_eq_getElem hk]
theorem hiF_step (l : List SpT) {k : Nat} (hk : k < l.length) : hiF (l.take (k + 1)) = min (hiF (l.take k)) (l.getD k z4).2.2 := by
  unfold hiF
  rw [List.take_succ_eq_append_getElem hk, List.foldl_append]
  simp [List.getD, List.getElem?_eq_getElem hk]
theorem alike_agr {l : List SpT} (hv : ∀ v ∈ l, viewB v = true) (ha : AlikeP l) : agrF l = decide (loF l ≤ hiF l) := by
  rw [Bool.eq_iff_iff, decide_eq_true_eq, agr_iff hv]
  obtain ⟨a1, a2, a3⟩ := fold_hi l (-4096)
  obtain ⟨b1, b2, b3⟩ := fold_lo l 4096
  constructor
  · rintro ⟨f, c, h⟩
    have key : ∀ v ∈ l, ∀ w ∈ l, v.2.1 ≤ w.2.2 := fun v v1 w w1 => by
      have k1 := (h v v1).1
      have k2 := (h w w1).2
      have zv := zpos (hv v v1)
      have zw := zpos (hv w w1)
      have e := congrArg (Int.cast : Int → Rat) (ha v v1 w w1)
      simp only [Rat.intCast_mul] at e
      have k3 := Rat.mul_le_mul_of_nonneg_right k1 (Rat.le_of_lt zw)
      have k4 := Rat.mul_le_mul_of_nonneg_right k2 (Rat.le_of_lt zv)
      have : (v.2.1 : Rat) * ((v.1.2 : Rat) * (w.1.2 : Rat)) ≤ (w.2.2 : Rat) * ((v.1.2 : Rat) * (w.1.2 : Rat)) := by
        have e2 : f * ((v.1.1 : Rat) * (w.1.2 : Rat)) = f * ((w.1.1 : Rat) * (v.1.2 : Rat)) := by rw [e]
        grind
      exact Rat.intCast_le_intCast.1 (rat_le_of_mul (Rat.mul_pos zv zw) this)
    unfold loF hiF
    rcases a3 with e | ⟨v, v1, e⟩ <;> rcases b3 with e' | ⟨w, w1, e'⟩ <;> rw [e, e']
    · decide
    · have := (viewB_iff w).1 (hv w w1); omega
    · have := (viewB_iff v).1 (hv v v1); omega
    · exact key v v1 w w1
  · intro h
    refine ⟨0, ((loF l : Int) : Rat), fun v v1 => ?_⟩
    have z := zpos (hv v v1)
    have k1 : (v.2.1 : Rat) ≤ ((loF l : Int) : Rat) := Rat.intCast_le_intCast.2 (a1 v v1)
    have k2 : ((loF l : Int) : Rat) ≤ (v.2.2 : Rat) := Rat.intCast_le_intCast.2 (Int.le_trans h (b1 v v1))
    have k3 := Rat.mul_le_mul_of_nonneg_right k1 (Rat.le_of_lt z)
    have k4 := Rat.mul_le_mul_of_nonneg_right k2 (Rat.le_of_lt z)
    unfold Ful
    constructor <;> grind
theorem agr_eq {l : List SpT} (hv : ∀ v ∈ l, viewB v = true) : agrF l = if alikeB l then decide (loF l ≤ hiF l) else decide (0 < (corL l).length) := by
  by_cases h : alikeB l = true
  · rw [if_pos h]
    exact alike_agr hv ((alikeB_iff hv).1 h)
  · rw [if_neg h]
    have ha : ¬ AlikeP l := fun k => h ((alikeB_iff hv).2 k)
    rw [Bool.eq_iff_iff, decide_eq_true_eq, agr_iff hv, cor_some hv ha]
/-- The error of views that have to have a camera. -/
def askV (l : List SpT) : Int := if viewsE l = 0 then (if agrF l then (if alikeB l then 43 else 0) else 6) else viewsE l
theorem ask_cal {l : List SpT} (h : askV l = 0) : viewsE l = 0 ∧ spnS (valP 1 0 1) (corL l) = (calF l).1.1 ∧ spnS (valP 0 1 1) (corL l) = (calF l).1.2 ∧ (calF l).2 = 0 ∧
    ∀ x z, -1000 ≤ x ∧ x ≤ 1000 → 1 ≤ z ∧ z ≤ 1000 → ranF l x z = (spnS (valP x z z) (corL l), 0) := by
  unfold askV at h
  by_cases hE : viewsE l = 0
  · rw [if_pos hE] at h
    have hv := (viewsE_mem hE).2
    cases hA : agrF l
    · rw [hA] at h; simp at h
    · obtain ⟨f, c, hf⟩ := (agr_iff hv).1 hA
      rw [hA] at h
      cases hk : alikeB l
      · have ha : ¬ AlikeP l := fun k => by have := (alikeB_iff hv).2 k; rw [hk] at this; cases this
        obtain ⟨e1, e2⟩ := cor_cam hv hf ha
        have c0 := (cal_of hE hf).resolve_left (fun k => ha k.1)
        have e3 := e2 0 1 (by omega) (by omega)
        rw [c0.2]
        refine ⟨hE, e1, e3, rfl, fun x z hx hz => ?_⟩
        rw [ran_of hE hf, if_pos (argB_iff.2 ⟨hx, hz⟩), (foc_span hv hf ha).1, e2 x z hx hz]
        rfl
      · rw [hk] at h; simp at h
  · rw [if_neg hE] at h
    exact absurd h hE
theorem ask_bad {l : List SpT} (h : askV l ≠ 0) : calF l = ((z4, z4), askV l) ∧ (viewsE l = 0 → ∀ x z, argB x z = true → ranF l x z = (z4, askV l)) := by
  unfold askV at h ⊢
  by_cases hE : viewsE l = 0
  · rw [if_pos hE] at h ⊢
    have hv := (viewsE_mem hE).2
    rcases fix_cases hv with ⟨n, a, e⟩ | ⟨⟨f, c, hf⟩, k, a, e⟩ | ⟨_, k, a, e⟩
    · rw [a]
      refine ⟨?_, fun _ x z hb => ?_⟩
      · unfold calF; rw [if_pos hE, e]; rfl
      · unfold ranF; rw [if_pos hE, e]; unfold argB at hb; rw [if_pos hb]; rfl
    · rw [a, (alikeB_iff hv).2 k]
      refine ⟨?_, fun _ x z hb => ?_⟩
      · unfold calF; rw [if_pos hE, e]; rfl
      · unfold ranF; rw [if_pos hE, e]; unfold argB at hb; rw [if_pos hb]; rfl
    · rw [a] at h
      have : alikeB l = false := by
        cases q : alikeB l
        · rfl
        · exact absurd ((alikeB_iff hv).1 q) k
      rw [this] at h
      exact absurd rfl h
  · rw [if_neg hE] at h ⊢
    refine ⟨?_, fun k => absurd k hE⟩
    unfold calF
    rw [if_neg hE]
end Go.Proofs.Tryz.My
