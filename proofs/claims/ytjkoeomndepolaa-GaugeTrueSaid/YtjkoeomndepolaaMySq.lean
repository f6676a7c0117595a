/- A helper text: contracts of functions of the program, and plain lemmas. -/
import Derived.Test.YtjkoeomndepolaaMyEx9
set_option maxRecDepth 100000
set_option maxHeartbeats 0
set_option linter.unusedVariables false
set_option linter.unusedSimpArgs false
namespace Go.Proofs.Try.My
open Go Go.Ev

theorem lesF_qv {a b : Int × Int} (ha : validB a = true) (hb : validB b = true) : qv (lesF a b) ≤ qv a ∧ qv (lesF a b) ≤ qv b ∧ (lesF a b = a ∨ lesF a b = b) := by
  unfold lesF
  rcases cmpF_cases hb ha with ⟨h, e⟩ | ⟨h, _, e⟩ | ⟨h, e⟩ <;> rw [e] <;> simp <;> grind
theorem greF_qv {a b : Int × Int} (ha : validB a = true) (hb : validB b = true) : qv a ≤ qv (greF a b) ∧ qv b ≤ qv (greF a b) ∧ (greF a b = a ∨ greF a b = b) := by
  unfold greF
  rcases cmpF_cases hb ha with ⟨h, e⟩ | ⟨h, _, e⟩ | ⟨h, e⟩ <;> rw [e] <;> simp <;> grind
theorem lesF_eq {a b : Int × Int} (ha : validB a = true) (hb : validB b = true) : lesF a b = if cmpF a b ≤ 0 then a else b := by
  unfold lesF
  rcases cmpF_cases ha hb with ⟨h, e⟩ | ⟨_, h, e⟩ | ⟨h, e⟩ <;> rcases cmpF_cases hb ha with ⟨k, f⟩ | ⟨_, k, f⟩ | ⟨k, f⟩ <;> rw [e, f] <;> simp <;> grind
theorem greF_eq {a b : Int × Int} (ha : validB a = true) (hb : validB b = true) : greF a b = if 0 ≤ cmpF a b then a else b := by
  unfold greF
  rcases cmpF_cases ha hb with ⟨h, e⟩ | ⟨_, h, e⟩ | ⟨h, e⟩ <;> rcases cmpF_cases hb ha with ⟨k, f⟩ | ⟨_, k, f⟩ | ⟨k, f⟩ <;> rw [e, f] <;> simp <;> grind
/-- Two ends in order. -/
theorem ends_two {op : Int × Int → Int × Int → (Int × Int) × Int} {p q : SpT} {x y : Rat} (hp : Fits x (op p.1 p.2)) (hq : Fits y (op q.1 q.2)) (h : x ≤ y) :
    endsF op [p, q] = if (op p.1 p.2).2 = 0 ∧ (op q.1 q.2).2 = 0 then (((op p.1 p.2).1, (op q.1 q.2).1), 0) else (zS, 4) := by
  simp only [endsF, endsG]
  by_cases h1 : (op p.1 p.2).2 = 0
  · by_cases h2 : (op q.1 q.2).2 = 0
    · obtain ⟨v1, e1⟩ := hp.ok h1
      obtain ⟨v2, e2⟩ := hq.ok h2
      have hle := (cmpF_le v1 v2).2 (by rw [e1, e2]; exact h)
      rw [lesF_eq v1 v2, if_pos hle]
      have hg : greF (op p.1 p.2).1 (op q.1 q.2).1 = (op q.1 q.2).1 := by
        unfold greF
        rcases cmpF_cases v1 v2 with ⟨h, e⟩ | ⟨_, h, e⟩ | ⟨h, e⟩
        · rw [if_pos ((cmpF_gt v2 v1).2 h)]
        · rw [h]; split <;> rfl
        · omega
      rw [hg]
      simp [h1, h2]
    · have := hq.bad h2
      simp [h1, h2, this]
  · have := hp.bad h1
    simp [h1, this]
theorem qv_zero : qv (0, 1) = 0 := by
  have := (qv_sign (a := (0, 1)) (by decide)).2.2
  exact this.2 rfl
theorem spanB_qv {s : SpT} : spanB s = true ↔ validB s.1 = true ∧ validB s.2 = true ∧ qv s.1 ≤ qv s.2 := by
  rw [spanB_iff]
  constructor
  · rintro ⟨a, b, c⟩; exact ⟨a, b, (cmpF_le a b).1 c⟩
  · rintro ⟨a, b, c⟩; exact ⟨a, b, (cmpF_le a b).2 c⟩
theorem spanB_i {s : SpT} (h : spanB s = true) : I64 s.1.1 ∧ I64 s.1.2 ∧ I64 s.2.1 ∧ I64 s.2.2 := by
  obtain ⟨a, b, _⟩ := spanB_iff.1 h
  have := (validB_iff _).1 a
  have := (validB_iff _).1 b
  unfold I64
  omega
/-- What the ends of results are: a valid span, which holds each result, and whose ends are results. -/
theorem endsG_ok {op : Int × Int → Int × Int → (Int × Int) × Int} (hop : ∀ a b, validB a = true → validB b = true → (op a b).2 = 0 → validB (op a b).1 = true) :
    ∀ (l : List SpT) (s : SpT), (∀ p ∈ l, validB p.1 = true ∧ validB p.2 = true) → spanB s = true → (endsG op s l).2 = 0 →
      spanB (endsG op s l).1 = true ∧ qv (endsG op s l).1.1 ≤ qv s.1 ∧ qv s.2 ≤ qv (endsG op s l).1.2 ∧
      (∀ p ∈ l, (op p.1 p.2).2 = 0 ∧ qv (endsG op s l).1.1 ≤ qv (op p.1 p.2).1 ∧ qv (op p.1 p.2).1 ≤ qv (endsG op s l).1.2) ∧
      ((endsG op s l).1.1 = s.1 ∨ ∃ p ∈ l, (endsG op s l).1.1 = (op p.1 p.2).1) ∧ ((endsG op s l).1.2 = s.2 ∨ ∃ p ∈ l, (endsG op s l).1.2 = (op p.1 p.2).1)
  | [], s, _, hs, _ => ⟨hs, by simp only [endsG]; exact Rat.le_refl, by simp only [endsG]; exact Rat.le_refl, by simp, .inl rfl, .inl rfl⟩
  | p :: l, s, hl, hs, h => by
    have hp := hl p (by simp)
    by_cases h0 : (op p.1 p.2).2 = 0
    · have hv := hop _ _ hp.1 hp.2 h0
      have e : endsG op s (p :: l) = endsG op (lesF s.1 (op p.1 p.2).1, greF s.2 (op p.1 p.2).1) l := by simp [endsG, h0]
      rw [e] at h ⊢
      obtain ⟨s1, s2, s3⟩ := spanB_qv.1 hs
      obtain ⟨l1, l2, l3⟩ := lesF_qv s1 hv
      obtain ⟨g1, g2, g3⟩ := greF_qv s2 hv
      have hs' : spanB (lesF s.1 (op p.1 p.2).1, greF s.2 (op p.1 p.2).1) = true := spanB_qv.2 ⟨lesF_valid s1 hv, greF_valid s2 hv, by simp only []; grind⟩
      obtain ⟨i1, i2, i3, i4, i5, i6⟩ := endsG_ok hop l _ (fun q hq => hl q (by simp [hq])) hs' h
      simp only [] at i2 i3 i5 i6
      generalize endsG op (lesF s.1 (op p.1 p.2).1, greF s.2 (op p.1 p.2).1) l = r at *
      refine ⟨i1, by grind, by grind, ?_, ?_, ?_⟩
      · intro q hq
        rcases List.mem_cons.1 hq with rfl | hq
        · exact ⟨h0, by grind, by grind⟩
        · exact i4 q hq
      · rcases i5 with i5 | ⟨q, hq, i5⟩
        · rcases l3 with l3 | l3
          · left; rw [i5, l3]
          · right; exact ⟨p, by simp, by rw [i5, l3]⟩
        · right; exact ⟨q, by simp [hq], i5⟩
      · rcases i6 with i6 | ⟨q, hq, i6⟩
        · rcases g3 with g3 | g3
          · left; rw [i6, g3]
          · right; exact ⟨p, by simp, by rw [i6, g3]⟩
        · right; exact ⟨q, by simp [hq], i6⟩
    · exfalso
      simp [endsG, h0] at h
theorem endsF_ok {op : Int × Int → Int × Int → (Int × Int) × Int} (hop : ∀ a b, validB a = true → validB b = true → (op a b).2 = 0 → validB (op a b).1 = true)
    (l : List SpT) (hl : ∀ p ∈ l, validB p.1 = true ∧ validB p.2 = true) (hne : l ≠ []) (h : (endsF op l).2 = 0) :
      spanB (endsF op l).1 = true ∧
      (∀ p ∈ l, (op p.1 p.2).2 = 0 ∧ qv (endsF op l).1.1 ≤ qv (op p.1 p.2).1 ∧ qv (op p.1 p.2).1 ≤ qv (endsF op l).1.2) ∧
      (∃ p ∈ l, (endsF op l).1.1 = (op p.1 p.2).1) ∧ (∃ p ∈ l, (endsF op l).1.2 = (op p.1 p.2).1) := by
  match l, hne, hl, h with
  | p :: l, _, hl, h =>
    have hp := hl p (by simp)
    by_cases h0 : (op p.1 p.2).2 = 0
    · have hv := hop _ _ hp.1 hp.2 h0
      have e : endsF op (p :: l) = endsG op ((op p.1 p.2).1, (op p.1 p.2).1) l := by simp [endsF, h0]
      rw [e] at h ⊢
      obtain ⟨i1, i2, i3, i4, i5, i6⟩ := endsG_ok hop l ((op p.1 p.2).1, (op p.1 p.2).1) (fun q hq => hl q (by simp [hq])) (spanB_qv.2 ⟨hv, hv, Rat.le_refl⟩) h
      simp only [] at i2 i3 i5 i6
      refine ⟨i1, ?_, ?_, ?_⟩
      · intro q hq
        rcases List.mem_cons.1 hq with rfl | hq
        · exact ⟨h0, i2, i3⟩
        · exact i4 q hq
      · rcases i5 with i5 | ⟨q, hq, i5⟩
        · exact ⟨p, by simp, i5⟩
        · exact ⟨q, by simp [hq], i5⟩
      · rcases i6 with i6 | ⟨q, hq, i6⟩
        · exact ⟨p, by simp, i6⟩
        · exact ⟨q, by simp [hq], i6⟩
    · exfalso
      simp [endsF, h0] at h
theorem subS_ok {a b : SpT} (h : (subS a b).2 = 0) : spanB a = true ∧ spanB b = true ∧ spanB (subS a b).1 = true := by
  unfold subS at h ⊢
  cases ha : spanB a <;> cases hb : spanB b <;> rw [ha, hb] at h <;> simp at h
  obtain ⟨a1, a2, _⟩ := spanB_iff.1 ha
  obtain ⟨b1, b2, _⟩ := spanB_iff.1 hb
  exact ⟨rfl, rfl, (endsF_ok subF_ok2 _ (by simp [a1, a2, b1, b2]) (by simp) h).1⟩
theorem divS_ok {a b : SpT} (h : (divS a b).2 = 0) : spanB a = true ∧ spanB b = true ∧ hasB b (0, 1) = false ∧ spanB (divS a b).1 = true := by
  unfold divS at h ⊢
  cases ha : spanB a <;> cases hb : spanB b <;> rw [ha, hb] at h <;> simp at h
  cases hz : hasB b (0, 1) <;> rw [hz] at h <;> simp at h
  exact ⟨rfl, rfl, rfl, (endsF_ok quoF_ok2 _ (allP_valid ha hb) (by simp [allP]) h).1⟩
/-- A camera: the spans of its focal length and of its centre. -/
abbrev CamT : Type := SpT × SpT
abbrev cam (c : CamT) : AV := .agg [i64 c.1.1.1, i64 c.1.1.2, i64 c.1.2.1, i64 c.1.2.2, i64 c.2.1.1, i64 c.2.1.2, i64 c.2.2.1, i64 c.2.2.2]
abbrev eC (c : CamT) : List AV := [i64 c.1.1.1, i64 c.1.1.2, i64 c.1.2.1, i64 c.1.2.2, i64 c.2.1.1, i64 c.2.1.2, i64 c.2.2.1, i64 c.2.2.2]
def tanF (c : CamT) (u : SpT) : SpT × Int :=
  if spanB c.1 && spanB c.2 && decide (0 < c.1.1.1) then (if (subS u c.2).2 = 0 then divS (subS u c.2).1 c.1 else (zS, (subS u c.2).2)) else (zS, 8)
theorem tanF_ok {c : CamT} {u : SpT} (h : (tanF c u).2 = 0) : spanB (tanF c u).1 = true := by
  unfold tanF at h ⊢
  split at h
  · split at h
    · rename_i h1 h2; rw [if_pos h1, if_pos h2]; exact (divS_ok h).2.2.2
    · rename_i h1 h2; exact absurd h h2
  · simp at h
def depG (base : Int) (d : SpT × Int) : SpT × Int := if d.2 = 0 then (if d.1.1.1 ≤ 0 then (zS, 6) else divS ((base, 1), (base, 1)) d.1) else (zS, d.2)
def depF (a b : CamT) (base : Int) (u v : SpT) : SpT × Int :=
  if 1 ≤ base ∧ base ≤ 1000 then
    (if (tanF a u).2 = 0 then (if (tanF b v).2 = 0 then depG base (subS (tanF a u).1 (tanF b v).1) else (zS, (tanF b v).2)) else (zS, (tanF a u).2))
  else (zS, 2)
end Go.Proofs.Try.My
