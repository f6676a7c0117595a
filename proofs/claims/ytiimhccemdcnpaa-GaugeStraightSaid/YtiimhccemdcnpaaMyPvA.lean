/- A helper text: contracts of functions of the program, and plain lemmas. -/
import Derived.Test.YtiimhccemdcnpaaMyLvA
import Derived.Test.YtiimhccemdcnpaaMyTlq
set_option maxRecDepth 100000
set_option maxHeartbeats 0
set_option linter.unusedVariables false
set_option linter.unusedSimpArgs false
namespace Go.Proofs.Try.My
open Go Go.Ev

/-! ### Views and what fulfils them -/
theorem rdiv_le {a b c : Rat} (hb : 0 < b) : a / b ≤ c ↔ a ≤ c * b := by
  have e : a / b * b = a := Rat.div_mul_cancel (by grind)
  constructor
  · intro h
    have := Rat.mul_le_mul_of_nonneg_right h (Rat.le_of_lt hb)
    grind
  · intro h
    by_cases k : a / b ≤ c
    · exact k
    · exfalso
      have := Rat.mul_lt_mul_of_pos_right (show c < a / b by grind) hb
      grind
theorem rle_div {a b c : Rat} (hb : 0 < b) : c ≤ a / b ↔ c * b ≤ a := by
  have e : a / b * b = a := Rat.div_mul_cancel (by grind)
  constructor
  · intro h
    have := Rat.mul_le_mul_of_nonneg_right h (Rat.le_of_lt hb)
    grind
  · intro h
    by_cases k : c ≤ a / b
    · exact k
    · exfalso
      have := Rat.mul_lt_mul_of_pos_right (show a / b < c by grind) hb
      grind
theorem rdiv_neg_le {a b c : Rat} (hb : b < 0) : a / b ≤ c ↔ c * b ≤ a := by
  have e : a / b = (-a) / (-b) := by
    have : b ≠ 0 := by grind
    grind
  rw [e, rdiv_le (show 0 < -b by grind)]
  grind
/-- A number keeps all bounds. -/
def Kept (bs : List (Int × Int)) (u : Rat) : Prop := ∀ x ∈ bs, (x.1 : Rat) * u ≤ (x.2 : Rat)
def qX (x : Int × Int) : Rat := (x.2 : Rat) / (x.1 : Rat)
def LowG (p : List (Int × Int)) : Option (Int × Int) → Prop
  | none => ∀ x ∈ p, ¬ x.1 < 0
  | some y => validB y = true ∧ (∃ x ∈ p, x.1 < 0 ∧ qv y = qX x) ∧ ∀ x ∈ p, x.1 < 0 → qX x ≤ qv y
def HigG (p : List (Int × Int)) : Option (Int × Int) → Prop
  | none => ∀ x ∈ p, ¬ 0 < x.1
  | some y => validB y = true ∧ (∃ x ∈ p, 0 < x.1 ∧ qv y = qX x) ∧ ∀ x ∈ p, 0 < x.1 → qv y ≤ qX x
theorem LowG.skip {p : List (Int × Int)} {o : Option (Int × Int)} {x : Int × Int} (h : LowG p o) (hx : ¬ x.1 < 0) : LowG (p ++ [x]) o := by
  cases o with
  | none =>
    intro y hy
    rcases List.mem_append.1 hy with h1 | h1
    · exact h y h1
    · rw [List.mem_singleton.1 h1]; exact hx
  | some z =>
    obtain ⟨h1, ⟨w, w1, w2, w3⟩, h3⟩ := h
    refine ⟨h1, ⟨w, List.mem_append_left _ w1, w2, w3⟩, fun y hy hn => ?_⟩
    rcases List.mem_append.1 hy with k | k
    · exact h3 y k hn
    · rw [List.mem_singleton.1 k] at hn; exact absurd hn hx
theorem HigG.skip {p : List (Int × Int)} {o : Option (Int × Int)} {x : Int × Int} (h : HigG p o) (hx : ¬ 0 < x.1) : HigG (p ++ [x]) o := by
  cases o with
  | none =>
    intro y hy
    rcases List.mem_append.1 hy with h1 | h1
    · exact h y h1
    · rw [List.mem_singleton.1 h1]; exact hx
  | some z =>
    obtain ⟨h1, ⟨w, w1, w2, w3⟩, h3⟩ := h
    refine ⟨h1, ⟨w, List.mem_append_left _ w1, w2, w3⟩, fun y hy hn => ?_⟩
    rcases List.mem_append.1 hy with k | k
    · exact h3 y k hn
    · rw [List.mem_singleton.1 k] at hn; exact absurd hn hx
theorem LowG.more {p : List (Int × Int)} {o : Option (Int × Int)} {x n : Int × Int} (h : LowG p o) (hx : x.1 < 0) (hn : validB n = true) (hq : qv n = qX x) : LowG (p ++ [x]) (betF o n 1) := by
  have mx : x ∈ p ++ [x] := List.mem_append_right _ (List.mem_singleton.2 rfl)
  cases o with
  | none =>
    show LowG (p ++ [x]) (some n)
    refine ⟨hn, ⟨x, mx, hx, hq⟩, fun y hy hy0 => ?_⟩
    rcases List.mem_append.1 hy with k | k
    · exact absurd hy0 (h y k)
    · rw [List.mem_singleton.1 k, hq]; exact Rat.le_refl
  | some z =>
    obtain ⟨h1, ⟨w, w1, w2, w3⟩, h3⟩ := h
    show LowG (p ++ [x]) (if cmpF n z * 1 ≤ 0 then some z else some n)
    have hc := cmpF_le hn h1
    rw [Int.mul_one]
    split
    · rename_i k
      have k := hc.1 k
      refine ⟨h1, ⟨w, List.mem_append_left _ w1, w2, w3⟩, fun y hy hy0 => ?_⟩
      rcases List.mem_append.1 hy with j | j
      · exact h3 y j hy0
      · rw [List.mem_singleton.1 j, ← hq]; exact k
    · rename_i k
      have k : ¬ qv n ≤ qv z := fun e => k (hc.2 e)
      refine ⟨hn, ⟨x, mx, hx, hq⟩, fun y hy hy0 => ?_⟩
      rcases List.mem_append.1 hy with j | j
      · have := h3 y j hy0; grind
      · rw [List.mem_singleton.1 j, hq]; exact Rat.le_refl
theorem HigG.more {p : List (Int × Int)} {o : Option (Int × Int)} {x n : Int × Int} (h : HigG p o) (hx : 0 < x.1) (hn : validB n = true) (hq : qv n = qX x) : HigG (p ++ [x]) (betF o n (-1)) := by
  have mx : x ∈ p ++ [x] := List.mem_append_right _ (List.mem_singleton.2 rfl)
  cases o with
  | none =>
    show HigG (p ++ [x]) (some n)
    refine ⟨hn, ⟨x, mx, hx, hq⟩, fun y hy hy0 => ?_⟩
    rcases List.mem_append.1 hy with k | k
    · exact absurd hy0 (h y k)
    · rw [List.mem_singleton.1 k, hq]; exact Rat.le_refl
  | some z =>
    obtain ⟨h1, ⟨w, w1, w2, w3⟩, h3⟩ := h
    show HigG (p ++ [x]) (if cmpF n z * (-1) ≤ 0 then some z else some n)
    have hc := cmpF_lt hn h1
    split
    · rename_i k
      have k : ¬ qv n < qv z := fun e => by have := hc.2 e; omega
      refine ⟨h1, ⟨w, List.mem_append_left _ w1, w2, w3⟩, fun y hy hy0 => ?_⟩
      rcases List.mem_append.1 hy with j | j
      · exact h3 y j hy0
      · rw [List.mem_singleton.1 j, ← hq]; grind
    · rename_i k
      have k : qv n < qv z := hc.1 (by omega)
      refine ⟨hn, ⟨x, mx, hx, hq⟩, fun y hy hy0 => ?_⟩
      rcases List.mem_append.1 hy with j | j
      · have := h3 y j hy0; grind
      · rw [List.mem_singleton.1 j, hq]; exact Rat.le_refl
theorem stepN2_good {p : List (Int × Int)} {s : TwoF} {x : Int × Int} (h : LowG p s.1 ∧ HigG p s.2) (hx : okB x) : LowG (p ++ [x]) (stepN2 s x).1 ∧ HigG (p ++ [x]) (stepN2 s x).2 := by
  unfold stepN2
  by_cases h0 : x.1 = 0
  · rw [if_pos h0]
    exact ⟨h.1.skip (by omega), h.2.skip (by omega)⟩
  · rw [if_neg h0]
    obtain ⟨k1, k2, k3⟩ := quo_ok hx h0
    by_cases hp : 0 < x.1
    · rw [if_pos hp]
      exact ⟨h.1.skip (by omega), h.2.more hp k1 k3⟩
    · rw [if_neg hp]
      exact ⟨h.1.more (by omega) k1 k3, h.2.skip (by omega)⟩
theorem foldN_good0 : ∀ (l p : List (Int × Int)) (s : TwoF), (∀ x ∈ l, okB x) → LowG p s.1 ∧ HigG p s.2 → LowG (p ++ l) (l.foldl stepN2 s).1 ∧ HigG (p ++ l) (l.foldl stepN2 s).2
  | [], p, s, _, h => by simpa using h
  | x :: l, p, s, hl, h => by
    have k := foldN_good0 l (p ++ [x]) (stepN2 s x) (fun y hy => hl y (List.mem_cons_of_mem _ hy)) (stepN2_good h (hl x (List.mem_cons_self ..)))
    simpa using k
theorem foldN_good {l : List (Int × Int)} (hl : ∀ x ∈ l, okB x) : LowG l (foldN l).1 ∧ HigG l (foldN l).2 := by
  have := foldN_good0 l [] (none, none) hl ⟨fun x hx => (by cases hx), fun x hx => by cases hx⟩
  simpa [foldN] using this
theorem kept_iff {bs : List (Int × Int)} {u : Rat} : Kept bs u ↔ (∀ x ∈ bs, x.1 = 0 → 0 ≤ x.2) ∧ (∀ x ∈ bs, x.1 < 0 → qX x ≤ u) ∧ (∀ x ∈ bs, 0 < x.1 → u ≤ qX x) := by
  have key : ∀ x : Int × Int, (x.1 : Rat) * u ≤ (x.2 : Rat) ↔ (x.1 = 0 → 0 ≤ x.2) ∧ (x.1 < 0 → qX x ≤ u) ∧ (0 < x.1 → u ≤ qX x) := by
    intro x
    obtain ⟨a, b⟩ := x
    show (a : Rat) * u ≤ (b : Rat) ↔ (a = 0 → 0 ≤ b) ∧ (a < 0 → (b : Rat) / (a : Rat) ≤ u) ∧ (0 < a → u ≤ (b : Rat) / (a : Rat))
    rcases Int.lt_trichotomy a 0 with h | h | h
    · have h2 : (a : Rat) < 0 := Rat.intCast_lt_intCast.2 h
      rw [rdiv_neg_le h2, Rat.mul_comm u]
      exact ⟨fun k => ⟨fun e => by omega, fun _ => k, fun e => by omega⟩, fun k => k.2.1 h⟩
    · subst h
      have e : ((0 : Int) : Rat) * u = ((0 : Int) : Rat) := Rat.zero_mul u
      rw [e, Rat.intCast_le_intCast]
      exact ⟨fun k => ⟨fun _ => k, fun e => by omega, fun e => by omega⟩, fun k => k.1 rfl⟩
    · have h2 : (0 : Rat) < (a : Rat) := cast_pos h
      rw [rle_div h2, Rat.mul_comm u]
      exact ⟨fun k => ⟨fun e => by omega, fun e => by omega, fun _ => k⟩, fun k => k.2.2 h⟩
  exact ⟨fun h => ⟨fun x hx => ((key x).1 (h x hx)).1, fun x hx => ((key x).1 (h x hx)).2.1, fun x hx => ((key x).1 (h x hx)).2.2⟩, fun h x hx => (key x).2 ⟨h.1 x hx, h.2.1 x hx, h.2.2 x hx⟩⟩
theorem any_iff (bs : List (Int × Int)) : bs.any badN = true ↔ ¬ ∀ x ∈ bs, x.1 = 0 → 0 ≤ x.2 := by
  rw [List.any_eq_true]
  constructor
  · rintro ⟨x, hx, hb⟩ h
    simp only [badN, Bool.and_eq_true, decide_eq_true_eq] at hb
    have := h x hx hb.1
    omega
  · intro h
    by_cases k : ∃ x, x ∈ bs ∧ badN x = true
    · exact k
    · exfalso
      refine h fun x hx h0 => ?_
      by_cases h1 : 0 ≤ x.2
      · exact h1
      · refine absurd ⟨x, hx, ?_⟩ k
        simp only [badN, Bool.and_eq_true, decide_eq_true_eq]
        omega
/-- What narrowed says: whether there are any, and the numbers that there are. -/
structure NarG (bs : List (Int × Int)) (r : SpT × Bool × Bool) : Prop where
  any : r.2.1 = true ↔ ∃ u, Kept bs u
  whole : r.2.2 = true ↔ (∃ u, Kept bs u) ∧ (∃ x ∈ bs, x.1 < 0) ∧ (∃ x ∈ bs, 0 < x.1)
  span : r.2.2 = true → validB r.1.1 = true ∧ validB r.1.2 = true ∧ qv r.1.1 ≤ qv r.1.2 ∧ (∀ u, Kept bs u ↔ qv r.1.1 ≤ u ∧ u ≤ qv r.1.2) ∧ (∃ x ∈ bs, x.1 < 0 ∧ qv r.1.1 = qX x) ∧ (∃ x ∈ bs, 0 < x.1 ∧ qv r.1.2 = qX x)
  none : r.2.2 = false → r.1 = z4
theorem narF_good {bs : List (Int × Int)} (hl : ∀ x ∈ bs, okB x) : NarG bs (narF bs) := by
  obtain ⟨g1, g2⟩ := foldN_good hl
  unfold narF
  by_cases hb : bs.any badN = true
  · rw [if_pos hb]
    have hn := (any_iff bs).1 hb
    have no : ¬ ∃ u, Kept bs u := fun ⟨u, hu⟩ => hn (kept_iff.1 hu).1
    exact ⟨⟨fun h => (by cases h), fun h => absurd h no⟩, ⟨fun h => (by cases h), fun h => absurd h.1 no⟩, fun h => (by cases h), fun _ => rfl⟩
  · rw [if_neg hb]
    have hz : ∀ x ∈ bs, x.1 = 0 → 0 ≤ x.2 := by
      by_cases k : ∀ x ∈ bs, x.1 = 0 → 0 ≤ x.2
      · exact k
      · exact absurd ((any_iff bs).2 k) hb
    generalize foldN bs = S at *
    obtain ⟨_ | a, _ | b⟩ := S
    · have k : Kept bs 0 := kept_iff.2 ⟨hz, fun x hx h => absurd h (g1 x hx), fun x hx h => absurd h (g2 x hx)⟩
      exact ⟨⟨fun _ => ⟨0, k⟩, fun _ => rfl⟩, ⟨fun h => (by cases h), fun ⟨_, ⟨x, hx, h⟩, _⟩ => absurd h (g1 x hx)⟩, fun h => (by cases h), fun _ => rfl⟩
    · obtain ⟨b1, b2, b3⟩ := g2
      have k : Kept bs (qv b) := kept_iff.2 ⟨hz, fun x hx h => absurd h (g1 x hx), fun x hx h => b3 x hx h⟩
      exact ⟨⟨fun _ => ⟨_, k⟩, fun _ => rfl⟩, ⟨fun h => (by cases h), fun ⟨_, ⟨x, hx, h⟩, _⟩ => absurd h (g1 x hx)⟩, fun h => (by cases h), fun _ => rfl⟩
    · obtain ⟨b1, b2, b3⟩ := g1
      have k : Kept bs (qv a) := kept_iff.2 ⟨hz, fun x hx h => b3 x hx h, fun x hx h => absurd h (g2 x hx)⟩
      exact ⟨⟨fun _ => ⟨_, k⟩, fun _ => rfl⟩, ⟨fun h => (by cases h), fun ⟨_, _, ⟨x, hx, h⟩⟩ => absurd h (g2 x hx)⟩, fun h => (by cases h), fun _ => rfl⟩
    · obtain ⟨a1, ⟨x, x1, x2, x3⟩, a3⟩ := g1
      obtain ⟨b1, ⟨y, y1, y2, y3⟩, b3⟩ := g2
      have key : ∀ u, Kept bs u ↔ qv a ≤ u ∧ u ≤ qv b := fun u => by
        constructor
        · intro h
          obtain ⟨_, h2, h3⟩ := kept_iff.1 h
          rw [x3, y3]
          exact ⟨h2 x x1 x2, h3 y y1 y2⟩
        · intro ⟨h1, h2⟩
          exact kept_iff.2 ⟨hz, fun w hw h => Rat.le_trans (a3 w hw h) h1, fun w hw h => Rat.le_trans h2 (b3 w hw h)⟩
      have hc := cmpF_gt a1 b1
      show NarG bs (if 0 < cmpF a b then (z4, false, false) else ((a, b), true, true))
      split
      · rename_i h
        have h := hc.1 h
        have no : ¬ ∃ u, Kept bs u := fun ⟨u, hu⟩ => by have := (key u).1 hu; grind
        exact ⟨⟨fun h => (by cases h), fun h => absurd h no⟩, ⟨fun h => (by cases h), fun h => absurd h.1 no⟩, fun h => (by cases h), fun _ => rfl⟩
      · rename_i h
        have h : qv a ≤ qv b := by
          have : ¬ qv b < qv a := fun e => h (hc.2 e)
          grind
        have k := (key (qv a)).2 ⟨Rat.le_refl, h⟩
        exact ⟨⟨fun _ => ⟨_, k⟩, fun _ => rfl⟩, ⟨fun _ => ⟨⟨_, k⟩, ⟨x, x1, x2⟩, ⟨y, y1, y2⟩⟩, fun _ => rfl⟩, fun _ => ⟨a1, b1, h, key, ⟨x, x1, x2, x3⟩, ⟨y, y1, y2, y3⟩⟩, fun h => by cases h⟩
/-! Numbers between others -/
theorem below_all : ∀ U : List Rat, ∃ c, ∀ b ∈ U, c ≤ b
  | [] => ⟨0, fun b hb => by cases hb⟩
  | a :: U => by
    obtain ⟨c, hc⟩ := below_all U
    by_cases h : c ≤ a
    · exact ⟨c, fun b hb => by rcases List.mem_cons.1 hb with rfl | k; exact h; exact hc b k⟩
    · refine ⟨a, fun b hb => ?_⟩
      rcases List.mem_cons.1 hb with rfl | k
      · exact Rat.le_refl
      · have := hc b k; grind
theorem max_all : ∀ (L : List Rat), L ≠ [] → ∃ c ∈ L, ∀ a ∈ L, a ≤ c
  | [], h => absurd rfl h
  | [a], _ => ⟨a, List.mem_singleton.2 rfl, fun b hb => by rw [List.mem_singleton.1 hb]; exact Rat.le_refl⟩
  | a :: b :: L, _ => by
    obtain ⟨c, hc, hm⟩ := max_all (b :: L) (fun h => nomatch h)
    by_cases h : a ≤ c
    · refine ⟨c, List.mem_cons_of_mem _ hc, fun d hd => ?_⟩
      rcases List.mem_cons.1 hd with rfl | k
      · exact h
      · exact hm d k
    · refine ⟨a, List.mem_cons_self .., fun d hd => ?_⟩
      rcases List.mem_cons.1 hd with rfl | k
      · exact Rat.le_refl
      · have := hm d k; grind
theorem between (L U : List Rat) (h : ∀ a ∈ L, ∀ b ∈ U, a ≤ b) : ∃ c, (∀ a ∈ L, a ≤ c) ∧ (∀ b ∈ U, c ≤ b) ∧ (L ≠ [] → c ∈ L) := by
  by_cases e : L = []
  · subst e
    obtain ⟨c, hc⟩ := below_all U
    exact ⟨c, fun a ha => (by cases ha), hc, fun h => absurd rfl h⟩
  · obtain ⟨c, hc, hm⟩ := max_all L e
    exact ⟨c, hm, h c hc, fun _ => hc⟩
/-! Focal lengths and centres -/
def Ful (f c : Rat) (v : SpT) : Prop := (v.2.1 : Rat) * (v.1.2 : Rat) ≤ f * (v.1.1 : Rat) + c * (v.1.2 : Rat) ∧ f * (v.1.1 : Rat) + c * (v.1.2 : Rat) ≤ (v.2.2 : Rat) * (v.1.2 : Rat)
def Feas (l : List SpT) (f c : Rat) : Prop := ∀ v ∈ l, Ful f c v
theorem foc_one {f c vX vZ vL wX wZ wH : Rat} (hv : 0 < vZ) (hw : 0 < wZ) (h1 : vL * vZ ≤ f * vX + c * vZ) (h2 : f * wX + c * wZ ≤ wH * wZ) : (wX * vZ - vX * wZ) * f ≤ (wH - vL) * vZ * wZ := by
  have k1 := Rat.mul_le_mul_of_nonneg_right h1 (Rat.le_of_lt hw)
  have k2 := Rat.mul_le_mul_of_nonneg_right h2 (Rat.le_of_lt hv)
  grind
theorem foc_two {f vX vZ vL wX wZ wH : Rat} (hv : 0 < vZ) (hw : 0 < wZ) (k : (wX * vZ - vX * wZ) * f ≤ (wH - vL) * vZ * wZ) : (vL * vZ - f * vX) / vZ ≤ (wH * wZ - f * wX) / wZ := by
  rw [rdiv_le hv]
  have e : (wH * wZ - f * wX) / wZ * wZ = wH * wZ - f * wX := Rat.div_mul_cancel (by grind)
  generalize (wH * wZ - f * wX) / wZ = q at *
  have e2 : q * vZ * wZ = (wH * wZ - f * wX) * vZ := by rw [← e]; grind
  refine rat_le_of_mul hw ?_
  rw [e2]
  grind
theorem focB_cast (v w : SpT) : ((focB v w).1 : Rat) = (w.1.1 : Rat) * (v.1.2 : Rat) - (v.1.1 : Rat) * (w.1.2 : Rat) ∧ ((focB v w).2 : Rat) = ((w.2.2 : Rat) - (v.2.1 : Rat)) * (v.1.2 : Rat) * (w.1.2 : Rat) := by
  unfold focB
  simp only [Rat.intCast_sub, Rat.intCast_mul, and_self]
theorem mem_focL {l : List SpT} {x : Int × Int} : x ∈ focL l ↔ ∃ v ∈ l, ∃ w ∈ l, focB v w = x := by
  unfold focL
  simp only [List.mem_flatMap, List.mem_map]
theorem zpos {v : SpT} (h : viewB v = true) : (0 : Rat) < (v.1.2 : Rat) := cast_pos (by have := (viewB_iff v).1 h; omega)
theorem kept_foc {l : List SpT} (hv : ∀ v ∈ l, viewB v = true) (f : Rat) : Kept (focL l) f ↔ ∃ c, Feas l f c := by
  constructor
  · intro h
    obtain ⟨c, c1, c2, _⟩ := between (l.map fun v => ((v.2.1 : Rat) * (v.1.2 : Rat) - f * (v.1.1 : Rat)) / (v.1.2 : Rat)) (l.map fun v => ((v.2.2 : Rat) * (v.1.2 : Rat) - f * (v.1.1 : Rat)) / (v.1.2 : Rat)) (by
      intro a ha b hb
      obtain ⟨v, v1, rfl⟩ := List.mem_map.1 ha
      obtain ⟨w, w1, rfl⟩ := List.mem_map.1 hb
      have k := h _ (mem_focL.2 ⟨v, v1, w, w1, rfl⟩)
      rw [(focB_cast v w).1, (focB_cast v w).2] at k
      exact foc_two (zpos (hv v v1)) (zpos (hv w w1)) k)
    refine ⟨c, fun v hm => ?_⟩
    have k1 := c1 _ (List.mem_map.2 ⟨v, hm, rfl⟩)
    have k2 := c2 _ (List.mem_map.2 ⟨v, hm, rfl⟩)
    have z1 := zpos (hv v hm)
    rw [rdiv_le z1] at k1
    rw [rle_div z1] at k2
    clear c1 c2 h
    unfold Ful
    generalize (v.1.1 : Rat) = vx at *
    generalize (v.1.2 : Rat) = vz at *
    generalize (v.2.1 : Rat) = lo at *
    generalize (v.2.2 : Rat) = hi at *
    constructor <;> grind
  · rintro ⟨c, hc⟩ x hx
    obtain ⟨v, v1, w, w1, rfl⟩ := mem_focL.1 hx
    rw [(focB_cast v w).1, (focB_cast v w).2]
    exact foc_one (zpos (hv v v1)) (zpos (hv w w1)) (hc v v1).1 (hc w w1).2
end Go.Proofs.Try.My
set_option maxRecDepth 100000
set_option maxHeartbeats 0
set_option linter.unusedVariables false
set_option linter.unusedSimpArgs false
namespace Go.Proofs.Try.My
open Go Go.Ev

/-! ### Where a tangent is seen -/
def limV (a : SpT) (u : Rat) : Rat := (a.1.1 : Rat) * ((a.2.2 : Rat) - u) * (a.2.1 : Rat) / (a.1.2 : Rat)
theorem bndP_iff {a b : SpT} (ha : 0 < a.1.2) (hb : 0 < b.1.2) (u : Rat) : ((bndP a b).1 : Rat) * u ≤ ((bndP a b).2 : Rat) ↔ limV a u ≤ limV b u := by
  obtain ⟨⟨s, A⟩, α, p⟩ := a
  obtain ⟨⟨t, B⟩, β, q⟩ := b
  have z1 : (0 : Rat) < (A : Rat) := cast_pos ha
  have z2 : (0 : Rat) < (B : Rat) := cast_pos hb
  show ((t * A * β - s * B * α : Int) : Rat) * u ≤ ((q * (t * A * β) - p * (s * B * α) : Int) : Rat) ↔ (s : Rat) * ((p : Rat) - u) * (α : Rat) / (A : Rat) ≤ (t : Rat) * ((q : Rat) - u) * (β : Rat) / (B : Rat)
  rw [rdiv_le z1]
  have e : (t : Rat) * ((q : Rat) - u) * (β : Rat) / (B : Rat) * (B : Rat) = (t : Rat) * ((q : Rat) - u) * (β : Rat) := Rat.div_mul_cancel (by grind)
  generalize (t : Rat) * ((q : Rat) - u) * (β : Rat) / (B : Rat) = w at *
  simp only [Rat.intCast_sub, Rat.intCast_mul]
  generalize (s : Rat) = s at *
  generalize (A : Rat) = A at *
  generalize (α : Rat) = α at *
  generalize (p : Rat) = p at *
  generalize (t : Rat) = t at *
  generalize (B : Rat) = B at *
  generalize (β : Rat) = β at *
  generalize (q : Rat) = q at *
  have e2 : w * A * B = (t * (q - u) * β) * A := by rw [← e]; grind
  constructor
  · intro h
    refine rat_le_of_mul z2 ?_
    rw [e2]
    grind
  · intro h
    have := Rat.mul_le_mul_of_nonneg_right h (Rat.le_of_lt z2)
    rw [e2] at this
    grind
theorem ful_z {f c u : Rat} {x z : Int} {v : SpT} (hz : 0 < z) (hc : c * (z : Rat) = u * (z : Rat) - f * (x : Rat)) :
    Ful f c v ↔ ((v.2.1 : Rat) - u) * ((v.1.2 : Rat) * (z : Rat)) ≤ f * (sOf x z v : Rat) ∧ f * (sOf x z v : Rat) ≤ ((v.2.2 : Rat) - u) * ((v.1.2 : Rat) * (z : Rat)) := by
  have z1 := cast_pos hz
  unfold Ful sOf
  simp only [Rat.intCast_sub, Rat.intCast_mul]
  generalize (z : Rat) = z at *
  generalize (x : Rat) = x at *
  generalize (v.1.1 : Rat) = vx at *
  generalize (v.1.2 : Rat) = vz at *
  generalize (v.2.1 : Rat) = lo at *
  generalize (v.2.2 : Rat) = hi at *
  have e : f * vx * z + c * vz * z = f * (vx * z - x * vz) + u * vz * z := by
    have : c * z * vz = (u * z - f * x) * vz := by rw [hc]
    grind
  constructor
  · rintro ⟨h1, h2⟩
    have k1 := Rat.mul_le_mul_of_nonneg_right h1 (Rat.le_of_lt z1)
    have k2 := Rat.mul_le_mul_of_nonneg_right h2 (Rat.le_of_lt z1)
    constructor <;> grind
  · rintro ⟨h1, h2⟩
    constructor <;> (refine rat_le_of_mul z1 ?_; grind)
theorem abs_sgn (s : Int) : absI s = sgn s * s ∧ (s ≠ 0 → 0 < absI s) ∧ (0 < s → sgn s = 1) ∧ (s < 0 → sgn s = -1) := by
  unfold absI sgn
  rcases Int.lt_trichotomy s 0 with h | h | h
  · rw [if_pos h, if_pos (by omega)]; omega
  · subst h; decide
  · rw [if_neg (by omega), if_pos h, if_neg (by omega)]; omega
theorem lowO_pos {x z : Int} {v : SpT} {a : SpT} (h : a ∈ lowO x z v) : sOf x z v ≠ 0 ∧ a.1 = (sgn (sOf x z v), absI (sOf x z v)) ∧ a.2.1 = v.1.2 * z ∧ a.2.2 = (if 0 < sOf x z v then v.2.1 else v.2.2) := by
  unfold lowO at h
  split at h
  · cases h
  · rename_i h0
    split at h
    · rename_i h1
      rw [List.mem_singleton.1 h, if_pos h1]; exact ⟨h0, rfl, rfl, rfl⟩
    · rename_i h1
      rw [List.mem_singleton.1 h, if_neg h1]; exact ⟨h0, rfl, rfl, rfl⟩
theorem higO_pos {x z : Int} {v : SpT} {a : SpT} (h : a ∈ higO x z v) : sOf x z v ≠ 0 ∧ a.1 = (sgn (sOf x z v), absI (sOf x z v)) ∧ a.2.1 = v.1.2 * z ∧ a.2.2 = (if 0 < sOf x z v then v.2.2 else v.2.1) := by
  unfold higO at h
  split at h
  · cases h
  · rename_i h0
    split at h
    · rename_i h1
      rw [List.mem_singleton.1 h, if_pos h1]; exact ⟨h0, rfl, rfl, rfl⟩
    · rename_i h1
      rw [List.mem_singleton.1 h, if_neg h1]; exact ⟨h0, rfl, rfl, rfl⟩
theorem lowO_mem {x z : Int} {v : SpT} (h : sOf x z v ≠ 0) : ∃ a, a ∈ lowO x z v := by
  unfold lowO
  rw [if_neg h]
  split <;> exact ⟨_, List.mem_singleton.2 rfl⟩
theorem higO_mem {x z : Int} {v : SpT} (h : sOf x z v ≠ 0) : ∃ a, a ∈ higO x z v := by
  unfold higO
  rw [if_neg h]
  split <;> exact ⟨_, List.mem_singleton.2 rfl⟩
/-- A limit of the focal length, as a view's end says it. -/
theorem limV_low {x z : Int} {v a : SpT} {f u : Rat} (ha : a ∈ lowO x z v) : limV a u ≤ f ↔ (if 0 < sOf x z v then ((v.2.1 : Rat) - u) * ((v.1.2 : Rat) * (z : Rat)) ≤ f * (sOf x z v : Rat) else f * (sOf x z v : Rat) ≤ ((v.2.2 : Rat) - u) * ((v.1.2 : Rat) * (z : Rat))) := by
  obtain ⟨h0, e1, e2, e3⟩ := lowO_pos ha
  obtain ⟨k1, k2, k3, k4⟩ := abs_sgn (sOf x z v)
  have k2 := cast_pos (k2 h0)
  have k1' := congrArg (Int.cast : Int → Rat) k1
  rw [Rat.intCast_mul] at k1'
  unfold limV
  rw [e1, e2, e3]
  simp only []
  rw [rdiv_le k2, k1']
  by_cases hs : 0 < sOf x z v
  · rw [if_pos hs, if_pos hs, k3 hs, Rat.intCast_mul]
    have : ((1 : Int) : Rat) = 1 := rfl
    rw [this]
    grind
  · rw [if_neg hs, if_neg hs, k4 (by omega), Rat.intCast_mul]
    have : ((-1 : Int) : Rat) = -1 := by decide +kernel
    rw [this]
    grind
theorem limV_hig {x z : Int} {v a : SpT} {f u : Rat} (ha : a ∈ higO x z v) : f ≤ limV a u ↔ (if 0 < sOf x z v then f * (sOf x z v : Rat) ≤ ((v.2.2 : Rat) - u) * ((v.1.2 : Rat) * (z : Rat)) else ((v.2.1 : Rat) - u) * ((v.1.2 : Rat) * (z : Rat)) ≤ f * (sOf x z v : Rat)) := by
  obtain ⟨h0, e1, e2, e3⟩ := higO_pos ha
  obtain ⟨k1, k2, k3, k4⟩ := abs_sgn (sOf x z v)
  have k2 := cast_pos (k2 h0)
  have k1' := congrArg (Int.cast : Int → Rat) k1
  rw [Rat.intCast_mul] at k1'
  unfold limV
  rw [e1, e2, e3]
  simp only []
  rw [rle_div k2, k1']
  by_cases hs : 0 < sOf x z v
  · rw [if_pos hs, if_pos hs, k3 hs, Rat.intCast_mul]
    have : ((1 : Int) : Rat) = 1 := rfl
    rw [this]
    grind
  · rw [if_neg hs, if_neg hs, k4 (by omega), Rat.intCast_mul]
    have : ((-1 : Int) : Rat) = -1 := by decide +kernel
    rw [this]
    grind
theorem lim_ful {x z : Int} {v : SpT} {f u : Rat} (h0 : sOf x z v ≠ 0) :
    (((v.2.1 : Rat) - u) * ((v.1.2 : Rat) * (z : Rat)) ≤ f * (sOf x z v : Rat) ∧ f * (sOf x z v : Rat) ≤ ((v.2.2 : Rat) - u) * ((v.1.2 : Rat) * (z : Rat))) ↔ (∀ a ∈ lowO x z v, limV a u ≤ f) ∧ (∀ a ∈ higO x z v, f ≤ limV a u) := by
  constructor
  · rintro ⟨h1, h2⟩
    refine ⟨fun a ha => (limV_low ha).2 ?_, fun a ha => (limV_hig ha).2 ?_⟩ <;> split <;> assumption
  · rintro ⟨h1, h2⟩
    obtain ⟨a, ha⟩ := lowO_mem h0
    obtain ⟨b, hb⟩ := higO_mem h0
    have k1 := (limV_low ha).1 (h1 a ha)
    have k2 := (limV_hig hb).1 (h2 b hb)
    by_cases hs : 0 < sOf x z v
    · rw [if_pos hs] at k1 k2; exact ⟨k1, k2⟩
    · rw [if_neg hs] at k1 k2; exact ⟨k2, k1⟩
theorem mem_seeL {l : List SpT} {x z : Int} {y : Int × Int} : y ∈ seeL l x z ↔ (∃ v ∈ l, sOf x z v = 0 ∧ (y = (-1, -v.2.1) ∨ y = (1, v.2.2))) ∨ (∃ v ∈ l, ∃ a ∈ lowO x z v, ∃ w ∈ l, ∃ b ∈ higO x z w, y = bndP a b) := by
  unfold seeL lowT higT zerO
  rw [List.mem_append]
  constructor
  · rintro (h | h)
    · left
      obtain ⟨v, h1, h2⟩ := List.mem_flatMap.1 h
      split at h2
      · rename_i h0
        simp only [List.mem_cons, List.not_mem_nil, or_false] at h2
        exact ⟨v, h1, h0, h2⟩
      · cases h2
    · right
      obtain ⟨a, h1, h2⟩ := List.mem_flatMap.1 h
      obtain ⟨v, h3, h4⟩ := List.mem_flatMap.1 h1
      obtain ⟨b, h5, h6⟩ := List.mem_map.1 h2
      obtain ⟨w, h7, h8⟩ := List.mem_flatMap.1 h5
      exact ⟨v, h3, a, h4, w, h7, b, h8, h6.symm⟩
  · rintro (⟨v, h1, h0, h2⟩ | ⟨v, h3, a, h4, w, h7, b, h8, h6⟩)
    · left
      refine List.mem_flatMap.2 ⟨v, h1, ?_⟩
      rw [if_pos h0]
      simp only [List.mem_cons, List.not_mem_nil, or_false]
      exact h2
    · right
      exact List.mem_flatMap.2 ⟨a, List.mem_flatMap.2 ⟨v, h3, h4⟩, List.mem_map.2 ⟨b, List.mem_flatMap.2 ⟨w, h7, h8⟩, h6.symm⟩⟩
theorem kept_see {l : List SpT} (hv : ∀ v ∈ l, viewB v = true) {x z : Int} (hz : 0 < z) (u : Rat) : Kept (seeL l x z) u ↔ ∃ f c, c * (z : Rat) = u * (z : Rat) - f * (x : Rat) ∧ Feas l f c := by
  have z1 := cast_pos hz
  have zer : ∀ v : SpT, sOf x z v = 0 → viewB v = true → ∀ f c : Rat, c * (z : Rat) = u * (z : Rat) - f * (x : Rat) → (Ful f c v ↔ (v.2.1 : Rat) ≤ u ∧ u ≤ (v.2.2 : Rat)) := by
    intro v h0 vv f c hc
    rw [ful_z hz hc, h0]
    have k := Rat.mul_pos (zpos vv) z1
    have e0 : f * ((0 : Int) : Rat) = 0 := Rat.mul_zero f
    rw [e0]
    generalize (v.1.2 : Rat) * (z : Rat) = K at *
    constructor
    · rintro ⟨h1, h2⟩
      constructor <;> (refine rat_le_of_mul k ?_; grind)
    · rintro ⟨h1, h2⟩
      have j1 := Rat.mul_le_mul_of_nonneg_right h1 (Rat.le_of_lt k)
      have j2 := Rat.mul_le_mul_of_nonneg_right h2 (Rat.le_of_lt k)
      constructor <;> grind
  constructor
  · intro h
    obtain ⟨f, f1, f2, _⟩ := between ((lowT l x z).map fun a => limV a u) ((higT l x z).map fun a => limV a u) (by
      intro p hp q hq
      obtain ⟨a, a1, rfl⟩ := List.mem_map.1 hp
      obtain ⟨b, b1, rfl⟩ := List.mem_map.1 hq
      obtain ⟨v, v1, v2⟩ := List.mem_flatMap.1 a1
      obtain ⟨w, w1, w2⟩ := List.mem_flatMap.1 b1
      obtain ⟨n1, e1, _⟩ := lowO_pos v2
      obtain ⟨n2, e2, _⟩ := higO_pos w2
      have p1 := (abs_sgn (sOf x z v)).2.1 n1
      have p2 := (abs_sgn (sOf x z w)).2.1 n2
      exact (bndP_iff (by rw [e1]; exact p1) (by rw [e2]; exact p2) u).1 (h _ (mem_seeL.2 (.inr ⟨v, v1, a, v2, w, w1, b, w2, rfl⟩))))
    have hc : (u - f * (x : Rat) / (z : Rat)) * (z : Rat) = u * (z : Rat) - f * (x : Rat) := by
      have : f * (x : Rat) / (z : Rat) * (z : Rat) = f * (x : Rat) := Rat.div_mul_cancel (by grind)
      grind
    refine ⟨f, _, hc, fun v hm => ?_⟩
    by_cases h0 : sOf x z v = 0
    · rw [zer v h0 (hv v hm) f _ hc]
      have k1 := h _ (mem_seeL.2 (.inl ⟨v, hm, h0, .inl rfl⟩))
      have k2 := h _ (mem_seeL.2 (.inl ⟨v, hm, h0, .inr rfl⟩))
      have e1 : ((-1 : Int) : Rat) = -1 := by decide +kernel
      have e2 : ((1 : Int) : Rat) = 1 := rfl
      simp only [Rat.intCast_neg, e1, e2] at k1 k2
      constructor <;> grind
    · rw [ful_z hz hc, lim_ful h0]
      exact ⟨fun a ha => f1 _ (List.mem_map.2 ⟨a, List.mem_flatMap.2 ⟨v, hm, ha⟩, rfl⟩), fun a ha => f2 _ (List.mem_map.2 ⟨a, List.mem_flatMap.2 ⟨v, hm, ha⟩, rfl⟩)⟩
  · rintro ⟨f, c, hc, hf⟩ y hy
    rcases mem_seeL.1 hy with ⟨v, v1, h0, h2⟩ | ⟨v, v1, a, a1, w, w1, b, b1, rfl⟩
    · have k := (zer v h0 (hv v v1) f c hc).1 (hf v v1)
      have e1 : ((-1 : Int) : Rat) = -1 := by decide +kernel
      have e2 : ((1 : Int) : Rat) = 1 := rfl
      rcases h2 with rfl | rfl
      · simp only [Rat.intCast_neg, e1]; grind
      · simp only [e2]; grind
    · obtain ⟨n1, e1, _⟩ := lowO_pos a1
      obtain ⟨n2, e2, _⟩ := higO_pos b1
      have p1 := (abs_sgn (sOf x z v)).2.1 n1
      have p2 := (abs_sgn (sOf x z w)).2.1 n2
      rw [bndP_iff (by rw [e1]; exact p1) (by rw [e2]; exact p2) u]
      have j1 := ((lim_ful n1).1 ((ful_z hz hc).1 (hf v v1))).1 a a1
      have j2 := ((lim_ful n2).1 ((ful_z hz hc).1 (hf w w1))).2 b b1
      exact Rat.le_trans j1 j2
/-! Views of different tangents -/
def AlikeP (l : List SpT) : Prop := ∀ v ∈ l, ∀ w ∈ l, v.1.1 * w.1.2 = w.1.1 * v.1.2
theorem not_alike {l : List SpT} (h : ¬ AlikeP l) : ∃ v ∈ l, ∃ w ∈ l, v.1.1 * w.1.2 ≠ w.1.1 * v.1.2 := by
  by_cases k : ∃ v ∈ l, ∃ w ∈ l, v.1.1 * w.1.2 ≠ w.1.1 * v.1.2
  · exact k
  · refine absurd (fun v hv w hw => ?_) h
    by_cases e : v.1.1 * w.1.2 = w.1.1 * v.1.2
    · exact e
    · exact absurd ⟨v, hv, w, hw, e⟩ k
theorem foc_both {l : List SpT} (h : ¬ AlikeP l) : (∃ x ∈ focL l, x.1 < 0) ∧ (∃ x ∈ focL l, 0 < x.1) := by
  obtain ⟨v, hv, w, hw, e⟩ := not_alike h
  have m1 := mem_focL.2 ⟨v, hv, w, hw, rfl⟩
  have m2 := mem_focL.2 ⟨w, hw, v, hv, rfl⟩
  have e1 : (focB v w).1 = w.1.1 * v.1.2 - v.1.1 * w.1.2 := rfl
  have e2 : (focB w v).1 = v.1.1 * w.1.2 - w.1.1 * v.1.2 := rfl
  rcases Int.lt_or_gt_of_ne e with k | k
  · exact ⟨⟨_, m2, by omega⟩, ⟨_, m1, by omega⟩⟩
  · exact ⟨⟨_, m1, by omega⟩, ⟨_, m2, by omega⟩⟩
theorem foc_alike {l : List SpT} (h : AlikeP l) : ∀ x ∈ focL l, x.1 = 0 := by
  intro x hx
  obtain ⟨v, hv, w, hw, rfl⟩ := mem_focL.1 hx
  have e1 : (focB v w).1 = w.1.1 * v.1.2 - v.1.1 * w.1.2 := rfl
  have := h v hv w hw
  omega
theorem slope_eq {x z : Int} {v w a b : SpT} (ha : a ∈ lowO x z v) (hb : b ∈ higO x z w) : (bndP a b).1 = sgn (sOf x z w) * sgn (sOf x z v) * (z * z * (v.1.1 * w.1.2 - w.1.1 * v.1.2)) := by
  obtain ⟨n1, e1, e2, _⟩ := lowO_pos ha
  obtain ⟨n2, d1, d2, _⟩ := higO_pos hb
  have p1 := (abs_sgn (sOf x z v)).1
  have p2 := (abs_sgn (sOf x z w)).1
  show b.1.1 * a.1.2 * b.2.1 - a.1.1 * b.1.2 * a.2.1 = _
  rw [e1, e2, d1, d2]
  simp only []
  rw [p1, p2]
  have e : sOf x z v * w.1.2 - sOf x z w * v.1.2 = z * (v.1.1 * w.1.2 - w.1.1 * v.1.2) := by unfold sOf; grind
  generalize sgn (sOf x z v) = s at *
  generalize sgn (sOf x z w) = t at *
  generalize sOf x z v = p at *
  generalize sOf x z w = q at *
  have : t * (s * p) * (w.1.2 * z) - s * (t * q) * (v.1.2 * z) = t * s * (z * (p * w.1.2 - q * v.1.2)) := by grind
  rw [this, e]
  grind
theorem slope_ne {x z : Int} {v w a b : SpT} (hz : 0 < z) (ha : a ∈ lowO x z v) (hb : b ∈ higO x z w) (h : v.1.1 * w.1.2 ≠ w.1.1 * v.1.2) : (bndP a b).1 ≠ 0 := by
  rw [slope_eq ha hb]
  have n1 := (lowO_pos ha).1
  have n2 := (higO_pos hb).1
  have s1 : ∀ s : Int, s ≠ 0 → sgn s ≠ 0 := fun s hs => by unfold sgn; split <;> (try split) <;> omega
  exact Int.mul_ne_zero (Int.mul_ne_zero (s1 _ n2) (s1 _ n1)) (Int.mul_ne_zero (Int.mul_ne_zero (by omega) (by omega)) (by omega))
theorem see_both {l : List SpT} {x z : Int} (hz : 0 < z) (h : ¬ AlikeP l) : (∃ y ∈ seeL l x z, y.1 < 0) ∧ (∃ y ∈ seeL l x z, 0 < y.1) := by
  obtain ⟨v, hv, w, hw, e⟩ := not_alike h
  by_cases h1 : sOf x z v = 0
  · exact ⟨⟨_, mem_seeL.2 (.inl ⟨v, hv, h1, .inl rfl⟩), (by decide : (-1 : Int) < 0)⟩, ⟨_, mem_seeL.2 (.inl ⟨v, hv, h1, .inr rfl⟩), (by decide : (0 : Int) < 1)⟩⟩
  by_cases h2 : sOf x z w = 0
  · exact ⟨⟨_, mem_seeL.2 (.inl ⟨w, hw, h2, .inl rfl⟩), (by decide : (-1 : Int) < 0)⟩, ⟨_, mem_seeL.2 (.inl ⟨w, hw, h2, .inr rfl⟩), (by decide : (0 : Int) < 1)⟩⟩
  obtain ⟨a, ha⟩ := lowO_mem h1
  obtain ⟨b, hb⟩ := higO_mem h1
  obtain ⟨p, hp⟩ := lowO_mem h2
  obtain ⟨q, hq⟩ := higO_mem h2
  have m1 : bndP a q ∈ seeL l x z := mem_seeL.2 (.inr ⟨v, hv, a, ha, w, hw, q, hq, rfl⟩)
  have m2 : bndP p b ∈ seeL l x z := mem_seeL.2 (.inr ⟨w, hw, p, hp, v, hv, b, hb, rfl⟩)
  have n1 := slope_ne hz ha hq e
  have e1 := slope_eq ha hq
  have e2 := slope_eq hp hb
  have e3 : (bndP p b).1 = -(bndP a q).1 := by rw [e1, e2]; grind
  rcases Int.lt_or_gt_of_ne n1 with k | k
  · exact ⟨⟨_, m1, k⟩, ⟨_, m2, by omega⟩⟩
  · exact ⟨⟨_, m2, by omega⟩, ⟨_, m1, k⟩⟩
/-! What a camera is -/
theorem agr_iff {l : List SpT} (hv : ∀ v ∈ l, viewB v = true) : agrF l = true ↔ ∃ f c, Feas l f c := by
  have g1 := (narF_good (focL_ok hv)).any
  have g2 := (narF_good (seeL_ok (x := 0) (z := 1) (by omega) (by omega) hv)).any
  unfold agrF
  rw [Bool.and_eq_true, g1, g2]
  constructor
  · rintro ⟨_, u, hu⟩
    obtain ⟨f, c, _, h⟩ := (kept_see hv (by decide) u).1 hu
    exact ⟨f, c, h⟩
  · rintro ⟨f, c, h⟩
    refine ⟨⟨f, (kept_foc hv f).2 ⟨c, h⟩⟩, ⟨c, (kept_see hv (by decide) c).2 ⟨f, c, ?_, h⟩⟩⟩
    have e : ((0 : Int) : Rat) = 0 := rfl
    rw [e]
    grind
theorem foc_span {l : List SpT} (hv : ∀ v ∈ l, viewB v = true) {f0 c0 : Rat} (h0 : Feas l f0 c0) (ha : ¬ AlikeP l) :
    (narF (focL l)).2.2 = true ∧ spanB (narF (focL l)).1 = true ∧ ∀ f, InR (narF (focL l)).1 f ↔ ∃ c, Feas l f c := by
  have g := narF_good (focL_ok hv)
  have w := g.whole.2 ⟨⟨f0, (kept_foc hv f0).2 ⟨c0, h0⟩⟩, foc_both ha⟩
  obtain ⟨s1, s2, s3, s4, _⟩ := g.span w
  exact ⟨w, spanB_qv.2 ⟨s1, s2, s3⟩, fun f => (s4 f).symm.trans (kept_foc hv f)⟩
theorem see_span {l : List SpT} (hv : ∀ v ∈ l, viewB v = true) {x z : Int} (hx : -1000 ≤ x ∧ x ≤ 1000) (hz : 1 ≤ z ∧ z ≤ 1000) {f0 c0 : Rat} (h0 : Feas l f0 c0) (ha : ¬ AlikeP l) :
    (narF (seeL l x z)).2.2 = true ∧ spanB (narF (seeL l x z)).1 = true ∧ ∀ u, InR (narF (seeL l x z)).1 u ↔ ∃ f c, c * (z : Rat) = u * (z : Rat) - f * (x : Rat) ∧ Feas l f c := by
  have g := narF_good (seeL_ok hx hz hv)
  have z1 := cast_pos (show 0 < z by omega)
  have hk : Kept (seeL l x z) (f0 * (x : Rat) / (z : Rat) + c0) := (kept_see hv (by omega) _).2 ⟨f0, c0, by
    have : f0 * (x : Rat) / (z : Rat) * (z : Rat) = f0 * (x : Rat) := Rat.div_mul_cancel (by grind)
    grind, h0⟩
  have w := g.whole.2 ⟨⟨_, hk⟩, see_both (by omega) ha⟩
  obtain ⟨s1, s2, s3, s4, _⟩ := g.span w
  exact ⟨w, spanB_qv.2 ⟨s1, s2, s3⟩, fun u => (s4 u).symm.trans (kept_see hv (by omega) u)⟩
theorem foc_loose {l : List SpT} (hv : ∀ v ∈ l, viewB v = true) (ha : AlikeP l) : (narF (focL l)).2.2 = false := by
  have g := narF_good (focL_ok hv)
  rw [← Bool.not_eq_true]
  intro h
  obtain ⟨_, ⟨x, hx, h1⟩, _⟩ := g.whole.1 h
  have := foc_alike ha x hx
  omega
/-- What is fixed: contradicting, loose, or a span. -/
theorem fix_cases {l : List SpT} (hv : ∀ v ∈ l, viewB v = true) :
    ((¬ ∃ f c, Feas l f c) ∧ agrF l = false ∧ fixF l = (z4, 6)) ∨ ((∃ f c, Feas l f c) ∧ AlikeP l ∧ agrF l = true ∧ fixF l = (z4, 43)) ∨
      ((∃ f c, Feas l f c) ∧ ¬ AlikeP l ∧ agrF l = true ∧ fixF l = ((narF (focL l)).1, 0)) := by
  have ai := agr_iff hv
  by_cases h : ∃ f c, Feas l f c
  · have a := ai.2 h
    by_cases ha : AlikeP l
    · refine .inr (.inl ⟨h, ha, a, ?_⟩)
      unfold fixF
      rw [a, foc_loose hv ha]
      rfl
    · refine .inr (.inr ⟨h, ha, a, ?_⟩)
      obtain ⟨f, c, hf⟩ := h
      unfold fixF
      rw [a, (foc_span hv hf ha).1]
      rfl
  · have a : agrF l = false := by
      rw [← Bool.not_eq_true]
      exact fun k => h (ai.1 k)
    refine .inl ⟨h, a, ?_⟩
    unfold fixF
    rw [a]
    rfl
end Go.Proofs.Try.My
set_option maxRecDepth 100000
set_option maxHeartbeats 0
set_option linter.unusedVariables false
set_option linter.unusedSimpArgs false
namespace Go.Proofs.Try.My
open Go Go.Ev

/-! ### What the laws of views ask -/
theorem viewsE_of {l : List SpT} (h1 : l.length ≤ 12) (h2 : ∀ v ∈ l, viewB v = true) : viewsE l = 0 := viewsE_all h1 fun i hi => h2 _ (by
  simp only [List.getD, List.getElem?_eq_getElem hi, Option.getD_some]
  exact List.getElem_mem hi)
theorem viewsE_mem {l : List SpT} (h : viewsE l = 0) : l.length ≤ 12 ∧ ∀ v ∈ l, viewB v = true := ⟨(viewsE_ok h).1, views_mem (viewsE_ok h).2⟩
theorem Feas.sub {l m : List SpT} {f c : Rat} (h : Feas l f c) (hm : ∀ v ∈ m, v ∈ l) : Feas m f c := fun v hv => h v (hm v hv)
theorem agr_sub {l m : List SpT} (hl : ∀ v ∈ l, viewB v = true) (hm : ∀ v ∈ m, v ∈ l) (h : agrF l = true) : agrF m = true := by
  obtain ⟨f, c, k⟩ := (agr_iff hl).1 h
  exact (agr_iff fun v hv => hl v (hm v hv)).2 ⟨f, c, k.sub hm⟩
theorem take_sub {α : Type} {l : List α} {i j : Nat} (h : i ≤ j) : ∀ v ∈ l.take i, v ∈ l.take j := fun v hv => by
  have e : l.take i = (l.take j).take i := by rw [List.take_take, Nat.min_eq_left h]
  rw [e] at hv
  exact List.mem_of_mem_take hv
theorem badI_cases {l : List SpT} (hv : ∀ v ∈ l, viewB v = true) :
    (badI l = -1 ∧ ∀ j, agrF (l.take (j + 1)) = true) ∨ (∃ k, k < l.length ∧ badI l = (k : Int) ∧ (∀ j, j < k → agrF (l.take (j + 1)) = true) ∧ (∀ j, k ≤ j → agrF (l.take (j + 1)) = false)) := by
  have mono : ∀ i j, i ≤ j → agrF (l.take (j + 1)) = true → agrF (l.take (i + 1)) = true := fun i j hij h => agr_sub (fun v hv' => hv v (List.mem_of_mem_take hv')) (take_sub (by omega)) h
  by_cases h : ∃ k, k < l.length ∧ agrF (l.take (k + 1)) = false
  · right
    obtain ⟨n, hn⟩ : ∃ n, ∀ k, k < n → agrF (l.take (k + 1)) = true := ⟨0, fun k hk => absurd hk (Nat.not_lt_zero k)⟩
    have key : ∀ n, (∃ k, k < n ∧ agrF (l.take (k + 1)) = false ∧ ∀ j, j < k → agrF (l.take (j + 1)) = true) ∨ ∀ j, j < n → agrF (l.take (j + 1)) = true := by
      intro n
      induction n with
      | zero => exact .inr fun j hj => absurd hj (Nat.not_lt_zero j)
      | succ n ih =>
        rcases ih with ⟨k, k1, k2, k3⟩ | ih
        · exact .inl ⟨k, by omega, k2, k3⟩
        · cases e : agrF (l.take (n + 1))
          · exact .inl ⟨n, Nat.lt_succ_self n, e, ih⟩
          · refine .inr fun j hj => ?_
            by_cases e2 : j = n
            · subst e2; exact e
            · exact ih j (by omega)
    obtain ⟨m, m1, m2⟩ := h
    rcases key l.length with ⟨k, k1, k2, k3⟩ | ih
    · refine ⟨k, k1, badI_hit k1 k2 k3, k3, fun j hj => ?_⟩
      cases e : agrF (l.take (j + 1))
      · rfl
      · rw [mono k j hj e] at k2; cases k2
    · rw [ih m m1] at m2; cases m2
  · left
    have all : ∀ j, j < l.length → agrF (l.take (j + 1)) = true := fun j hj => by
      cases e : agrF (l.take (j + 1))
      · exact absurd ⟨j, hj, e⟩ h
      · rfl
    refine ⟨badI_none all, fun j => ?_⟩
    by_cases hj : j < l.length
    · exact all j hj
    · rw [List.take_of_length_le (by omega)]
      by_cases h0 : l.length = 0
      · have : l = [] := List.length_eq_zero_iff.1 h0
        subst this
        rfl
      · have := all (l.length - 1) (by omega)
        rw [List.take_of_length_le (by omega)] at this
        exact this
theorem cal_six {l : List SpT} (h : viewsE l = 0) : (calF l).2 = 6 ↔ agrF l = false := by
  have hc := fix_cases (viewsE_mem h).2
  unfold calF
  rw [if_pos h]
  rcases hc with ⟨_, a, e⟩ | ⟨_, _, a, e⟩ | ⟨_, _, a, e⟩ <;> rw [e, a] <;> simp
/-- What a camera of views is: its focal length and its centre. -/
theorem cal_ok {l : List SpT} (h : (calF l).2 = 0) : viewsE l = 0 ∧ (∃ f c, Feas l f c) ∧ ¬ AlikeP l ∧ agrF l = true ∧ calF l = (((narF (focL l)).1, (narF (seeL l 0 1)).1), 0) := by
  unfold calF at h ⊢
  by_cases hE : viewsE l = 0
  · rw [if_pos hE] at h ⊢
    rcases fix_cases (viewsE_mem hE).2 with ⟨_, a, e⟩ | ⟨_, _, a, e⟩ | ⟨h1, h2, a, e⟩
    · rw [e] at h; simp at h
    · rw [e] at h; simp at h
    · rw [e]; exact ⟨hE, h1, h2, a, rfl⟩
  · rw [if_neg hE] at h
    exact absurd h hE
theorem cal_of {l : List SpT} (h : viewsE l = 0) {f c : Rat} (hf : Feas l f c) : (AlikeP l ∧ calF l = ((z4, z4), 43)) ∨ (¬ AlikeP l ∧ calF l = (((narF (focL l)).1, (narF (seeL l 0 1)).1), 0)) := by
  unfold calF
  rw [if_pos h]
  rcases fix_cases (viewsE_mem h).2 with ⟨n, _, _⟩ | ⟨_, a, _, e⟩ | ⟨_, a, _, e⟩
  · exact absurd ⟨f, c, hf⟩ n
  · left; rw [e]; exact ⟨a, rfl⟩
  · right; rw [e]; exact ⟨a, rfl⟩
def argB (x z : Int) : Bool := withB x (-1000) 1000 && withB z 1 1000
theorem argB_iff {x z : Int} : argB x z = true ↔ (-1000 ≤ x ∧ x ≤ 1000) ∧ 1 ≤ z ∧ z ≤ 1000 := by
  simp only [argB, withB, Bool.and_eq_true, decide_eq_true_eq]
theorem ran_of {l : List SpT} (h : viewsE l = 0) {f c : Rat} (hf : Feas l f c) {x z : Int} : ranF l x z = if argB x z then (if (narF (focL l)).2.2 then ((narF (seeL l x z)).1, 0) else (z4, 43)) else (z4, 2) := by
  unfold ranF argB
  rw [if_pos h]
  split
  · rcases fix_cases (viewsE_mem h).2 with ⟨n, _, _⟩ | ⟨_, a, _, e⟩ | ⟨⟨f0, c0, hf0⟩, a, _, e⟩
    · exact absurd ⟨f, c, hf⟩ n
    · rw [e, foc_loose (viewsE_mem h).2 a]; rfl
    · rw [e, (foc_span (viewsE_mem h).2 hf0 a).1]; rfl
  · rfl
/-- The same views in another order have the same camera. -/
theorem alike_same {l m : List SpT} (h : ∀ v, v ∈ l ↔ v ∈ m) : AlikeP l ↔ AlikeP m := by
  constructor <;> intro a v hv w hw
  · exact a v ((h v).2 hv) w ((h w).2 hw)
  · exact a v ((h v).1 hv) w ((h w).1 hw)
theorem feas_same {l m : List SpT} (h : ∀ v, v ∈ l ↔ v ∈ m) (f c : Rat) : Feas l f c ↔ Feas m f c := ⟨fun k => k.sub fun v hv => (h v).2 hv, fun k => k.sub fun v hv => (h v).1 hv⟩
theorem cal_same {l m : List SpT} (hm : m.length ≤ 12) (h : ∀ v, v ∈ l ↔ v ∈ m) (h0 : (calF l).2 = 0) : calF m = calF l := by
  obtain ⟨hE, ⟨f, c, hf⟩, ha, _, e⟩ := cal_ok h0
  have vl := (viewsE_mem hE).2
  have vm : ∀ v ∈ m, viewB v = true := fun v hv => vl v ((h v).2 hv)
  have hf' := (feas_same h f c).1 hf
  have ha' : ¬ AlikeP m := fun k => ha ((alike_same h).2 k)
  rcases cal_of (viewsE_of hm vm) hf' with ⟨k, _⟩ | ⟨_, e'⟩
  · exact absurd k ha'
  · rw [e, e']
    obtain ⟨_, a1, a2⟩ := foc_span vl hf ha
    obtain ⟨_, b1, b2⟩ := foc_span vm hf' ha'
    obtain ⟨_, c1, c2⟩ := see_span (x := 0) (z := 1) vl (by omega) (by omega) hf ha
    obtain ⟨_, d1, d2⟩ := see_span (x := 0) (z := 1) vm (by omega) (by omega) hf' ha'
    rw [span_unique b1 a1 fun u => ?_, span_unique d1 c1 fun u => ?_]
    · rw [c2, d2]
      simp only [feas_same h]
    · rw [a2, b2]
      simp only [feas_same h]
theorem InR.le {s t : SpT} (hs : spanB s = true) (h : ∀ u, InR s u → InR t u) : qv t.1 ≤ qv s.1 ∧ qv s.2 ≤ qv t.2 := by
  obtain ⟨_, _, s3⟩ := spanB_qv.1 hs
  exact ⟨(h _ ⟨Rat.le_refl, s3⟩).1, (h _ ⟨s3, Rat.le_refl⟩).2⟩
/-- Fewer views. -/
theorem cal_less {l m : List SpT} (hm : m.length ≤ 12) (h : ∀ v ∈ m, v ∈ l) (h0 : (calF l).2 = 0) :
    (calF m).2 = 43 ∨ ((calF m).2 = 0 ∧ insB (calF l).1.1 (calF m).1.1 = true ∧ insB (calF l).1.2 (calF m).1.2 = true ∧
      ∀ x z, argB x z = true → (ranF l x z).2 = 0 ∧ (ranF m x z).2 = 0 ∧ insB (ranF l x z).1 (ranF m x z).1 = true) := by
  obtain ⟨hE, ⟨f, c, hf⟩, ha, _, e⟩ := cal_ok h0
  have vl := (viewsE_mem hE).2
  have vm : ∀ v ∈ m, viewB v = true := fun v hv => vl v (h v hv)
  have hf' := hf.sub h
  rcases cal_of (viewsE_of hm vm) hf' with ⟨_, k⟩ | ⟨ha', e'⟩
  · left; rw [k]
  · right
    rw [e, e']
    obtain ⟨w1, a1, a2⟩ := foc_span vl hf ha
    obtain ⟨w2, b1, b2⟩ := foc_span vm hf' ha'
    have ins : ∀ {s t : SpT}, spanB s = true → spanB t = true → (∀ u, InR s u → InR t u) → insB s t = true := fun hs ht k => insB_true hs ht (InR.le hs k).1 (InR.le hs k).2
    have see : ∀ x z : Int, (-1000 ≤ x ∧ x ≤ 1000) → (1 ≤ z ∧ z ≤ 1000) → insB (narF (seeL l x z)).1 (narF (seeL m x z)).1 = true := fun x z hx hz => by
      obtain ⟨_, c1, c2⟩ := see_span (x := x) (z := z) vl hx hz hf ha
      obtain ⟨_, d1, d2⟩ := see_span (x := x) (z := z) vm hx hz hf' ha'
      refine ins c1 d1 fun u hu => ?_
      rw [c2] at hu
      rw [d2]
      obtain ⟨f, c, k1, k2⟩ := hu
      exact ⟨f, c, k1, k2.sub h⟩
    refine ⟨rfl, ins a1 b1 fun u hu => ?_, see 0 1 (by omega) (by omega), fun x z hxz => ?_⟩
    · rw [a2] at hu
      rw [b2]
      obtain ⟨c, k⟩ := hu
      exact ⟨c, k.sub h⟩
    · have hxz' := argB_iff.1 hxz
      rw [ran_of hE hf, ran_of (viewsE_of hm vm) hf', if_pos hxz, if_pos hxz, w1, w2, if_pos rfl, if_pos rfl]
      exact ⟨rfl, rfl, see x z hxz'.1 hxz'.2⟩
/-- What fulfils all views is in the camera. -/
theorem cal_true {l : List SpT} (hE : viewsE l = 0) {f c : Rat} (hf : Feas l f c) (ha : ¬ AlikeP l) :
    (calF l).2 = 0 ∧ spanB (calF l).1.1 = true ∧ InR (calF l).1.1 f ∧ spanB (calF l).1.2 = true ∧ InR (calF l).1.2 c ∧ badI l = -1 ∧
      ∀ x z, argB x z = true → (ranF l x z).2 = 0 ∧ spanB (ranF l x z).1 = true ∧ InR (ranF l x z).1 (f * (x : Rat) / (z : Rat) + c) := by
  have vl := (viewsE_mem hE).2
  obtain ⟨w1, a1, a2⟩ := foc_span vl hf ha
  have see : ∀ x z : Int, (-1000 ≤ x ∧ x ≤ 1000) → (1 ≤ z ∧ z ≤ 1000) → spanB (narF (seeL l x z)).1 = true ∧ InR (narF (seeL l x z)).1 (f * (x : Rat) / (z : Rat) + c) := fun x z hx hz => by
    obtain ⟨_, c1, c2⟩ := see_span (x := x) (z := z) vl hx hz hf ha
    refine ⟨c1, (c2 _).2 ⟨f, c, ?_, hf⟩⟩
    have z1 := cast_pos (show 0 < z by omega)
    have : f * (x : Rat) / (z : Rat) * (z : Rat) = f * (x : Rat) := Rat.div_mul_cancel (by grind)
    grind
  rcases cal_of hE hf with ⟨k, _⟩ | ⟨_, e⟩
  · exact absurd k ha
  rw [e]
  have s01 := see 0 1 (by omega) (by omega)
  have e0 : f * ((0 : Int) : Rat) / ((1 : Int) : Rat) + c = c := by
    have e1 : ((0 : Int) : Rat) = 0 := rfl
    rw [e1, Rat.mul_zero]
    have : (0 : Rat) / ((1 : Int) : Rat) = 0 := by decide +kernel
    rw [this]
    grind
  rw [e0] at s01
  refine ⟨rfl, a1, (a2 f).2 ⟨c, hf⟩, s01.1, s01.2, ?_, fun x z hxz => ?_⟩
  · rcases badI_cases vl with ⟨k, _⟩ | ⟨k, k1, _, _, k4⟩
    · exact k
    · have hh := (agr_iff vl).2 ⟨f, c, hf⟩
      have := k4 (l.length - 1) (by omega)
      rw [List.take_of_length_le (by omega)] at this
      rw [hh] at this; cases this
  · have hxz' := argB_iff.1 hxz
    rw [ran_of hE hf, if_pos hxz, w1, if_pos rfl]
    exact ⟨rfl, see x z hxz'.1 hxz'.2⟩
/-- One more view. -/
theorem tight_law {l : List SpT} {v : SpT} (hl : l.length ≤ 11) (hv : viewB v = true) (h0 : (ranF l v.1.1 v.1.2).2 = 0) :
    viewsE (l ++ [v]) = 0 ∧ spanB (ranF l v.1.1 v.1.2).1 = true ∧
      ((badI (l ++ [v]) = (l.length : Int) ∧ ranF (l ++ [v]) v.1.1 v.1.2 = (z4, 6) ∧ (meetF (ranF l v.1.1 v.1.2).1 ((v.2.1, 1), (v.2.2, 1))).2 = 6) ∨
       (badI (l ++ [v]) = -1 ∧ (meetF (ranF l v.1.1 v.1.2).1 ((v.2.1, 1), (v.2.2, 1))).2 = 0 ∧ ranF (l ++ [v]) v.1.1 v.1.2 = meetF (ranF l v.1.1 v.1.2).1 ((v.2.1, 1), (v.2.2, 1)))) := by
  have hv' := (viewB_iff v).1 hv
  have hE : viewsE l = 0 := by
    unfold ranF at h0
    by_cases h : viewsE l = 0
    · exact h
    · rw [if_neg h] at h0; exact absurd h0 h
  have vl := (viewsE_mem hE).2
  have hargs : argB v.1.1 v.1.2 = true := argB_iff.2 ⟨by omega, by omega⟩
  obtain ⟨⟨f0, c0, hf0⟩, ha⟩ : (∃ f c, Feas l f c) ∧ ¬ AlikeP l := by
    unfold ranF at h0
    rw [if_pos hE, if_pos (show (withB v.1.1 (-1000) 1000 && withB v.1.2 1 1000) = true from hargs)] at h0
    rcases fix_cases vl with ⟨_, _, e⟩ | ⟨_, _, _, e⟩ | ⟨h1, h2, _, _⟩
    · rw [e] at h0; simp at h0
    · rw [e] at h0; simp at h0
    · exact ⟨h1, h2⟩
  obtain ⟨w1, r1, r2⟩ := see_span (x := v.1.1) (z := v.1.2) vl (by omega) (by omega) hf0 ha
  obtain ⟨fw, _, _⟩ := foc_span vl hf0 ha
  have er : ranF l v.1.1 v.1.2 = ((narF (seeL l v.1.1 v.1.2)).1, 0) := by rw [ran_of hE hf0, if_pos hargs, fw]; rfl
  have vm : ∀ w ∈ l ++ [v], viewB w = true := fun w hw => by
    rcases List.mem_append.1 hw with k | k
    · exact vl w k
    · rw [List.mem_singleton.1 k]; exact hv
  have hEm : viewsE (l ++ [v]) = 0 := viewsE_of (by rw [List.length_append]; simp; omega) vm
  have hz := zpos hv
  have sub : ∀ w ∈ l, w ∈ l ++ [v] := fun w hw => List.mem_append_left _ hw
  have ham : ¬ AlikeP (l ++ [v]) := fun k => ha fun a h1 b h2 => k a (sub a h1) b (sub b h2)
  -- a place of the tangent of v is one that v allows
  have key : ∀ u f c : Rat, c * (v.1.2 : Rat) = u * (v.1.2 : Rat) - f * (v.1.1 : Rat) → (Feas (l ++ [v]) f c ↔ Feas l f c ∧ (v.2.1 : Rat) ≤ u ∧ u ≤ (v.2.2 : Rat)) := by
    intro u f c hc
    have e : f * (v.1.1 : Rat) + c * (v.1.2 : Rat) = u * (v.1.2 : Rat) := by grind
    constructor
    · intro h
      obtain ⟨k1, k2⟩ := h v (List.mem_append_right _ (List.mem_singleton.2 rfl))
      rw [e] at k1 k2
      exact ⟨h.sub sub, rat_le_of_mul hz k1, rat_le_of_mul hz k2⟩
    · rintro ⟨h, k1, k2⟩ w hw
      rcases List.mem_append.1 hw with k | k
      · exact h w k
      · rw [List.mem_singleton.1 k]
        refine ⟨?_, ?_⟩
        · rw [e]; exact Rat.mul_le_mul_of_nonneg_right k1 (Rat.le_of_lt hz)
        · rw [e]; exact Rat.mul_le_mul_of_nonneg_right k2 (Rat.le_of_lt hz)
  have some_c : ∀ u f : Rat, (u - f * (v.1.1 : Rat) / (v.1.2 : Rat)) * (v.1.2 : Rat) = u * (v.1.2 : Rat) - f * (v.1.1 : Rat) := fun u f => by
    have : f * (v.1.1 : Rat) / (v.1.2 : Rat) * (v.1.2 : Rat) = f * (v.1.1 : Rat) := Rat.div_mul_cancel (by grind)
    grind
  have feasm : (∃ f c, Feas (l ++ [v]) f c) ↔ ∃ u, InR (narF (seeL l v.1.1 v.1.2)).1 u ∧ (v.2.1 : Rat) ≤ u ∧ u ≤ (v.2.2 : Rat) := by
    constructor
    · rintro ⟨f, c, h⟩
      have hc : c * (v.1.2 : Rat) = (f * (v.1.1 : Rat) / (v.1.2 : Rat) + c) * (v.1.2 : Rat) - f * (v.1.1 : Rat) := by
        have : f * (v.1.1 : Rat) / (v.1.2 : Rat) * (v.1.2 : Rat) = f * (v.1.1 : Rat) := Rat.div_mul_cancel (by grind)
        grind
      obtain ⟨k1, k2⟩ := (key _ f c hc).1 h
      exact ⟨_, (r2 _).2 ⟨f, c, hc, k1⟩, k2⟩
    · rintro ⟨u, hu, k⟩
      obtain ⟨f, c, hc, h⟩ := (r2 u).1 hu
      exact ⟨f, c, (key u f c hc).2 ⟨h, k⟩⟩
  have one : ∀ n : Int, -4096 ≤ n → n ≤ 4096 → validB (n, 1) = true ∧ qv (n, 1) = (n : Rat) := fun n h1 h2 => by
    refine ⟨?_, ?_⟩
    · rw [validB_iff]
      simp only []
      refine ⟨by omega, by omega, by omega, by omega, ?_⟩
      show Nat.gcd n.natAbs 1 = 1
      simp
    · unfold qv
      have : ((1 : Int) : Rat) = 1 := rfl
      simp only [this]
      grind
  obtain ⟨o1, q1⟩ := one v.2.1 (by omega) (by omega)
  obtain ⟨o2, q2⟩ := one v.2.2 (by omega) (by omega)
  have sv : spanB ((v.2.1, 1), (v.2.2, 1)) = true := spanB_qv.2 ⟨o1, o2, by
    show qv (v.2.1, 1) ≤ qv (v.2.2, 1)
    rw [q1, q2]; exact Rat.intCast_le_intCast.2 (by omega)⟩
  have inv : ∀ u, InR ((v.2.1, 1), (v.2.2, 1)) u ↔ (v.2.1 : Rat) ≤ u ∧ u ≤ (v.2.2 : Rat) := fun u => by
    unfold InR
    simp only [q1, q2]
  have meet := meet_law r1 sv
  have bad : badI (l ++ [v]) = (if agrF (l ++ [v]) then -1 else (l.length : Int)) := by
    have al : agrF l = true := (agr_iff vl).2 ⟨f0, c0, hf0⟩
    have tk : ∀ j, j ≤ l.length → agrF ((l ++ [v]).take j) = true := fun j hj => agr_sub vl (fun w hw => by
      rw [List.take_append_of_le_length hj] at hw
      exact List.mem_of_mem_take hw) al
    have full : (l ++ [v]).take (l.length + 1) = l ++ [v] := List.take_of_length_le (by rw [List.length_append]; simp)
    cases e : agrF (l ++ [v])
    · rw [if_neg (by decide)]
      exact badI_hit (k := l.length) (by rw [List.length_append]; simp) (by rw [full]; exact e) fun j hj => tk (j + 1) (by omega)
    · rw [if_pos rfl]
      refine badI_none fun j hj => ?_
      by_cases h : j < l.length
      · exact tk (j + 1) (by omega)
      · rw [List.length_append] at hj
        simp at hj
        have : j = l.length := by omega
        subst this
        rw [full]; exact e
  rw [er]
  refine ⟨hEm, r1, ?_⟩
  by_cases hm : ∃ u, InR (narF (seeL l v.1.1 v.1.2)).1 u ∧ InR ((v.2.1, 1), (v.2.2, 1)) u
  · right
    obtain ⟨m1, m2, m3⟩ := meet.1 hm
    have hfm : ∃ f c, Feas (l ++ [v]) f c := feasm.2 (by obtain ⟨u, a, b⟩ := hm; exact ⟨u, a, (inv u).1 b⟩)
    rw [bad, (agr_iff vm).2 hfm, if_pos rfl]
    obtain ⟨f, c, hf⟩ := hfm
    obtain ⟨fw2, _, _⟩ := foc_span vm hf ham
    obtain ⟨_, d1, d2⟩ := see_span (x := v.1.1) (z := v.1.2) vm (by omega) (by omega) hf ham
    refine ⟨rfl, m1, ?_⟩
    rw [ran_of hEm hf, if_pos hargs, fw2, if_pos rfl]
    refine Prod.ext (span_unique d1 m2 fun u => ?_) m1.symm
    rw [d2, m3, r2, inv]
    constructor
    · rintro ⟨f, c, hc, h⟩
      obtain ⟨k1, k2⟩ := (key u f c hc).1 h
      exact ⟨⟨f, c, hc, k1⟩, k2⟩
    · rintro ⟨⟨f, c, hc, h⟩, k⟩
      exact ⟨f, c, hc, (key u f c hc).2 ⟨h, k⟩⟩
  · left
    have hfm : ¬ ∃ f c, Feas (l ++ [v]) f c := fun k => hm (by obtain ⟨u, a, b⟩ := feasm.1 k; exact ⟨u, a, (inv u).2 b⟩)
    have ag : agrF (l ++ [v]) = false := by
      rw [← Bool.not_eq_true]
      exact fun k => hfm ((agr_iff vm).1 k)
    rw [bad, ag, if_neg (by decide)]
    refine ⟨rfl, ?_, meet.2 hm⟩
    unfold ranF
    rw [if_pos hEm, if_pos (show (withB v.1.1 (-1000) 1000 && withB v.1.2 1 1000) = true from hargs)]
    rcases fix_cases vm with ⟨_, _, e⟩ | ⟨k, _⟩ | ⟨k, _⟩
    · rw [e]; rfl
    · exact absurd k hfm
    · exact absurd k hfm
end Go.Proofs.Try.My
