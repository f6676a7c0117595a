/- A helper text: contracts of functions of the program, and plain lemmas. -/
import Derived.Test.YtiimhccemdcnpaaMyPvA
import Derived.Test.YtiimhccemdcnpaaMySi
set_option maxRecDepth 100000
set_option maxHeartbeats 0
set_option linter.unusedVariables false
set_option linter.unusedSimpArgs false
namespace Go.Proofs.Try.My
open Go Go.Ev

/-! ### Corners -/
/-- A focal length and a centre with one denominator. -/
abbrev PrT : Type := (Int × Int) × Int
abbrev eP3 (p : PrT) : List AV := [i64 p.1.1, i64 p.1.2, i64 p.2]
abbrev z3 : PrT := ((0, 0), 0)
def pFo (p : PrT) : Rat := (p.1.1 : Rat) / (p.2 : Rat)
def pCe (p : PrT) : Rat := (p.1.2 : Rat) / (p.2 : Rat)
def fulB (p : PrT) (v : SpT) : Bool := decide (v.2.1 * p.2 * v.1.2 ≤ p.1.1 * v.1.1 + p.1.2 * v.1.2) && decide (p.1.1 * v.1.1 + p.1.2 * v.1.2 ≤ v.2.2 * p.2 * v.1.2)
theorem fulB_iff {p : PrT} (hp : 0 < p.2) (v : SpT) : fulB p v = true ↔ Ful (pFo p) (pCe p) v := by
  have z1 := cast_pos hp
  unfold fulB Ful pFo pCe
  rw [Bool.and_eq_true, decide_eq_true_eq, decide_eq_true_eq, ← Rat.intCast_le_intCast, ← Rat.intCast_le_intCast]
  simp only [Rat.intCast_add, Rat.intCast_mul]
  generalize (p.1.1 : Rat) = N at *
  generalize (p.1.2 : Rat) = M at *
  generalize (p.2 : Rat) = D at *
  generalize (v.1.1 : Rat) = vx at *
  generalize (v.1.2 : Rat) = vz at *
  generalize (v.2.1 : Rat) = lo at *
  generalize (v.2.2 : Rat) = hi at *
  have e1 : N / D * D = N := Rat.div_mul_cancel (by grind)
  have e2 : M / D * D = M := Rat.div_mul_cancel (by grind)
  generalize N / D = F at *
  generalize M / D = C at *
  have e3 : (F * vx + C * vz) * D = N * vx + M * vz := by rw [← e1, ← e2]; grind
  clear hp e1 e2
  constructor
  · rintro ⟨h1, h2⟩
    constructor <;> (refine rat_le_of_mul z1 ?_; rw [e3]; grind)
  · rintro ⟨h1, h2⟩
    have k1 := Rat.mul_le_mul_of_nonneg_right h1 (Rat.le_of_lt z1)
    have k2 := Rat.mul_le_mul_of_nonneg_right h2 (Rat.le_of_lt z1)
    rw [e3] at k1 k2
    constructor <;> grind
theorem allB_iff {p : PrT} (hp : 0 < p.2) (l : List SpT) : l.all (fulB p) = true ↔ Feas l (pFo p) (pCe p) := by
  rw [List.all_eq_true]
  exact ⟨fun h v hv => (fulB_iff hp v).1 (h v hv), fun h v hv => (fulB_iff hp v).2 (h v hv)⟩
def slopeP (v w : SpT) : Int := v.1.1 * w.1.2 - w.1.1 * v.1.2
def metP (v w : SpT) (a b : Int) : PrT :=
  if slopeP v w < 0 then ((-((a - b) * v.1.2 * w.1.2), -(a * slopeP v w - (a - b) * w.1.2 * v.1.1)), -slopeP v w)
  else (((a - b) * v.1.2 * w.1.2, a * slopeP v w - (a - b) * w.1.2 * v.1.1), slopeP v w)
theorem metP_val {v w : SpT} (a b : Int) (h : slopeP v w ≠ 0) : 0 < (metP v w a b).2 ∧ pFo (metP v w a b) = (((a - b) * v.1.2 * w.1.2 : Int) : Rat) / (slopeP v w : Rat) ∧ pCe (metP v w a b) = ((a * slopeP v w - (a - b) * w.1.2 * v.1.1 : Int) : Rat) / (slopeP v w : Rat) := by
  unfold metP pFo pCe
  have n1 := cast_ne h
  split
  · refine ⟨by simp only []; omega, ?_, ?_⟩
    · simp only [Rat.intCast_neg]
      generalize (((a - b) * v.1.2 * w.1.2 : Int) : Rat) = X
      grind
    · simp only [Rat.intCast_neg]
      generalize ((a * slopeP v w - (a - b) * w.1.2 * v.1.1 : Int) : Rat) = X
      grind
  · exact ⟨by simp only []; omega, rfl, rfl⟩
/-- Where two views of different tangents are seen at two places. -/
theorem met_solve {v w : SpT} {a b : Int} {f c : Rat} (hv : viewB v = true) (hw : viewB w = true) (h : slopeP v w ≠ 0) (h1 : f * (v.1.1 : Rat) + c * (v.1.2 : Rat) = (a : Rat) * (v.1.2 : Rat)) (h2 : f * (w.1.1 : Rat) + c * (w.1.2 : Rat) = (b : Rat) * (w.1.2 : Rat)) :
    pFo (metP v w a b) = f ∧ pCe (metP v w a b) = c := by
  obtain ⟨_, e1, e2⟩ := metP_val a b h
  have n1 := cast_ne h
  have z1 := zpos hv
  have es : (slopeP v w : Rat) = (v.1.1 : Rat) * (w.1.2 : Rat) - (w.1.1 : Rat) * (v.1.2 : Rat) := by unfold slopeP; simp only [Rat.intCast_sub, Rat.intCast_mul]
  have k1 : ((((a - b) * v.1.2 * w.1.2 : Int) : Rat)) = f * (slopeP v w : Rat) := by
    rw [es]
    simp only [Rat.intCast_sub, Rat.intCast_mul]
    have j1 : (f * (v.1.1 : Rat) + c * (v.1.2 : Rat)) * (w.1.2 : Rat) = (a : Rat) * (v.1.2 : Rat) * (w.1.2 : Rat) := by rw [h1]
    have j2 : (f * (w.1.1 : Rat) + c * (w.1.2 : Rat)) * (v.1.2 : Rat) = (b : Rat) * (w.1.2 : Rat) * (v.1.2 : Rat) := by rw [h2]
    grind
  have k2 : (((a * slopeP v w - (a - b) * w.1.2 * v.1.1 : Int) : Rat)) = c * (slopeP v w : Rat) := by
    have nz : (v.1.2 : Rat) ≠ 0 := by grind
    refine rat_eq_of_mul nz ?_
    have k1' : ((a : Rat) - (b : Rat)) * (v.1.2 : Rat) * (w.1.2 : Rat) = f * (slopeP v w : Rat) := by
      rw [← k1]; simp only [Rat.intCast_sub, Rat.intCast_mul]
    simp only [Rat.intCast_sub, Rat.intCast_mul]
    generalize (slopeP v w : Rat) = S at *
    have j1 : (f * (v.1.1 : Rat) + c * (v.1.2 : Rat)) * S = (a : Rat) * (v.1.2 : Rat) * S := by rw [h1]
    have j2 : ((a : Rat) - (b : Rat)) * (v.1.2 : Rat) * (w.1.2 : Rat) * (v.1.1 : Rat) = f * S * (v.1.1 : Rat) := by rw [k1']
    grind
  rw [e1, e2, k1, k2]
  constructor
  · have : f * (slopeP v w : Rat) / (slopeP v w : Rat) = f := by grind
    exact this
  · have : c * (slopeP v w : Rat) / (slopeP v w : Rat) = c := by grind
    exact this
def fourP (v w : SpT) : List PrT := [metP v w v.2.1 w.2.1, metP v w v.2.1 w.2.2, metP v w v.2.2 w.2.1, metP v w v.2.2 w.2.2]
/-- The corners that two views make. -/
def corO (l : List SpT) (v w : SpT) : List PrT := if v.1.1 * w.1.2 = w.1.1 * v.1.2 then [] else (fourP v w).filter fun p => l.all (fulB p)
def corI (l : List SpT) (i : Nat) : List PrT := (List.range i).flatMap fun k => corO l (l.getD i z4) (l.getD k z4)
def corL (l : List SpT) : List PrT := (List.range l.length).flatMap (corI l)
theorem corL_mem {l : List SpT} {p : PrT} : p ∈ corL l ↔ ∃ i, i < l.length ∧ ∃ k, k < i ∧ p ∈ corO l (l.getD i z4) (l.getD k z4) := by
  unfold corL corI
  simp only [List.mem_flatMap, List.mem_range]
theorem corO_mem {l : List SpT} {v w : SpT} {p : PrT} : p ∈ corO l v w ↔ slopeP v w ≠ 0 ∧ p ∈ fourP v w ∧ l.all (fulB p) = true := by
  unfold corO slopeP
  split
  · rename_i h
    constructor
    · intro k; cases k
    · rintro ⟨k, _⟩; omega
  · rename_i h
    rw [List.mem_filter]
    constructor
    · exact fun k => ⟨by omega, k⟩
    · exact fun k => k.2
theorem four_mem {v w : SpT} {p : PrT} (h : p ∈ fourP v w) : ∃ a b, p = metP v w a b := by
  unfold fourP at h
  simp only [List.mem_cons, List.not_mem_nil, or_false] at h
  rcases h with rfl | rfl | rfl | rfl <;> exact ⟨_, _, rfl⟩
theorem four_of {v w : SpT} {a b : Int} (ha : a = v.2.1 ∨ a = v.2.2) (hb : b = w.2.1 ∨ b = w.2.2) : metP v w a b ∈ fourP v w := by
  unfold fourP
  simp only [List.mem_cons, List.not_mem_nil, or_false]
  rcases ha with rfl | rfl <;> rcases hb with rfl | rfl <;> simp
theorem corL_ok {l : List SpT} {p : PrT} (h : p ∈ corL l) : 0 < p.2 ∧ Feas l (pFo p) (pCe p) := by
  obtain ⟨i, _, k, _, h⟩ := corL_mem.1 h
  obtain ⟨h1, h2, h3⟩ := corO_mem.1 h
  obtain ⟨a, b, rfl⟩ := four_mem h2
  have := (metP_val a b h1).1
  exact ⟨this, (allB_iff this l).1 h3⟩
theorem at_mem {l : List SpT} {v : SpT} (h : v ∈ l) : ∃ i, i < l.length ∧ l.getD i z4 = v := by
  obtain ⟨i, hi, rfl⟩ := List.getElem_of_mem h
  exact ⟨i, hi, by simp [List.getD, List.getElem?_eq_getElem hi]⟩
/-- A pair at which two views of different tangents are seen at an end is a corner. -/
theorem cor_of {l : List SpT} (hl : ∀ v ∈ l, viewB v = true) {v w : SpT} (hv : v ∈ l) (hw : w ∈ l) (hs : slopeP v w ≠ 0) {a b : Int} (ha : a = v.2.1 ∨ a = v.2.2) (hb : b = w.2.1 ∨ b = w.2.2) {f c : Rat} (hf : Feas l f c)
    (h1 : f * (v.1.1 : Rat) + c * (v.1.2 : Rat) = (a : Rat) * (v.1.2 : Rat)) (h2 : f * (w.1.1 : Rat) + c * (w.1.2 : Rat) = (b : Rat) * (w.1.2 : Rat)) : ∃ p ∈ corL l, pFo p = f ∧ pCe p = c := by
  have hs2 : slopeP w v ≠ 0 := by unfold slopeP at hs ⊢; omega
  have key : ∀ {v w : SpT} {a b : Int} {i k : Nat}, viewB v = true → viewB w = true → slopeP v w ≠ 0 → (a = v.2.1 ∨ a = v.2.2) → (b = w.2.1 ∨ b = w.2.2) → f * (v.1.1 : Rat) + c * (v.1.2 : Rat) = (a : Rat) * (v.1.2 : Rat) → f * (w.1.1 : Rat) + c * (w.1.2 : Rat) = (b : Rat) * (w.1.2 : Rat) →
      i < l.length → k < i → l.getD i z4 = v → l.getD k z4 = w → ∃ p ∈ corL l, pFo p = f ∧ pCe p = c := by
    intro v w a b i k bv bw hs ha hb h1 h2 hi hk ei ek
    obtain ⟨e1, e2⟩ := met_solve bv bw hs h1 h2
    refine ⟨metP v w a b, corL_mem.2 ⟨i, hi, k, hk, ?_⟩, e1, e2⟩
    rw [ei, ek]
    refine corO_mem.2 ⟨hs, four_of ha hb, ?_⟩
    rw [allB_iff (metP_val a b hs).1, e1, e2]
    exact hf
  obtain ⟨i, hi, ei⟩ := at_mem hv
  obtain ⟨k, hk, ek⟩ := at_mem hw
  rcases Nat.lt_trichotomy k i with h | h | h
  · exact key (hl v hv) (hl w hw) hs ha hb h1 h2 hi h ei ek
  · subst h
    rw [ei] at ek
    subst ek
    unfold slopeP at hs
    omega
  · exact key (hl w hw) (hl v hv) hs2 hb ha h2 h1 hk h ek ei
/-- Each end of the span of focal lengths is that of a corner. -/
theorem cor_foc {l : List SpT} (hl : ∀ v ∈ l, viewB v = true) {x : Int × Int} (hx : x ∈ focL l) (h0 : x.1 ≠ 0) {f c : Rat} (hf : Feas l f c) (he : f = qX x) : ∃ p ∈ corL l, pFo p = f ∧ pCe p = c := by
  obtain ⟨v, hv, w, hw, rfl⟩ := mem_focL.1 hx
  have n0 := cast_ne h0
  have e : f * ((focB v w).1 : Rat) = ((focB v w).2 : Rat) := by
    rw [he]; unfold qX
    exact Rat.div_mul_cancel n0
  rw [(focB_cast v w).1, (focB_cast v w).2] at e
  have z1 := zpos (hl v hv)
  have z2 := zpos (hl w hw)
  have hs : slopeP v w ≠ 0 := by
    have : (focB v w).1 = w.1.1 * v.1.2 - v.1.1 * w.1.2 := rfl
    unfold slopeP; omega
  obtain ⟨v1, _⟩ := hf v hv
  obtain ⟨_, w2⟩ := hf w hw
  have k1 := Rat.mul_le_mul_of_nonneg_right v1 (Rat.le_of_lt z2)
  have k2 := Rat.mul_le_mul_of_nonneg_right w2 (Rat.le_of_lt z1)
  refine cor_of hl hv hw hs (a := v.2.1) (b := w.2.2) (.inl rfl) (.inr rfl) hf ?_ ?_
  · refine rat_eq_of_mul (show (w.1.2 : Rat) ≠ 0 by grind) ?_
    grind
  · refine rat_eq_of_mul (show (v.1.2 : Rat) ≠ 0 by grind) ?_
    grind
/-- A limit that is reached is a view that is seen at an end. -/
theorem lim_tight {x z : Int} {v a : SpT} {f c u : Rat} (hz : 0 < z) (hv : viewB v = true) (hc : c * (z : Rat) = u * (z : Rat) - f * (x : Rat)) (ha : a ∈ lowO x z v ∨ a ∈ higO x z v) (he : limV a u = f) :
    ∃ b, (b = v.2.1 ∨ b = v.2.2) ∧ f * (v.1.1 : Rat) + c * (v.1.2 : Rat) = (b : Rat) * (v.1.2 : Rat) := by
  have z1 := cast_pos hz
  have key : ∀ b : Int, ((b : Rat) - u) * ((v.1.2 : Rat) * (z : Rat)) = f * (sOf x z v : Rat) → f * (v.1.1 : Rat) + c * (v.1.2 : Rat) = (b : Rat) * (v.1.2 : Rat) := fun b h => by
    have es : (sOf x z v : Rat) = (v.1.1 : Rat) * (z : Rat) - (x : Rat) * (v.1.2 : Rat) := by unfold sOf; simp only [Rat.intCast_sub, Rat.intCast_mul]
    rw [es] at h
    refine rat_eq_of_mul (show (z : Rat) ≠ 0 by grind) ?_
    have : c * (z : Rat) * (v.1.2 : Rat) = (u * (z : Rat) - f * (x : Rat)) * (v.1.2 : Rat) := by rw [hc]
    grind
  have form : ∃ b, (b = v.2.1 ∨ b = v.2.2) ∧ sOf x z v ≠ 0 ∧ a.1 = (sgn (sOf x z v), absI (sOf x z v)) ∧ a.2.1 = v.1.2 * z ∧ a.2.2 = b := by
    rcases ha with ha | ha
    · obtain ⟨h0, e1, e2, e3⟩ := lowO_pos ha
      split at e3
      · exact ⟨_, .inl rfl, h0, e1, e2, e3⟩
      · exact ⟨_, .inr rfl, h0, e1, e2, e3⟩
    · obtain ⟨h0, e1, e2, e3⟩ := higO_pos ha
      split at e3
      · exact ⟨_, .inr rfl, h0, e1, e2, e3⟩
      · exact ⟨_, .inl rfl, h0, e1, e2, e3⟩
  obtain ⟨b, hb, h0, e1, e2, e3⟩ := form
  refine ⟨b, hb, key b ?_⟩
  obtain ⟨k1, k2, k3, k4⟩ := abs_sgn (sOf x z v)
  have k2 := cast_pos (k2 h0)
  have k1' := congrArg (Int.cast : Int → Rat) k1
  rw [Rat.intCast_mul] at k1'
  unfold limV at he
  rw [e1, e2, e3] at he
  simp only [] at he
  have e4 : f * (absI (sOf x z v) : Rat) = (sgn (sOf x z v) : Rat) * ((b : Rat) - u) * ((v.1.2 * z : Int) : Rat) := by
    rw [← he]
    exact Rat.div_mul_cancel (by grind)
  rw [k1', Rat.intCast_mul] at e4
  have s1 : (sgn (sOf x z v) : Rat) = 1 ∨ (sgn (sOf x z v) : Rat) = -1 := by
    rcases Int.lt_or_gt_of_ne h0 with h | h
    · right; rw [k4 h]; decide +kernel
    · left; rw [k3 h]; rfl
  rcases s1 with s1 | s1 <;> rw [s1] at e4 <;> grind
/-- Each end of a range is that of a corner. -/
theorem cor_see {l : List SpT} (hl : ∀ v ∈ l, viewB v = true) (hna : ¬ AlikeP l) {x z : Int} (hz : 0 < z) {y : Int × Int} (hy : y ∈ seeL l x z) (h0 : y.1 ≠ 0) {u : Rat} (hk : Kept (seeL l x z) u) (he : u = qX y) :
    ∃ p ∈ corL l, pCe p * (z : Rat) = u * (z : Rat) - pFo p * (x : Rat) := by
  have z1 := cast_pos hz
  have n0 := cast_ne h0
  have e : u * (y.1 : Rat) = (y.2 : Rat) := by
    rw [he]; unfold qX
    exact Rat.div_mul_cancel n0
  rcases mem_seeL.1 hy with ⟨v, hv, h1, h2⟩ | ⟨v, hv, a, ha, w, hw, b, hb, rfl⟩
  · -- a view of the tangent itself; another one is seen at an end
    obtain ⟨f, f1, f2, f3⟩ := between ((lowT l x z).map fun a => limV a u) ((higT l x z).map fun a => limV a u) (by
      intro p hp q hq
      obtain ⟨a, a1, rfl⟩ := List.mem_map.1 hp
      obtain ⟨b, b1, rfl⟩ := List.mem_map.1 hq
      obtain ⟨v, v1, v2⟩ := List.mem_flatMap.1 a1
      obtain ⟨w, w1, w2⟩ := List.mem_flatMap.1 b1
      obtain ⟨n1, e1, _⟩ := lowO_pos v2
      obtain ⟨n2, e2, _⟩ := higO_pos w2
      have p1 := (abs_sgn (sOf x z v)).2.1 n1
      have p2 := (abs_sgn (sOf x z w)).2.1 n2
      exact (bndP_iff (by rw [e1]; exact p1) (by rw [e2]; exact p2) u).1 (hk _ (mem_seeL.2 (.inr ⟨v, v1, a, v2, w, w1, b, w2, rfl⟩))))
    have tang : ∀ w, sOf x z w ≠ 0 → slopeP v w ≠ 0 := fun w hw hs => by
      have zv : 0 < v.1.2 := by have := (viewB_iff v).1 (hl v hv); omega
      unfold slopeP at hs
      unfold sOf at h1 hw
      refine hw (Int.eq_of_mul_eq_mul_right (show v.1.2 ≠ 0 by omega) ?_)
      have a1 : v.1.1 * z = x * v.1.2 := by omega
      have a2 : v.1.1 * w.1.2 = w.1.1 * v.1.2 := by omega
      have b1 : v.1.1 * z * w.1.2 = x * v.1.2 * w.1.2 := by rw [a1]
      have b2 : v.1.1 * w.1.2 * z = w.1.1 * v.1.2 * z := by rw [a2]
      grind
    obtain ⟨w, hw, hws⟩ : ∃ w ∈ l, sOf x z w ≠ 0 := by
      by_cases k : ∃ w ∈ l, sOf x z w ≠ 0
      · exact k
      · exfalso
        refine hna fun p hp q hq => ?_
        have s1 : sOf x z p = 0 := by
          by_cases s : sOf x z p = 0
          · exact s
          · exact absurd ⟨p, hp, s⟩ k
        have s2 : sOf x z q = 0 := by
          by_cases s : sOf x z q = 0
          · exact s
          · exact absurd ⟨q, hq, s⟩ k
        unfold sOf at s1 s2
        refine Int.eq_of_mul_eq_mul_right (show z ≠ 0 by omega) ?_
        have a1 : p.1.1 * z = x * p.1.2 := by omega
        have a2 : q.1.1 * z = x * q.1.2 := by omega
        have b1 : p.1.1 * z * q.1.2 = x * p.1.2 * q.1.2 := by rw [a1]
        have b2 : q.1.1 * z * p.1.2 = x * q.1.2 * p.1.2 := by rw [a2]
        grind
    obtain ⟨a0, ha0⟩ := lowO_mem hws
    have ne : ((lowT l x z).map fun a => limV a u) ≠ [] := List.ne_nil_of_mem (List.mem_map.2 ⟨a0, List.mem_flatMap.2 ⟨w, hw, ha0⟩, rfl⟩)
    obtain ⟨a, a1, ea⟩ := List.mem_map.1 (f3 ne)
    obtain ⟨w, hw, ha⟩ := List.mem_flatMap.1 a1
    have hws := (lowO_pos ha).1
    have hc : (u - f * (x : Rat) / (z : Rat)) * (z : Rat) = u * (z : Rat) - f * (x : Rat) := by
      have : f * (x : Rat) / (z : Rat) * (z : Rat) = f * (x : Rat) := Rat.div_mul_cancel (by grind)
      grind
    obtain ⟨fk, ck, hck, hfk⟩ := (kept_see hl hz u).1 hk
    -- the pair with this f fulfils all views
    have hf : Feas l f (u - f * (x : Rat) / (z : Rat)) := fun q hq => by
      by_cases q0 : sOf x z q = 0
      · have k := (ful_z hz hck).1 (hfk q hq)
        rw [ful_z hz hc]
        have e0 : ((0 : Int) : Rat) = 0 := rfl
        rw [q0, e0, Rat.mul_zero] at k ⊢
        exact k
      · rw [ful_z hz hc, lim_ful q0]
        exact ⟨fun a ha => f1 _ (List.mem_map.2 ⟨a, List.mem_flatMap.2 ⟨q, hq, ha⟩, rfl⟩), fun a ha => f2 _ (List.mem_map.2 ⟨a, List.mem_flatMap.2 ⟨q, hq, ha⟩, rfl⟩)⟩
    obtain ⟨b, hb, tb⟩ := lim_tight hz (hl w hw) hc (.inl ha) ea
    obtain ⟨d, hd, td⟩ : ∃ d, (d = v.2.1 ∨ d = v.2.2) ∧ u = (d : Rat) := by
      rcases h2 with rfl | rfl
      · refine ⟨_, .inl rfl, ?_⟩
        have m1 : ((-1 : Int) : Rat) = -1 := by decide +kernel
        simp only [Rat.intCast_neg, m1] at e
        grind
      · refine ⟨_, .inr rfl, ?_⟩
        have m1 : ((1 : Int) : Rat) = 1 := rfl
        simp only [m1] at e
        grind
    have tv : f * (v.1.1 : Rat) + (u - f * (x : Rat) / (z : Rat)) * (v.1.2 : Rat) = (d : Rat) * (v.1.2 : Rat) := by
      rw [← td]
      refine rat_eq_of_mul (show (z : Rat) ≠ 0 by grind) ?_
      have h1' := congrArg (Int.cast : Int → Rat) h1
      unfold sOf at h1'
      simp only [Rat.intCast_sub, Rat.intCast_mul] at h1'
      have e0 : ((0 : Int) : Rat) = 0 := rfl
      rw [e0] at h1'
      have : (u - f * (x : Rat) / (z : Rat)) * (z : Rat) * (v.1.2 : Rat) = (u * (z : Rat) - f * (x : Rat)) * (v.1.2 : Rat) := by rw [hc]
      generalize u - f * (x : Rat) / (z : Rat) = C at *
      have h3 : f * ((v.1.1 : Rat) * (z : Rat) - (x : Rat) * (v.1.2 : Rat)) = 0 := by rw [h1', Rat.mul_zero]
      grind
    obtain ⟨p, hp, e1, e2⟩ := cor_of hl hv hw (tang w hws) hd hb hf tv tb
    refine ⟨p, hp, ?_⟩
    rw [e1, e2]
    exact hc
  · obtain ⟨f, c, hc, hf⟩ := (kept_see hl hz u).1 hk
    obtain ⟨n1, e1, _⟩ := lowO_pos ha
    obtain ⟨n2, e2, _⟩ := higO_pos hb
    have p1 := (abs_sgn (sOf x z v)).2.1 n1
    have p2 := (abs_sgn (sOf x z w)).2.1 n2
    have j1 := ((lim_ful n1).1 ((ful_z hz hc).1 (hf v hv))).1 a ha
    have j2 := ((lim_ful n2).1 ((ful_z hz hc).1 (hf w hw))).2 b hb
    have eq : limV a u = limV b u := by
      have q1 : (0 : Rat) < (a.1.2 : Rat) := cast_pos (by rw [e1]; exact p1)
      have q2 : (0 : Rat) < (b.1.2 : Rat) := cast_pos (by rw [e2]; exact p2)
      have le1 := Rat.le_trans j1 j2
      have le2 : limV b u ≤ limV a u := by
        -- the bound is reached
        obtain ⟨⟨s, A⟩, α, p⟩ := a
        obtain ⟨⟨t, B⟩, β, q⟩ := b
        have hh : u * ((t * A * β - s * B * α : Int) : Rat) = ((q * (t * A * β) - p * (s * B * α) : Int) : Rat) := e
        simp only [Rat.intCast_sub, Rat.intCast_mul] at hh
        show (t : Rat) * ((q : Rat) - u) * (β : Rat) / (B : Rat) ≤ (s : Rat) * ((p : Rat) - u) * (α : Rat) / (A : Rat)
        simp only [] at q1 q2
        rw [rdiv_le q2]
        have e3 : (s : Rat) * ((p : Rat) - u) * (α : Rat) / (A : Rat) * (A : Rat) = (s : Rat) * ((p : Rat) - u) * (α : Rat) := Rat.div_mul_cancel (by grind)
        generalize (s : Rat) * ((p : Rat) - u) * (α : Rat) / (A : Rat) = r at *
        have e4 : r * (B : Rat) * (A : Rat) = ((s : Rat) * ((p : Rat) - u) * (α : Rat)) * (B : Rat) := by rw [← e3]; grind
        refine rat_le_of_mul q1 ?_
        rw [e4]
        clear j1 j2 le1 e e3 e4
        grind
      exact Rat.le_antisymm le1 le2
    have ea : limV a u = f := Rat.le_antisymm j1 (by rw [eq]; exact j2)
    have eb : limV b u = f := by rw [← eq]; exact ea
    obtain ⟨d, hd, td⟩ := lim_tight hz (hl v hv) hc (.inl ha) ea
    obtain ⟨g, hg, tg⟩ := lim_tight hz (hl w hw) hc (.inr hb) eb
    have hs : slopeP v w ≠ 0 := fun hs => by
      have := slope_eq ha hb
      unfold slopeP at hs
      rw [hs, Int.mul_zero, Int.mul_zero] at this
      exact h0 this
    obtain ⟨p, hp, e1, e2⟩ := cor_of hl hv hw hs hd hg hf td tg
    refine ⟨p, hp, ?_⟩
    rw [e1, e2]
    exact hc
end Go.Proofs.Try.My
set_option maxRecDepth 100000
set_option maxHeartbeats 0
set_option linter.unusedVariables false
set_option linter.unusedSimpArgs false
namespace Go.Proofs.Try.My
open Go Go.Ev

/-! ### Spans of corners -/
theorem makeF_smallI {n d : Int} (h1 : -4611686018427387903 ≤ n) (h2 : n ≤ 4611686018427387903) (h3 : 0 < d) (h4 : d ≤ 4611686018427387903) : validB (makeF n d).1 = true ∧ qv (makeF n d).1 = (n : Rat) / (d : Rat) := by
  obtain ⟨a, _, b⟩ := makeF_small h1 h2 h3 h4
  exact ⟨a, b⟩
/-- A pair whose parts are not great. -/
def okP (p : PrT) : Prop := (-17179869184 ≤ p.1.1 ∧ p.1.1 ≤ 17179869184) ∧ (-17179869184 ≤ p.1.2 ∧ p.1.2 ≤ 17179869184) ∧ -17179869184 ≤ p.2 ∧ p.2 ≤ 17179869184
theorem metP_ok {v w : SpT} {a b : Int} (hv : viewB v = true) (hw : viewB w = true) (ha : -4096 ≤ a ∧ a ≤ 4096) (hb : -4096 ≤ b ∧ b ≤ 4096) : okP (metP v w a b) ∧ (-2000000 ≤ slopeP v w ∧ slopeP v w ≤ 2000000) ∧ (-8192000 ≤ (a - b) * v.1.2 ∧ (a - b) * v.1.2 ≤ 8192000) ∧ (-8192000000 ≤ (a - b) * v.1.2 * w.1.2 ∧ (a - b) * v.1.2 * w.1.2 ≤ 8192000000) ∧
    (-8192000000 ≤ a * slopeP v w ∧ a * slopeP v w ≤ 8192000000) ∧ (-8192000 ≤ (a - b) * w.1.2 ∧ (a - b) * w.1.2 ≤ 8192000) ∧ (-8192000000 ≤ (a - b) * w.1.2 * v.1.1 ∧ (a - b) * w.1.2 * v.1.1 ≤ 8192000000) := by
  have vi := (viewB_iff v).1 hv
  have vj := (viewB_iff w).1 hw
  have m1 := mul_pm (a := v.1.1) (b := w.1.2) (A := 1000) (B := 1000) (by omega) (by omega) (by omega) (by omega)
  have m2 := mul_pm (a := w.1.1) (b := v.1.2) (A := 1000) (B := 1000) (by omega) (by omega) (by omega) (by omega)
  have s : -2000000 ≤ slopeP v w ∧ slopeP v w ≤ 2000000 := by unfold slopeP; omega
  have m3 := mul_pm (a := a - b) (b := v.1.2) (A := 8192) (B := 1000) (by omega) (by omega) (by omega) (by omega)
  have m4 := mul_pm (a := (a - b) * v.1.2) (b := w.1.2) (A := 8192000) (B := 1000) (by omega) (by omega) (by omega) (by omega)
  have m5 := mul_pm (a := a) (b := slopeP v w) (A := 4096) (B := 2000000) (by omega) (by omega) (by omega) (by omega)
  have m6 := mul_pm (a := a - b) (b := w.1.2) (A := 8192) (B := 1000) (by omega) (by omega) (by omega) (by omega)
  have m7 := mul_pm (a := (a - b) * w.1.2) (b := v.1.1) (A := 8192000) (B := 1000) (by omega) (by omega) (by omega) (by omega)
  refine ⟨?_, s, by omega, by omega, by omega, by omega, by omega⟩
  unfold metP okP
  split <;> simp only [] <;> omega
theorem corL_okP {l : List SpT} (hl : ∀ v ∈ l, viewB v = true) {p : PrT} (h : p ∈ corL l) : okP p := by
  obtain ⟨i, hi, k, hk, h⟩ := corL_mem.1 h
  obtain ⟨_, h2, _⟩ := corO_mem.1 h
  have gv : viewB (l.getD i z4) = true := hl _ (by simp only [List.getD, List.getElem?_eq_getElem hi, Option.getD_some]; exact List.getElem_mem hi)
  have gw : viewB (l.getD k z4) = true := hl _ (by simp only [List.getD, List.getElem?_eq_getElem (show k < l.length by omega), Option.getD_some]; exact List.getElem_mem _)
  have vi := (viewB_iff _).1 gv
  have vj := (viewB_iff _).1 gw
  unfold fourP at h2
  simp only [List.mem_cons, List.not_mem_nil, or_false] at h2
  rcases h2 with rfl | rfl | rfl | rfl <;> exact (metP_ok gv gw (by omega) (by omega)).1
def valP (x y z : Int) (p : PrT) : Int × Int := (makeF (p.1.1 * x + p.1.2 * y) (p.2 * z)).1
theorem valP_ok {x y z : Int} {p : PrT} (hp : okP p) (h0 : 0 < p.2) (hx : -1000 ≤ x ∧ x ≤ 1000) (hy : -1000 ≤ y ∧ y ≤ 1000) (hz : 1 ≤ z ∧ z ≤ 1000) :
    validB (valP x y z p) = true ∧ qv (valP x y z p) = (pFo p * (x : Rat) + pCe p * (y : Rat)) / (z : Rat) ∧ (-17179869184000 ≤ p.1.1 * x ∧ p.1.1 * x ≤ 17179869184000) ∧ (-17179869184000 ≤ p.1.2 * y ∧ p.1.2 * y ≤ 17179869184000) ∧ (0 < p.2 * z ∧ p.2 * z ≤ 17179869184000) := by
  obtain ⟨p1, p2, p3⟩ := hp
  have m1 := mul_pm (a := p.1.1) (b := x) (A := 17179869184) (B := 1000) (by omega) (by omega) (by omega) (by omega)
  have m2 := mul_pm (a := p.1.2) (b := y) (A := 17179869184) (B := 1000) (by omega) (by omega) (by omega) (by omega)
  have m3 := mul_pm (a := p.2) (b := z) (A := 17179869184) (B := 1000) (by omega) (by omega) (by omega) (by omega)
  have m4 : 0 < p.2 * z := Int.mul_pos h0 (by omega)
  obtain ⟨v, q⟩ := makeF_smallI (n := p.1.1 * x + p.1.2 * y) (d := p.2 * z) (by omega) (by omega) m4 (by omega)
  refine ⟨v, ?_, by omega, by omega, by omega⟩
  unfold valP
  rw [q]
  have z1 := cast_pos h0
  have z2 := cast_pos (show 0 < z by omega)
  unfold pFo pCe
  simp only [Rat.intCast_add, Rat.intCast_mul]
  generalize (p.1.1 : Rat) = N at *
  generalize (p.1.2 : Rat) = M at *
  generalize (p.2 : Rat) = D at *
  generalize (x : Rat) = x at *
  generalize (y : Rat) = y at *
  generalize (z : Rat) = z at *
  have n1 : D ≠ 0 := by grind
  have n2 : z ≠ 0 := by grind
  grind
def stepS (s : Option SpT) (a : Int × Int) : Option SpT := some (match s with
  | none => (a, a)
  | some s => (lesF s.1 a, greF s.2 a))
def spnO (f : PrT → Int × Int) (l : List PrT) : Option SpT := l.foldl (fun s p => stepS s (f p)) none
def spnS (f : PrT → Int × Int) (l : List PrT) : SpT := (spnO f l).getD z4
theorem spnO_step (f : PrT → Int × Int) (l : List PrT) {k : Nat} (hk : k < l.length) : spnO f (l.take (k + 1)) = stepS (spnO f (l.take k)) (f (l.getD k z3)) := by
  unfold spnO
  rw [List.take_succ_eq_append_getElem hk, List.foldl_append]
  simp [List.getD, List.getElem?_eq_getElem hk]
def SpnG (f : PrT → Int × Int) (p : List PrT) : Option SpT → Prop
  | none => p = []
  | some s => spanB s = true ∧ (∀ x ∈ p, qv s.1 ≤ qv (f x) ∧ qv (f x) ≤ qv s.2) ∧ (∃ x ∈ p, f x = s.1) ∧ (∃ x ∈ p, f x = s.2)
theorem stepS_good {f : PrT → Int × Int} {p : List PrT} {s : Option SpT} {x : PrT} (h : SpnG f p s) (hx : validB (f x) = true) : SpnG f (p ++ [x]) (stepS s (f x)) := by
  have mx : x ∈ p ++ [x] := List.mem_append_right _ (List.mem_singleton.2 rfl)
  cases s with
  | none =>
    have h : p = [] := h
    subst h
    show spanB (f x, f x) = true ∧ _
    refine ⟨span_pt hx, fun y hy => ?_, ⟨x, mx, rfl⟩, ⟨x, mx, rfl⟩⟩
    rw [List.mem_singleton.1 hy]
    exact ⟨Rat.le_refl, Rat.le_refl⟩
  | some s =>
    obtain ⟨h1, h2, ⟨a, a1, a2⟩, ⟨b, b1, b2⟩⟩ := h
    obtain ⟨s1, s2, s3⟩ := spanB_qv.1 h1
    obtain ⟨l1, l2, l3⟩ := lesF_qv s1 hx
    obtain ⟨g1, g2, g3⟩ := greF_qv s2 hx
    show spanB (lesF s.1 (f x), greF s.2 (f x)) = true ∧ _
    refine ⟨spanB_qv.2 ⟨lesF_valid s1 hx, greF_valid s2 hx, by simp only []; grind⟩, fun y hy => ?_, ?_, ?_⟩
    · simp only []
      rcases List.mem_append.1 hy with k | k
      · have := h2 y k; grind
      · rw [List.mem_singleton.1 k]; exact ⟨l2, g2⟩
    · rcases l3 with e | e
      · exact ⟨a, List.mem_append_left _ a1, by simp only [e, a2]⟩
      · exact ⟨x, mx, e.symm⟩
    · rcases g3 with e | e
      · exact ⟨b, List.mem_append_left _ b1, by simp only [e, b2]⟩
      · exact ⟨x, mx, e.symm⟩
theorem spnO_good0 {f : PrT → Int × Int} : ∀ (l p : List PrT) (s : Option SpT), (∀ x ∈ l, validB (f x) = true) → SpnG f p s → SpnG f (p ++ l) (l.foldl (fun s p => stepS s (f p)) s)
  | [], p, s, _, h => by simpa using h
  | x :: l, p, s, hl, h => by
    have k := spnO_good0 l (p ++ [x]) (stepS s (f x)) (fun y hy => hl y (List.mem_cons_of_mem _ hy)) (stepS_good h (hl x (List.mem_cons_self ..)))
    simpa using k
theorem spnO_good {f : PrT → Int × Int} {l : List PrT} (hl : ∀ x ∈ l, validB (f x) = true) : SpnG f l (spnO f l) := by
  have := spnO_good0 l [] none hl rfl
  simpa [spnO] using this
theorem spn_eq {f : PrT → Int × Int} {l : List PrT} {S : SpT} (hl : ∀ x ∈ l, validB (f x) = true) (hS : spanB S = true) (hin : ∀ x ∈ l, InR S (qv (f x))) (h1 : ∃ x ∈ l, qv (f x) = qv S.1) (h2 : ∃ x ∈ l, qv (f x) = qv S.2) : spnS f l = S := by
  have g := spnO_good hl
  unfold spnS
  generalize spnO f l = o at *
  cases o with
  | none =>
    have g : l = [] := g
    subst g
    obtain ⟨x, hx, _⟩ := h1
    cases hx
  | some s =>
    obtain ⟨g1, g2, ⟨a, a1, a2⟩, ⟨b, b1, b2⟩⟩ := g
    obtain ⟨s1, s2, _⟩ := spanB_qv.1 g1
    obtain ⟨S1, S2, _⟩ := spanB_qv.1 hS
    obtain ⟨x, x1, x2⟩ := h1
    obtain ⟨y, y1, y2⟩ := h2
    have e1 := (g2 x x1).1
    have e2 := (g2 y y1).2
    have e3 := (hin a a1).1
    have e4 := (hin b b1).2
    rw [a2] at e3
    rw [b2] at e4
    rw [x2] at e1
    rw [y2] at e2
    show s = S
    exact Prod.ext ((qv_eq s1 S1).1 (Rat.le_antisymm e1 e3)) ((qv_eq s2 S2).1 (Rat.le_antisymm e4 e2))
/-- The camera of the corners is the camera. -/
theorem cor_cam {l : List SpT} (hv : ∀ v ∈ l, viewB v = true) {f0 c0 : Rat} (h0 : Feas l f0 c0) (ha : ¬ AlikeP l) :
    spnS (valP 1 0 1) (corL l) = (narF (focL l)).1 ∧ ∀ x z, -1000 ≤ x ∧ x ≤ 1000 → 1 ≤ z ∧ z ≤ 1000 → spnS (valP x z z) (corL l) = (narF (seeL l x z)).1 := by
  have e1 : ((1 : Int) : Rat) = 1 := rfl
  have e0 : ((0 : Int) : Rat) = 0 := rfl
  constructor
  · obtain ⟨w, sb, hin⟩ := foc_span hv h0 ha
    obtain ⟨_, _, _, kin, ⟨x, x1, x2, x3⟩, ⟨y, y1, y2, y3⟩⟩ := (narF_good (focL_ok hv)).span w
    obtain ⟨_, _, s3⟩ := spanB_qv.1 sb
    have val : ∀ p ∈ corL l, validB (valP 1 0 1 p) = true ∧ qv (valP 1 0 1 p) = pFo p := fun p hp => by
      obtain ⟨a, b, _⟩ := valP_ok (x := 1) (y := 0) (z := 1) (corL_okP hv hp) (corL_ok hp).1 (by omega) (by omega) (by omega)
      refine ⟨a, ?_⟩
      rw [b, e1, e0]
      grind
    refine spn_eq (fun p hp => (val p hp).1) sb (fun p hp => ?_) ?_ ?_
    · rw [(val p hp).2]
      exact (hin _).2 ⟨_, (corL_ok hp).2⟩
    · obtain ⟨c, hc⟩ := (hin (qv (narF (focL l)).1.1)).1 ⟨Rat.le_refl, s3⟩
      obtain ⟨p, hp, k, _⟩ := cor_foc hv x1 (by omega) hc x3
      exact ⟨p, hp, by rw [(val p hp).2, k]⟩
    · obtain ⟨c, hc⟩ := (hin (qv (narF (focL l)).1.2)).1 ⟨s3, Rat.le_refl⟩
      obtain ⟨p, hp, k, _⟩ := cor_foc hv y1 (by omega) hc y3
      exact ⟨p, hp, by rw [(val p hp).2, k]⟩
  · intro x z hx hz
    obtain ⟨w, sb, hin⟩ := see_span (x := x) (z := z) hv hx hz h0 ha
    obtain ⟨_, _, _, kin, ⟨a, a1, a2, a3⟩, ⟨b, b1, b2, b3⟩⟩ := (narF_good (seeL_ok hx hz hv)).span w
    obtain ⟨_, _, s3⟩ := spanB_qv.1 sb
    have z1 := cast_pos (show 0 < z by omega)
    have val : ∀ p ∈ corL l, validB (valP x z z p) = true ∧ qv (valP x z z p) * (z : Rat) = pFo p * (x : Rat) + pCe p * (z : Rat) := fun p hp => by
      obtain ⟨a, b, _⟩ := valP_ok (x := x) (y := z) (z := z) (corL_okP hv hp) (corL_ok hp).1 hx (by omega) hz
      refine ⟨a, ?_⟩
      rw [b]
      exact Rat.div_mul_cancel (by grind)
    have nz : (z : Rat) ≠ 0 := by grind
    refine spn_eq (fun p hp => (val p hp).1) sb (fun p hp => ?_) ?_ ?_
    · refine (hin _).2 ⟨pFo p, pCe p, ?_, (corL_ok hp).2⟩
      rw [(val p hp).2]
      grind
    · obtain ⟨p, hp, k⟩ := cor_see hv ha (by omega) a1 (by omega) ((kin _).2 ⟨Rat.le_refl, s3⟩) a3
      refine ⟨p, hp, rat_eq_of_mul nz ?_⟩
      rw [(val p hp).2, k]
      grind
    · obtain ⟨p, hp, k⟩ := cor_see hv ha (by omega) b1 (by omega) ((kin _).2 ⟨s3, Rat.le_refl⟩) b3
      refine ⟨p, hp, rat_eq_of_mul nz ?_⟩
      rw [(val p hp).2, k]
      grind
theorem cor_some {l : List SpT} (hv : ∀ v ∈ l, viewB v = true) (ha : ¬ AlikeP l) : (0 < (corL l).length) ↔ ∃ f c, Feas l f c := by
  constructor
  · intro h
    obtain ⟨p, hp⟩ : ∃ p, p ∈ corL l := by
      cases e : corL l with
      | nil => rw [e] at h; simp at h
      | cons a m => exact ⟨a, List.mem_cons_self ..⟩
    exact ⟨_, _, (corL_ok hp).2⟩
  · rintro ⟨f, c, hf⟩
    obtain ⟨w, sb, hin⟩ := foc_span hv hf ha
    obtain ⟨_, _, _, kin, ⟨x, x1, x2, x3⟩, _⟩ := (narF_good (focL_ok hv)).span w
    obtain ⟨_, _, s3⟩ := spanB_qv.1 sb
    obtain ⟨c, hc⟩ := (hin (qv (narF (focL l)).1.1)).1 ⟨Rat.le_refl, s3⟩
    obtain ⟨p, hp, _⟩ := cor_foc hv x1 (by omega) hc x3
    exact List.length_pos_of_mem hp
end Go.Proofs.Try.My
