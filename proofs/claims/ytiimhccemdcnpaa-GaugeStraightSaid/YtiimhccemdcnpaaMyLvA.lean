/- A helper text: contracts of functions of the program, and plain lemmas. -/
import Derived.Test.YtiimhccemdcnpaaEvSix
import Derived.Test.YtiimhccemdcnpaaMyLv1
import Derived.Test.YtiimhccemdcnpaaMyGpA
set_option maxRecDepth 100000
set_option maxHeartbeats 0
set_option linter.unusedVariables false
set_option linter.unusedSimpArgs false
namespace Go.Proofs.Try.My
open Go Go.Ev

/-! ### Numbers that keep some bounds -/
/-- A pointer to a fraction, or none. -/
abbrev pF : Option (Int × Int) → AV
  | none => .nilp
  | some x => .pt [i64 x.1, i64 x.2] 0
def betF (e : Option (Int × Int)) (n : Int × Int) (d : Int) : Option (Int × Int) :=
  match e with
  | none => some n
  | some y => if cmpF n y * d ≤ 0 then some y else some n
theorem cmpF_small (a b : Int × Int) : -1 ≤ cmpF a b ∧ cmpF a b ≤ 1 := by unfold cmpF; split <;> (try split) <;> omega
theorem pc_better0 (n1 n2 d : Int) : PC Try.prog 71 [.nilp, fr (n1, n2), i64 d] (.pt [i64 n1, i64 n2] 0) := by
  refine pc_of_bodyF hm Try.func71 (by kernel_rfl) ?_
  conv => whnf
  (repeat' (first | (refine ⟨by kernel_rfl, ?_⟩; (conv => whnf)) | (refine ⟨fun _ => ?_, fun h => absurd h (by first | decide | (simp; done) | fail)⟩; (conv => whnf)) | (refine ⟨fun h => absurd h (by first | decide | (simp; done) | fail), fun _ => ?_⟩; (conv => whnf)) | ((with_reducible refine And.intro (a := _ = true → _) (b := _ = false → _) (fun hh => ?_) (fun hh => ?_)) <;> (try simp only [decide_eq_true_eq, decide_eq_false_iff_not, Bool.or_eq_true, Bool.and_eq_true, Bool.or_eq_false_iff, Bool.and_eq_false_iff, Bool.not_eq_true', Bool.not_eq_false', ge_iff_le, gt_iff_lt] at hh) <;> (first | (exfalso; omega) | (conv => whnf))) | fail))
theorem pc_better1 (n1 n2 y1 y2 c e d : Int) (hd : d = 1 ∨ d = -1) (hc : -1 ≤ c ∧ c ≤ 1) (h : c * d ≤ 0) (k : PC Try.prog 72 [fr (n1, n2), fr (y1, y2)] (.tup [i64 c, i64 e])) :
    PC Try.prog 71 [.pt [i64 y1, i64 y2] 0, fr (n1, n2), i64 d] (.pt [i64 y1, i64 y2] 0) := by
  have hw : IntKind.i64.wrap (c * d) = c * d := w64 _ (by rcases hd with rfl | rfl <;> omega) (by rcases hd with rfl | rfl <;> omega)
  refine pc_of_bodyF hm Try.func71 (by kernel_rfl) ?_
  conv => whnf
  (repeat' (first | (refine ⟨_, by first | with_reducible exact k, ?_⟩; (conv => whnf)) | (refine Or.inl ?_; (conv => whnf); refine ⟨_, by first | with_reducible exact k, ?_⟩; (conv => whnf)) | (refine Or.inl ?_; (conv => whnf); refine ⟨false, ?_⟩; (conv => whnf); refine ⟨_, by first | with_reducible exact k, ?_⟩; (conv => whnf)) | (refine ⟨by kernel_rfl, ?_⟩; (conv => whnf)) | (refine ⟨fun _ => ?_, fun h => absurd h (by first | decide | (simp; done) | fail)⟩; (conv => whnf)) | (refine ⟨fun h => absurd h (by first | decide | (simp; done) | fail), fun _ => ?_⟩; (conv => whnf)) | ((with_reducible refine And.intro (a := _ = true → _) (b := _ = false → _) (fun hh => ?_) (fun hh => ?_)) <;> (try simp only [decide_eq_true_eq, decide_eq_false_iff_not, Bool.or_eq_true, Bool.and_eq_true, Bool.or_eq_false_iff, Bool.and_eq_false_iff, Bool.not_eq_true', Bool.not_eq_false', ge_iff_le, gt_iff_lt] at hh) <;> (first | (exfalso; omega) | (conv => whnf))) | fail))
theorem pc_better2 (n1 n2 y1 y2 c e d : Int) (hd : d = 1 ∨ d = -1) (hc : -1 ≤ c ∧ c ≤ 1) (h : ¬ c * d ≤ 0) (k : PC Try.prog 72 [fr (n1, n2), fr (y1, y2)] (.tup [i64 c, i64 e])) :
    PC Try.prog 71 [.pt [i64 y1, i64 y2] 0, fr (n1, n2), i64 d] (.pt [i64 n1, i64 n2] 0) := by
  have hw : IntKind.i64.wrap (c * d) = c * d := w64 _ (by rcases hd with rfl | rfl <;> omega) (by rcases hd with rfl | rfl <;> omega)
  refine pc_of_bodyF hm Try.func71 (by kernel_rfl) ?_
  conv => whnf
  (repeat' (first | (refine ⟨_, by first | with_reducible exact k, ?_⟩; (conv => whnf)) | (refine Or.inl ?_; (conv => whnf); refine ⟨_, by first | with_reducible exact k, ?_⟩; (conv => whnf)) | (refine Or.inl ?_; (conv => whnf); refine ⟨false, ?_⟩; (conv => whnf); refine ⟨_, by first | with_reducible exact k, ?_⟩; (conv => whnf)) | (refine ⟨by kernel_rfl, ?_⟩; (conv => whnf)) | (refine ⟨fun _ => ?_, fun h => absurd h (by first | decide | (simp; done) | fail)⟩; (conv => whnf)) | (refine ⟨fun h => absurd h (by first | decide | (simp; done) | fail), fun _ => ?_⟩; (conv => whnf)) | ((with_reducible refine And.intro (a := _ = true → _) (b := _ = false → _) (fun hh => ?_) (fun hh => ?_)) <;> (try simp only [decide_eq_true_eq, decide_eq_false_iff_not, Bool.or_eq_true, Bool.and_eq_true, Bool.or_eq_false_iff, Bool.and_eq_false_iff, Bool.not_eq_true', Bool.not_eq_false', ge_iff_le, gt_iff_lt] at hh) <;> (first | (exfalso; omega) | (conv => whnf))) | fail))
theorem pc_better (e : Option (Int × Int)) (n : Int × Int) (d : Int) (hd : d = 1 ∨ d = -1) (he : ∀ y, e = some y → validB y = true) (hn : validB n = true) (k : ∀ y, validB y = true → PC Try.prog 72 [fr n, fr y] (.tup [i64 (cmpF n y), i64 0])) :
    PC Try.prog 71 [pF e, fr n, i64 d] (pF (betF e n d)) := by
  cases e with
  | none => exact pc_better0 n.1 n.2 d
  | some y =>
    have k := k y (he y rfl)
    show PC Try.prog _ _ (pF (if cmpF n y * d ≤ 0 then some y else some n))
    split
    · exact pc_better1 n.1 n.2 y.1 y.2 _ 0 d hd (cmpF_small n y) (by assumption) k
    · exact pc_better2 n.1 n.2 y.1 y.2 _ 0 d hd (cmpF_small n y) (by assumption) k
theorem pc_Compare (a b : Int × Int) (ha : validB a = true) (hb : validB b = true) : PC Try.prog 72 [fr a, fr b] (.tup [i64 (cmpF a b), i64 0]) := by
  have c := pc_valid2 a b
  rw [ha, hb] at c
  have o := pc_order a b ha hb
  generalize cmpF a b = r at *
  refine pc_of_bodyF hm Try.func72 (by kernel_rfl) ?_
  conv => whnf
  (repeat' (first | (refine And.intro (a := _ = true → _) (b := _ = false → _) (fun hh => ?_) (fun hh => ?_) <;> (first | simp only [decide_eq_true_eq, decide_eq_false_iff_not, Bool.or_eq_true, Bool.and_eq_true, Bool.or_eq_false_iff, Bool.and_eq_false_iff, Bool.not_eq_true', Bool.not_eq_false', ge_iff_le, gt_iff_lt] at hh | skip) <;> (first | (exfalso; omega) | (exfalso; simp [*] at hh; done) | (exfalso; revert hh; decide) | exact absurd (by assumption) hh | (conv => whnf))) | (refine ⟨by kernel_rfl, ?_⟩; (conv => whnf)) | (refine And.intro (a := _ ∧ _) ⟨by omega, by omega⟩ ?_; (conv => whnf)) | (refine And.intro (a := _ ∧ _) ⟨by decide, by decide⟩ ?_; (conv => whnf)) | (refine And.intro (a := _ ≤ _) (by omega) ?_; (conv => whnf)) | (refine And.intro (a := _ ≠ _) (by omega) ?_; (conv => whnf)) | (refine Or.inl ?_; (conv => whnf); first | (refine ⟨_, by first | exact c | exact o, ?_⟩; (conv => whnf)) | (refine ⟨false, ?_⟩; (conv => whnf); refine ⟨_, by first | exact c | exact o, ?_⟩; (conv => whnf))) | (refine ⟨_, by first | exact c | exact o, ?_⟩; (conv => whnf))))
abbrev TwoF : Type := Option (Int × Int) × Option (Int × Int)
def stepN2 (s : TwoF) (x : Int × Int) : TwoF :=
  if x.1 = 0 then s else if 0 < x.1 then (s.1, betF s.2 (makeF x.2 x.1).1 (-1)) else (betF s.1 (makeF x.2 x.1).1 1, s.2)
def badN (x : Int × Int) : Bool := decide (x.1 = 0) && decide (x.2 < 0)
def foldN (l : List (Int × Int)) : TwoF := l.foldl stepN2 (none, none)
def endN (s : TwoF) : SpT × Bool × Bool :=
  match s.1, s.2 with
  | some a, some b => if 0 < cmpF a b then (z4, false, false) else ((a, b), true, true)
  | _, _ => (z4, true, false)
/-- The span of the numbers that keep some bounds, whether there are any, whether it has both ends. -/
def narF (l : List (Int × Int)) : SpT × Bool × Bool := if l.any badN then (z4, false, false) else endN (foldN l)
/-- Bounds that are small enough. -/
def okB (x : Int × Int) : Prop := -4611686018427387903 ≤ x.1 ∧ x.1 ≤ 4611686018427387903 ∧ -4611686018427387903 ≤ x.2 ∧ x.2 ≤ 4611686018427387903
theorem quo_ok {x : Int × Int} (h : okB x) (h0 : x.1 ≠ 0) : validB (makeF x.2 x.1).1 = true ∧ (makeF x.2 x.1).2 = 0 ∧ qv (makeF x.2 x.1).1 = (x.2 : Rat) / (x.1 : Rat) := by
  obtain ⟨h1, h2, h3, h4⟩ := h
  by_cases hp : 0 < x.1
  · exact makeF_small h3 h4 hp h2
  · have k := makeF_small (n := -x.2) (d := -x.1) (by omega) (by omega) (by omega) (by omega)
    rw [makeF_neg] at k
    refine ⟨k.1, k.2.1, k.2.2.trans ?_⟩
    have := cast_ne h0
    rw [Rat.intCast_neg, Rat.intCast_neg]
    grind
def validO (s : TwoF) : Prop := (∀ y, s.1 = some y → validB y = true) ∧ (∀ y, s.2 = some y → validB y = true)
theorem betF_valid {e : Option (Int × Int)} {n : Int × Int} {d : Int} (he : ∀ y, e = some y → validB y = true) (hn : validB n = true) : ∀ y, betF e n d = some y → validB y = true := by
  intro y hy
  unfold betF at hy
  split at hy
  · obtain rfl := Option.some.inj hy; exact hn
  · split at hy
    · obtain rfl := Option.some.inj hy; exact he _ rfl
    · obtain rfl := Option.some.inj hy; exact hn
theorem stepN2_valid {s : TwoF} {x : Int × Int} (hs : validO s) (hx : okB x) : validO (stepN2 s x) := by
  unfold stepN2
  split
  · exact hs
  · rename_i h0
    have k := (quo_ok hx h0).1
    split
    · exact ⟨hs.1, betF_valid hs.2 k⟩
    · exact ⟨betF_valid hs.1 k, hs.2⟩
theorem foldN_step (l : List (Int × Int)) {k : Nat} (hk : k < l.length) : foldN (l.take (k + 1)) = stepN2 (foldN (l.take k)) (l.getD k (0, 0)) := by
  unfold foldN
  rw [List.take_succ_eq_append_getElem hk, List.foldl_append]
  simp [List.getD, List.getElem?_eq_getElem hk]
theorem foldN_valid (l : List (Int × Int)) (hl : ∀ k, k < l.length → okB (l.getD k (0, 0))) : ∀ k, k ≤ l.length → validO (foldN (l.take k))
  | 0, _ => ⟨fun y h => by simp [foldN] at h, fun y h => by simp [foldN] at h⟩
  | k + 1, h => by
    rw [foldN_step l (by omega)]
    exact stepN2_valid (foldN_valid l hl k (by omega)) (hl k (by omega))
theorem any_bad {l : List (Int × Int)} {k : Nat} (hk : k < l.length) (h : badN (l.getD k (0, 0)) = true) : narF l = (z4, false, false) := by
  unfold narF
  rw [if_pos]
  rw [List.any_eq_true]
  refine ⟨l.getD k (0, 0), ?_, h⟩
  simp only [List.getD, List.getElem?_eq_getElem hk, Option.getD_some]
  exact List.getElem_mem hk
theorem no_bad {l : List (Int × Int)} (h : ∀ k, k < l.length → badN (l.getD k (0, 0)) = false) : narF l = endN (foldN l) := by
  unfold narF
  rw [if_neg]
  rw [List.any_eq_true]
  rintro ⟨x, hx, hb⟩
  obtain ⟨i, hi, rfl⟩ := List.getElem_of_mem hx
  have := h i hi
  simp only [List.getD, List.getElem?_eq_getElem hi, Option.getD_some] at this
  rw [this] at hb
  cases hb
theorem betF_some (e : Option (Int × Int)) (n : Int × Int) (d : Int) : ∃ r, betF e n d = some r := by
  unfold betF
  split
  · exact ⟨_, rfl⟩
  · split <;> exact ⟨_, rfl⟩
theorem stepN2_zero {s : TwoF} {a b : Int} (h : a = 0) : stepN2 s (a, b) = s := if_pos h
theorem stepN2_pos {s : TwoF} {a b : Int} (h : 0 < a) : stepN2 s (a, b) = (s.1, betF s.2 (makeF b a).1 (-1)) := by
  unfold stepN2
  rw [if_neg (show ¬ (a, b).1 = 0 by show ¬ a = 0; omega), if_pos h]
theorem stepN2_neg {s : TwoF} {a b : Int} (h0 : ¬ a = 0) (h : ¬ 0 < a) : stepN2 s (a, b) = (betF s.1 (makeF b a).1 1, s.2) := by
  unfold stepN2
  rw [if_neg h0, if_neg h]
end Go.Proofs.Try.My
set_option maxRecDepth 100000
set_option maxHeartbeats 0
set_option linter.unusedVariables false
set_option linter.unusedSimpArgs false
namespace Go.Proofs.Try.My
open Go Go.Ev

/-! ### Bounds of the place of a tangent -/
def sgn (n : Int) : Int := if n < 0 then -1 else if 0 < n then 1 else 0
def sOf (x z : Int) (v : SpT) : Int := v.1.1 * z - x * v.1.2
def absI (s : Int) : Int := if -s > s then -s else s
def limL (x z : Int) (v : SpT) : SpT := ((sgn (sOf x z v), absI (sOf x z v)), (v.1.2 * z, v.2.1))
def limH (x z : Int) (v : SpT) : SpT := ((sgn (sOf x z v), absI (sOf x z v)), (v.1.2 * z, v.2.2))
def lowO (x z : Int) (v : SpT) : List SpT := if sOf x z v = 0 then [] else if 0 < sOf x z v then [limL x z v] else [limH x z v]
def higO (x z : Int) (v : SpT) : List SpT := if sOf x z v = 0 then [] else if 0 < sOf x z v then [limH x z v] else [limL x z v]
def zerO (x z : Int) (v : SpT) : List (Int × Int) := if sOf x z v = 0 then [(-1, -v.2.1), (1, v.2.2)] else []
def bndP (a b : SpT) : Int × Int := (b.1.1 * a.1.2 * b.2.1 - a.1.1 * b.1.2 * a.2.1, b.2.2 * (b.1.1 * a.1.2 * b.2.1) - a.2.2 * (a.1.1 * b.1.2 * a.2.1))
def lowT (l : List SpT) (x z : Int) : List SpT := l.flatMap (lowO x z)
def higT (l : List SpT) (x z : Int) : List SpT := l.flatMap (higO x z)
def seeL (l : List SpT) (x z : Int) : List (Int × Int) := l.flatMap (zerO x z) ++ (lowT l x z).flatMap fun a => (higT l x z).map fun b => bndP a b
theorem take_flat {α β : Type} (f : α → List β) (l : List α) (d : α) {i : Nat} (hi : i < l.length) : (l.take (i + 1)).flatMap f = (l.take i).flatMap f ++ f (l.getD i d) := by
  rw [List.take_succ_eq_append_getElem hi, List.flatMap_append]
  simp [List.getD, List.getElem?_eq_getElem hi]
theorem flat_at {α β : Type} (f : α → List β) (l : List α) (d : α) {i j : Nat} (hi : i < l.length) (hj : j < (f (l.getD i d)).length) :
    (l.flatMap f)[((l.take i).flatMap f).length + j]? = (f (l.getD i d))[j]? := by
  have e : l.flatMap f = (l.take i).flatMap f ++ (f (l.getD i d) ++ (l.drop (i + 1)).flatMap f) := by
    conv => lhs; rw [← List.take_append_drop i l, List.drop_eq_getElem_cons hi]
    rw [List.flatMap_append, List.flatMap_cons]
    simp [List.getD, List.getElem?_eq_getElem hi]
  rw [e, List.getElem?_append_right (by omega), show ((l.take i).flatMap f).length + j - ((l.take i).flatMap f).length = j by omega, List.getElem?_append_left hj]
theorem flat_len_le {α β : Type} (f : α → List β) (l : List α) (n : Nat) (hf : ∀ a, (f a).length ≤ n) : (l.flatMap f).length ≤ l.length * n := by
  induction l with
  | nil => simp
  | cons a l ih =>
    rw [List.flatMap_cons, List.length_append, List.length_cons, Nat.succ_mul]
    have := hf a
    omega
theorem flat_take_le {α β : Type} (f : α → List β) (l : List α) (i : Nat) : ((l.take i).flatMap f).length ≤ (l.flatMap f).length := by
  conv => rhs; rw [← List.take_append_drop i l, List.flatMap_append, List.length_append]
  omega
def limOK (a : SpT) : Prop := -1 ≤ a.1.1 ∧ a.1.1 ≤ 1 ∧ 0 ≤ a.1.2 ∧ a.1.2 ≤ 2000000 ∧ 1 ≤ a.2.1 ∧ a.2.1 ≤ 1000000 ∧ -4096 ≤ a.2.2 ∧ a.2.2 ≤ 4096
theorem sOf_bounds {x z : Int} {v : SpT} (hx : -1000 ≤ x ∧ x ≤ 1000) (hz : 1 ≤ z ∧ z ≤ 1000) (hv : viewB v = true) : -2000000 ≤ sOf x z v ∧ sOf x z v ≤ 2000000 := by
  have h := (viewB_iff v).1 hv
  have m1 := mul_pm (a := v.1.1) (b := z) (A := 1000) (B := 1000) (by omega) (by omega) (by omega) (by omega)
  have m2 := mul_pm (a := x) (b := v.1.2) (A := 1000) (B := 1000) (by omega) (by omega) (by omega) (by omega)
  unfold sOf
  omega
theorem lim_ok {x z : Int} {v : SpT} (hx : -1000 ≤ x ∧ x ≤ 1000) (hz : 1 ≤ z ∧ z ≤ 1000) (hv : viewB v = true) : limOK (limL x z v) ∧ limOK (limH x z v) := by
  have h := (viewB_iff v).1 hv
  have s := sOf_bounds hx hz hv
  have m1 := mul_pm (a := v.1.2) (b := z) (A := 1000) (B := 1000) (by omega) (by omega) (by omega) (by omega)
  have m2 := Int.mul_pos (show 0 < v.1.2 by omega) (show 0 < z by omega)
  have k1 : -1 ≤ sgn (sOf x z v) ∧ sgn (sOf x z v) ≤ 1 := by unfold sgn; split <;> (try split) <;> omega
  have k2 : 0 ≤ absI (sOf x z v) ∧ absI (sOf x z v) ≤ 2000000 := by unfold absI; split <;> omega
  unfold limOK limL limH
  simp only []
  omega
theorem low_ok {x z : Int} {v : SpT} (hx : -1000 ≤ x ∧ x ≤ 1000) (hz : 1 ≤ z ∧ z ≤ 1000) (hv : viewB v = true) : (∀ a ∈ lowO x z v, limOK a) ∧ (∀ a ∈ higO x z v, limOK a) := by
  obtain ⟨h1, h2⟩ := lim_ok hx hz hv
  unfold lowO higO
  constructor <;> intro a ha <;> split at ha <;> (try split at ha) <;> simp at ha <;> subst ha <;> assumption
theorem lowT_ok {l : List SpT} {x z : Int} (hx : -1000 ≤ x ∧ x ≤ 1000) (hz : 1 ≤ z ∧ z ≤ 1000) (hv : ∀ i, i < l.length → viewB (l.getD i z4) = true) :
    (∀ j, j < (lowT l x z).length → limOK ((lowT l x z).getD j z4)) ∧ (∀ j, j < (higT l x z).length → limOK ((higT l x z).getD j z4)) := by
  have hv' : ∀ v ∈ l, viewB v = true := fun v hm => by
    obtain ⟨i, hi, rfl⟩ := List.getElem_of_mem hm
    have := hv i hi
    simpa [List.getD, List.getElem?_eq_getElem hi] using this
  constructor
  · intro j hj
    have : (lowT l x z).getD j z4 ∈ lowT l x z := by
      simp only [List.getD, List.getElem?_eq_getElem hj, Option.getD_some]
      exact List.getElem_mem hj
    obtain ⟨v, h1, h2⟩ := List.mem_flatMap.1 this
    exact (low_ok hx hz (hv' v h1)).1 _ h2
  · intro j hj
    have : (higT l x z).getD j z4 ∈ higT l x z := by
      simp only [List.getD, List.getElem?_eq_getElem hj, Option.getD_some]
      exact List.getElem_mem hj
    obtain ⟨v, h1, h2⟩ := List.mem_flatMap.1 this
    exact (low_ok hx hz (hv' v h1)).2 _ h2
theorem low_len (x z : Int) (v : SpT) : (lowO x z v).length ≤ 1 ∧ (higO x z v).length ≤ 1 := by
  unfold lowO higO
  constructor <;> split <;> (try split) <;> simp
theorem pc_seen (l : List SpT) (x z : Int) : PC Try.prog 51 [vws l, i64 x, i64 z] (.fn (.func 73) [] [.pt [vws l] 0, .pt [i64 z] 0, .pt [i64 x] 0]) := by
  refine pc_of_bodyF hm Try.func51 (by kernel_rfl) ?_
  conv => whnf
def seenP (q : List SpT) (x z : Int) (xs : List (List AV)) : PSigma (fun P : Nat → Prop => (∀ l, P l) → SQ Try.prog 73 [.pt [vws q] 0, .pt [i64 z] 0, .pt [i64 x] 0] xs) := ⟨_, fun hP => by
  refine sq_of_bodyF hm Try.func73 (by kernel_rfl) ⟨by kernel_rfl, fun l => ?_⟩
  conv => whnf
  refine Or.inr ⟨Nat, [20], [143], [(5, ⟨SpT, 131, 4, z4, eS⟩), (6, ⟨SpT, 131, 4, z4, eS⟩)], fun i => [i64 i], fun i => [.ctr l xs ((q.take i).flatMap (zerO x z)).length false],
    fun i => [.vec 131 4 z4 eS ((q.take i).flatMap (lowO x z)), .vec 131 4 z4 eS ((q.take i).flatMap (higO x z))], fun i => q.length - i, fun i => i ≤ q.length, ?_⟩
  (conv => whnf)
  refine ⟨⟨0, ?_⟩, ?_⟩
  · (conv => whnf)
    exact ⟨⟨Nat.zero_le _, rfl, rfl, rfl⟩, by kernel_rfl, by kernel_rfl⟩
  · exact hP l⟩
end Go.Proofs.Try.My
set_option maxRecDepth 100000
set_option maxHeartbeats 0
set_option linter.unusedVariables false
set_option linter.unusedSimpArgs false
namespace Go.Proofs.Try.My
open Go Go.Ev

/-! ### Cameras of views -/
theorem mem_okB {l : List (Int × Int)} (h : ∀ x ∈ l, okB x) : ∀ k, k < l.length → okB (l.getD k (0, 0)) := fun k hk => by
  refine h _ ?_
  simp only [List.getD, List.getElem?_eq_getElem hk, Option.getD_some]
  exact List.getElem_mem hk
theorem views_mem {l : List SpT} (hv : ∀ i, i < l.length → viewB (l.getD i z4) = true) : ∀ v ∈ l, viewB v = true := fun v hm => by
  obtain ⟨i, hi, rfl⟩ := List.getElem_of_mem hm
  have := hv i hi
  simpa [List.getD, List.getElem?_eq_getElem hi] using this
theorem focL_ok {l : List SpT} (hv : ∀ v ∈ l, viewB v = true) : ∀ x ∈ focL l, okB x := fun x hx => by
  obtain ⟨v, h1, h2⟩ := List.mem_flatMap.1 hx
  obtain ⟨w, h3, rfl⟩ := List.mem_map.1 h2
  have vi := (viewB_iff v).1 (hv v h1)
  have vj := (viewB_iff w).1 (hv w h3)
  have m1 := mul_pm (a := w.1.1) (b := v.1.2) (A := 1000) (B := 1000) (by omega) (by omega) (by omega) (by omega)
  have m2 := mul_pm (a := v.1.1) (b := w.1.2) (A := 1000) (B := 1000) (by omega) (by omega) (by omega) (by omega)
  have m3 := mul_pm (a := w.2.2 - v.2.1) (b := v.1.2) (A := 8192) (B := 1000) (by omega) (by omega) (by omega) (by omega)
  have m4 := mul_pm (a := (w.2.2 - v.2.1) * v.1.2) (b := w.1.2) (A := 8192000) (B := 1000) (by omega) (by omega) (by omega) (by omega)
  unfold okB focB
  simp only []
  omega
theorem bndP_ok {a b : SpT} (ha : limOK a) (hb : limOK b) : okB (bndP a b) := by
  unfold limOK at ha hb
  have m1 := mul_pm (a := b.1.1) (b := a.1.2) (A := 1) (B := 2000000) (by omega) (by omega) (by omega) (by omega)
  have m2 := mul_pm (a := b.1.1 * a.1.2) (b := b.2.1) (A := 2000000) (B := 1000000) (by omega) (by omega) (by omega) (by omega)
  have m3 := mul_pm (a := a.1.1) (b := b.1.2) (A := 1) (B := 2000000) (by omega) (by omega) (by omega) (by omega)
  have m4 := mul_pm (a := a.1.1 * b.1.2) (b := a.2.1) (A := 2000000) (B := 1000000) (by omega) (by omega) (by omega) (by omega)
  have m5 := mul_pm (a := b.2.2) (b := b.1.1 * a.1.2 * b.2.1) (A := 4096) (B := 2000000000000) (by omega) (by omega) (by omega) (by omega)
  have m6 := mul_pm (a := a.2.2) (b := a.1.1 * b.1.2 * a.2.1) (A := 4096) (B := 2000000000000) (by omega) (by omega) (by omega) (by omega)
  unfold okB bndP
  simp only []
  omega
theorem seeL_ok {l : List SpT} {x z : Int} (hx : -1000 ≤ x ∧ x ≤ 1000) (hz : 1 ≤ z ∧ z ≤ 1000) (hv : ∀ v ∈ l, viewB v = true) : ∀ y ∈ seeL l x z, okB y := fun y hy => by
  unfold seeL at hy
  rcases List.mem_append.1 hy with h | h
  · obtain ⟨v, h1, h2⟩ := List.mem_flatMap.1 h
    have vi := (viewB_iff v).1 (hv v h1)
    unfold zerO at h2
    split at h2
    · simp only [List.mem_cons, List.not_mem_nil, or_false] at h2
      rcases h2 with rfl | rfl <;> (unfold okB; simp only []; omega)
    · simp at h2
  · obtain ⟨a, h1, h2⟩ := List.mem_flatMap.1 h
    obtain ⟨b, h3, rfl⟩ := List.mem_map.1 h2
    obtain ⟨v, h4, h5⟩ := List.mem_flatMap.1 h1
    obtain ⟨w, h6, h7⟩ := List.mem_flatMap.1 h3
    exact bndP_ok ((low_ok hx hz (hv v h4)).1 a h5) ((low_ok hx hz (hv w h6)).2 b h7)
def agrF (l : List SpT) : Bool := (narF (focL l)).2.1 && (narF (seeL l 0 1)).2.1
def fixF (l : List SpT) : SpT × Int := if agrF l then (if (narF (focL l)).2.2 then ((narF (focL l)).1, 0) else (z4, 43)) else (z4, 6)
def calF (l : List SpT) : CamT × Int := if viewsE l = 0 then (if (fixF l).2 = 0 then (((fixF l).1, (narF (seeL l 0 1)).1), 0) else ((z4, z4), (fixF l).2)) else ((z4, z4), viewsE l)
def ranF (l : List SpT) (x z : Int) : SpT × Int :=
  if viewsE l = 0 then (if withB x (-1000) 1000 && withB z 1 1000 then (if (fixF l).2 = 0 then ((narF (seeL l x z)).1, 0) else (z4, (fixF l).2)) else (z4, 2)) else (z4, viewsE l)
end Go.Proofs.Try.My
set_option maxRecDepth 100000
set_option maxHeartbeats 0
set_option linter.unusedVariables false
set_option linter.unusedSimpArgs false
namespace Go.Proofs.Try.My
open Go Go.Ev

theorem take_views {l : List SpT} (hv : ∀ i, i < l.length → viewB (l.getD i z4) = true) (k : Nat) : ∀ i, i < (l.take k).length → viewB ((l.take k).getD i z4) = true := fun i hi => by
  rw [List.length_take] at hi
  have := hv i (by omega)
  have e : (l.take k).getD i z4 = l.getD i z4 := by
    simp only [List.getD]
    rw [List.getElem?_take_of_lt (by omega)]
  rw [e]
  exact this
/-- The first view that contradicts. -/
def badI (l : List SpT) : Int := match (List.range l.length).find? (fun i => !agrF (l.take (i + 1))) with
  | some i => (i : Int)
  | none => -1
theorem badI_hit {l : List SpT} {k : Nat} (hk : k < l.length) (h : agrF (l.take (k + 1)) = false) (h2 : ∀ j, j < k → agrF (l.take (j + 1)) = true) : badI l = (k : Int) := by
  have : (List.range l.length).find? (fun i => !agrF (l.take (i + 1))) = some k := by
    rw [List.find?_range_eq_some]
    refine ⟨by rw [h]; rfl, List.mem_range.2 hk, fun j hj => by rw [h2 j hj]; rfl⟩
  unfold badI
  rw [this]
theorem badI_none {l : List SpT} (h2 : ∀ j, j < l.length → agrF (l.take (j + 1)) = true) : badI l = -1 := by
  have : (List.range l.length).find? (fun i => !agrF (l.take (i + 1))) = none := by
    rw [List.find?_eq_none]
    intro j hj
    rw [h2 j (List.mem_range.1 hj)]
    simp
  unfold badI
  rw [this]
def badF (l : List SpT) : Int × Int := if viewsE l = 0 then (badI l, 0) else (0, viewsE l)
end Go.Proofs.Try.My
