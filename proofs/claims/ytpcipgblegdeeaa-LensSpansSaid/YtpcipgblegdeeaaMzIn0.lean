/- A helper text: contracts of functions of the program, and plain lemmas. -/
import Derived.Test.YtpcipgblegdeeaaMzLtA
import Derived.Test.YtpcipgblegdeeaaMzGp
import Derived.Test.YtpcipgblegdeeaaMzTlq
set_option maxRecDepth 100000
set_option maxHeartbeats 0
set_option linter.unusedVariables false
set_option linter.unusedSimpArgs false
namespace Go.Proofs.Try.My
open Go Go.Ev

/-! ### Tables map places up -/
/-- What lies between two knots, at a place. -/
def segV (a b c d t : Rat) : Rat := c + (t - a) * (d - c) / (b - a)
theorem segV_eq {a b c d t : Rat} (h : a < b) : (segV a b c d t - c) * (b - a) = (t - a) * (d - c) := by
  unfold segV
  have : b - a ≠ 0 := by grind
  have e : (t - a) * (d - c) / (b - a) * (b - a) = (t - a) * (d - c) := Rat.div_mul_cancel this
  grind
theorem segV_bounds {a b c d t : Rat} (h : a < b) (h2 : c < d) (h3 : a ≤ t) (h4 : t ≤ b) : c ≤ segV a b c d t ∧ segV a b c d t ≤ d := by
  have e := segV_eq (c := c) (d := d) (t := t) h
  have hk : 0 < b - a := by grind
  have m1 := Rat.mul_le_mul_of_nonneg_right (show 0 ≤ t - a by grind) (show 0 ≤ d - c by grind)
  have m2 := Rat.mul_le_mul_of_nonneg_right (show t - a ≤ b - a by grind) (show 0 ≤ d - c by grind)
  constructor
  · refine rat_le_of_mul hk ?_
    grind
  · refine rat_le_of_mul hk ?_
    grind
theorem segV_lt {a b c d t u : Rat} (h : a < b) (h2 : c < d) (h3 : t < u) : segV a b c d t < segV a b c d u := by
  have e := segV_eq (c := c) (d := d) (t := t) h
  have f := segV_eq (c := c) (d := d) (t := u) h
  have hk : 0 < b - a := by grind
  have m := (ratmul_lt (z := d - c) (show 0 < d - c by grind)).2 (show t - a < u - a by grind)
  refine (ratmul_lt hk).1 ?_
  grind
theorem segV_back {a b c d t : Rat} (h : a < b) (h2 : c < d) : segV c d a b (segV a b c d t) = t := by
  have e := segV_eq (c := c) (d := d) (t := t) h
  have f := segV_eq (c := a) (d := b) (t := segV a b c d t) h2
  have hk : d - c ≠ 0 := by grind
  have : (segV c d a b (segV a b c d t) - a) * (d - c) = (t - a) * (d - c) := by grind
  have := rat_eq_of_mul hk this
  grind
abbrev kn (l : List (Int × Int)) (i : Nat) : Int × Int := l.getD i (0, 0)
/-- What a table says of a place: it lies between two knots. -/
def OnSeg (sa st : Int × Int → Int) (l : List (Int × Int)) (x y : Int × Int) : Prop :=
  ∃ i, i + 1 < l.length ∧ ((sa (kn l i) : Int) : Rat) ≤ qv x ∧ qv x ≤ ((sa (kn l (i + 1)) : Int) : Rat) ∧ qv y = segV ((sa (kn l i) : Int) : Rat) ((sa (kn l (i + 1)) : Int) : Rat) ((st (kn l i) : Int) : Rat) ((st (kn l (i + 1)) : Int) : Rat) (qv x)
theorem qv_ge {x : Int × Int} (hx : validB x = true) (n : Int) : (n : Rat) ≤ qv x ↔ n * x.2 ≤ x.1 := by
  have hd := cast_pos (den1 hx)
  unfold qv
  constructor
  · intro h
    by_cases h2 : n * x.2 ≤ x.1
    · exact h2
    · exfalso
      have h3 : x.1 < n * x.2 := by omega
      have h4 := Rat.intCast_lt_intCast.2 h3
      rw [Rat.intCast_mul] at h4
      have h5 := Rat.mul_le_mul_of_nonneg_right h (show 0 ≤ (x.2 : Rat) by grind)
      have e : (x.1 : Rat) / (x.2 : Rat) * (x.2 : Rat) = (x.1 : Rat) := Rat.div_mul_cancel (by grind)
      grind
  · intro h
    have h4 := Rat.intCast_le_intCast.2 h
    rw [Rat.intCast_mul] at h4
    refine rat_le_of_mul hd ?_
    have e : (x.1 : Rat) / (x.2 : Rat) * (x.2 : Rat) = (x.1 : Rat) := Rat.div_mul_cancel (by grind)
    grind
theorem qv_le' {x : Int × Int} (hx : validB x = true) (n : Int) : qv x ≤ (n : Rat) ↔ x.1 ≤ n * x.2 := by
  have hd := cast_pos (den1 hx)
  have e : (x.1 : Rat) / (x.2 : Rat) * (x.2 : Rat) = (x.1 : Rat) := Rat.div_mul_cancel (by grind)
  unfold qv
  constructor
  · intro h
    have h5 := Rat.mul_le_mul_of_nonneg_right h (show 0 ≤ (x.2 : Rat) by grind)
    rw [e, ← Rat.intCast_mul] at h5
    exact Rat.intCast_le_intCast.1 h5
  · intro h
    have h4 := Rat.intCast_le_intCast.2 h
    rw [Rat.intCast_mul] at h4
    refine rat_le_of_mul hd ?_
    grind
/-- Where a table maps a place. -/
theorem map_ok {sa st : Int × Int → Int} {l : List (Int × Int)} (h : TabOk l sa st) {x : Int × Int} (hm : mayB sa l x = true) :
    (mapF sa st l x).2 = 0 ∧ validB (mapF sa st l x).1 = true ∧ OnSeg sa st l x (mapF sa st l x).1 := by
  have hm' := hm
  simp only [mayB, Bool.and_eq_true, decide_eq_true_eq] at hm'
  obtain ⟨⟨⟨hx, hd⟩, hlo⟩, hhi⟩ := hm'
  have hx1 := (validB_iff x).1 hx
  have e : mapF sa st l x = atF sa st l x (max (firstK sa l x) 1 - 1) := by unfold mapF; rw [hm]; rfl
  have h2 := h.two
  have hk := firstK_le sa l x
  have hlast : atB sa l x (l.length - 1) = true := by simp only [atB, decide_eq_true_eq]; exact hhi
  have hk2 : firstK sa l x < l.length := by
    by_cases hh : firstK sa l x < l.length
    · exact hh
    · have := firstK_below sa l x (l.length - 1) (by omega)
      rw [hlast] at this; cases this
  have hat := firstK_at sa l x hk2
  have hbe := fun j hj => firstK_below sa l x j hj
  generalize firstK sa l x = k at *
  obtain ⟨i, hi⟩ : ∃ i, max k 1 - 1 = i := ⟨_, rfl⟩
  rw [hi] at e
  have hi1 : i + 1 < l.length := by omega
  have up := h.up i hi1
  have a1 := h.inA i (by omega)
  have a2 := h.inA (i + 1) hi1
  have t1 := h.inT i (by omega)
  have t2 := h.inT (i + 1) hi1
  have lo : sa (l.getD i (0, 0)) * x.2 ≤ x.1 := by
    by_cases hk0 : k = 0
    · have : i = 0 := by omega
      rw [this]; exact hlo
    · have := hbe i (by omega)
      simp only [atB, decide_eq_false_iff_not] at this
      omega
  have hi' : x.1 ≤ sa (l.getD (i + 1) (0, 0)) * x.2 := by
    by_cases hk0 : k = 0
    · have e0 : i = 0 := by omega
      subst hk0
      simp only [atB, decide_eq_true_eq] at hat
      have m := Int.mul_le_mul_of_nonneg_right (Int.le_of_lt up) (show 0 ≤ x.2 by omega)
      rw [e0] at m ⊢
      omega
    · have : i + 1 = k := by omega
      rw [this]
      simpa [atB] using hat
  have q1 := (qv_ge hx _).2 lo
  have q2 := (qv_le' hx _).2 hi'
  obtain ⟨A, hA⟩ : ∃ A, sa (l.getD i (0, 0)) = A := ⟨_, rfl⟩
  obtain ⟨B, hB⟩ : ∃ B, sa (l.getD (i + 1) (0, 0)) = B := ⟨_, rfl⟩
  obtain ⟨C, hC⟩ : ∃ C, st (l.getD i (0, 0)) = C := ⟨_, rfl⟩
  obtain ⟨D, hD⟩ : ∃ D, st (l.getD (i + 1) (0, 0)) = D := ⟨_, rfl⟩
  rw [hA, hB] at up
  rw [hA] at a1 lo q1
  rw [hB] at a2 hi' q2
  rw [hC] at t1
  rw [hD] at t2
  have m1 := mul_bd (a := B - A) (b := x.2) (A := 8192) (B := 1048576) (by omega) (by omega) (by omega) (by omega)
  have m2 := mul_bd2 (a := C) (b := (B - A) * x.2) (A := 4096) (B := 8589934592) (by omega) (by omega) (by omega) (by omega)
  have m4 := mul_bd (a := A) (b := x.2) (A := 4096) (B := 1048576) (by omega) (by omega) (by omega) (by omega)
  have m5 := mul_bd (a := B) (b := x.2) (A := 4096) (B := 1048576) (by omega) (by omega) (by omega) (by omega)
  have m3 := mul_bd2 (a := x.1 - A * x.2) (b := D - C) (A := 8589934592) (B := 8192) (by omega) (by omega) (by omega) (by omega)
  have hp : 0 < (B - A) * x.2 := Int.mul_pos (by omega) (by omega)
  obtain ⟨v1, v2, v3⟩ := makeF_small (n := C * ((B - A) * x.2) + (x.1 - A * x.2) * (D - C)) (d := (B - A) * x.2) (by omega) (by omega) hp (by omega)
  rw [e]
  unfold atF
  rw [hA, hB, hC, hD]
  refine ⟨v2, v1, i, hi1, ?_⟩
  unfold kn
  rw [hA, hB, hC, hD]
  refine ⟨q1, q2, ?_⟩
  rw [v3]
  have c1 := cast_pos (show 0 < B - A by omega)
  have c2 := cast_pos (show 0 < x.2 by omega)
  unfold segV qv
  rw [Rat.intCast_add, Rat.intCast_mul, Rat.intCast_mul, Rat.intCast_mul, Rat.intCast_sub, Rat.intCast_sub, Rat.intCast_sub, Rat.intCast_mul]
  rw [Rat.intCast_sub] at c1
  generalize (A : Rat) = a at *
  generalize (B : Rat) = b at *
  generalize (C : Rat) = c at *
  generalize (D : Rat) = d at *
  generalize (x.1 : Rat) = n at *
  generalize (x.2 : Rat) = m at *
  have n1 : b - a ≠ 0 := by grind
  have n2 : m ≠ 0 := by grind
  have e1 : n / m * m = n := Rat.div_mul_cancel n2
  generalize n / m = r at *
  have hk : (b - a) * m ≠ 0 := by
    have := Rat.mul_pos c1 c2
    grind
  refine rat_eq_of_mul hk ?_
  rw [Rat.div_mul_cancel hk]
  have e2 : (r - a) * (d - c) / (b - a) * (b - a) = (r - a) * (d - c) := Rat.div_mul_cancel n1
  generalize (r - a) * (d - c) / (b - a) = w at *
  grind
theorem segV_start {a b c d : Rat} (h : a < b) : segV a b c d a = c := by
  have e := segV_eq (c := c) (d := d) (t := a) h
  have : b - a ≠ 0 := by grind
  have := rat_eq_of_mul (x := segV a b c d a - c) (y := 0) this (by grind)
  grind
theorem segV_end {a b c d : Rat} (h : a < b) : segV a b c d b = d := by
  have e := segV_eq (c := c) (d := d) (t := b) h
  have : b - a ≠ 0 := by grind
  have := rat_eq_of_mul (x := segV a b c d b - c) (y := d - c) this (by grind)
  grind
theorem tab_lt {sa st : Int × Int → Int} {l : List (Int × Int)} (h : TabOk l sa st) {i j : Nat} (hij : i < j) (hj : j < l.length) : sa (kn l i) < sa (kn l j) := by
  have := h.up i (by omega)
  have := h.mono j (i + 1) (by omega) hj
  unfold kn
  omega
theorem seg_mono {sa st : Int × Int → Int} {l : List (Int × Int)} (h : TabOk l sa st) (h' : TabOk l st sa) {x y a b : Int × Int} (hx : OnSeg sa st l x a) (hy : OnSeg sa st l y b) (hlt : qv x < qv y) : qv a < qv b := by
  obtain ⟨i, i1, x1, x2, ea⟩ := hx
  obtain ⟨j, j1, y1, y2, eb⟩ := hy
  have ui := Rat.intCast_lt_intCast.2 (tab_lt h (show i < i + 1 by omega) i1)
  have uj := Rat.intCast_lt_intCast.2 (tab_lt h (show j < j + 1 by omega) j1)
  have vi := Rat.intCast_lt_intCast.2 (tab_lt h' (show i < i + 1 by omega) i1)
  have vj := Rat.intCast_lt_intCast.2 (tab_lt h' (show j < j + 1 by omega) j1)
  rcases Nat.lt_trichotomy i j with hij | hij | hij
  · obtain ⟨b1, b2⟩ := segV_bounds ui vi x1 x2
    obtain ⟨b3, b4⟩ := segV_bounds uj vj y1 y2
    rw [← ea] at b1 b2
    rw [← eb] at b3 b4
    by_cases e : i + 1 = j
    · subst e
      by_cases e2 : qv x < ((sa (kn l (i + 1)) : Int) : Rat)
      · have k := segV_lt (t := qv x) ui vi e2
        rw [segV_end ui, ← ea] at k
        grind
      · have k := segV_lt (t := ((sa (kn l (i + 1)) : Int) : Rat)) (u := qv y) uj vj (by grind)
        rw [segV_start uj, ← eb] at k
        grind
    · have k := Rat.intCast_lt_intCast.2 (tab_lt h' (show i + 1 < j by omega) (by omega))
      grind
  · subst hij
    have k := segV_lt (t := qv x) (u := qv y) ui vi hlt
    rw [ea, eb]
    exact k
  · exfalso
    have m : ((sa (kn l (j + 1)) : Int) : Rat) ≤ ((sa (kn l i) : Int) : Rat) := Rat.intCast_le_intCast.2 (h.mono i (j + 1) (by omega) (by omega))
    grind
theorem seg_same {sa st : Int × Int → Int} {l : List (Int × Int)} (h : TabOk l sa st) (h' : TabOk l st sa) {x a b : Int × Int} (hx : OnSeg sa st l x a) (hy : OnSeg sa st l x b) : qv a = qv b := by
  have key : ∀ (i j : Nat), i < j → i + 1 < l.length → j + 1 < l.length → qv x ≤ ((sa (kn l (i + 1)) : Int) : Rat) → ((sa (kn l j) : Int) : Rat) ≤ qv x →
      segV ((sa (kn l i) : Int) : Rat) ((sa (kn l (i + 1)) : Int) : Rat) ((st (kn l i) : Int) : Rat) ((st (kn l (i + 1)) : Int) : Rat) (qv x) = segV ((sa (kn l j) : Int) : Rat) ((sa (kn l (j + 1)) : Int) : Rat) ((st (kn l j) : Int) : Rat) ((st (kn l (j + 1)) : Int) : Rat) (qv x) := fun i j hij i1 j1 a1 a2 => by
    have ui := Rat.intCast_lt_intCast.2 (tab_lt h (show i < i + 1 by omega) i1)
    have uj := Rat.intCast_lt_intCast.2 (tab_lt h (show j < j + 1 by omega) j1)
    by_cases e : i + 1 = j
    · subst e
      have ex : qv x = ((sa (kn l (i + 1)) : Int) : Rat) := by grind
      rw [ex, segV_end ui, segV_start uj]
    · exfalso
      have k := Rat.intCast_lt_intCast.2 (tab_lt h (show i + 1 < j by omega) (by omega))
      grind
  obtain ⟨i, i1, x1, x2, ea⟩ := hx
  obtain ⟨j, j1, y1, y2, eb⟩ := hy
  rw [ea, eb]
  rcases Nat.lt_trichotomy i j with hij | hij | hij
  · exact key i j hij i1 j1 x2 y1
  · subst hij; rfl
  · exact (key j i hij j1 i1 y2 x1).symm
theorem seg_back {sa st : Int × Int → Int} {l : List (Int × Int)} (h : TabOk l sa st) (h' : TabOk l st sa) {x a : Int × Int} (hx : OnSeg sa st l x a) : OnSeg st sa l a x := by
  obtain ⟨i, i1, x1, x2, ea⟩ := hx
  have ui := Rat.intCast_lt_intCast.2 (tab_lt h (show i < i + 1 by omega) i1)
  have vi := Rat.intCast_lt_intCast.2 (tab_lt h' (show i < i + 1 by omega) i1)
  obtain ⟨b1, b2⟩ := segV_bounds ui vi x1 x2
  refine ⟨i, i1, by rw [ea]; exact b1, by rw [ea]; exact b2, ?_⟩
  rw [ea, segV_back ui vi]
theorem may_known {sa : Int × Int → Int} {l : List (Int × Int)} {x : Int × Int} (hm : mayB sa l x = true) : validB x = true ∧ x.2 ≤ 1048576 ∧ ((sa (kn l 0) : Int) : Rat) ≤ qv x ∧ qv x ≤ ((sa (kn l (l.length - 1)) : Int) : Rat) := by
  simp only [mayB, Bool.and_eq_true, decide_eq_true_eq] at hm
  obtain ⟨⟨⟨hx, hd⟩, hlo⟩, hhi⟩ := hm
  exact ⟨hx, hd, (qv_ge hx _).2 hlo, (qv_le' hx _).2 hhi⟩
theorem may_of {sa : Int × Int → Int} {l : List (Int × Int)} {x : Int × Int} (hx : validB x = true) (hd : x.2 ≤ 1048576) (h1 : ((sa (kn l 0) : Int) : Rat) ≤ qv x) (h2 : qv x ≤ ((sa (kn l (l.length - 1)) : Int) : Rat)) : mayB sa l x = true := by
  simp only [mayB, Bool.and_eq_true, decide_eq_true_eq]
  exact ⟨⟨⟨hx, hd⟩, (qv_ge hx _).1 h1⟩, (qv_le' hx _).1 h2⟩
theorem cor_known {sa st : Int × Int → Int} {l : List (Int × Int)} {x : Int × Int} (h0 : (corF sa st l x).2 = 0) : knotsB l = true ∧ mayB sa l x = true ∧ corF sa st l x = mapF sa st l x := by
  unfold corF at h0 ⊢
  cases hk : knotsB l
  · rw [hk] at h0; simp at h0
  rw [hk] at h0
  simp only [if_true] at h0 ⊢
  refine ⟨trivial, ?_, trivial⟩
  cases hm : mayB sa l x
  · unfold mapF at h0; rw [hm] at h0; simp at h0
  · rfl
theorem seg_cmp {sa st : Int × Int → Int} {l : List (Int × Int)} (h : TabOk l sa st) (h' : TabOk l st sa) {x y a b : Int × Int} (vx : validB x = true) (vy : validB y = true) (va : validB a = true) (vb : validB b = true) (hx : OnSeg sa st l x a) (hy : OnSeg sa st l y b) : cmpF x y = cmpF a b := by
  rcases cmpF_cases vx vy with ⟨k, e⟩ | ⟨k, e0, e⟩ | ⟨k, e⟩
  · have := seg_mono h h' hx hy k
    rcases cmpF_cases va vb with ⟨k2, e2⟩ | ⟨k2, _, e2⟩ | ⟨k2, e2⟩ <;> rw [e, e2] <;> exfalso <;> grind
  · subst e0
    have := seg_same h h' hx hy
    rcases cmpF_cases va vb with ⟨k2, e2⟩ | ⟨k2, _, e2⟩ | ⟨k2, e2⟩
    · exfalso; grind
    · rw [e, e2]
    · exfalso; grind
  · have := seg_mono h h' hy hx k
    rcases cmpF_cases va vb with ⟨k2, e2⟩ | ⟨k2, _, e2⟩ | ⟨k2, e2⟩
    · exfalso; grind
    · exfalso; grind
    · rw [e, e2]
/-- Correct and Distort. -/
theorem inv_law {l : List (Int × Int)} {x y : Int × Int} (h1 : (corF Prod.fst Prod.snd l x).2 = 0) (h2 : (corF Prod.fst Prod.snd l y).2 = 0) :
    validB x = true ∧ validB y = true ∧ validB (corF Prod.fst Prod.snd l x).1 = true ∧ validB (corF Prod.fst Prod.snd l y).1 = true ∧ cmpF x y = cmpF (corF Prod.fst Prod.snd l x).1 (corF Prod.fst Prod.snd l y).1 ∧
      ((corF Prod.fst Prod.snd l x).1.2 ≤ 1048576 → corF Prod.snd Prod.fst l (corF Prod.fst Prod.snd l x).1 = (x, 0)) := by
  obtain ⟨hk, m1, e1⟩ := cor_known h1
  obtain ⟨_, m2, e2⟩ := cor_known h2
  have ta := tab_at hk
  have tb := tab_to hk
  obtain ⟨_, v1, s1⟩ := map_ok ta m1
  obtain ⟨_, v2, s2⟩ := map_ok ta m2
  rw [e1, e2]
  generalize (mapF Prod.fst Prod.snd l x).1 = a at *
  generalize (mapF Prod.fst Prod.snd l y).1 = b at *
  have vx := (may_known m1).1
  refine ⟨vx, (may_known m2).1, v1, v2, seg_cmp ta tb vx (may_known m2).1 v1 v2 s1 s2, fun hd => ?_⟩
  have sb := seg_back ta tb s1
  have hm : mayB Prod.snd l a = true := by
    obtain ⟨i, i1, a1, a2, _⟩ := sb
    have k1 := Rat.intCast_le_intCast.2 (tb.mono i 0 (by omega) (by omega))
    have k2 := Rat.intCast_le_intCast.2 (tb.mono (l.length - 1) (i + 1) (by omega) (by omega))
    exact may_of v1 hd (Rat.le_trans k1 a1) (Rat.le_trans a2 k2)
  obtain ⟨w0, w1, w2⟩ := map_ok tb hm
  have eq := seg_same tb ta w2 sb
  have := (qv_eq w1 vx).1 eq
  unfold corF
  rw [hk]
  simp only [if_true]
  rw [← this, ← w0]
/-- Corrected spans. -/
theorem spn_law {l : List (Int × Int)} {s : SpT} {x : Int × Int} (h1 : (corS l s).2 = 0) :
    corF Prod.fst Prod.snd l s.1 = ((corS l s).1.1, 0) ∧ corF Prod.fst Prod.snd l s.2 = ((corS l s).1.2, 0) ∧ spanB s = true ∧ spanB (corS l s).1 = true ∧
      (validB x = true → hasB s x = true → (x.2 ≤ 1048576 → (corF Prod.fst Prod.snd l x).2 = 0) ∧ ((corF Prod.fst Prod.snd l x).2 = 0 → validB (corF Prod.fst Prod.snd l x).1 = true ∧ hasB (corS l s).1 (corF Prod.fst Prod.snd l x).1 = true)) := by
  unfold corS at h1 ⊢
  cases hk : knotsB l
  · rw [hk] at h1; simp at h1
  rw [hk] at h1
  simp only [if_true] at h1 ⊢
  split at h1
  rotate_left
  · simp at h1
  rename_i hc
  rw [if_pos hc]
  simp only [Bool.and_eq_true, decide_eq_true_eq] at hc
  obtain ⟨⟨hs, z1⟩, z2⟩ := hc
  have c1 : corF Prod.fst Prod.snd l s.1 = mapF Prod.fst Prod.snd l s.1 := by unfold corF; rw [hk]; rfl
  have c2 : corF Prod.fst Prod.snd l s.2 = mapF Prod.fst Prod.snd l s.2 := by unfold corF; rw [hk]; rfl
  have m1 := (cor_known (sa := Prod.fst) (st := Prod.snd) (l := l) (x := s.1) (by rw [c1]; exact z1)).2.1
  have m2 := (cor_known (sa := Prod.fst) (st := Prod.snd) (l := l) (x := s.2) (by rw [c2]; exact z2)).2.1
  have ta := tab_at hk
  have tb := tab_to hk
  obtain ⟨_, v1, s1⟩ := map_ok ta m1
  obtain ⟨_, v2, s2⟩ := map_ok ta m2
  obtain ⟨b1, b2, b3⟩ := spanB_qv.1 hs
  refine ⟨by rw [c1, ← z1], by rw [c2, ← z2], hs, ?_, ?_⟩
  · rw [spanB_qv]
    refine ⟨v1, v2, ?_⟩
    show qv (mapF Prod.fst Prod.snd l s.1).1 ≤ qv (mapF Prod.fst Prod.snd l s.2).1
    by_cases e : qv s.1 = qv s.2
    · have e' := (qv_eq b1 b2).1 e
      rw [e']
      exact Rat.le_refl
    · have := seg_mono ta tb s1 s2 (by grind)
      grind
  · intro vx hin
    simp only [hasB, Bool.and_eq_true, decide_eq_true_eq] at hin
    rw [cmpF_le b1 vx, cmpF_le vx b2] at hin
    refine ⟨fun hd => ?_, fun h0 => ?_⟩
    · have hm : mayB Prod.fst l x = true := may_of vx hd (Rat.le_trans (may_known m1).2.2.1 hin.1) (Rat.le_trans hin.2 (may_known m2).2.2.2)
      unfold corF
      rw [hk]
      exact (map_ok ta hm).1
    · obtain ⟨_, m3, e3⟩ := cor_known h0
      obtain ⟨_, v3, s3⟩ := map_ok ta m3
      rw [e3]
      refine ⟨v3, ?_⟩
      simp only [hasB, Bool.and_eq_true, decide_eq_true_eq]
      rw [← seg_cmp ta tb b1 vx v1 v3 s1 s3, ← seg_cmp ta tb vx b2 v3 v2 s3 s2, cmpF_le b1 vx, cmpF_le vx b2]
      exact hin
end Go.Proofs.Try.My
