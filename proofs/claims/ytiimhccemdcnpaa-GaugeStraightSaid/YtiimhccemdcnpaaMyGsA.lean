/- A helper text: contracts of functions of the program, and plain lemmas. -/
import Derived.Test.YtiimhccemdcnpaaMyHoA
import Derived.Test.YtiimhccemdcnpaaMyVw0
import Derived.Test.YtiimhccemdcnpaaEvSix
import Derived.Test.YtiimhccemdcnpaaMyGb0
import Derived.Test.YtiimhccemdcnpaaMyAlA
import Derived.Test.YtiimhccemdcnpaaMyHo1
import Derived.Test.YtiimhccemdcnpaaMyRc1
set_option maxRecDepth 100000
set_option maxHeartbeats 0
set_option linter.unusedVariables false
set_option linter.unusedSimpArgs false
namespace Go.Proofs.Try.My
open Go Go.Ev

/-! ### A row whose true profile is known -/
theorem tmod_small {x m : Int} (h1 : -m < x) (h2 : x < m) : Int.tmod x m = x := by
  rcases Int.le_total 0 x with h | h
  · exact Int.tmod_eq_of_lt h h2
  · have := Int.neg_tmod (a := -x) (b := m)
    rw [Int.neg_neg] at this
    rw [this, Int.tmod_eq_of_lt (by omega) (by omega)]
    omega
def mvsQ (p q : List Int) : List Int := (List.range p.length).map fun i => 4 * (q.getD i 0 - p.getD i 0)
theorem alw_true {p q : List Int} {noise : Int} (hn : 0 ≤ noise) (hl : q.length = p.length) (hq : ∀ i, i < p.length → (0 ≤ q.getD i 0 ∧ q.getD i 0 ≤ 255) ∧ -noise ≤ q.getD i 0 - p.getD i 0 ∧ q.getD i 0 - p.getD i 0 ≤ noise) : alwL p (mvsQ p q) noise = sclL q := by
  refine List.ext_getElem (by rw [alwL_length, sclL_length, hl]) fun i h1 h2 => ?_
  rw [alwL_length] at h1
  have e1 : (alwL p (mvsQ p q) noise)[i] = (alwL p (mvsQ p q) noise).getD i 0 := by simp [List.getD, h1, alwL_length]
  have e2 : (sclL q)[i] = (sclL q).getD i 0 := by simp [List.getD, h2]
  rw [e1, e2, alwL_getD, if_pos h1, sclL_getD]
  obtain ⟨⟨a1, a2⟩, b1, b2⟩ := hq i h1
  have em : (mvsQ p q).getD i 0 = 4 * (q.getD i 0 - p.getD i 0) := by unfold mvsQ; simp [List.getD, h1]
  have lm : i < (mvsQ p q).length := by unfold mvsQ; simpa using h1
  unfold valQ byQ
  rw [if_pos lm, em, tmod_small (by omega) (by omega)]
  unfold clipQ
  split <;> split at * <;> omega
theorem edge_row {p q : List Int} {thr noise : Int} (hl : q.length = p.length) (hp16 : p.length ≤ 16) (hq : ∀ i, i < p.length → (0 ≤ q.getD i 0 ∧ q.getD i 0 ≤ 255) ∧ -noise ≤ q.getD i 0 - p.getD i 0 ∧ q.getD i 0 - p.getD i 0 ≤ noise)
    (h : (edgF p thr 0 noise 1).2 = 0) (y : Nat) : ∃ n d : Int, fstN q thr 0 = (n, d, true) ∧ 0 ≤ n ∧ n ≤ 70000 ∧ 0 < d ∧ d ≤ 1020 ∧ (edgV (edgF p thr 0 noise 1).1 y).2.1 ≤ 16 * n / d ∧ (16 * n + d - 1) / d ≤ (edgV (edgF p thr 0 noise 1).1 y).2.2 := by
  obtain ⟨hp, hk, _, sb, k, j, bk, bj, e, q1, q2⟩ := edg_known (.inl rfl) h
  obtain ⟨t1, t2, a1, a2, n1, n2⟩ := ask_known hk
  have ea := alw_true n1 hl hq
  obtain ⟨m, hm, m1, m2⟩ := alw_between (moves := mvsQ p q) (prof_byte hp) n1 bk bj
  rw [ea] at hm m1 m2
  rw [brk_scl] at hm
  obtain ⟨_, c1, c2⟩ := brk_some.1 hm
  rw [stepR_scl _ c1 c2] at m1 m2
  have big : bigL q := fun i hi => by have := (hq i (by omega)).1; omega
  obtain ⟨n, d, x1, x2, x3, x4, x5, x6⟩ := fstN_some big (by omega) (Int.le_refl 0) (by omega) hm
  have n0 : 0 ≤ n := by
    obtain ⟨r0, _⟩ := step_range c1 c2
    have z := cast_pos (show 0 < d by omega)
    have qd : (n : Rat) / (d : Rat) * (d : Rat) = (n : Rat) := Rat.div_mul_cancel (by grind)
    have : (0 : Rat) ≤ (n : Rat) / (d : Rat) * (d : Rat) := Rat.mul_nonneg (by rw [x6, show ((0 : Int) : Rat) = 0 from rfl]; grind) (Rat.le_of_lt z)
    rw [qd] at this
    exact Rat.intCast_le_intCast.1 this
  refine ⟨n, d, x1, n0, x3, x4, x5, ?_⟩
  have inS : InR (edgF p thr 0 noise 1).1 ((n : Rat) / (d : Rat)) := by
    rw [x6, e]
    simp only [show ¬ ((1 : Int) < 0) by decide, if_false]
    unfold InR
    rw [q1, q2, show ((1 : Int) : Rat) = 1 from rfl]
    constructor <;> grind
  have in16 : InR s16 16 := by
    have : qv (16, 1) = 16 := by rw [qv_one]; rfl
    unfold InR
    simp only [this]
    constructor <;> exact Rat.le_refl
  obtain ⟨h0, z1, z2, _⟩ := edge_view h 0 (by omega) hp16
  have inT := mulS_inR h0 inS in16
  unfold edgV
  generalize (mulS (edgF p thr 0 noise 1).1 s16).1 = T at *
  obtain ⟨⟨n1', d1'⟩, ⟨n2', d2'⟩⟩ := T
  simp only [] at *
  have p1 := (validB_iff _).1 z1
  have p2 := (validB_iff _).1 z2
  simp only [] at p1 p2
  obtain ⟨fl1, _⟩ := floor_le (n := n1') (d := d1') (by omega)
  obtain ⟨_, fl2⟩ := floor_le (n := n2') (d := d2') (by omega)
  have Q1 : qv (n1', d1') = (n1' : Rat) / (d1' : Rat) := rfl
  have Q2 : qv (n2', d2') = (n2' : Rat) / (d2' : Rat) := rfl
  obtain ⟨i1, i2⟩ := inT
  simp only [] at i1 i2
  have z := cast_pos (show 0 < d by omega)
  have qd : (n : Rat) / (d : Rat) * (d : Rat) = (n : Rat) := Rat.div_mul_cancel (by grind)
  have c16 : ((16 : Int) : Rat) = 16 := rfl
  constructor
  · refine (Int.le_ediv_iff_mul_le (show 0 < d by omega)).2 ?_
    refine Rat.intCast_le_intCast.1 ?_
    rw [Rat.intCast_mul, Rat.intCast_mul, c16]
    have := Rat.mul_le_mul_of_nonneg_right (show ((n1' / d1' : Int) : Rat) ≤ (n : Rat) / (d : Rat) * 16 by grind) (Rat.le_of_lt z)
    grind
  · have : 16 * n ≤ -(-n2' / d2') * d := by
      refine Rat.intCast_le_intCast.1 ?_
      rw [Rat.intCast_mul, Rat.intCast_mul, c16]
      have := Rat.mul_le_mul_of_nonneg_right (show (n : Rat) / (d : Rat) * 16 ≤ ((-(-n2' / d2') : Int) : Rat) by grind) (Rat.le_of_lt z)
      grind
    have k2 : (16 * n + d - 1) / d < -(-n2' / d2') + 1 := by
      refine Int.ediv_lt_of_lt_mul (by omega) ?_
      rw [Int.add_mul]
      omega
    omega

/-! ### The image of a straight edge -/
def truV (at0 rise : Int) (x : Nat) : Int :=
  if 32 * rise < (if 0 > (16 * (x : Int) - at0 + 16) * rise then 0 else (16 * (x : Int) - at0 + 16) * rise) then 32 * rise else (if 0 > (16 * (x : Int) - at0 + 16) * rise then 0 else (16 * (x : Int) - at0 + 16) * rise)
def truL (at0 rise : Int) (W : Nat) : List Int := (List.range W).map (truV at0 rise)
def mvV (moves : List Int) (noise : Int) (k : Nat) : Int := if k < moves.length ∧ 0 < noise then Int.tmod (moves.getD k 0) (noise + 1) else 0
def clip8 (v : Int) : Int := if (if v > 0 then v else 0) < 255 then (if v > 0 then v else 0) else 255
def pixV (f c rise : Int) (moves : List Int) (noise : Int) (W k : Nat) : Int := clip8 (truV (c + f * ((k / W : Nat) : Int)) rise (k % W) + mvV moves noise k)
def pixL (f c rise : Int) (moves : List Int) (noise : Int) (W n : Nat) : List Int := (List.range n).map (pixV f c rise moves noise W)
theorem truV_range (at0 : Int) {rise : Int} (h : 0 ≤ rise) (x : Nat) : 0 ≤ truV at0 rise x ∧ truV at0 rise x ≤ 32 * rise := by
  unfold truV
  generalize (16 * (x : Int) - at0 + 16) * rise = A
  split <;> split at * <;> omega
theorem truL_getD (at0 rise : Int) {W x : Nat} (h : x < W) : (truL at0 rise W).getD x 0 = truV at0 rise x := by simp [truL, List.getD, h]
theorem truL_length (at0 rise : Int) (W : Nat) : (truL at0 rise W).length = W := by simp [truL]
theorem pixL_length (f c rise : Int) (moves : List Int) (noise : Int) (W n : Nat) : (pixL f c rise moves noise W n).length = n := by simp [pixL]
theorem mvV_range (moves : List Int) {noise : Int} (h : 0 ≤ noise) (k : Nat) : -noise ≤ mvV moves noise k ∧ mvV moves noise k ≤ noise := by
  unfold mvV
  split
  · generalize moves.getD k 0 = m
    have h1 := Int.tmod_lt_of_pos m (b := noise + 1) (by omega)
    have h2 := Int.neg_tmod (a := m) (b := noise + 1)
    have h3 := Int.tmod_lt_of_pos (-m) (b := noise + 1) (by omega)
    omega
  · omega
theorem clip8_range (v : Int) : 0 ≤ clip8 v ∧ clip8 v ≤ 255 := by unfold clip8; split <;> split at * <;> omega
theorem clip8_near {v m noise : Int} (h1 : 0 ≤ v) (h2 : v ≤ 255) (h3 : -noise ≤ m) (h4 : m ≤ noise) : -noise ≤ v - clip8 (v + m) ∧ v - clip8 (v + m) ≤ noise := by unfold clip8; split <;> split at * <;> omega
theorem pix_row {f c rise : Int} {moves : List Int} {noise : Int} {W H y : Nat} (hW : 0 < W) (hy : y < H) {x : Nat} (hx : x < W) :
    (rowP (pixL f c rise moves noise W (W * H)) W y).getD x 0 = clip8 (truV (c + f * (y : Int)) rise x + mvV moves noise (y * W + x)) := by
  have m1 : (y + 1) * W ≤ H * W := Nat.mul_le_mul_right W hy
  have m2 : H * W = W * H := Nat.mul_comm _ _
  have m3 : (y + 1) * W = y * W + W := Nat.succ_mul y W
  have hk : y * W + x < W * H := by omega
  have e1 : (rowP (pixL f c rise moves noise W (W * H)) W y).getD x 0 = (pixL f c rise moves noise W (W * H)).getD (y * W + x) 0 := by
    unfold rowP
    simp [List.getD, List.getElem?_take, List.getElem?_drop, hx]
  have e2 : (pixL f c rise moves noise W (W * H)).getD (y * W + x) 0 = pixV f c rise moves noise W (y * W + x) := by simp [pixL, List.getD, hk]
  have d1 : (y * W + x) / W = y := by rw [Nat.mul_comm, Nat.mul_add_div hW, Nat.div_eq_of_lt hx, Nat.add_zero]
  have d2 : (y * W + x) % W = x := by rw [Nat.mul_comm, Nat.mul_add_mod]; exact Nat.mod_eq_of_lt hx
  rw [e1, e2]
  unfold pixV
  rw [d1, d2]
theorem row_length {pix : List Int} {W H y : Nat} (h : pix.length = W * H) (hy : y < H) : (rowP pix W y).length = W := by
  have m1 : (y + 1) * W ≤ H * W := Nat.mul_le_mul_right W hy
  have m2 : H * W = W * H := Nat.mul_comm _ _
  have m3 : (y + 1) * W = y * W + W := Nat.succ_mul y W
  unfold rowP
  rw [List.length_take, List.length_drop]
  omega
/-- What a view of such an image says. -/
def ViewOk (f c rise : Int) (W H : Nat) (v : SpT) : Prop :=
  ∃ y : Nat, y < H ∧ v.1 = ((y : Int), 1) ∧ ∃ n d : Int, fstN (truL (c + f * (y : Int)) rise W) (16 * rise) 0 = (n, d, true) ∧ 0 ≤ n ∧ n ≤ 70000 ∧ 0 < d ∧ d ≤ 1020 ∧ v.2.1 ≤ 16 * n / d ∧ (16 * n + d - 1) / d ≤ v.2.2
theorem views_ok {f c rise : Int} {moves : List Int} {noise : Int} {W H : Nat} (hr : 0 ≤ rise) (hr2 : rise ≤ 6) (hW : 0 < W) (hW2 : W ≤ 16) (hn : 0 ≤ noise) : ∀ {K : Nat}, K ≤ H → ∀ v ∈ imV (pixL f c rise moves noise W (W * H)) W (16 * rise) noise K, ViewOk f c rise W H v
  | 0, _, v, hv => by simp [imV] at hv
  | K + 1, hK, v, hv => by
    rw [imV_succ] at hv
    rcases List.mem_append.1 hv with h | h
    · exact views_ok hr hr2 hW hW2 hn (by omega) v h
    · unfold rowV at h
      split at h
      · rename_i he
        simp only [List.mem_cons, List.not_mem_nil, or_false] at h
        subst h
        have lr : (rowP (pixL f c rise moves noise W (W * H)) W K).length = W := row_length (pixL_length ..) (by omega)
        obtain ⟨n, d, x1, x2, x3, x4, x5, x6, x7⟩ := edge_row (q := truL (c + f * (K : Int)) rise W) (by rw [truL_length, lr]) (by omega) (fun i hi => by
          rw [lr] at hi
          rw [truL_getD _ _ hi, pix_row hW (by omega) hi]
          have t := truV_range (c + f * (K : Int)) hr i
          have m := mvV_range moves hn (K * W + i)
          exact ⟨by omega, clip8_near t.1 (by omega) m.1 m.2⟩) he K
        exact ⟨K, by omega, rfl, n, d, x1, x2, x3, x4, x5, x6, x7⟩
      · cases h
/-- Views that all lie on the line. -/
theorem straight_law {f c : Int} {l : List SpT} (hl : l.length ≤ 12) (h2 : 2 ≤ l.length) (hv : ∀ v ∈ l, viewB v = true ∧ v.1.2 = 1) (hp : l.Pairwise (fun a b => a.1.1 < b.1.1)) (hx : ∀ v ∈ l, v.2.1 ≤ c + f * v.1.1 ∧ c + f * v.1.1 ≤ v.2.2)
    (f1 : -128 ≤ f) (f2 : f ≤ 127) (c1 : -128 ≤ c) (c2 : c ≤ 127) : (calF l).2 = 0 ∧ holB (calF l).1.1 f 1 = true ∧ holB (calF l).1.2 c 1 = true := by
  have hE : viewsE l = 0 := viewsE_of hl fun v h => (hv v h).1
  have one : ((1 : Int) : Rat) = 1 := rfl
  have hF : Feas l (f : Rat) (c : Rat) := fun v h => by
    obtain ⟨_, z⟩ := hv v h
    obtain ⟨x1, x2⟩ := hx v h
    unfold Ful
    rw [z, one]
    have a : (v.2.1 : Rat) ≤ (c : Rat) + (f : Rat) * (v.1.1 : Rat) := by rw [← Rat.intCast_mul, ← Rat.intCast_add]; exact Rat.intCast_le_intCast.2 x1
    have b : (c : Rat) + (f : Rat) * (v.1.1 : Rat) ≤ (v.2.2 : Rat) := by rw [← Rat.intCast_mul, ← Rat.intCast_add]; exact Rat.intCast_le_intCast.2 x2
    constructor <;> grind
  have hA : ¬ AlikeP l := fun hA => by
    have k := List.pairwise_iff_getElem.1 hp 0 1 (by omega) (by omega) (by omega)
    have m0 := (hv _ (List.getElem_mem (show 0 < l.length by omega))).2
    have m1 := (hv _ (List.getElem_mem (show 1 < l.length by omega))).2
    have := hA _ (List.getElem_mem (show 0 < l.length by omega)) _ (List.getElem_mem (show 1 < l.length by omega))
    rw [m0, m1] at this
    omega
  obtain ⟨g1, g2, g3, g4, g5, _⟩ := cal_true hE hF hA
  have dv : ∀ n : Int, (n : Rat) / ((1 : Int) : Rat) = (n : Rat) := fun n => by
    have := Rat.div_mul_cancel (a := (n : Rat)) (b := ((1 : Int) : Rat)) (by decide)
    rw [one] at this ⊢
    grind
  refine ⟨g1, holB_true g2 (by omega) (by omega) (by omega) (by omega) (by rw [dv]; exact g3.1) (by rw [dv]; exact g3.2), holB_true g4 (by omega) (by omega) (by omega) (by omega) (by rw [dv]; exact g5.1) (by rw [dv]; exact g5.2)⟩
end Go.Proofs.Try.My
set_option maxRecDepth 100000
set_option maxHeartbeats 0
set_option linter.unusedVariables false
set_option linter.unusedSimpArgs false
namespace Go.Proofs.Try.My
open Go Go.Ev

theorem tru_wrap {at0 rise : Int} {x : Nat} (a1 : -2000 ≤ at0) (a2 : at0 ≤ 2000) (r1 : 0 ≤ rise) (r2 : rise ≤ 6) (hx : x < 16) :
    IntKind.i64.wrap (IntKind.i64.wrap (IntKind.i64.wrap (IntKind.i64.wrap (16 * (x : Int)) - at0) + 16) * rise) = (16 * (x : Int) - at0 + 16) * rise ∧ IntKind.i64.wrap (32 * rise) = 32 * rise := by
  have m := mul_size (a := 16 * (x : Int) - at0 + 16) (b := rise) (A := 3000) (B := 6) (by omega) (by omega) (by omega) (by omega)
  rw [w64 (16 * (x : Int)) (by omega) (by omega), w64 (16 * (x : Int) - at0) (by omega) (by omega), w64 (16 * (x : Int) - at0 + 16) (by omega) (by omega), w64 _ (by omega) (by omega), w64 (32 * rise) (by omega) (by omega)]
  exact ⟨rfl, rfl⟩
theorem pc_gedge (at0 rise : Int) (W : Nat) (a1 : -2000 ≤ at0) (a2 : at0 ≤ 2000) (r1 : 0 ≤ rise) (r2 : rise ≤ 6) (hW : 0 < W) (hW2 : W ≤ 16) (n d : Int) (hf : fstN (truL at0 rise W) (16 * rise) 0 = (n, d, true)) (n0 : 0 ≤ n) (n1 : n ≤ 70000) (d0 : 0 < d) (d1 : d ≤ 1020) :
    PC Try.prog 7 [i64 at0, i64 rise, i64 W] (.tup [i64 (16 * n / d), i64 ((16 * n + d - 1) / d)]) := by
  have cf := pc_first (truL at0 rise W) (16 * rise) 0 (fun i hi => by rw [truL_length] at hi; rw [truL_getD _ _ hi]; have := truV_range at0 r1 i; omega) (by rw [truL_length]; omega) (Int.le_refl 0) (by rw [truL_length]; omega)
  rw [hf] at cf
  dsimp only at cf
  have hd0 : d ≠ 0 := by omega
  have w16 : IntKind.i64.wrap (16 * rise) = 16 * rise := w64 _ (by omega) (by omega)
  have q1 : Int.tdiv (16 * n) d = 16 * n / d := Int.tdiv_eq_ediv_of_nonneg (by omega)
  have q2 : Int.tdiv (16 * n + d - 1) d = (16 * n + d - 1) / d := Int.tdiv_eq_ediv_of_nonneg (by omega)
  have b1 : 0 ≤ 16 * n / d ∧ 16 * n / d ≤ 16 * n := ⟨Int.ediv_nonneg (by omega) (by omega), Int.ediv_le_self _ (by omega)⟩
  have b2 : 0 ≤ (16 * n + d - 1) / d ∧ (16 * n + d - 1) / d ≤ 16 * n + d - 1 := ⟨Int.ediv_nonneg (by omega) (by omega), Int.ediv_le_self _ (by omega)⟩
  refine pc_of_bodyF hm Try.func7 (by kernel_rfl) ?_
  conv => whnf
  refine Or.inr ⟨Nat, [14], [], [(8, ⟨Int, 3, 1, 0, eI⟩)], fun i => [i64 i], fun _ => [], fun i => [.vec 3 1 0 eI (truL at0 rise i)], fun i => W - i, fun i => i ≤ W, ?_⟩
  (conv => whnf)
  refine ⟨⟨0, ?_⟩, ?_⟩
  · (conv => whnf)
    exact ⟨⟨Nat.zero_le _, rfl, rfl, rfl⟩, by kernel_rfl, by kernel_rfl⟩
  · intro k hk
    (conv => whnf)
    refine ⟨fun h => ?_, fun h => ?_⟩
    · have h := of_decide_eq_true h
      have h' : k < W := Int.ofNat_lt.1 h
      obtain ⟨t1, t2⟩ := tru_wrap a1 a2 r1 r2 (show k < 16 by omega)
      (conv => whnf)
      refine ⟨⟨Int, 1, 0, eI, truL at0 rise k⟩, [truV at0 rise k], rfl, rfl, ⟨rfl, ?_⟩, ?_, ?_, fun y _ => ⟨rfl, rfl, rfl⟩, ?_⟩
      · show [[i64 (if IntKind.i64.wrap (32 * rise) < (if 0 > IntKind.i64.wrap (IntKind.i64.wrap (IntKind.i64.wrap (IntKind.i64.wrap (16 * (k : Int)) - at0) + 16) * rise) then 0 else IntKind.i64.wrap (IntKind.i64.wrap (IntKind.i64.wrap (IntKind.i64.wrap (16 * (k : Int)) - at0) + 16) * rise)) then IntKind.i64.wrap (32 * rise) else (if 0 > IntKind.i64.wrap (IntKind.i64.wrap (IntKind.i64.wrap (IntKind.i64.wrap (16 * (k : Int)) - at0) + 16) * rise) then 0 else IntKind.i64.wrap (IntKind.i64.wrap (IntKind.i64.wrap (IntKind.i64.wrap (16 * (k : Int)) - at0) + 16) * rise)))]] = [[i64 (truV at0 rise k)]]
        rw [t1, t2]
        rfl
      · show ((truL at0 rise k).length + 1) * 8 ≤ _; rw [truL_length]; omega
      · show (truL at0 rise k).length + 1 ≤ _; rw [truL_length]; omega
      (conv => whnf)
      refine ⟨k + 1, ?_⟩
      (conv => whnf)
      refine ⟨⟨⟨Nat.sub_lt_sub_left (by omega) (Nat.lt_succ_self k), by omega⟩, ?_, rfl, ?_⟩, by kernel_rfl, by kernel_rfl⟩
      · rw [w64 _ (by omega) (by omega)]; rfl
      · show [Row.vec _ 1 0 eI (truL at0 rise k ++ [truV at0 rise k])] = [Row.vec _ 1 0 eI (truL at0 rise (k + 1))]
        unfold truL
        rw [List.range_succ, List.map_append]; rfl
    · have h := of_decide_eq_false h
      have e4 : k = W := by omega
      subst e4
      (conv => whnf)
      rw [w16]
      (repeat' (first | (refine ⟨_, by first | exact cf, ?_⟩; (conv => whnf)) | (refine Or.inl ?_; (conv => whnf); refine ⟨_, by first | exact cf, ?_⟩; (conv => whnf)) | (refine Or.inl ?_; (conv => whnf); refine ⟨false, ?_⟩; (conv => whnf); refine ⟨_, by first | exact cf, ?_⟩; (conv => whnf)) | (refine ⟨by kernel_rfl, ?_⟩; (conv => whnf)) | (refine ⟨fun _ => ?_, fun h => absurd h (by first | decide | (simp; done) | fail)⟩; (conv => whnf)) | (refine ⟨fun h => absurd h (by first | decide | (simp; done) | fail), fun _ => ?_⟩; (conv => whnf)) | fail))
      (repeat' (first | (refine ⟨by kernel_rfl, ?_⟩; (conv => whnf)) | (refine And.intro (a := _ ∧ _) ⟨by omega, by omega⟩ ?_; (conv => whnf))))
      refine ⟨hd0, ?_⟩
      (conv => whnf)
      (repeat' (first | (refine ⟨by kernel_rfl, ?_⟩; (conv => whnf)) | (refine And.intro (a := _ ∧ _) ⟨by omega, by omega⟩ ?_; (conv => whnf))))
      refine ⟨hd0, ?_⟩
      (conv => whnf)
      (repeat' (first | (refine ⟨by kernel_rfl, ?_⟩; (conv => whnf)) | (refine And.intro (a := _ ∧ _) ⟨by omega, by omega⟩ ?_; (conv => whnf))))
      rw [w64 (16 * n) (by omega) (by omega), w64 (16 * n + d) (by omega) (by omega), w64 (16 * n + d - 1) (by omega) (by omega), q1, q2, w64 (16 * n / d) (by omega) (by omega), w64 ((16 * n + d - 1) / d) (by omega) (by omega)]
end Go.Proofs.Try.My
