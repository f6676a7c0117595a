/- A helper text: contracts of functions of the program, and plain lemmas. -/
import Derived.Test.YtjkoeomndepolaaMyEx7
set_option maxRecDepth 100000
set_option maxHeartbeats 0
set_option linter.unusedVariables false
set_option linter.unusedSimpArgs false
namespace Go.Proofs.Try.My
open Go Go.Ev

theorem two_digits_aux_g {y v w q r f B : Nat} (hy : 0 < y) (h1 : q * y + r = v) (h2 : w = v * B + f) : q * B + (r * B + f) / y = w / y ∧ (r * B + f) % y = w % y := by
  have e1 : w = (r * B + f) + y * (q * B) := by
    have : y * (q * B) = q * y * B := by rw [Nat.mul_left_comm, ← Nat.mul_assoc]
    rw [this, h2, ← h1, Nat.add_mul]
    omega
  have k1 := Nat.add_mul_div_left (r * B + f) (q * B) hy
  have k2 := Nat.add_mul_mod_self_left (r * B + f) y (q * B)
  rw [← e1] at k1 k2
  exact ⟨(Nat.add_comm _ _).trans k1.symm, k2.symm⟩
theorem div_words {x d W : Nat} (hd : 0 < d) (hW : 0 < W) : x / d = x / W / d * W + (x / W % d * W + x % W) / d ∧ x % d = (x / W % d * W + x % W) % d ∧ (x / W % d * W + x % W) / d < W := by
  have h1 := Nat.div_add_mod' (x / W) d
  have h2 := Nat.div_add_mod' x W
  have h3 := two_digits_aux_g (y := d) (v := x / W) (w := x) (q := x / W / d) (r := x / W % d) (f := x % W) (B := W) hd h1 h2.symm
  refine ⟨h3.1.symm, h3.2.symm, ?_⟩
  refine (Nat.div_lt_iff_lt_mul hd).2 ?_
  have h4 := Nat.mod_lt x hW
  have h5 : (x / W % d + 1) * W ≤ d * W := Nat.mul_le_mul_right _ (Nat.mod_lt _ hd)
  rw [Nat.add_mul, Nat.one_mul] at h5
  rw [Nat.mul_comm W d]
  omega
theorem pc_pdiv (x d : Nat) (hx : x < 340282366920938463463374607431768211456) (hd : 0 < d) (hd2 : d < 18446744073709551616) : PC Try.prog 138 [pr x, u64 d] (.tup [pr (x / d), u64 (x % d)]) := by
  obtain ⟨w1, w2, w3⟩ := div_words (x := x) (W := 18446744073709551616) hd (by omega)
  have c := pc_Div64 (x / 18446744073709551616 % d) (x % 18446744073709551616) d (Nat.mod_lt _ hd) (Nat.mod_lt _ (by omega)) hd2
  rw [← w2] at c
  have e1 : x / d / 18446744073709551616 = x / 18446744073709551616 / d := by rw [Nat.div_div_eq_div_mul, Nat.div_div_eq_div_mul, Nat.mul_comm]
  have e2 : x / d % 18446744073709551616 = (x / 18446744073709551616 % d * 18446744073709551616 + x % 18446744073709551616) / d := by omega
  rw [← e2] at c
  refine pc_of_body hm Try.func138 (by kernel_rfl) ?_
  conv => whnf
  (repeat' (first | (refine And.intro (a := _ = true → _) (b := _ = false → _) (fun hh => ?_) (fun hh => ?_) <;> (first | simp only [decide_eq_true_eq, decide_eq_false_iff_not, Bool.or_eq_true, Bool.and_eq_true, Bool.or_eq_false_iff, Bool.and_eq_false_iff, Bool.not_eq_true', Bool.not_eq_false', ge_iff_le, gt_iff_lt] at hh | skip) <;> (first | (exfalso; omega) | (exfalso; simp [*] at hh; done) | (exfalso; revert hh; decide) | exact absurd (by assumption) hh | (conv => whnf))) | (refine ⟨by kernel_rfl, ?_⟩; (conv => whnf)) | (refine And.intro (a := _ ∧ _) ⟨by omega, by omega⟩ ?_; (conv => whnf)) | (refine And.intro (a := _ ∧ _) ⟨by decide, by decide⟩ ?_; (conv => whnf)) | (refine And.intro (a := _ ≤ _) (by omega) ?_; (conv => whnf)) | (refine And.intro (a := _ ≠ _) (by omega) ?_; (conv => whnf))))
  rw [div_u _ _ (by omega), mod_u]
  (repeat' (first | (refine And.intro (a := _ = true → _) (b := _ = false → _) (fun hh => ?_) (fun hh => ?_) <;> (first | simp only [decide_eq_true_eq, decide_eq_false_iff_not, Bool.or_eq_true, Bool.and_eq_true, Bool.or_eq_false_iff, Bool.and_eq_false_iff, Bool.not_eq_true', Bool.not_eq_false', ge_iff_le, gt_iff_lt] at hh | skip) <;> (first | (exfalso; omega) | (exfalso; simp [*] at hh; done) | (exfalso; revert hh; decide) | exact absurd (by assumption) hh | (conv => whnf))) | (refine ⟨by kernel_rfl, ?_⟩; (conv => whnf)) | (refine And.intro (a := _ ∧ _) ⟨by omega, by omega⟩ ?_; (conv => whnf)) | (refine And.intro (a := _ ∧ _) ⟨by decide, by decide⟩ ?_; (conv => whnf)) | (refine And.intro (a := _ ≤ _) (by omega) ?_; (conv => whnf)) | (refine And.intro (a := _ ≠ _) (by omega) ?_; (conv => whnf)) | (refine Or.inl ?_; (conv => whnf); first | (refine ⟨_, by first | exact c, ?_⟩; (conv => whnf)) | (refine ⟨false, ?_⟩; (conv => whnf); refine ⟨_, by first | exact c, ?_⟩; (conv => whnf))) | (refine ⟨_, by first | exact c, ?_⟩; (conv => whnf))))
  rw [← e1]
theorem pc_sum (a b : Int × Int) (ha : validB a = true) (hb : validB b = true) : PC Try.prog 116 [fr a, fr b] (.tup [fr (addF a b).1, i64 (addF a b).2]) := by
  have law := fun neg T h => sum_law ha hb neg (Nat.gcd a.2.natAbs b.2.natAbs) (a.2.natAbs / Nat.gcd a.2.natAbs b.2.natAbs) (b.2.natAbs / Nat.gcd a.2.natAbs b.2.natAbs) T h rfl rfl rfl
  have va := (validB_iff a).1 ha
  have vb := (validB_iff b).1 hb
  generalize addF a b = res at *
  obtain ⟨n, d⟩ := a
  obtain ⟨m, e⟩ := b
  simp only [] at *
  have i1 : I64 n := by unfold I64; omega
  have i2 : I64 d := by unfold I64; omega
  have i3 : I64 m := by unfold I64; omega
  have i4 : I64 e := by unfold I64; omega
  have c1 := pc_gcd d.natAbs e.natAbs (by omega) (by omega)
  have hg0 : 0 < Nat.gcd d.natAbs e.natAbs := Nat.gcd_pos_of_pos_right _ (by omega)
  have hgl : Nat.gcd d.natAbs e.natAbs ≤ d.natAbs := Nat.gcd_le_left _ (by omega)
  generalize Nat.gcd d.natAbs e.natAbs = g at *
  have l1 : d.natAbs / g ≤ 4611686018427387903 := Nat.le_trans (Nat.div_le_self _ _) (by omega)
  have l2 : e.natAbs / g ≤ 4611686018427387903 := Nat.le_trans (Nat.div_le_self _ _) (by omega)
  have hp : ∀ h, e.natAbs / h ≤ 4611686018427387903 := fun h => Nat.le_trans (Nat.div_le_self _ _) (by omega)
  have fe := div_u d.natAbs g (by omega)
  have ff := div_u e.natAbs g (by omega)
  have fh := fun h => div_u e.natAbs h (by omega)
  generalize d.natAbs / g = p at *
  generalize e.natAbs / g = q at *
  have p1 := pc_product n.natAbs q (by omega) (by omega)
  have p2 := pc_product m.natAbs p (by omega) (by omega)
  have hx : n.natAbs * q ≤ 4611686018427387903 * 4611686018427387903 := Nat.mul_le_mul (by omega) l2
  have hy : m.natAbs * p ≤ 4611686018427387903 * 4611686018427387903 := Nat.mul_le_mul (by omega) l1
  have kx : ((n.natAbs * q : Nat) : Int) = if n < 0 then -(n * q) else n * q := by
    rw [Int.natCast_mul]
    split
    · rw [show ((n.natAbs : Nat) : Int) = -n by omega, Int.neg_mul]
    · rw [show ((n.natAbs : Nat) : Int) = n by omega]
  have ky : ((m.natAbs * p : Nat) : Int) = if m < 0 then -(m * p) else m * p := by
    rw [Int.natCast_mul]
    split
    · rw [show ((m.natAbs : Nat) : Int) = -m by omega, Int.neg_mul]
    · rw [show ((m.natAbs : Nat) : Int) = m by omega]
  have c2 := pc_less (n.natAbs * q) (m.natAbs * p) (by omega) (by omega)
  generalize n.natAbs * q = X at *
  generalize m.natAbs * p = Y at *
  generalize n * (q : Int) = NX at *
  generalize m * (p : Int) = MY at *
  have c3 := fun (T : Nat) (hT : T < 340282366920938463463374607431768211456) => pc_pdiv T g hT hg0 (by omega)
  have c4 := fun (T : Nat) => pc_gcd g (T % g) (by omega) (Nat.lt_trans (Nat.mod_lt T hg0) (by omega))
  have hh0 : ∀ T, 0 < Nat.gcd g (T % g) := fun T => Nat.gcd_pos_of_pos_left _ hg0
  have hhl : ∀ T, Nat.gcd g (T % g) ≤ g := fun T => Nat.gcd_le_left _ hg0
  have c5 := fun (T : Nat) (hT : T < 340282366920938463463374607431768211456) => pc_pdiv T (Nat.gcd g (T % g)) hT (hh0 T) (Nat.lt_of_le_of_lt (hhl T) (by omega))
  have c6 := fun (h : Nat) => pc_product p (e.natAbs / h) (by omega) (Nat.lt_of_le_of_lt (hp h) (by omega))
  have hD : ∀ h, p * (e.natAbs / h) < 340282366920938463463374607431768211456 := fun h => Nat.lt_of_le_of_lt (Nat.mul_le_mul l1 (hp h)) (by decide)
  have c7 := fun (neg : Bool) (T : Nat) (h : Nat) (hT : T < 340282366920938463463374607431768211456) => pc_made neg (T / h) (p * (e.natAbs / h)) (Nat.lt_of_le_of_lt (Nat.div_le_self _ _) hT) (hD h)
  refine pc_of_body hm Try.func116 (by kernel_rfl) ?_
  conv => whnf
  (repeat' (first | (refine And.intro (a := _ = true → _) (b := _ = false → _) (fun hh => ?_) (fun hh => ?_) <;> (first | simp only [decide_eq_true_eq, decide_eq_false_iff_not, Bool.or_eq_true, Bool.and_eq_true, Bool.or_eq_false_iff, Bool.and_eq_false_iff, Bool.not_eq_true', Bool.not_eq_false', ge_iff_le, gt_iff_lt] at hh | skip) <;> (first | (exfalso; omega) | (exfalso; simp [*] at hh; done) | (exfalso; revert hh; decide) | exact absurd (by assumption) hh | (conv => whnf))) | (refine ⟨by kernel_rfl, ?_⟩; (conv => whnf)) | (refine And.intro (a := _ ∧ _) ⟨by omega, by omega⟩ ?_; (conv => whnf)) | (refine And.intro (a := _ ∧ _) ⟨by decide, by decide⟩ ?_; (conv => whnf)) | (refine And.intro (a := _ ≤ _) (by omega) ?_; (conv => whnf)) | (refine And.intro (a := _ ≠ _) (by omega) ?_; (conv => whnf)) | (refine Or.inl ?_; (conv => whnf); first | (refine ⟨_, by first | exact pc_abs n i1 | exact pc_abs d i2 | exact pc_abs m i3 | exact pc_abs e i4 | exact c1, ?_⟩; (conv => whnf)) | (refine ⟨false, ?_⟩; (conv => whnf); refine ⟨_, by first | exact pc_abs n i1 | exact pc_abs d i2 | exact pc_abs m i3 | exact pc_abs e i4 | exact c1, ?_⟩; (conv => whnf))) | (refine ⟨_, by first | exact pc_abs n i1 | exact pc_abs d i2 | exact pc_abs m i3 | exact pc_abs e i4 | exact c1, ?_⟩; (conv => whnf))))
  rw [ff]
  (repeat' (first | (refine And.intro (a := _ = true → _) (b := _ = false → _) (fun hh => ?_) (fun hh => ?_) <;> (first | simp only [decide_eq_true_eq, decide_eq_false_iff_not, Bool.or_eq_true, Bool.and_eq_true, Bool.or_eq_false_iff, Bool.and_eq_false_iff, Bool.not_eq_true', Bool.not_eq_false', ge_iff_le, gt_iff_lt] at hh | skip) <;> (first | (exfalso; omega) | (exfalso; simp [*] at hh; done) | (exfalso; revert hh; decide) | exact absurd (by assumption) hh | (conv => whnf))) | (refine ⟨by kernel_rfl, ?_⟩; (conv => whnf)) | (refine And.intro (a := _ ∧ _) ⟨by omega, by omega⟩ ?_; (conv => whnf)) | (refine And.intro (a := _ ∧ _) ⟨by decide, by decide⟩ ?_; (conv => whnf)) | (refine And.intro (a := _ ≤ _) (by omega) ?_; (conv => whnf)) | (refine And.intro (a := _ ≠ _) (by omega) ?_; (conv => whnf)) | (refine Or.inl ?_; (conv => whnf); first | (refine ⟨_, by first | exact p1 | exact pc_abs d i2 | exact pc_abs m i3, ?_⟩; (conv => whnf)) | (refine ⟨false, ?_⟩; (conv => whnf); refine ⟨_, by first | exact p1 | exact pc_abs d i2 | exact pc_abs m i3, ?_⟩; (conv => whnf))) | (refine ⟨_, by first | exact p1 | exact pc_abs d i2 | exact pc_abs m i3, ?_⟩; (conv => whnf))))
  rw [fe]
  (repeat' (first | (refine And.intro (a := _ = true → _) (b := _ = false → _) (fun hh => ?_) (fun hh => ?_) <;> (first | simp only [decide_eq_true_eq, decide_eq_false_iff_not, Bool.or_eq_true, Bool.and_eq_true, Bool.or_eq_false_iff, Bool.and_eq_false_iff, Bool.not_eq_true', Bool.not_eq_false', ge_iff_le, gt_iff_lt] at hh | skip) <;> (first | (exfalso; omega) | (exfalso; simp [*] at hh; done) | (exfalso; revert hh; decide) | exact absurd (by assumption) hh | (conv => whnf))) | (refine ⟨by kernel_rfl, ?_⟩; (conv => whnf)) | (refine And.intro (a := _ ∧ _) ⟨by omega, by omega⟩ ?_; (conv => whnf)) | (refine And.intro (a := _ ∧ _) ⟨by decide, by decide⟩ ?_; (conv => whnf)) | (refine And.intro (a := _ ≤ _) (by omega) ?_; (conv => whnf)) | (refine And.intro (a := _ ≠ _) (by omega) ?_; (conv => whnf)) | (refine Or.inl ?_; (conv => whnf); first | (refine ⟨_, by first | exact p2 | exact c2, ?_⟩; (conv => whnf)) | (refine ⟨false, ?_⟩; (conv => whnf); refine ⟨_, by first | exact p2 | exact c2, ?_⟩; (conv => whnf))) | (refine ⟨_, by first | exact p2 | exact c2, ?_⟩; (conv => whnf))))
  · have hs : (n < 0 ∧ ¬ m < 0) ∨ (¬ n < 0 ∧ m < 0) := by
      by_cases s1 : n < 0 <;> by_cases s2 : m < 0 <;> simp [s1, s2] at * <;> omega
    have hT : Y - X < 340282366920938463463374607431768211456 := by omega
    have hz := hh0 (Y - X)
    (repeat' (first | (refine And.intro (a := _ = true → _) (b := _ = false → _) (fun hh => ?_) (fun hh => ?_) <;> (first | simp only [decide_eq_true_eq, decide_eq_false_iff_not, Bool.or_eq_true, Bool.and_eq_true, Bool.or_eq_false_iff, Bool.and_eq_false_iff, Bool.not_eq_true', Bool.not_eq_false', ge_iff_le, gt_iff_lt] at hh | skip) <;> (first | (exfalso; omega) | (exfalso; simp [*] at hh; done) | (exfalso; revert hh; decide) | exact absurd (by assumption) hh | (conv => whnf))) | (refine ⟨by kernel_rfl, ?_⟩; (conv => whnf)) | (refine And.intro (a := _ ∧ _) ⟨by omega, by omega⟩ ?_; (conv => whnf)) | (refine And.intro (a := _ ∧ _) ⟨by decide, by decide⟩ ?_; (conv => whnf)) | (refine And.intro (a := _ ≤ _) (by omega) ?_; (conv => whnf)) | (refine And.intro (a := _ ≠ _) (by omega) ?_; (conv => whnf)) | (refine Or.inl ?_; (conv => whnf); first | (refine ⟨_, by first | exact pc_psub Y X (by omega) (by omega) | exact c3 (Y - X) hT | exact c4 (Y - X) | exact c5 (Y - X) hT | exact pc_abs d i2 | exact pc_abs e i4, ?_⟩; (conv => whnf)) | (refine ⟨false, ?_⟩; (conv => whnf); refine ⟨_, by first | exact pc_psub Y X (by omega) (by omega) | exact c3 (Y - X) hT | exact c4 (Y - X) | exact c5 (Y - X) hT | exact pc_abs d i2 | exact pc_abs e i4, ?_⟩; (conv => whnf))) | (refine ⟨_, by first | exact pc_psub Y X (by omega) (by omega) | exact c3 (Y - X) hT | exact c4 (Y - X) | exact c5 (Y - X) hT | exact pc_abs d i2 | exact pc_abs e i4, ?_⟩; (conv => whnf))))
    rw [fe, fh]
    (repeat' (first | (refine And.intro (a := _ = true → _) (b := _ = false → _) (fun hh => ?_) (fun hh => ?_) <;> (first | simp only [decide_eq_true_eq, decide_eq_false_iff_not, Bool.or_eq_true, Bool.and_eq_true, Bool.or_eq_false_iff, Bool.and_eq_false_iff, Bool.not_eq_true', Bool.not_eq_false', ge_iff_le, gt_iff_lt] at hh | skip) <;> (first | (exfalso; omega) | (exfalso; simp [*] at hh; done) | (exfalso; revert hh; decide) | exact absurd (by assumption) hh | (conv => whnf))) | (refine ⟨by kernel_rfl, ?_⟩; (conv => whnf)) | (refine And.intro (a := _ ∧ _) ⟨by omega, by omega⟩ ?_; (conv => whnf)) | (refine And.intro (a := _ ∧ _) ⟨by decide, by decide⟩ ?_; (conv => whnf)) | (refine And.intro (a := _ ≤ _) (by omega) ?_; (conv => whnf)) | (refine And.intro (a := _ ≠ _) (by omega) ?_; (conv => whnf)) | (refine Or.inl ?_; (conv => whnf); first | (refine ⟨_, by first | exact c6 (Nat.gcd g ((Y - X) % g)) | exact c7 (decide (m < 0)) (Y - X) (Nat.gcd g ((Y - X) % g)) hT, ?_⟩; (conv => whnf)) | (refine ⟨false, ?_⟩; (conv => whnf); refine ⟨_, by first | exact c6 (Nat.gcd g ((Y - X) % g)) | exact c7 (decide (m < 0)) (Y - X) (Nat.gcd g ((Y - X) % g)) hT, ?_⟩; (conv => whnf))) | (refine ⟨_, by first | exact c6 (Nat.gcd g ((Y - X) % g)) | exact c7 (decide (m < 0)) (Y - X) (Nat.gcd g ((Y - X) % g)) hT, ?_⟩; (conv => whnf))))
    rw [← law (decide (m < 0)) (Y - X) (Nat.gcd g ((Y - X) % g)) (by split at kx <;> split at ky <;> omega) rfl (by intro h0; refine decide_eq_decide.2 ?_; split at kx <;> split at ky <;> omega)]
  · have hs : (n < 0 ∧ ¬ m < 0) ∨ (¬ n < 0 ∧ m < 0) := by
      by_cases s1 : n < 0 <;> by_cases s2 : m < 0 <;> simp [s1, s2] at * <;> omega
    have hT : X - Y < 340282366920938463463374607431768211456 := by omega
    have hz := hh0 (X - Y)
    (repeat' (first | (refine And.intro (a := _ = true → _) (b := _ = false → _) (fun hh => ?_) (fun hh => ?_) <;> (first | simp only [decide_eq_true_eq, decide_eq_false_iff_not, Bool.or_eq_true, Bool.and_eq_true, Bool.or_eq_false_iff, Bool.and_eq_false_iff, Bool.not_eq_true', Bool.not_eq_false', ge_iff_le, gt_iff_lt] at hh | skip) <;> (first | (exfalso; omega) | (exfalso; simp [*] at hh; done) | (exfalso; revert hh; decide) | exact absurd (by assumption) hh | (conv => whnf))) | (refine ⟨by kernel_rfl, ?_⟩; (conv => whnf)) | (refine And.intro (a := _ ∧ _) ⟨by omega, by omega⟩ ?_; (conv => whnf)) | (refine And.intro (a := _ ∧ _) ⟨by decide, by decide⟩ ?_; (conv => whnf)) | (refine And.intro (a := _ ≤ _) (by omega) ?_; (conv => whnf)) | (refine And.intro (a := _ ≠ _) (by omega) ?_; (conv => whnf)) | (refine Or.inl ?_; (conv => whnf); first | (refine ⟨_, by first | exact pc_psub X Y (by omega) (by omega) | exact c3 (X - Y) hT | exact c4 (X - Y) | exact c5 (X - Y) hT | exact pc_abs d i2 | exact pc_abs e i4, ?_⟩; (conv => whnf)) | (refine ⟨false, ?_⟩; (conv => whnf); refine ⟨_, by first | exact pc_psub X Y (by omega) (by omega) | exact c3 (X - Y) hT | exact c4 (X - Y) | exact c5 (X - Y) hT | exact pc_abs d i2 | exact pc_abs e i4, ?_⟩; (conv => whnf))) | (refine ⟨_, by first | exact pc_psub X Y (by omega) (by omega) | exact c3 (X - Y) hT | exact c4 (X - Y) | exact c5 (X - Y) hT | exact pc_abs d i2 | exact pc_abs e i4, ?_⟩; (conv => whnf))))
    rw [fe, fh]
    (repeat' (first | (refine And.intro (a := _ = true → _) (b := _ = false → _) (fun hh => ?_) (fun hh => ?_) <;> (first | simp only [decide_eq_true_eq, decide_eq_false_iff_not, Bool.or_eq_true, Bool.and_eq_true, Bool.or_eq_false_iff, Bool.and_eq_false_iff, Bool.not_eq_true', Bool.not_eq_false', ge_iff_le, gt_iff_lt] at hh | skip) <;> (first | (exfalso; omega) | (exfalso; simp [*] at hh; done) | (exfalso; revert hh; decide) | exact absurd (by assumption) hh | (conv => whnf))) | (refine ⟨by kernel_rfl, ?_⟩; (conv => whnf)) | (refine And.intro (a := _ ∧ _) ⟨by omega, by omega⟩ ?_; (conv => whnf)) | (refine And.intro (a := _ ∧ _) ⟨by decide, by decide⟩ ?_; (conv => whnf)) | (refine And.intro (a := _ ≤ _) (by omega) ?_; (conv => whnf)) | (refine And.intro (a := _ ≠ _) (by omega) ?_; (conv => whnf)) | (refine Or.inl ?_; (conv => whnf); first | (refine ⟨_, by first | exact c6 (Nat.gcd g ((X - Y) % g)) | exact c7 (decide (n < 0)) (X - Y) (Nat.gcd g ((X - Y) % g)) hT, ?_⟩; (conv => whnf)) | (refine ⟨false, ?_⟩; (conv => whnf); refine ⟨_, by first | exact c6 (Nat.gcd g ((X - Y) % g)) | exact c7 (decide (n < 0)) (X - Y) (Nat.gcd g ((X - Y) % g)) hT, ?_⟩; (conv => whnf))) | (refine ⟨_, by first | exact c6 (Nat.gcd g ((X - Y) % g)) | exact c7 (decide (n < 0)) (X - Y) (Nat.gcd g ((X - Y) % g)) hT, ?_⟩; (conv => whnf))))
    rw [← law (decide (n < 0)) (X - Y) (Nat.gcd g ((X - Y) % g)) (by split at kx <;> split at ky <;> omega) rfl (by intro h0; refine decide_eq_decide.2 ?_; split at kx <;> split at ky <;> omega)]
  · have hs : (n < 0 ∧ m < 0) ∨ (¬ n < 0 ∧ ¬ m < 0) := by
      by_cases s1 : n < 0 <;> by_cases s2 : m < 0 <;> simp [s1, s2] at * <;> omega
    have hT : X + Y < 340282366920938463463374607431768211456 := by omega
    have hz := hh0 (X + Y)
    (repeat' (first | (refine And.intro (a := _ = true → _) (b := _ = false → _) (fun hh => ?_) (fun hh => ?_) <;> (first | simp only [decide_eq_true_eq, decide_eq_false_iff_not, Bool.or_eq_true, Bool.and_eq_true, Bool.or_eq_false_iff, Bool.and_eq_false_iff, Bool.not_eq_true', Bool.not_eq_false', ge_iff_le, gt_iff_lt] at hh | skip) <;> (first | (exfalso; omega) | (exfalso; simp [*] at hh; done) | (exfalso; revert hh; decide) | exact absurd (by assumption) hh | (conv => whnf))) | (refine ⟨by kernel_rfl, ?_⟩; (conv => whnf)) | (refine And.intro (a := _ ∧ _) ⟨by omega, by omega⟩ ?_; (conv => whnf)) | (refine And.intro (a := _ ∧ _) ⟨by decide, by decide⟩ ?_; (conv => whnf)) | (refine And.intro (a := _ ≤ _) (by omega) ?_; (conv => whnf)) | (refine And.intro (a := _ ≠ _) (by omega) ?_; (conv => whnf)) | (refine Or.inl ?_; (conv => whnf); first | (refine ⟨_, by first | exact pc_padd X Y (by omega) | exact c3 (X + Y) hT | exact c4 (X + Y) | exact c5 (X + Y) hT | exact pc_abs d i2 | exact pc_abs e i4, ?_⟩; (conv => whnf)) | (refine ⟨false, ?_⟩; (conv => whnf); refine ⟨_, by first | exact pc_padd X Y (by omega) | exact c3 (X + Y) hT | exact c4 (X + Y) | exact c5 (X + Y) hT | exact pc_abs d i2 | exact pc_abs e i4, ?_⟩; (conv => whnf))) | (refine ⟨_, by first | exact pc_padd X Y (by omega) | exact c3 (X + Y) hT | exact c4 (X + Y) | exact c5 (X + Y) hT | exact pc_abs d i2 | exact pc_abs e i4, ?_⟩; (conv => whnf))))
    rw [fe, fh]
    (repeat' (first | (refine And.intro (a := _ = true → _) (b := _ = false → _) (fun hh => ?_) (fun hh => ?_) <;> (first | simp only [decide_eq_true_eq, decide_eq_false_iff_not, Bool.or_eq_true, Bool.and_eq_true, Bool.or_eq_false_iff, Bool.and_eq_false_iff, Bool.not_eq_true', Bool.not_eq_false', ge_iff_le, gt_iff_lt] at hh | skip) <;> (first | (exfalso; omega) | (exfalso; simp [*] at hh; done) | (exfalso; revert hh; decide) | exact absurd (by assumption) hh | (conv => whnf))) | (refine ⟨by kernel_rfl, ?_⟩; (conv => whnf)) | (refine And.intro (a := _ ∧ _) ⟨by omega, by omega⟩ ?_; (conv => whnf)) | (refine And.intro (a := _ ∧ _) ⟨by decide, by decide⟩ ?_; (conv => whnf)) | (refine And.intro (a := _ ≤ _) (by omega) ?_; (conv => whnf)) | (refine And.intro (a := _ ≠ _) (by omega) ?_; (conv => whnf)) | (refine Or.inl ?_; (conv => whnf); first | (refine ⟨_, by first | exact c6 (Nat.gcd g ((X + Y) % g)) | exact c7 (decide (n < 0)) (X + Y) (Nat.gcd g ((X + Y) % g)) hT, ?_⟩; (conv => whnf)) | (refine ⟨false, ?_⟩; (conv => whnf); refine ⟨_, by first | exact c6 (Nat.gcd g ((X + Y) % g)) | exact c7 (decide (n < 0)) (X + Y) (Nat.gcd g ((X + Y) % g)) hT, ?_⟩; (conv => whnf))) | (refine ⟨_, by first | exact c6 (Nat.gcd g ((X + Y) % g)) | exact c7 (decide (n < 0)) (X + Y) (Nat.gcd g ((X + Y) % g)) hT, ?_⟩; (conv => whnf))))
    rw [← law (decide (n < 0)) (X + Y) (Nat.gcd g ((X + Y) % g)) (by split at kx <;> split at ky <;> omega) rfl (by intro h0; refine decide_eq_decide.2 ?_; split at kx <;> split at ky <;> omega)]
end Go.Proofs.Try.My
