/- A helper text: contracts of functions of the program, and plain lemmas. -/
import Derived.Test.YtblmmhmdnnnidaaEvSix
import Derived.Test.YtblmmhmdnnnidaaMyEx1
set_option maxRecDepth 100000
set_option maxHeartbeats 0
set_option linter.unusedVariables false
set_option linter.unusedSimpArgs false
namespace Go.Proofs.Try.My
open Go Go.Ev

/-- Fractions, one behind the other. -/
abbrev frs (l : List (Int × Int)) : AV := .sl 2 ((0 : Int), (0 : Int)) eF l
def validB (x : Int × Int) : Bool := decide (1 ≤ x.2) && decide (x.2 ≤ 4611686018427387903) && decide (-4611686018427387903 ≤ x.1) && decide (x.1 ≤ 4611686018427387903) && decide (Nat.gcd x.1.natAbs x.2.natAbs = 1)
theorem validB_iff (x : Int × Int) : validB x = true ↔ 1 ≤ x.2 ∧ x.2 ≤ 4611686018427387903 ∧ -4611686018427387903 ≤ x.1 ∧ x.1 ≤ 4611686018427387903 ∧ Nat.gcd x.1.natAbs x.2.natAbs = 1 := by
  simp only [validB, Bool.and_eq_true, decide_eq_true_eq]
  exact ⟨fun ⟨⟨⟨⟨a, b⟩, c⟩, d⟩, e⟩ => ⟨a, b, c, d, e⟩, fun ⟨a, b, c, d, e⟩ => ⟨⟨⟨⟨a, b⟩, c⟩, d⟩, e⟩⟩
theorem validB_false (x : Int × Int) : validB x = false ↔ ¬ (1 ≤ x.2 ∧ x.2 ≤ 4611686018427387903 ∧ -4611686018427387903 ≤ x.1 ∧ x.1 ≤ 4611686018427387903 ∧ Nat.gcd x.1.natAbs x.2.natAbs = 1) := by
  rw [← validB_iff]; simp
theorem getD_any {α : Type} (p : α → Bool) (d : α) (l : List α) (k : Nat) (hk : k < l.length) (h : p (l.getD k d) = false) : l.all p = false := by
  refine List.all_eq_false.2 ⟨l.getD k d, by simp [List.getD, hk], by simpa using h⟩
theorem getD_all {α : Type} (p : α → Bool) (d : α) (l : List α) (h : ∀ i, i < l.length → p (l.getD i d) = true) : l.all p = true := by
  refine List.all_eq_true.2 fun x hx => ?_
  obtain ⟨i, hi, rfl⟩ := List.getElem_of_mem hx
  have := h i hi
  simpa [List.getD, hi] using this
theorem pc_valid (l : List (Int × Int)) (hl : l.length < 2 ^ 40) : PC Try.prog 123 [frs l] (.bool (l.all validB)) := by
  refine pc_of_bodyF hm Try.func123 (by kernel_rfl) ?_
  conv => whnf
  refine Or.inr ⟨Nat, [7], [], [], fun k => [i64 k], fun _ => [], fun _ => [], fun k => l.length - k, fun k => k ≤ l.length ∧ ∀ i, i < k → validB (l.getD i (0, 0)) = true, ?_⟩
  (conv => whnf)
  refine ⟨⟨0, ?_⟩, ?_⟩
  · (conv => whnf)
    exact ⟨⟨by simp, rfl, rfl, rfl⟩, by kernel_rfl, by kernel_rfl⟩
  · intro k hk
    (conv => whnf)
    refine ⟨fun h => ?_, fun h => ?_⟩
    · have h := of_decide_eq_true h
      (conv => whnf)
      have hg : l.getD (Int.toNat (k : Int)) (0, 0) = l.getD k (0, 0) := rfl
      refine ⟨⟨by omega, by omega⟩, ?_⟩
      rw [hg]
      have bad : validB (l.getD k (0, 0)) = false → l.all validB = false := getD_any validB (0, 0) l k (by omega)
      have good : validB (l.getD k (0, 0)) = true → ∀ i, i < k + 1 → validB (l.getD i (0, 0)) = true := fun h i hi => by
        by_cases e : i = k
        · subst e; exact h
        · exact hk.2 i (by omega)
      have v1 := validB_false (l.getD k (0, 0))
      have v2 := validB_iff (l.getD k (0, 0))
      generalize l.getD k (0, 0) = x at bad good v1 v2 ⊢
      obtain ⟨n, d⟩ := x
      simp only [] at v1 v2
      by_cases hb : 1 ≤ d ∧ d ≤ 4611686018427387903 ∧ -4611686018427387903 ≤ n ∧ n ≤ 4611686018427387903
      rotate_left
      · have hf := v1.2 (fun h => hb ⟨h.1, h.2.1, h.2.2.1, h.2.2.2.1⟩)
        (conv => whnf)
        (repeat' (first | (refine And.intro (a := _ = true → _) (b := _ = false → _) (fun hh => ?_) (fun hh => ?_) <;> (first | simp only [decide_eq_true_eq, decide_eq_false_iff_not, Bool.or_eq_true, Bool.and_eq_true, Bool.or_eq_false_iff, Bool.and_eq_false_iff, Bool.not_eq_true', Bool.not_eq_false', ge_iff_le, gt_iff_lt] at hh | skip) <;> (first | (exfalso; omega) | (exfalso; simp [*] at hh; done) | (exfalso; revert hh; decide) | exact absurd (by assumption) hh | (conv => whnf))) | (refine ⟨by kernel_rfl, ?_⟩; (conv => whnf)) | (refine And.intro (a := _ ∧ _) ⟨by omega, by omega⟩ ?_; (conv => whnf)) | (refine And.intro (a := _ ∧ _) ⟨by decide, by decide⟩ ?_; (conv => whnf)) | (refine And.intro (a := _ ≤ _) (by omega) ?_; (conv => whnf)) | (refine And.intro (a := _ ≠ _) (by omega) ?_; (conv => whnf))))
        all_goals (rw [bad hf])
      (conv => whnf)
      have i1 : I64 n := by unfold I64; omega
      have i2 : I64 d := by unfold I64; omega
      have c3 := pc_gcd n.natAbs d.natAbs (by omega) (by omega)
      (repeat' (first | (refine And.intro (a := _ = true → _) (b := _ = false → _) (fun hh => ?_) (fun hh => ?_) <;> (first | simp only [decide_eq_true_eq, decide_eq_false_iff_not, Bool.or_eq_true, Bool.and_eq_true, Bool.or_eq_false_iff, Bool.and_eq_false_iff, Bool.not_eq_true', Bool.not_eq_false', ge_iff_le, gt_iff_lt] at hh | skip) <;> (first | (exfalso; omega) | (exfalso; simp [*] at hh; done) | (exfalso; revert hh; decide) | exact absurd (by assumption) hh | (conv => whnf))) | (refine ⟨by kernel_rfl, ?_⟩; (conv => whnf)) | (refine And.intro (a := _ ∧ _) ⟨by omega, by omega⟩ ?_; (conv => whnf)) | (refine And.intro (a := _ ∧ _) ⟨by decide, by decide⟩ ?_; (conv => whnf)) | (refine And.intro (a := _ ≤ _) (by omega) ?_; (conv => whnf)) | (refine And.intro (a := _ ≠ _) (by omega) ?_; (conv => whnf)) | (refine Or.inl ?_; (conv => whnf); first | (refine ⟨_, by first | exact pc_abs n i1 | exact pc_abs d i2 | exact c3, ?_⟩; (conv => whnf)) | (refine ⟨false, ?_⟩; (conv => whnf); refine ⟨_, by first | exact pc_abs n i1 | exact pc_abs d i2 | exact c3, ?_⟩; (conv => whnf))) | (refine ⟨_, by first | exact pc_abs n i1 | exact pc_abs d i2 | exact c3, ?_⟩; (conv => whnf))))
      · rw [bad (v1.2 fun h => by omega)]
      · refine ⟨k + 1, ?_⟩
        (conv => whnf)
        refine ⟨⟨⟨Nat.sub_lt_sub_left (by omega) (Nat.lt_succ_self k), by omega, good (v2.2 ⟨hb.1, hb.2.1, hb.2.2.1, hb.2.2.2, by omega⟩)⟩, ?_, rfl, rfl⟩, by kernel_rfl, by kernel_rfl⟩
        rw [w64 _ (by omega) (by omega)]; rfl
    · have h := of_decide_eq_false h
      (conv => whnf)
      congr 1
      exact (getD_all validB (0, 0) l fun i hi => hk.2 i (by omega)).symm
theorem pc_validL (l : List (Int × Int)) (hl : l.length < 2 ^ 40) : PC Try.prog 123 [.slc 2 (l.map eF)] (.bool (l.all validB)) :=
  PC.last (args := []) (pc_valid l hl) (.slc 2 (0, 0) eF l)
theorem pc_valid1 (a : Int × Int) : PC Try.prog 123 [.slc 2 [eF a]] (.bool (validB a)) := by
  have := pc_validL [a] (by simp)
  simpa using this
theorem pc_valid2 (a b : Int × Int) : PC Try.prog 123 [.slc 2 [eF a, eF b]] (.bool (validB a && validB b)) := by
  have := pc_validL [a, b] (by simp)
  simpa using this
theorem pc_Check (a : Int × Int) : PC Try.prog 146 [fr a] (i64 (if validB a then 0 else 8)) := by
  refine pc_of_bodyF hm Try.func146 (by kernel_rfl) ?_
  conv => whnf
  (repeat' (first | (refine And.intro (a := _ = true → _) (b := _ = false → _) (fun hh => ?_) (fun hh => ?_) <;> (first | simp only [decide_eq_true_eq, decide_eq_false_iff_not, Bool.or_eq_true, Bool.and_eq_true, Bool.or_eq_false_iff, Bool.and_eq_false_iff, Bool.not_eq_true', Bool.not_eq_false', ge_iff_le, gt_iff_lt] at hh | skip) <;> (first | (exfalso; omega) | (exfalso; simp [*] at hh; done) | (exfalso; revert hh; decide) | exact absurd (by assumption) hh | (conv => whnf))) | (refine ⟨by kernel_rfl, ?_⟩; (conv => whnf)) | (refine And.intro (a := _ ∧ _) ⟨by omega, by omega⟩ ?_; (conv => whnf)) | (refine And.intro (a := _ ∧ _) ⟨by decide, by decide⟩ ?_; (conv => whnf)) | (refine And.intro (a := _ ≤ _) (by omega) ?_; (conv => whnf)) | (refine And.intro (a := _ ≠ _) (by omega) ?_; (conv => whnf)) | (refine Or.inl ?_; (conv => whnf); first | (refine ⟨_, by first | exact pc_valid1 a, ?_⟩; (conv => whnf)) | (refine ⟨false, ?_⟩; (conv => whnf); refine ⟨_, by first | exact pc_valid1 a, ?_⟩; (conv => whnf))) | (refine ⟨_, by first | exact pc_valid1 a, ?_⟩; (conv => whnf))))
  all_goals simp_all

/-- Less, the same, or more. -/
def cmpF (a b : Int × Int) : Int := if a.1 * b.2 < b.1 * a.2 then -1 else if a.1 * b.2 = b.1 * a.2 then 0 else 1
theorem valid_eq {a b : Int × Int} (ha : validB a = true) (hb : validB b = true) (h : a.1 * b.2 = b.1 * a.2) : a = b := by
  rw [validB_iff] at ha hb
  obtain ⟨n, d⟩ := a
  obtain ⟨m, e⟩ := b
  simp only [] at *
  have c1 : Nat.Coprime n.natAbs d.natAbs := ha.2.2.2.2
  have c2 : Nat.Coprime m.natAbs e.natAbs := hb.2.2.2.2
  have h' : n.natAbs * e.natAbs = m.natAbs * d.natAbs := by rw [← Int.natAbs_mul, ← Int.natAbs_mul, h]
  have d1 : d.natAbs ∣ e.natAbs := c1.symm.dvd_of_dvd_mul_left ⟨m.natAbs, by rw [h', Nat.mul_comm]⟩
  have d2 : e.natAbs ∣ d.natAbs := c2.symm.dvd_of_dvd_mul_left ⟨n.natAbs, by rw [← h', Nat.mul_comm]⟩
  have hde : d = e := by have := Nat.dvd_antisymm d1 d2; omega
  subst hde
  have : n = m := Int.eq_of_mul_eq_mul_right (by omega) h
  rw [this]
theorem pc_order (a b : Int × Int) (ha : validB a = true) (hb : validB b = true) : PC Try.prog 171 [fr a, fr b] (i64 (cmpF a b)) := by
  have heq := valid_eq ha hb
  rw [validB_iff] at ha hb
  obtain ⟨n, d⟩ := a
  obtain ⟨m, e⟩ := b
  simp only [] at *
  have i1 : I64 n := by unfold I64; omega
  have i2 : I64 d := by unfold I64; omega
  have i3 : I64 m := by unfold I64; omega
  have i4 : I64 e := by unfold I64; omega
  have p1 := pc_product n.natAbs e.natAbs (by omega) (by omega)
  have p2 := pc_product m.natAbs d.natAbs (by omega) (by omega)
  have hx : n.natAbs * e.natAbs < 340282366920938463463374607431768211456 := Nat.lt_of_le_of_lt (Nat.mul_le_mul (show n.natAbs ≤ 4611686018427387903 by omega) (show e.natAbs ≤ 4611686018427387903 by omega)) (by decide)
  have hy : m.natAbs * d.natAbs < 340282366920938463463374607431768211456 := Nat.lt_of_le_of_lt (Nat.mul_le_mul (show m.natAbs ≤ 4611686018427387903 by omega) (show d.natAbs ≤ 4611686018427387903 by omega)) (by decide)
  have hsx : ((n.natAbs * e.natAbs : Nat) : Int) = if n < 0 then -(n * e) else n * e := by
    rw [Int.natCast_mul, show ((e.natAbs : Nat) : Int) = e by omega]
    split
    · rw [show ((n.natAbs : Nat) : Int) = -n by omega, Int.neg_mul]
    · rw [show ((n.natAbs : Nat) : Int) = n by omega]
  have hsy : ((m.natAbs * d.natAbs : Nat) : Int) = if m < 0 then -(m * d) else m * d := by
    rw [Int.natCast_mul, show ((d.natAbs : Nat) : Int) = d by omega]
    split
    · rw [show ((m.natAbs : Nat) : Int) = -m by omega, Int.neg_mul]
    · rw [show ((m.natAbs : Nat) : Int) = m by omega]
  have l1 := pc_less (n.natAbs * e.natAbs) (m.natAbs * d.natAbs) hx hy
  have l2 := pc_less (m.natAbs * d.natAbs) (n.natAbs * e.natAbs) hy hx
  have s1 : 0 < n → 0 < n * e := fun h => Int.mul_pos h (by omega)
  have s2 : n < 0 → n * e < 0 := fun h => Int.mul_neg_of_neg_of_pos h (by omega)
  have s3 : 0 < m → 0 < m * d := fun h => Int.mul_pos h (by omega)
  have s4 : m < 0 → m * d < 0 := fun h => Int.mul_neg_of_neg_of_pos h (by omega)
  have s5 : n = 0 → n * e = 0 := fun h => by rw [h, Int.zero_mul]
  have s6 : m = 0 → m * d = 0 := fun h => by rw [h, Int.zero_mul]
  have heq' : n * e = m * d → n = m ∧ d = e := fun h => by have := heq h; simpa using this
  have heq2 : n = m → d = e → n * e = m * d := fun h1 h2 => by rw [h1, h2]
  have hc : cmpF (n, d) (m, e) = if n * e < m * d then -1 else if n * e = m * d then 0 else 1 := rfl
  generalize n.natAbs * e.natAbs = x at *
  generalize m.natAbs * d.natAbs = y at *
  generalize n * e = X at *
  generalize m * d = Y at *
  refine pc_of_bodyF hm Try.func171 (by kernel_rfl) ?_
  conv => whnf
  (repeat' (first | (refine And.intro (a := _ = true → _) (b := _ = false → _) (fun hh => ?_) (fun hh => ?_) <;> (first | simp only [decide_eq_true_eq, decide_eq_false_iff_not, Bool.or_eq_true, Bool.and_eq_true, Bool.or_eq_false_iff, Bool.and_eq_false_iff, Bool.not_eq_true', Bool.not_eq_false', ge_iff_le, gt_iff_lt] at hh | skip) <;> (first | (exfalso; omega) | (exfalso; simp [*] at hh; done) | (exfalso; revert hh; decide) | exact absurd (by assumption) hh | (conv => whnf))) | (refine ⟨by kernel_rfl, ?_⟩; (conv => whnf)) | (refine And.intro (a := _ ∧ _) ⟨by omega, by omega⟩ ?_; (conv => whnf)) | (refine And.intro (a := _ ∧ _) ⟨by decide, by decide⟩ ?_; (conv => whnf)) | (refine And.intro (a := _ ≤ _) (by omega) ?_; (conv => whnf)) | (refine And.intro (a := _ ≠ _) (by omega) ?_; (conv => whnf)) | (refine Or.inl ?_; (conv => whnf); first | (refine ⟨_, by first | exact pc_abs n i1 | exact pc_abs d i2 | exact pc_abs m i3 | exact pc_abs e i4 | exact p1 | exact p2 | exact l1 | exact l2, ?_⟩; (conv => whnf)) | (refine ⟨false, ?_⟩; (conv => whnf); refine ⟨_, by first | exact pc_abs n i1 | exact pc_abs d i2 | exact pc_abs m i3 | exact pc_abs e i4 | exact p1 | exact p2 | exact l1 | exact l2, ?_⟩; (conv => whnf))) | (refine ⟨_, by first | exact pc_abs n i1 | exact pc_abs d i2 | exact pc_abs m i3 | exact pc_abs e i4 | exact p1 | exact p2 | exact l1 | exact l2, ?_⟩; (conv => whnf))))
  all_goals
    clear p1 p2 l1 l2 heq ha hb hx hy i1 i2 i3 i4
    rw [hc]
    congr 1
    clear hc
    try simp only [reduceCtorEq, or_false] at *
    split at hsx <;> split at hsy <;> (refine Eq.symm ?_) <;> first
      | (rw [if_pos (by omega)]; done)
      | (rw [if_neg (by omega), if_pos (by omega)]; done)
      | (rw [if_neg (by omega), if_neg (by omega)]; done)
      | (exfalso; omega)
end Go.Proofs.Try.My
