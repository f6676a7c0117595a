/- A helper text: contracts of functions of the program, and plain lemmas. -/
import Derived.Test.YtiimhccemdcnpaaEvSix
import Derived.Test.YtiimhccemdcnpaaMyEx4
set_option maxRecDepth 100000
set_option maxHeartbeats 0
set_option linter.unusedVariables false
set_option linter.unusedSimpArgs false
namespace Go.Proofs.Try.My
open Go Go.Ev

/-! ### Floor and Ceil -/
theorem tdiv_bound {n d : Int} (hd : 0 < d) (h1 : -4611686018427387903 ≤ n) (h2 : n ≤ 4611686018427387903) : (-4611686018427387903 ≤ Int.tdiv n d ∧ Int.tdiv n d ≤ 4611686018427387903) ∧ (-4611686018427387903 ≤ Int.tdiv n d * d ∧ Int.tdiv n d * d ≤ 4611686018427387903) := by
  rcases Int.le_total 0 n with h | h
  · rw [Int.tdiv_eq_ediv_of_nonneg h]
    have k1 := Int.ediv_mul_le n (b := d) (by omega)
    have k2 := Int.ediv_nonneg h (show 0 ≤ d by omega)
    have k3 := Int.ediv_le_self d h
    have k4 := Int.mul_nonneg k2 (show 0 ≤ d by omega)
    omega
  · obtain ⟨m, rfl⟩ : ∃ m, n = -m := ⟨-n, by omega⟩
    rw [Int.neg_tdiv, Int.tdiv_eq_ediv_of_nonneg (show 0 ≤ m by omega), Int.neg_mul]
    have h : 0 ≤ m := by omega
    have k1 := Int.ediv_mul_le m (b := d) (by omega)
    have k2 := Int.ediv_nonneg h (show 0 ≤ d by omega)
    have k3 := Int.ediv_le_self d h
    have k4 := Int.mul_nonneg k2 (show 0 ≤ d by omega)
    omega
theorem floor_up {n d : Int} (hd : 0 < d) (h : Int.tdiv n d * d > n) : n / d = Int.tdiv n d - 1 := by
  rcases Int.le_total 0 n with k | k
  · rw [Int.tdiv_eq_ediv_of_nonneg k] at h
    have := Int.ediv_mul_le n (b := d) (by omega)
    omega
  · obtain ⟨m, rfl⟩ : ∃ m, n = -m := ⟨-n, by omega⟩
    rw [Int.neg_tdiv, Int.tdiv_eq_ediv_of_nonneg (show 0 ≤ m by omega)] at h ⊢
    rw [Int.neg_mul] at h
    have e1 := Int.mul_ediv_add_emod m d
    have e2 := Int.emod_nonneg m (show d ≠ 0 by omega)
    have e3 := Int.emod_lt_of_pos m hd
    rw [Int.mul_comm] at e1
    generalize m / d = q at *
    generalize m % d = r at *
    have e5 : d * (-q - 1) = -(q * d) - d := by rw [Int.mul_sub, Int.mul_neg, Int.mul_one, Int.mul_comm]
    exact ((Int.ediv_emod_unique (a := -m) (r := d - r) (q := -q - 1) hd).2 ⟨by rw [e5]; omega, by omega, by omega⟩).1
theorem floor_eq {n d : Int} (hd : 0 < d) (h : ¬ Int.tdiv n d * d > n) : n / d = Int.tdiv n d := by
  rcases Int.le_total 0 n with k | k
  · rw [Int.tdiv_eq_ediv_of_nonneg k]
  · obtain ⟨m, rfl⟩ : ∃ m, n = -m := ⟨-n, by omega⟩
    rw [Int.neg_tdiv, Int.tdiv_eq_ediv_of_nonneg (show 0 ≤ m by omega)] at h ⊢
    rw [Int.neg_mul] at h
    have e1 := Int.mul_ediv_add_emod m d
    have e2 := Int.emod_nonneg m (show d ≠ 0 by omega)
    rw [Int.mul_comm] at e1
    generalize m / d = q at *
    generalize m % d = r at *
    have e5 : d * (-q) = -(q * d) := by rw [Int.mul_neg, Int.mul_comm]
    exact ((Int.ediv_emod_unique (a := -m) (r := 0) (q := -q) hd).2 ⟨by rw [e5]; omega, by omega, by omega⟩).1
theorem pc_Floor (a : Int × Int) (h : validB a = true) : PC Try.prog 24 [fr a] (.tup [i64 (a.1 / a.2), i64 0]) := by
  have c1 := pc_valid1 a
  rw [h] at c1
  obtain ⟨v1, v2, v3, v4, _⟩ := (validB_iff a).1 h
  obtain ⟨b1, b2⟩ := tdiv_bound (n := a.1) (d := a.2) (by omega) v3 v4
  have f1 := floor_up (n := a.1) (d := a.2) (by omega)
  have f2 := floor_eq (n := a.1) (d := a.2) (by omega)
  obtain ⟨n, d⟩ := a
  simp only [] at v1 v2 v3 v4 b1 b2 f1 f2 ⊢
  generalize n / d = q at *
  have w1 : IntKind.i64.wrap (Int.tdiv n d) = Int.tdiv n d := w64 _ (by omega) (by omega)
  have w2 : IntKind.i64.wrap (Int.tdiv n d * d) = Int.tdiv n d * d := w64 _ (by omega) (by omega)
  have w3 : IntKind.i64.wrap (Int.tdiv n d - 1) = Int.tdiv n d - 1 := w64 _ (by omega) (by omega)
  by_cases hc : Int.tdiv n d * d > n
  · have f1 := f1 hc
    refine pc_of_bodyF hm Try.func24 (by kernel_rfl) ?_
    conv => whnf
    (repeat' (first | (refine ⟨_, by first | exact c1, ?_⟩; (conv => whnf)) | (refine Or.inl ?_; (conv => whnf); refine ⟨_, by first | exact c1, ?_⟩; (conv => whnf)) | (refine Or.inl ?_; (conv => whnf); refine ⟨false, ?_⟩; (conv => whnf); refine ⟨_, by first | exact c1, ?_⟩; (conv => whnf)) | (refine ⟨by kernel_rfl, ?_⟩; (conv => whnf)) | fail))
    (repeat' (first | (refine ⟨by kernel_rfl, ?_⟩; (conv => whnf)) | (refine ⟨fun _ => ?_, fun h => absurd h (by first | decide | (simp; done) | fail)⟩; (conv => whnf)) | (refine ⟨fun h => absurd h (by first | decide | (simp; done) | fail), fun _ => ?_⟩; (conv => whnf)) | fail))
    refine ⟨by show d ≠ 0; omega, ?_⟩
    (conv => whnf)
    (repeat' (first | (refine ⟨by kernel_rfl, ?_⟩; (conv => whnf)) | (refine And.intro (a := _ ∧ _) ⟨by omega, by omega⟩ ?_; (conv => whnf))))
    refine ⟨fun _ => ?_, fun h => absurd (of_decide_eq_false h) (by show ¬ ¬ IntKind.i64.wrap (IntKind.i64.wrap (Int.tdiv n d) * d) > n; rw [w1, w2]; omega)⟩
    (conv => whnf)
    (repeat' (first | (refine ⟨by kernel_rfl, ?_⟩; (conv => whnf)) | fail))
    rw [w1, w3, ← f1]
  · have f2 := f2 hc
    refine pc_of_bodyF hm Try.func24 (by kernel_rfl) ?_
    conv => whnf
    (repeat' (first | (refine ⟨_, by first | exact c1, ?_⟩; (conv => whnf)) | (refine Or.inl ?_; (conv => whnf); refine ⟨_, by first | exact c1, ?_⟩; (conv => whnf)) | (refine Or.inl ?_; (conv => whnf); refine ⟨false, ?_⟩; (conv => whnf); refine ⟨_, by first | exact c1, ?_⟩; (conv => whnf)) | (refine ⟨by kernel_rfl, ?_⟩; (conv => whnf)) | fail))
    (repeat' (first | (refine ⟨by kernel_rfl, ?_⟩; (conv => whnf)) | (refine ⟨fun _ => ?_, fun h => absurd h (by first | decide | (simp; done) | fail)⟩; (conv => whnf)) | (refine ⟨fun h => absurd h (by first | decide | (simp; done) | fail), fun _ => ?_⟩; (conv => whnf)) | fail))
    refine ⟨by show d ≠ 0; omega, ?_⟩
    (conv => whnf)
    (repeat' (first | (refine ⟨by kernel_rfl, ?_⟩; (conv => whnf)) | (refine And.intro (a := _ ∧ _) ⟨by omega, by omega⟩ ?_; (conv => whnf))))
    refine ⟨fun h => absurd (of_decide_eq_true h) (by show ¬ IntKind.i64.wrap (IntKind.i64.wrap (Int.tdiv n d) * d) > n; rw [w1, w2]; omega), fun _ => ?_⟩
    (conv => whnf)
    (repeat' (first | (refine ⟨by kernel_rfl, ?_⟩; (conv => whnf)) | fail))
    rw [w1, ← f2]
theorem minus_valid {a : Int × Int} (h : validB a = true) : validB (-a.1, a.2) = true := by
  rw [validB_iff] at h ⊢
  obtain ⟨v1, v2, v3, v4, v5⟩ := h
  refine ⟨v1, v2, by simp only []; omega, by simp only []; omega, ?_⟩
  simp only [Int.natAbs_neg]
  exact v5
theorem pc_Ceil (a : Int × Int) (h : validB a = true) : PC Try.prog 25 [fr a] (.tup [i64 (-(-a.1 / a.2)), i64 0]) := by
  have c1 := pc_minus a h
  have c2 := pc_Floor (-a.1, a.2) (minus_valid h)
  obtain ⟨v1, v2, v3, v4, _⟩ := (validB_iff a).1 h
  have b : -4611686018427387903 ≤ -a.1 / a.2 ∧ -a.1 / a.2 ≤ 4611686018427387903 := by
    have k1 := Int.ediv_mul_le (-a.1) (b := a.2) (by omega)
    have k2 := Int.lt_ediv_add_one_mul_self (-a.1) (b := a.2) (by omega)
    generalize -a.1 / a.2 = q at *
    constructor
    · refine Int.not_lt.1 fun hq => ?_
      have := Int.mul_le_mul_of_nonneg_right (show q + 1 ≤ -4611686018427387903 by omega) (show 0 ≤ a.2 by omega)
      omega
    · refine Int.not_lt.1 fun hq => ?_
      have := Int.mul_le_mul (show 4611686018427387903 + 1 ≤ q by omega) (show 1 ≤ a.2 by omega) (by omega) (by omega)
      omega
  obtain ⟨n, d⟩ := a
  simp only [] at *
  generalize -n / d = q at *
  have w3 : IntKind.i64.wrap (0 - q) = -q := by rw [Int.zero_sub]; exact w64 _ (by omega) (by omega)
  refine pc_of_bodyF hm Try.func25 (by kernel_rfl) ?_
  conv => whnf
  (repeat' (first | (refine ⟨_, by first | exact c1 | exact c2, ?_⟩; (conv => whnf)) | (refine Or.inl ?_; (conv => whnf); refine ⟨_, by first | exact c1 | exact c2, ?_⟩; (conv => whnf)) | (refine Or.inl ?_; (conv => whnf); refine ⟨false, ?_⟩; (conv => whnf); refine ⟨_, by first | exact c1 | exact c2, ?_⟩; (conv => whnf)) | (refine ⟨by kernel_rfl, ?_⟩; (conv => whnf)) | fail))
  first | rfl | (rw [w3]) | set_option pp.maxSteps 300 in trace_state
end Go.Proofs.Try.My
