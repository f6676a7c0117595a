/- A helper text: contracts of functions of the program, and plain lemmas. -/
import Derived.Test.YtblmmhmdnnnidaaEvSix
import Derived.Test.YtblmmhmdnnnidaaMyLv1
set_option maxRecDepth 100000
set_option maxHeartbeats 0
set_option linter.unusedVariables false
set_option linter.unusedSimpArgs false
namespace Go.Proofs.Try.My
open Go Go.Ev

/-! ### Lights -/
abbrev lig (E D N : Int) : AV := .agg [i64 E, i64 D, i64 N]
def lightB (E D N : Int) : Bool := withB E 1 256 && withB D 0 63 && withB N 0 64
theorem lightB_iff (E D N : Int) : lightB E D N = true ↔ 1 ≤ E ∧ E ≤ 256 ∧ 0 ≤ D ∧ D ≤ 63 ∧ 0 ≤ N ∧ N ≤ 64 := by
  simp only [lightB, withB, Bool.and_eq_true, decide_eq_true_eq, and_assoc]
theorem pc_CheckLight (E D N : Int) : PC Try.prog 32 [lig E D N] (i64 (if lightB E D N then 0 else 41)) := by
  have c1 := pc_fromN 1 256 E
  have c2 := pc_fromN 0 63 D
  have c3 := pc_fromN 0 64 N
  unfold lightB
  generalize withB E 1 256 = w1 at *
  generalize withB D 0 63 = w2 at *
  generalize withB N 0 64 = w3 at *
  cases w1
  · refine pc_of_bodyF hm Try.func32 (by kernel_rfl) ?_
    conv => whnf
    (repeat' (first | (refine ⟨_, by first | exact c1, ?_⟩; (conv => whnf)) | (refine Or.inl ?_; (conv => whnf); refine ⟨_, by first | exact c1, ?_⟩; (conv => whnf)) | (refine Or.inl ?_; (conv => whnf); refine ⟨false, ?_⟩; (conv => whnf); refine ⟨_, by first | exact c1, ?_⟩; (conv => whnf)) | (refine ⟨by kernel_rfl, ?_⟩; (conv => whnf)) | (refine ⟨fun _ => ?_, fun h => absurd h (by first | decide | (simp; done) | fail)⟩; (conv => whnf)) | (refine ⟨fun h => absurd h (by first | decide | (simp; done) | fail), fun _ => ?_⟩; (conv => whnf)) | ((with_reducible refine And.intro (a := _ = true → _) (b := _ = false → _) (fun hh => ?_) (fun hh => ?_)) <;> (try simp only [decide_eq_true_eq, decide_eq_false_iff_not, Bool.or_eq_true, Bool.and_eq_true, Bool.or_eq_false_iff, Bool.and_eq_false_iff, Bool.not_eq_true', Bool.not_eq_false', ge_iff_le, gt_iff_lt] at hh) <;> (first | (exfalso; omega) | (conv => whnf))) | fail))
    all_goals rfl
  cases w2
  · refine pc_of_bodyF hm Try.func32 (by kernel_rfl) ?_
    conv => whnf
    (repeat' (first | (refine ⟨_, by first | exact c1 | exact c2, ?_⟩; (conv => whnf)) | (refine Or.inl ?_; (conv => whnf); refine ⟨_, by first | exact c1 | exact c2, ?_⟩; (conv => whnf)) | (refine Or.inl ?_; (conv => whnf); refine ⟨false, ?_⟩; (conv => whnf); refine ⟨_, by first | exact c1 | exact c2, ?_⟩; (conv => whnf)) | (refine ⟨by kernel_rfl, ?_⟩; (conv => whnf)) | (refine ⟨fun _ => ?_, fun h => absurd h (by first | decide | (simp; done) | fail)⟩; (conv => whnf)) | (refine ⟨fun h => absurd h (by first | decide | (simp; done) | fail), fun _ => ?_⟩; (conv => whnf)) | ((with_reducible refine And.intro (a := _ = true → _) (b := _ = false → _) (fun hh => ?_) (fun hh => ?_)) <;> (try simp only [decide_eq_true_eq, decide_eq_false_iff_not, Bool.or_eq_true, Bool.and_eq_true, Bool.or_eq_false_iff, Bool.and_eq_false_iff, Bool.not_eq_true', Bool.not_eq_false', ge_iff_le, gt_iff_lt] at hh) <;> (first | (exfalso; omega) | (conv => whnf))) | fail))
    all_goals rfl
  cases w3
  · refine pc_of_bodyF hm Try.func32 (by kernel_rfl) ?_
    conv => whnf
    (repeat' (first | (refine ⟨_, by first | exact c1 | exact c2 | exact c3, ?_⟩; (conv => whnf)) | (refine Or.inl ?_; (conv => whnf); refine ⟨_, by first | exact c1 | exact c2 | exact c3, ?_⟩; (conv => whnf)) | (refine Or.inl ?_; (conv => whnf); refine ⟨false, ?_⟩; (conv => whnf); refine ⟨_, by first | exact c1 | exact c2 | exact c3, ?_⟩; (conv => whnf)) | (refine ⟨by kernel_rfl, ?_⟩; (conv => whnf)) | (refine ⟨fun _ => ?_, fun h => absurd h (by first | decide | (simp; done) | fail)⟩; (conv => whnf)) | (refine ⟨fun h => absurd h (by first | decide | (simp; done) | fail), fun _ => ?_⟩; (conv => whnf)) | ((with_reducible refine And.intro (a := _ = true → _) (b := _ = false → _) (fun hh => ?_) (fun hh => ?_)) <;> (try simp only [decide_eq_true_eq, decide_eq_false_iff_not, Bool.or_eq_true, Bool.and_eq_true, Bool.or_eq_false_iff, Bool.and_eq_false_iff, Bool.not_eq_true', Bool.not_eq_false', ge_iff_le, gt_iff_lt] at hh) <;> (first | (exfalso; omega) | (conv => whnf))) | fail))
    all_goals rfl
  · refine pc_of_bodyF hm Try.func32 (by kernel_rfl) ?_
    conv => whnf
    (repeat' (first | (refine ⟨_, by first | exact c1 | exact c2 | exact c3, ?_⟩; (conv => whnf)) | (refine Or.inl ?_; (conv => whnf); refine ⟨_, by first | exact c1 | exact c2 | exact c3, ?_⟩; (conv => whnf)) | (refine Or.inl ?_; (conv => whnf); refine ⟨false, ?_⟩; (conv => whnf); refine ⟨_, by first | exact c1 | exact c2 | exact c3, ?_⟩; (conv => whnf)) | (refine ⟨by kernel_rfl, ?_⟩; (conv => whnf)) | (refine ⟨fun _ => ?_, fun h => absurd h (by first | decide | (simp; done) | fail)⟩; (conv => whnf)) | (refine ⟨fun h => absurd h (by first | decide | (simp; done) | fail), fun _ => ?_⟩; (conv => whnf)) | ((with_reducible refine And.intro (a := _ = true → _) (b := _ = false → _) (fun hh => ?_) (fun hh => ?_)) <;> (try simp only [decide_eq_true_eq, decide_eq_false_iff_not, Bool.or_eq_true, Bool.and_eq_true, Bool.or_eq_false_iff, Bool.and_eq_false_iff, Bool.not_eq_true', Bool.not_eq_false', ge_iff_le, gt_iff_lt] at hh) <;> (first | (exfalso; omega) | (conv => whnf))) | fail))
    all_goals rfl
def litE (E D N n m : Int) : Int := if lightB E D N then (if withB n 0 m then 0 else 2) else 41
theorem pc_lit (E D N n m : Int) : PC Try.prog 84 [lig E D N, i64 n, i64 m] (i64 (litE E D N n m)) := by
  have c0 := pc_CheckLight E D N
  have c1 := pc_fromN 0 m n
  unfold litE
  generalize lightB E D N = b at *
  generalize withB n 0 m = w at *
  cases b
  · refine pc_of_bodyF hm Try.func84 (by kernel_rfl) ?_
    conv => whnf
    (repeat' (first | (refine ⟨_, by first | exact c0, ?_⟩; (conv => whnf)) | (refine Or.inl ?_; (conv => whnf); refine ⟨_, by first | exact c0, ?_⟩; (conv => whnf)) | (refine Or.inl ?_; (conv => whnf); refine ⟨false, ?_⟩; (conv => whnf); refine ⟨_, by first | exact c0, ?_⟩; (conv => whnf)) | (refine ⟨by kernel_rfl, ?_⟩; (conv => whnf)) | (refine ⟨fun _ => ?_, fun h => absurd h (by first | decide | (simp; done) | fail)⟩; (conv => whnf)) | (refine ⟨fun h => absurd h (by first | decide | (simp; done) | fail), fun _ => ?_⟩; (conv => whnf)) | ((with_reducible refine And.intro (a := _ = true → _) (b := _ = false → _) (fun hh => ?_) (fun hh => ?_)) <;> (try simp only [decide_eq_true_eq, decide_eq_false_iff_not, Bool.or_eq_true, Bool.and_eq_true, Bool.or_eq_false_iff, Bool.and_eq_false_iff, Bool.not_eq_true', Bool.not_eq_false', ge_iff_le, gt_iff_lt] at hh) <;> (first | (exfalso; omega) | (conv => whnf))) | fail))
    all_goals rfl
  cases w
  · refine pc_of_bodyF hm Try.func84 (by kernel_rfl) ?_
    conv => whnf
    (repeat' (first | (refine ⟨_, by first | exact c0 | exact c1, ?_⟩; (conv => whnf)) | (refine Or.inl ?_; (conv => whnf); refine ⟨_, by first | exact c0 | exact c1, ?_⟩; (conv => whnf)) | (refine Or.inl ?_; (conv => whnf); refine ⟨false, ?_⟩; (conv => whnf); refine ⟨_, by first | exact c0 | exact c1, ?_⟩; (conv => whnf)) | (refine ⟨by kernel_rfl, ?_⟩; (conv => whnf)) | (refine ⟨fun _ => ?_, fun h => absurd h (by first | decide | (simp; done) | fail)⟩; (conv => whnf)) | (refine ⟨fun h => absurd h (by first | decide | (simp; done) | fail), fun _ => ?_⟩; (conv => whnf)) | ((with_reducible refine And.intro (a := _ = true → _) (b := _ = false → _) (fun hh => ?_) (fun hh => ?_)) <;> (try simp only [decide_eq_true_eq, decide_eq_false_iff_not, Bool.or_eq_true, Bool.and_eq_true, Bool.or_eq_false_iff, Bool.and_eq_false_iff, Bool.not_eq_true', Bool.not_eq_false', ge_iff_le, gt_iff_lt] at hh) <;> (first | (exfalso; omega) | (conv => whnf))) | fail))
    all_goals rfl
  · refine pc_of_bodyF hm Try.func84 (by kernel_rfl) ?_
    conv => whnf
    (repeat' (first | (refine ⟨_, by first | exact c0 | exact c1, ?_⟩; (conv => whnf)) | (refine Or.inl ?_; (conv => whnf); refine ⟨_, by first | exact c0 | exact c1, ?_⟩; (conv => whnf)) | (refine Or.inl ?_; (conv => whnf); refine ⟨false, ?_⟩; (conv => whnf); refine ⟨_, by first | exact c0 | exact c1, ?_⟩; (conv => whnf)) | (refine ⟨by kernel_rfl, ?_⟩; (conv => whnf)) | (refine ⟨fun _ => ?_, fun h => absurd h (by first | decide | (simp; done) | fail)⟩; (conv => whnf)) | (refine ⟨fun h => absurd h (by first | decide | (simp; done) | fail), fun _ => ?_⟩; (conv => whnf)) | ((with_reducible refine And.intro (a := _ = true → _) (b := _ = false → _) (fun hh => ?_) (fun hh => ?_)) <;> (try simp only [decide_eq_true_eq, decide_eq_false_iff_not, Bool.or_eq_true, Bool.and_eq_true, Bool.or_eq_false_iff, Bool.and_eq_false_iff, Bool.not_eq_true', Bool.not_eq_false', ge_iff_le, gt_iff_lt] at hh) <;> (first | (exfalso; omega) | (conv => whnf))) | fail))
    all_goals rfl
/-- The ideal value of a radiance. -/
def idl (E D r : Int) : Int := if D + E * r / 256 < 255 then D + E * r / 256 else 255
theorem pc_ideal (E D N r : Int) (hE : 0 ≤ E ∧ E ≤ 256) (hD : 0 ≤ D ∧ D ≤ 63) (hr : 0 ≤ r ∧ r ≤ 5000) : PC Try.prog 87 [lig E D N, i64 r] (i64 (idl E D r)) := by
  have m := mul_pm (a := E) (b := r) (A := 256) (B := 5000) (by omega) (by omega) (by omega) (by omega)
  have m0 := Int.mul_nonneg hE.1 hr.1
  have w1 : IntKind.i64.wrap (E * r) = E * r := w64 _ (by omega) (by omega)
  have w2 : (E * r).fdiv (2 ^ min (Int.toNat 8) IntKind.i64.bits) = E * r / 256 := by
    show (E * r).fdiv 256 = _
    exact Int.fdiv_eq_ediv_of_nonneg _ (by omega)
  have w3 : IntKind.i64.wrap (D + E * r / 256) = D + E * r / 256 := w64 _ (by omega) (by omega)
  refine pc_of_bodyF hm Try.func87 (by kernel_rfl) ?_
  conv => whnf
  (repeat' (first | (refine ⟨by kernel_rfl, ?_⟩; (conv => whnf)) | (refine ⟨fun _ => ?_, fun h => absurd h (by first | decide | (simp; done) | fail)⟩; (conv => whnf)) | (refine ⟨fun h => absurd h (by first | decide | (simp; done) | fail), fun _ => ?_⟩; (conv => whnf)) | ((with_reducible refine And.intro (a := _ = true → _) (b := _ = false → _) (fun hh => ?_) (fun hh => ?_)) <;> (try simp only [decide_eq_true_eq, decide_eq_false_iff_not, Bool.or_eq_true, Bool.and_eq_true, Bool.or_eq_false_iff, Bool.and_eq_false_iff, Bool.not_eq_true', Bool.not_eq_false', ge_iff_le, gt_iff_lt] at hh) <;> (first | (exfalso; omega) | (conv => whnf))) | fail))
  show i64 (if IntKind.i64.wrap (D + (IntKind.i64.wrap (E * r)).fdiv (2 ^ min (Int.toNat 8) IntKind.i64.bits)) < 255 then IntKind.i64.wrap (D + (IntKind.i64.wrap (E * r)).fdiv (2 ^ min (Int.toNat 8) IntKind.i64.bits)) else 255) = _
  rw [w1, w2, w3]
  rfl
theorem pc_rad1 (E D N V r : Int) (hE : 0 ≤ E ∧ E ≤ 256) (hD : 0 ≤ D ∧ D ≤ 63) (hN : 0 ≤ N ∧ N ≤ 64) (hV : 0 ≤ V ∧ V ≤ 255) (hr : 0 ≤ r ∧ r ≤ 5000) :
    PC Try.prog 149 [i64 r, .pt [i64 E, i64 D, i64 N] 0, .pt [i64 V] 0] (.bool (decide (V - N ≤ idl E D r))) := by
  have c := pc_ideal E D N r hE hD hr
  have w : IntKind.i64.wrap (V - N) = V - N := w64 _ (by omega) (by omega)
  generalize idl E D r = x at *
  refine pc_of_bodyF hm Try.func149 (by kernel_rfl) ?_
  conv => whnf
  (repeat' (first | (refine ⟨_, by first | with_reducible exact c, ?_⟩; (conv => whnf)) | (refine Or.inl ?_; (conv => whnf); refine ⟨_, by first | with_reducible exact c, ?_⟩; (conv => whnf)) | (refine Or.inl ?_; (conv => whnf); refine ⟨false, ?_⟩; (conv => whnf); refine ⟨_, by first | with_reducible exact c, ?_⟩; (conv => whnf)) | (refine ⟨by kernel_rfl, ?_⟩; (conv => whnf)) | (refine ⟨fun _ => ?_, fun h => absurd h (by first | decide | (simp; done) | fail)⟩; (conv => whnf)) | (refine ⟨fun h => absurd h (by first | decide | (simp; done) | fail), fun _ => ?_⟩; (conv => whnf)) | ((with_reducible refine And.intro (a := _ = true → _) (b := _ = false → _) (fun hh => ?_) (fun hh => ?_)) <;> (try simp only [decide_eq_true_eq, decide_eq_false_iff_not, Bool.or_eq_true, Bool.and_eq_true, Bool.or_eq_false_iff, Bool.and_eq_false_iff, Bool.not_eq_true', Bool.not_eq_false', ge_iff_le, gt_iff_lt] at hh) <;> (first | (exfalso; omega) | (conv => whnf))) | fail))
  show AV.bool (decide (x ≥ IntKind.i64.wrap (V - N))) = _
  rw [w]
theorem pc_rad2 (E D N V r : Int) (hE : 0 ≤ E ∧ E ≤ 256) (hD : 0 ≤ D ∧ D ≤ 63) (hN : 0 ≤ N ∧ N ≤ 64) (hV : 0 ≤ V ∧ V ≤ 255) (hr : 0 ≤ r ∧ r ≤ 5000) :
    PC Try.prog 150 [i64 r, .pt [i64 E, i64 D, i64 N] 0, .pt [i64 V] 0] (.bool (decide (V + N < idl E D r))) := by
  have c := pc_ideal E D N r hE hD hr
  have w : IntKind.i64.wrap (V + N) = V + N := w64 _ (by omega) (by omega)
  generalize idl E D r = x at *
  refine pc_of_bodyF hm Try.func150 (by kernel_rfl) ?_
  conv => whnf
  (repeat' (first | (refine ⟨_, by first | with_reducible exact c, ?_⟩; (conv => whnf)) | (refine Or.inl ?_; (conv => whnf); refine ⟨_, by first | with_reducible exact c, ?_⟩; (conv => whnf)) | (refine Or.inl ?_; (conv => whnf); refine ⟨false, ?_⟩; (conv => whnf); refine ⟨_, by first | with_reducible exact c, ?_⟩; (conv => whnf)) | (refine ⟨by kernel_rfl, ?_⟩; (conv => whnf)) | (refine ⟨fun _ => ?_, fun h => absurd h (by first | decide | (simp; done) | fail)⟩; (conv => whnf)) | (refine ⟨fun h => absurd h (by first | decide | (simp; done) | fail), fun _ => ?_⟩; (conv => whnf)) | ((with_reducible refine And.intro (a := _ = true → _) (b := _ = false → _) (fun hh => ?_) (fun hh => ?_)) <;> (try simp only [decide_eq_true_eq, decide_eq_false_iff_not, Bool.or_eq_true, Bool.and_eq_true, Bool.or_eq_false_iff, Bool.and_eq_false_iff, Bool.not_eq_true', Bool.not_eq_false', ge_iff_le, gt_iff_lt] at hh) <;> (first | (exfalso; omega) | (conv => whnf))) | fail))
  show AV.bool (decide (x > IntKind.i64.wrap (V + N))) = _
  rw [w]
theorem half_n (i j : Nat) (hi : i < 2 ^ 40) (hj : j < 2 ^ 40) : IntKind.i64.wrap ((IntKind.u64.wrap (IntKind.i64.wrap ((i : Int) + (j : Int)))).fdiv (2 ^ min (Int.toNat 1) IntKind.u64.bits)) = (((i + j) / 2 : Nat) : Int) := by
  have e1 : IntKind.i64.wrap ((i : Int) + (j : Int)) = ((i + j : Nat) : Int) := by rw [wi _ (by omega) (by omega)]; omega
  have e : Int.toNat ((1 : Nat) : Int) = Int.toNat 1 := rfl
  have := shr_u (i + j) 1 (by omega)
  rw [e] at this
  rw [e1, wu _ (by omega), this, wi _ (by omega) (by omega)]
/-- A search over two captured values. -/
theorem pc_SearchN (K : FuncId) (E D N V : Int) (n : Nat) (p : Nat → Bool) (hn : n < 2 ^ 39) (hf : ∀ i : Nat, i < n → PC Try.prog K [i64 i, .pt [i64 E, i64 D, i64 N] 0, .pt [i64 V] 0] (.bool (p i)))
    (k : Nat) (hk : k ≤ n) (h1 : ∀ j, j < k → p j = false) (h2 : ∀ j, k ≤ j → j < n → p j = true) :
    PC Try.prog 85 [i64 n, .fn (.func K) [] [.pt [i64 E, i64 D, i64 N] 0, .pt [i64 V] 0]] (i64 k) := by
  refine pc_of_bodyF hm Try.func85 (by kernel_rfl) ?_
  conv => whnf
  (repeat' (first | (refine And.intro (a := _ = true → _) (b := _ = false → _) (fun hh => ?_) (fun hh => ?_) <;> (first | simp only [decide_eq_true_eq, decide_eq_false_iff_not, Bool.or_eq_true, Bool.and_eq_true, Bool.or_eq_false_iff, Bool.and_eq_false_iff, Bool.not_eq_true', Bool.not_eq_false', ge_iff_le, gt_iff_lt] at hh | skip) <;> (first | (exfalso; omega) | (exfalso; simp [*] at hh; done) | (exfalso; revert hh; decide) | exact absurd (by assumption) hh | (conv => whnf))) | (refine ⟨by kernel_rfl, ?_⟩; (conv => whnf)) | (refine And.intro (a := _ ∧ _) ⟨by omega, by omega⟩ ?_; (conv => whnf)) | (refine And.intro (a := _ ∧ _) ⟨by decide, by decide⟩ ?_; (conv => whnf)) | (refine And.intro (a := _ ≤ _) (by omega) ?_; (conv => whnf)) | (refine And.intro (a := _ ≠ _) (by omega) ?_; (conv => whnf))))
  refine Or.inr ⟨Nat × Nat, [5, 6], [], [], fun i => [i64 i.1, i64 i.2], fun _ => [], fun _ => [], fun i => i.2 - i.1, fun i => i.1 ≤ k ∧ k ≤ i.2 ∧ i.2 ≤ n, ?_⟩
  (conv => whnf)
  refine ⟨⟨(0, n), ?_⟩, ?_⟩
  · (conv => whnf)
    exact ⟨⟨⟨Nat.zero_le _, hk, Nat.le_refl _⟩, rfl, rfl, rfl⟩, by kernel_rfl, by kernel_rfl⟩
  · rintro ⟨i, j⟩ ⟨g1, g2, g3⟩
    simp only [] at g1 g2 g3
    (conv => whnf)
    refine ⟨fun h => ?_, fun h => ?_⟩
    · have h := of_decide_eq_true h
      simp only [] at h
      (conv => whnf)
      rw [half_n i j (by omega) (by omega)]
      have c := hf ((i + j) / 2) (by omega)
      have c1 : p ((i + j) / 2) = false → (i + j) / 2 < k := fun e => by
        by_cases hh : (i + j) / 2 < k
        · exact hh
        · rw [h2 _ (by omega) (by omega)] at e; cases e
      have c2 : p ((i + j) / 2) = true → k ≤ (i + j) / 2 := fun e => by
        by_cases hh : (i + j) / 2 < k
        · rw [h1 _ hh] at e; cases e
        · omega
      have e1 : i ≤ (i + j) / 2 := by omega
      have e2 : (i + j) / 2 < j := by omega
      generalize (i + j) / 2 = m at *
      generalize p m = bb at *
      (repeat' (first | (refine And.intro (a := _ = true → _) (b := _ = false → _) (fun hh => ?_) (fun hh => ?_) <;> (first | simp only [decide_eq_true_eq, decide_eq_false_iff_not, Bool.or_eq_true, Bool.and_eq_true, Bool.or_eq_false_iff, Bool.and_eq_false_iff, Bool.not_eq_true', Bool.not_eq_false', ge_iff_le, gt_iff_lt] at hh | skip) <;> (first | (exfalso; omega) | (exfalso; simp [*] at hh; done) | (exfalso; revert hh; decide) | exact absurd (by assumption) hh | (conv => whnf))) | (refine ⟨by kernel_rfl, ?_⟩; (conv => whnf)) | (refine And.intro (a := _ ∧ _) ⟨by omega, by omega⟩ ?_; (conv => whnf)) | (refine And.intro (a := _ ∧ _) ⟨by decide, by decide⟩ ?_; (conv => whnf)) | (refine And.intro (a := _ ≤ _) (by omega) ?_; (conv => whnf)) | (refine And.intro (a := _ ≠ _) (by omega) ?_; (conv => whnf)) | (refine Or.inl ?_; (conv => whnf); first | (refine ⟨_, by first | exact c, ?_⟩; (conv => whnf)) | (refine ⟨false, ?_⟩; (conv => whnf); refine ⟨_, by first | exact c, ?_⟩; (conv => whnf))) | (refine ⟨_, by first | exact c, ?_⟩; (conv => whnf))))
      · refine ⟨(m + 1, j), ?_⟩
        (conv => whnf)
        refine ⟨⟨⟨?_, by show m + 1 ≤ k; have := c1 hh; omega, g2, g3⟩, ?_, rfl, rfl⟩, by kernel_rfl, by kernel_rfl⟩
        · show j - (m + 1) < j - i; omega
        · rw [wi _ (by omega) (by omega)]; rfl
      · refine ⟨(i, m), ?_⟩
        (conv => whnf)
        refine ⟨⟨⟨?_, g1, by show k ≤ m; exact c2 hh, by show m ≤ n; omega⟩, rfl, rfl, rfl⟩, by kernel_rfl, by kernel_rfl⟩
        show m - i < j - i; omega
    · have h := of_decide_eq_false h
      simp only [] at h
      (repeat' (first | (refine And.intro (a := _ = true → _) (b := _ = false → _) (fun hh => ?_) (fun hh => ?_) <;> (first | simp only [decide_eq_true_eq, decide_eq_false_iff_not, Bool.or_eq_true, Bool.and_eq_true, Bool.or_eq_false_iff, Bool.and_eq_false_iff, Bool.not_eq_true', Bool.not_eq_false', ge_iff_le, gt_iff_lt] at hh | skip) <;> (first | (exfalso; omega) | (exfalso; simp [*] at hh; done) | (exfalso; revert hh; decide) | exact absurd (by assumption) hh | (conv => whnf))) | (refine ⟨by kernel_rfl, ?_⟩; (conv => whnf)) | (refine And.intro (a := _ ∧ _) ⟨by omega, by omega⟩ ?_; (conv => whnf)) | (refine And.intro (a := _ ∧ _) ⟨by decide, by decide⟩ ?_; (conv => whnf)) | (refine And.intro (a := _ ≤ _) (by omega) ?_; (conv => whnf)) | (refine And.intro (a := _ ≠ _) (by omega) ?_; (conv => whnf))))
      congr 1
      show (i : Int) = k
      omega
theorem pc_valBad (E D N r e : Int) (he : e ≠ 0) (c : PC Try.prog 84 [lig E D N, i64 r, i64 4095] (i64 e)) : PC Try.prog 89 [lig E D N, i64 r] (.tup [i64 0, i64 e]) := by
  refine pc_of_bodyF hm Try.func89 (by kernel_rfl) ?_
  conv => whnf
  (repeat' (first | (refine ⟨_, by first | with_reducible exact c, ?_⟩; (conv => whnf)) | (refine Or.inl ?_; (conv => whnf); refine ⟨_, by first | with_reducible exact c, ?_⟩; (conv => whnf)) | (refine Or.inl ?_; (conv => whnf); refine ⟨false, ?_⟩; (conv => whnf); refine ⟨_, by first | with_reducible exact c, ?_⟩; (conv => whnf)) | (refine ⟨by kernel_rfl, ?_⟩; (conv => whnf)) | (refine ⟨fun _ => ?_, fun h => absurd h (by first | decide | (simp; done) | fail)⟩; (conv => whnf)) | (refine ⟨fun h => absurd h (by first | decide | (simp; done) | fail), fun _ => ?_⟩; (conv => whnf)) | ((with_reducible refine And.intro (a := _ = true → _) (b := _ = false → _) (fun hh => ?_) (fun hh => ?_)) <;> (try simp only [decide_eq_true_eq, decide_eq_false_iff_not, Bool.or_eq_true, Bool.and_eq_true, Bool.or_eq_false_iff, Bool.and_eq_false_iff, Bool.not_eq_true', Bool.not_eq_false', ge_iff_le, gt_iff_lt] at hh) <;> (first | (exfalso; omega) | (conv => whnf))) | fail))
theorem pc_valOk (E D N r x : Int) (c : PC Try.prog 84 [lig E D N, i64 r, i64 4095] (i64 0)) (c1 : PC Try.prog 87 [lig E D N, i64 r] (i64 x)) : PC Try.prog 89 [lig E D N, i64 r] (.tup [i64 x, i64 0]) := by
  refine pc_of_bodyF hm Try.func89 (by kernel_rfl) ?_
  conv => whnf
  (repeat' (first | (refine ⟨_, by first | with_reducible exact c | with_reducible exact c1, ?_⟩; (conv => whnf)) | (refine Or.inl ?_; (conv => whnf); refine ⟨_, by first | with_reducible exact c | with_reducible exact c1, ?_⟩; (conv => whnf)) | (refine Or.inl ?_; (conv => whnf); refine ⟨false, ?_⟩; (conv => whnf); refine ⟨_, by first | with_reducible exact c | with_reducible exact c1, ?_⟩; (conv => whnf)) | (refine ⟨by kernel_rfl, ?_⟩; (conv => whnf)) | (refine ⟨fun _ => ?_, fun h => absurd h (by first | decide | (simp; done) | fail)⟩; (conv => whnf)) | (refine ⟨fun h => absurd h (by first | decide | (simp; done) | fail), fun _ => ?_⟩; (conv => whnf)) | ((with_reducible refine And.intro (a := _ = true → _) (b := _ = false → _) (fun hh => ?_) (fun hh => ?_)) <;> (try simp only [decide_eq_true_eq, decide_eq_false_iff_not, Bool.or_eq_true, Bool.and_eq_true, Bool.or_eq_false_iff, Bool.and_eq_false_iff, Bool.not_eq_true', Bool.not_eq_false', ge_iff_le, gt_iff_lt] at hh) <;> (first | (exfalso; omega) | (conv => whnf))) | fail))
def valF (E D N r : Int) : Int × Int := if litE E D N r 4095 = 0 then (idl E D r, 0) else (0, litE E D N r 4095)
theorem litE_ok {E D N n m : Int} (h : litE E D N n m = 0) : (1 ≤ E ∧ E ≤ 256 ∧ 0 ≤ D ∧ D ≤ 63 ∧ 0 ≤ N ∧ N ≤ 64) ∧ 0 ≤ n ∧ n ≤ m := by
  unfold litE at h
  split at h
  · rename_i h1
    split at h
    · rename_i h2
      simp only [withB, Bool.and_eq_true, decide_eq_true_eq] at h2
      exact ⟨(lightB_iff E D N).1 h1, h2⟩
    · simp at h
  · simp at h
theorem pc_Value (E D N r : Int) : PC Try.prog 89 [lig E D N, i64 r] (.tup [i64 (valF E D N r).1, i64 (valF E D N r).2]) := by
  have c := pc_lit E D N r 4095
  unfold valF
  by_cases h : litE E D N r 4095 = 0
  · rw [if_pos h]
    rw [h] at c
    have k := litE_ok h
    exact pc_valOk E D N r _ c (pc_ideal E D N r (by omega) (by omega) (by omega))
  · rw [if_neg h]
    exact pc_valBad E D N r _ h c
theorem pc_radBad (E D N V e : Int) (he : e ≠ 0) (c : PC Try.prog 84 [lig E D N, i64 V, i64 255] (i64 e)) : PC Try.prog 90 [lig E D N, i64 V] (.tup [i64 0, i64 0, i64 e]) := by
  refine pc_of_bodyF hm Try.func90 (by kernel_rfl) ?_
  conv => whnf
  (repeat' (first | (refine ⟨_, by first | with_reducible exact c, ?_⟩; (conv => whnf)) | (refine Or.inl ?_; (conv => whnf); refine ⟨_, by first | with_reducible exact c, ?_⟩; (conv => whnf)) | (refine Or.inl ?_; (conv => whnf); refine ⟨false, ?_⟩; (conv => whnf); refine ⟨_, by first | with_reducible exact c, ?_⟩; (conv => whnf)) | (refine ⟨by kernel_rfl, ?_⟩; (conv => whnf)) | (refine ⟨fun _ => ?_, fun h => absurd h (by first | decide | (simp; done) | fail)⟩; (conv => whnf)) | (refine ⟨fun h => absurd h (by first | decide | (simp; done) | fail), fun _ => ?_⟩; (conv => whnf)) | ((with_reducible refine And.intro (a := _ = true → _) (b := _ = false → _) (fun hh => ?_) (fun hh => ?_)) <;> (try simp only [decide_eq_true_eq, decide_eq_false_iff_not, Bool.or_eq_true, Bool.and_eq_true, Bool.or_eq_false_iff, Bool.and_eq_false_iff, Bool.not_eq_true', Bool.not_eq_false', ge_iff_le, gt_iff_lt] at hh) <;> (first | (exfalso; omega) | (conv => whnf))) | fail))
theorem pc_radOk (E D N V a b : Int) (ha : 0 ≤ a ∧ a ≤ 4096) (hb : 0 ≤ b ∧ b ≤ 4096) (c : PC Try.prog 84 [lig E D N, i64 V, i64 255] (i64 0))
    (c1 : PC Try.prog 85 [i64 4096, .fn (.func 149) [] [.pt [i64 E, i64 D, i64 N] 0, .pt [i64 V] 0]] (i64 a))
    (c2 : PC Try.prog 85 [i64 4096, .fn (.func 150) [] [.pt [i64 E, i64 D, i64 N] 0, .pt [i64 V] 0]] (i64 b)) :
    PC Try.prog 90 [lig E D N, i64 V] (.tup [i64 (if b ≤ a then 0 else a), i64 (if b ≤ a then 0 else b - 1), i64 (if b ≤ a then 6 else 0)]) := by
  have w : IntKind.i64.wrap (b - 1) = b - 1 := w64 _ (by omega) (by omega)
  by_cases h : b ≤ a
  · rw [if_pos h, if_pos h, if_pos h]
    refine pc_of_bodyF hm Try.func90 (by kernel_rfl) ?_
    conv => whnf
    (repeat' (first | (refine ⟨_, by first | with_reducible exact c | with_reducible exact c1 | with_reducible exact c2, ?_⟩; (conv => whnf)) | (refine Or.inl ?_; (conv => whnf); refine ⟨_, by first | with_reducible exact c | with_reducible exact c1 | with_reducible exact c2, ?_⟩; (conv => whnf)) | (refine Or.inl ?_; (conv => whnf); refine ⟨false, ?_⟩; (conv => whnf); refine ⟨_, by first | with_reducible exact c | with_reducible exact c1 | with_reducible exact c2, ?_⟩; (conv => whnf)) | (refine ⟨by kernel_rfl, ?_⟩; (conv => whnf)) | (refine ⟨fun _ => ?_, fun h => absurd h (by first | decide | (simp; done) | fail)⟩; (conv => whnf)) | (refine ⟨fun h => absurd h (by first | decide | (simp; done) | fail), fun _ => ?_⟩; (conv => whnf)) | ((with_reducible refine And.intro (a := _ = true → _) (b := _ = false → _) (fun hh => ?_) (fun hh => ?_)) <;> (try simp only [decide_eq_true_eq, decide_eq_false_iff_not, Bool.or_eq_true, Bool.and_eq_true, Bool.or_eq_false_iff, Bool.and_eq_false_iff, Bool.not_eq_true', Bool.not_eq_false', ge_iff_le, gt_iff_lt] at hh) <;> (first | (exfalso; omega) | (conv => whnf))) | fail))
    all_goals (first | rfl | (exfalso; omega))
  · rw [if_neg h, if_neg h, if_neg h]
    refine pc_of_bodyF hm Try.func90 (by kernel_rfl) ?_
    conv => whnf
    (repeat' (first | (refine ⟨_, by first | with_reducible exact c | with_reducible exact c1 | with_reducible exact c2, ?_⟩; (conv => whnf)) | (refine Or.inl ?_; (conv => whnf); refine ⟨_, by first | with_reducible exact c | with_reducible exact c1 | with_reducible exact c2, ?_⟩; (conv => whnf)) | (refine Or.inl ?_; (conv => whnf); refine ⟨false, ?_⟩; (conv => whnf); refine ⟨_, by first | with_reducible exact c | with_reducible exact c1 | with_reducible exact c2, ?_⟩; (conv => whnf)) | (refine ⟨by kernel_rfl, ?_⟩; (conv => whnf)) | (refine ⟨fun _ => ?_, fun h => absurd h (by first | decide | (simp; done) | fail)⟩; (conv => whnf)) | (refine ⟨fun h => absurd h (by first | decide | (simp; done) | fail), fun _ => ?_⟩; (conv => whnf)) | ((with_reducible refine And.intro (a := _ = true → _) (b := _ = false → _) (fun hh => ?_) (fun hh => ?_)) <;> (try simp only [decide_eq_true_eq, decide_eq_false_iff_not, Bool.or_eq_true, Bool.and_eq_true, Bool.or_eq_false_iff, Bool.and_eq_false_iff, Bool.not_eq_true', Bool.not_eq_false', ge_iff_le, gt_iff_lt] at hh) <;> (first | (exfalso; omega) | (conv => whnf))) | fail))
    all_goals (first | rfl | (exfalso; omega) | (rw [w]))
end Go.Proofs.Try.My
