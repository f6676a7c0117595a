/- A helper text: contracts of functions of the program, and plain lemmas. -/
import Derived.Test.YtblmmhmdnnnidaaEvSix
import Derived.Test.YtblmmhmdnnnidaaMyRf2
import Derived.Test.YtblmmhmdnnnidaaMyExA
set_option maxRecDepth 100000
set_option maxHeartbeats 0
set_option linter.unusedVariables false
set_option linter.unusedSimpArgs false
namespace Go.Proofs.Try.My
open Go Go.Ev

theorem pc_lsizeI (k : Int × Int) : PC Try.prog 82 [fr k] (i64 k.1) := by
  refine pc_of_bodyF hm Try.func82 (by kernel_rfl) ?_
  conv => whnf
theorem pc_toOf (k : Int × Int) : PC Try.prog 83 [fr k] (i64 k.2) := by
  refine pc_of_bodyF hm Try.func83 (by kernel_rfl) ?_
  conv => whnf
theorem pc_compared (x : Int × Int) (p : Int) : PC Try.prog 148 [fr x, i64 p] (i64 (IntKind.i64.wrap (x.1 - IntKind.i64.wrap (p * x.2)))) := by
  refine pc_of_bodyF hm Try.func148 (by kernel_rfl) ?_
  conv => whnf
/-- Whether a knot is not below a place. -/
def atB (sa : Int × Int → Int) (l : List (Int × Int)) (x : Int × Int) (i : Nat) : Bool := decide (x.1 ≤ sa (l.getD i (0, 0)) * x.2)
theorem pc_mapped1 (l : List (Int × Int)) (x : Int × Int) (A : Nat) (sa : Int × Int → Int) (hA : ∀ k, PC Try.prog A [fr k] (i64 (sa k))) (i : Nat) (hi : i < l.length) (hl : l.length < 2 ^ 40)
    (hx : I64 (sa (l.getD i (0, 0)) * x.2)) (hx2 : I64 (x.1 - sa (l.getD i (0, 0)) * x.2)) :
    PC Try.prog 147 [i64 i, .pt [i64 x.1, i64 x.2] 0, .pt [.fn (.func A) [] []] 0, .pt [frs l] 0] (.bool (atB sa l x i)) := by
  have hg : l.getD (Int.toNat (i : Int)) (0, 0) = l.getD i (0, 0) := rfl
  have c2 := pc_compared x (sa (l.getD i (0, 0)))
  have hb : atB sa l x i = decide (x.1 ≤ sa (l.getD i (0, 0)) * x.2) := rfl
  rw [hb]
  have hA := hA (l.getD i (0, 0))
  refine pc_of_bodyF hm Try.func147 (by kernel_rfl) ?_
  conv => whnf
  (repeat' (first | (refine And.intro (a := _ = true → _) (b := _ = false → _) (fun hh => ?_) (fun hh => ?_) <;> (first | simp only [decide_eq_true_eq, decide_eq_false_iff_not, Bool.or_eq_true, Bool.and_eq_true, Bool.or_eq_false_iff, Bool.and_eq_false_iff, Bool.not_eq_true', Bool.not_eq_false', ge_iff_le, gt_iff_lt] at hh | skip) <;> (first | (exfalso; omega) | (exfalso; simp [*] at hh; done) | (exfalso; revert hh; decide) | exact absurd (by assumption) hh | (conv => whnf))) | (refine ⟨by kernel_rfl, ?_⟩; (conv => whnf)) | (refine And.intro (a := _ ∧ _) ⟨by omega, by omega⟩ ?_; (conv => whnf)) | (refine And.intro (a := _ ∧ _) ⟨by decide, by decide⟩ ?_; (conv => whnf)) | (refine And.intro (a := _ ≤ _) (by omega) ?_; (conv => whnf)) | (refine And.intro (a := _ ≠ _) (by omega) ?_; (conv => whnf))))
  rw [hg]
  generalize l.getD i (0, 0) = k at *
  (repeat' (first | (refine And.intro (a := _ = true → _) (b := _ = false → _) (fun hh => ?_) (fun hh => ?_) <;> (first | simp only [decide_eq_true_eq, decide_eq_false_iff_not, Bool.or_eq_true, Bool.and_eq_true, Bool.or_eq_false_iff, Bool.and_eq_false_iff, Bool.not_eq_true', Bool.not_eq_false', ge_iff_le, gt_iff_lt] at hh | skip) <;> (first | (exfalso; omega) | (exfalso; simp [*] at hh; done) | (exfalso; revert hh; decide) | exact absurd (by assumption) hh | (conv => whnf))) | (refine ⟨by kernel_rfl, ?_⟩; (conv => whnf)) | (refine And.intro (a := _ ∧ _) ⟨by omega, by omega⟩ ?_; (conv => whnf)) | (refine And.intro (a := _ ∧ _) ⟨by decide, by decide⟩ ?_; (conv => whnf)) | (refine And.intro (a := _ ≤ _) (by omega) ?_; (conv => whnf)) | (refine And.intro (a := _ ≠ _) (by omega) ?_; (conv => whnf)) | (refine Or.inl ?_; (conv => whnf); first | (refine ⟨_, by first | exact hA, ?_⟩; (conv => whnf)) | (refine ⟨false, ?_⟩; (conv => whnf); refine ⟨_, by first | exact hA, ?_⟩; (conv => whnf))) | (refine ⟨_, by first | exact hA, ?_⟩; (conv => whnf))))
  (repeat' (first | (refine And.intro (a := _ = true → _) (b := _ = false → _) (fun hh => ?_) (fun hh => ?_) <;> (first | simp only [decide_eq_true_eq, decide_eq_false_iff_not, Bool.or_eq_true, Bool.and_eq_true, Bool.or_eq_false_iff, Bool.and_eq_false_iff, Bool.not_eq_true', Bool.not_eq_false', ge_iff_le, gt_iff_lt] at hh | skip) <;> (first | (exfalso; omega) | (exfalso; simp [*] at hh; done) | (exfalso; revert hh; decide) | exact absurd (by assumption) hh | (conv => whnf))) | (refine ⟨by kernel_rfl, ?_⟩; (conv => whnf)) | (refine And.intro (a := _ ∧ _) ⟨by omega, by omega⟩ ?_; (conv => whnf)) | (refine And.intro (a := _ ∧ _) ⟨by decide, by decide⟩ ?_; (conv => whnf)) | (refine And.intro (a := _ ≤ _) (by omega) ?_; (conv => whnf)) | (refine And.intro (a := _ ≠ _) (by omega) ?_; (conv => whnf)) | (refine Or.inl ?_; (conv => whnf); first | (refine ⟨_, by first | exact c2, ?_⟩; (conv => whnf)) | (refine ⟨false, ?_⟩; (conv => whnf); refine ⟨_, by first | exact c2, ?_⟩; (conv => whnf))) | (refine ⟨_, by first | exact c2, ?_⟩; (conv => whnf))))
  rw [wi _ hx.1 hx.2, wi _ hx2.1 hx2.2]
  congr 1
  refine decide_eq_decide.2 ?_
  omega
theorem half_u (i j : Nat) (hi : i < 2 ^ 40) (hj : j < 2 ^ 40) : IntKind.i64.wrap ((IntKind.u64.wrap (IntKind.i64.wrap ((i : Int) + (j : Int)))).fdiv (2 ^ min (Int.toNat 1) IntKind.u64.bits)) = (((i + j) / 2 : Nat) : Int) := by
  have e1 : IntKind.i64.wrap ((i : Int) + (j : Int)) = ((i + j : Nat) : Int) := by rw [wi _ (by omega) (by omega)]; omega
  have e : Int.toNat ((1 : Nat) : Int) = Int.toNat 1 := rfl
  have := shr_u (i + j) 1 (by omega)
  rw [e] at this
  rw [e1, wu _ (by omega), this, wi _ (by omega) (by omega)]
theorem pc_Search (l : List (Int × Int)) (x : Int × Int) (A : Nat) (sa : Int × Int → Int) (hl : l.length < 2 ^ 39)
    (hf : ∀ i : Nat, i < l.length → PC Try.prog 147 [i64 i, .pt [i64 x.1, i64 x.2] 0, .pt [.fn (.func A) [] []] 0, .pt [frs l] 0] (.bool (atB sa l x i)))
    (k : Nat) (hk : k ≤ l.length) (h1 : ∀ j, j < k → atB sa l x j = false) (h2 : ∀ j, k ≤ j → j < l.length → atB sa l x j = true) :
    PC Try.prog 85 [i64 l.length, .fn (.func 147) [] [.pt [i64 x.1, i64 x.2] 0, .pt [.fn (.func A) [] []] 0, .pt [frs l] 0]] (i64 k) := by
  refine pc_of_bodyF hm Try.func85 (by kernel_rfl) ?_
  conv => whnf
  (repeat' (first | (refine And.intro (a := _ = true → _) (b := _ = false → _) (fun hh => ?_) (fun hh => ?_) <;> (first | simp only [decide_eq_true_eq, decide_eq_false_iff_not, Bool.or_eq_true, Bool.and_eq_true, Bool.or_eq_false_iff, Bool.and_eq_false_iff, Bool.not_eq_true', Bool.not_eq_false', ge_iff_le, gt_iff_lt] at hh | skip) <;> (first | (exfalso; omega) | (exfalso; simp [*] at hh; done) | (exfalso; revert hh; decide) | exact absurd (by assumption) hh | (conv => whnf))) | (refine ⟨by kernel_rfl, ?_⟩; (conv => whnf)) | (refine And.intro (a := _ ∧ _) ⟨by omega, by omega⟩ ?_; (conv => whnf)) | (refine And.intro (a := _ ∧ _) ⟨by decide, by decide⟩ ?_; (conv => whnf)) | (refine And.intro (a := _ ≤ _) (by omega) ?_; (conv => whnf)) | (refine And.intro (a := _ ≠ _) (by omega) ?_; (conv => whnf))))
  refine Or.inr ⟨Nat × Nat, [5, 6], [], [], fun i => [i64 i.1, i64 i.2], fun _ => [], fun _ => [], fun i => i.2 - i.1, fun i => i.1 ≤ k ∧ k ≤ i.2 ∧ i.2 ≤ l.length, ?_⟩
  (conv => whnf)
  refine ⟨⟨(0, l.length), ?_⟩, ?_⟩
  · (conv => whnf)
    exact ⟨⟨⟨Nat.zero_le _, hk, Nat.le_refl _⟩, rfl, rfl, rfl⟩, by kernel_rfl, by kernel_rfl⟩
  · rintro ⟨i, j⟩ ⟨g1, g2, g3⟩
    simp only [] at g1 g2 g3
    (conv => whnf)
    refine ⟨fun h => ?_, fun h => ?_⟩
    · have h := of_decide_eq_true h
      simp only [] at h
      (conv => whnf)
      rw [half_u i j (by omega) (by omega)]
      have c := hf ((i + j) / 2) (by omega)
      have c1 : atB sa l x ((i + j) / 2) = false → (i + j) / 2 < k := fun e => by
        by_cases hh : (i + j) / 2 < k
        · exact hh
        · rw [h2 _ (by omega) (by omega)] at e; cases e
      have c2 : atB sa l x ((i + j) / 2) = true → k ≤ (i + j) / 2 := fun e => by
        by_cases hh : (i + j) / 2 < k
        · rw [h1 _ hh] at e; cases e
        · omega
      have e1 : i ≤ (i + j) / 2 := by omega
      have e2 : (i + j) / 2 < j := by omega
      generalize (i + j) / 2 = m at *
      generalize atB sa l x m = bb at *
      (repeat' (first | (refine And.intro (a := _ = true → _) (b := _ = false → _) (fun hh => ?_) (fun hh => ?_) <;> (first | simp only [decide_eq_true_eq, decide_eq_false_iff_not, Bool.or_eq_true, Bool.and_eq_true, Bool.or_eq_false_iff, Bool.and_eq_false_iff, Bool.not_eq_true', Bool.not_eq_false', ge_iff_le, gt_iff_lt] at hh | skip) <;> (first | (exfalso; omega) | (exfalso; simp [*] at hh; done) | (exfalso; revert hh; decide) | exact absurd (by assumption) hh | (conv => whnf))) | (refine ⟨by kernel_rfl, ?_⟩; (conv => whnf)) | (refine And.intro (a := _ ∧ _) ⟨by omega, by omega⟩ ?_; (conv => whnf)) | (refine And.intro (a := _ ∧ _) ⟨by decide, by decide⟩ ?_; (conv => whnf)) | (refine And.intro (a := _ ≤ _) (by omega) ?_; (conv => whnf)) | (refine And.intro (a := _ ≠ _) (by omega) ?_; (conv => whnf)) | (refine Or.inl ?_; (conv => whnf); first | (refine ⟨_, by first | exact c, ?_⟩; (conv => whnf)) | (refine ⟨false, ?_⟩; (conv => whnf); refine ⟨_, by first | exact c, ?_⟩; (conv => whnf))) | (refine ⟨_, by first | exact c, ?_⟩; (conv => whnf))))
      · refine ⟨(m + 1, j), ?_⟩
        (conv => whnf)
        refine ⟨⟨⟨?_, by show m + 1 ≤ k; have := c1 hh; omega, g2, g3⟩, ?_, rfl, rfl⟩, by kernel_rfl, by kernel_rfl⟩
        · show j - (m + 1) < j - i; omega
        · rw [wi _ (by omega) (by omega)]; rfl
      · refine ⟨(i, m), ?_⟩
        (conv => whnf)
        refine ⟨⟨⟨?_, g1, by show k ≤ m; exact c2 hh, by show m ≤ l.length; omega⟩, rfl, rfl, rfl⟩, by kernel_rfl, by kernel_rfl⟩
        show m - i < j - i; omega
    · have h := of_decide_eq_false h
      simp only [] at h
      (repeat' (first | (refine And.intro (a := _ = true → _) (b := _ = false → _) (fun hh => ?_) (fun hh => ?_) <;> (first | simp only [decide_eq_true_eq, decide_eq_false_iff_not, Bool.or_eq_true, Bool.and_eq_true, Bool.or_eq_false_iff, Bool.and_eq_false_iff, Bool.not_eq_true', Bool.not_eq_false', ge_iff_le, gt_iff_lt] at hh | skip) <;> (first | (exfalso; omega) | (exfalso; simp [*] at hh; done) | (exfalso; revert hh; decide) | exact absurd (by assumption) hh | (conv => whnf))) | (refine ⟨by kernel_rfl, ?_⟩; (conv => whnf)) | (refine And.intro (a := _ ∧ _) ⟨by omega, by omega⟩ ?_; (conv => whnf)) | (refine And.intro (a := _ ∧ _) ⟨by decide, by decide⟩ ?_; (conv => whnf)) | (refine And.intro (a := _ ≤ _) (by omega) ?_; (conv => whnf)) | (refine And.intro (a := _ ≠ _) (by omega) ?_; (conv => whnf))))
      congr 1
      show (i : Int) = k
      omega
/-- A table's knots. -/
def okK (l : List (Int × Int)) (i : Nat) : Bool := decide (-4096 ≤ (l.getD i (0, 0)).1) && decide ((l.getD i (0, 0)).1 ≤ 4096) && decide (-4096 ≤ (l.getD i (0, 0)).2) && decide ((l.getD i (0, 0)).2 ≤ 4096) &&
  (decide (i = 0) || (decide ((l.getD (i - 1) (0, 0)).1 < (l.getD i (0, 0)).1) && decide ((l.getD (i - 1) (0, 0)).2 < (l.getD i (0, 0)).2)))
def knotsB (l : List (Int × Int)) : Bool := decide (2 ≤ l.length) && decide (l.length ≤ 16) && (List.range l.length).all (okK l)
theorem okK_iff (l : List (Int × Int)) (i : Nat) : okK l i = true ↔ (-4096 ≤ (l.getD i (0, 0)).1 ∧ (l.getD i (0, 0)).1 ≤ 4096 ∧ -4096 ≤ (l.getD i (0, 0)).2 ∧ (l.getD i (0, 0)).2 ≤ 4096 ∧
    (i = 0 ∨ ((l.getD (i - 1) (0, 0)).1 < (l.getD i (0, 0)).1 ∧ (l.getD (i - 1) (0, 0)).2 < (l.getD i (0, 0)).2))) := by
  simp only [okK, Bool.and_eq_true, Bool.or_eq_true, decide_eq_true_eq, and_assoc]
theorem knots_bad {l : List (Int × Int)} {i : Nat} (hi : i < l.length) (h : ¬ okK l i = true) : knotsB l = false := by
  simp only [knotsB, Bool.and_eq_false_iff]
  exact .inr (List.all_eq_false.2 ⟨i, List.mem_range.2 hi, h⟩)
theorem knots_good {l : List (Int × Int)} (h1 : 2 ≤ l.length) (h2 : l.length ≤ 16) (h : ∀ i, i < l.length → okK l i = true) : knotsB l = true := by
  simp only [knotsB, Bool.and_eq_true, decide_eq_true_eq]
  exact ⟨⟨h1, h2⟩, List.all_eq_true.2 fun i hi => h i (List.mem_range.1 hi)⟩
theorem knots_len {l : List (Int × Int)} (h : ¬ (2 ≤ l.length ∧ l.length ≤ 16)) : knotsB l = false := by
  simp only [knotsB, Bool.and_eq_false_iff, decide_eq_false_iff_not]
  omega
theorem pc_CheckKnots (l : List (Int × Int)) (hl : l.length < 2 ^ 39) : PC Try.prog 31 [frs l] (i64 (if knotsB l then 0 else 40)) := by
  refine pc_of_bodyF hm Try.func31 (by kernel_rfl) ?_
  conv => whnf
  (repeat' (first | (refine And.intro (a := _ = true → _) (b := _ = false → _) (fun hh => ?_) (fun hh => ?_) <;> (first | simp only [decide_eq_true_eq, decide_eq_false_iff_not, Bool.or_eq_true, Bool.and_eq_true, Bool.or_eq_false_iff, Bool.and_eq_false_iff, Bool.not_eq_true', Bool.not_eq_false', ge_iff_le, gt_iff_lt] at hh | skip) <;> (first | (exfalso; omega) | (exfalso; simp [*] at hh; done) | (exfalso; revert hh; decide) | exact absurd (by assumption) hh | (conv => whnf))) | (refine ⟨by kernel_rfl, ?_⟩; (conv => whnf)) | (refine And.intro (a := _ ∧ _) ⟨by omega, by omega⟩ ?_; (conv => whnf)) | (refine And.intro (a := _ ∧ _) ⟨by decide, by decide⟩ ?_; (conv => whnf)) | (refine And.intro (a := _ ≤ _) (by omega) ?_; (conv => whnf)) | (refine And.intro (a := _ ≠ _) (by omega) ?_; (conv => whnf))))
  · rw [knots_len (by omega)]; rfl
  · rw [knots_len (by omega)]; rfl
  rename_i h2
  refine Or.inr ⟨Nat, [15], [], [], fun k => [i64 k], fun _ => [], fun _ => [], fun k => l.length - k, fun k => k ≤ l.length ∧ ∀ i, i < k → okK l i = true, ?_⟩
  (conv => whnf)
  refine ⟨⟨0, ?_⟩, ?_⟩
  · (conv => whnf)
    exact ⟨⟨by simp, rfl, rfl, rfl⟩, by kernel_rfl, by kernel_rfl⟩
  · intro k hk
    (conv => whnf)
    refine ⟨fun h => ?_, fun h => ?_⟩
    · have h := of_decide_eq_true h
      (conv => whnf)
      have hg : l.getD (Int.toNat (k : Int)) (0, 0) = l.getD k (0, 0) := rfl
      refine ⟨⟨by omega, by omega⟩, ?_⟩
      rw [hg]
      have bad : ¬ okK l k = true → knotsB l = false := knots_bad (by omega)
      have good : okK l k = true → ∀ i, i < k + 1 → okK l i = true := fun h i hi => by
        by_cases e : i = k
        · subst e; exact h
        · exact hk.2 i (by omega)
      rw [okK_iff] at bad good
      have hg1 : 0 < k → IntKind.i64.wrap ((k : Int) - 1) = ((k - 1 : Nat) : Int) := fun h => by
        rw [wi _ (by omega) (by omega)]
        omega
      have hg2 : 0 < k → l.getD (Int.toNat (IntKind.i64.wrap ((k : Int) - 1))) (0, 0) = l.getD (k - 1) (0, 0) := fun h => by rw [hg1 h]; rfl
      generalize l.getD k (0, 0) = x at bad good ⊢
      obtain ⟨n, d⟩ := x
      have c := pc_fromL (-4096) 4096 [n, d] (by simp)
      have hc : (!([n, d].any (outB (-4096) 4096))) = decide (-4096 ≤ n ∧ n ≤ 4096 ∧ -4096 ≤ d ∧ d ≤ 4096) := by
        simp only [List.any_cons, List.any_nil, outB, Bool.or_false]
        rw [Bool.eq_iff_iff]
        simp only [Bool.not_eq_true', Bool.or_eq_false_iff, decide_eq_false_iff_not, decide_eq_true_eq]
        omega
      rw [hc] at c
      simp only [] at bad good
      have back : (0 < k → (l.getD (k - 1) (0, 0)).1 < n ∧ (l.getD (k - 1) (0, 0)).2 < d) → -4096 ≤ n ∧ n ≤ 4096 ∧ -4096 ≤ d ∧ d ≤ 4096 → ∀ i, i < k + 1 → okK l i = true := fun h1 h2 => good ⟨h2.1, h2.2.1, h2.2.2.1, h2.2.2.2, by
        by_cases h : k = 0
        · exact .inl h
        · exact .inr (h1 (by omega))⟩
      (repeat' (first | (refine And.intro (a := _ = true → _) (b := _ = false → _) (fun hh => ?_) (fun hh => ?_) <;> (first | simp only [decide_eq_true_eq, decide_eq_false_iff_not, Bool.or_eq_true, Bool.and_eq_true, Bool.or_eq_false_iff, Bool.and_eq_false_iff, Bool.not_eq_true', Bool.not_eq_false', ge_iff_le, gt_iff_lt] at hh | skip) <;> (first | (exfalso; omega) | (exfalso; simp [*] at hh; done) | (exfalso; revert hh; decide) | exact absurd (by assumption) hh | (conv => whnf))) | (refine ⟨by kernel_rfl, ?_⟩; (conv => whnf)) | (refine And.intro (a := _ ∧ _) ⟨by omega, by omega⟩ ?_; (conv => whnf)) | (refine And.intro (a := _ ∧ _) ⟨by decide, by decide⟩ ?_; (conv => whnf)) | (refine And.intro (a := _ ≤ _) (by omega) ?_; (conv => whnf)) | (refine And.intro (a := _ ≠ _) (by omega) ?_; (conv => whnf))))
      (repeat' (first | (refine And.intro (a := _ = true → _) (b := _ = false → _) (fun hh => ?_) (fun hh => ?_) <;> (first | simp only [decide_eq_true_eq, decide_eq_false_iff_not, Bool.or_eq_true, Bool.and_eq_true, Bool.or_eq_false_iff, Bool.and_eq_false_iff, Bool.not_eq_true', Bool.not_eq_false', ge_iff_le, gt_iff_lt] at hh | skip) <;> (first | (exfalso; omega) | (exfalso; simp [*] at hh; done) | (exfalso; revert hh; decide) | exact absurd (by assumption) hh | (conv => whnf))) | (refine ⟨by kernel_rfl, ?_⟩; (conv => whnf)) | (refine And.intro (a := _ ∧ _) ⟨by omega, by omega⟩ ?_; (conv => whnf)) | (refine And.intro (a := _ ∧ _) ⟨by decide, by decide⟩ ?_; (conv => whnf)) | (refine And.intro (a := _ ≤ _) (by omega) ?_; (conv => whnf)) | (refine And.intro (a := _ ≠ _) (by omega) ?_; (conv => whnf)) | (refine Or.inl ?_; (conv => whnf); first | (refine ⟨_, by first | exact c, ?_⟩; (conv => whnf)) | (refine ⟨false, ?_⟩; (conv => whnf); refine ⟨_, by first | exact c, ?_⟩; (conv => whnf))) | (refine ⟨_, by first | exact c, ?_⟩; (conv => whnf))))
      · rw [bad (fun hb => hh ⟨hb.1, hb.2.1, hb.2.2.1, hb.2.2.2.1⟩)]; rfl
      · rw [hg2 (by omega)] at hh
        rw [bad (fun hb => by omega)]; rfl
      · rw [hg2 (by omega)] at hh
        rw [bad (fun hb => by omega)]; rfl
      · rename_i g1 g2 g3
        rw [hg2 (by omega)] at hh g3
        refine ⟨k + 1, ?_⟩
        (conv => whnf)
        refine ⟨⟨⟨Nat.sub_lt_sub_left (by omega) (Nat.lt_succ_self k), by omega, back (fun _ => ⟨by omega, by omega⟩) g1⟩, ?_, rfl, rfl⟩, by kernel_rfl, by kernel_rfl⟩
        rw [w64 _ (by omega) (by omega)]; rfl
      · rename_i g1
        refine ⟨k + 1, ?_⟩
        (conv => whnf)
        refine ⟨⟨⟨Nat.sub_lt_sub_left (by omega) (Nat.lt_succ_self k), by omega, back (fun _ => by omega) g1⟩, ?_, rfl, rfl⟩, by kernel_rfl, by kernel_rfl⟩
        rw [w64 _ (by omega) (by omega)]; rfl
    · have h := of_decide_eq_false h
      (repeat' (first | (refine And.intro (a := _ = true → _) (b := _ = false → _) (fun hh => ?_) (fun hh => ?_) <;> (first | simp only [decide_eq_true_eq, decide_eq_false_iff_not, Bool.or_eq_true, Bool.and_eq_true, Bool.or_eq_false_iff, Bool.and_eq_false_iff, Bool.not_eq_true', Bool.not_eq_false', ge_iff_le, gt_iff_lt] at hh | skip) <;> (first | (exfalso; omega) | (exfalso; simp [*] at hh; done) | (exfalso; revert hh; decide) | exact absurd (by assumption) hh | (conv => whnf))) | (refine ⟨by kernel_rfl, ?_⟩; (conv => whnf)) | (refine And.intro (a := _ ∧ _) ⟨by omega, by omega⟩ ?_; (conv => whnf)) | (refine And.intro (a := _ ∧ _) ⟨by decide, by decide⟩ ?_; (conv => whnf)) | (refine And.intro (a := _ ≤ _) (by omega) ?_; (conv => whnf)) | (refine And.intro (a := _ ≠ _) (by omega) ?_; (conv => whnf))))
      rw [knots_good (by omega) (by omega) fun i hi => hk.2 i (by omega)]; rfl
end Go.Proofs.Try.My
set_option maxRecDepth 100000
set_option maxHeartbeats 0
set_option linter.unusedVariables false
set_option linter.unusedSimpArgs false
namespace Go.Proofs.Try.My
open Go Go.Ev

theorem mul_bd {a b A B : Int} (h1 : -A ≤ a) (h2 : a ≤ A) (h3 : 0 ≤ b) (h4 : b ≤ B) : -(A * B) ≤ a * b ∧ a * b ≤ A * B := by
  have hA : 0 ≤ A := by omega
  have x1 := Int.mul_le_mul_of_nonneg_right h2 h3
  have x2 := Int.mul_le_mul_of_nonneg_right h1 h3
  have x3 := Int.mul_le_mul_of_nonneg_left h4 hA
  rw [Int.neg_mul] at x2
  omega
theorem mul_bd2 {a b A B : Int} (h1 : -A ≤ a) (h2 : a ≤ A) (h3 : -B ≤ b) (h4 : b ≤ B) : -(A * B) ≤ a * b ∧ a * b ≤ A * B := by
  by_cases h : 0 ≤ b
  · exact mul_bd h1 h2 h h4
  · have := mul_bd h1 h2 (show 0 ≤ -b by omega) (show -b ≤ B by omega)
    rw [Int.mul_neg] at this
    omega
/-- What makes a table one that may map. -/
structure TabOk (l : List (Int × Int)) (sa st : Int × Int → Int) : Prop where
  two : 2 ≤ l.length
  most : l.length ≤ 16
  inA : ∀ i, i < l.length → -4096 ≤ sa (l.getD i (0, 0)) ∧ sa (l.getD i (0, 0)) ≤ 4096
  inT : ∀ i, i < l.length → -4096 ≤ st (l.getD i (0, 0)) ∧ st (l.getD i (0, 0)) ≤ 4096
  up : ∀ i, i + 1 < l.length → sa (l.getD i (0, 0)) < sa (l.getD (i + 1) (0, 0))
theorem knotsB_len {l : List (Int × Int)} (h : knotsB l = true) : 2 ≤ l.length ∧ l.length ≤ 16 := by
  simp only [knotsB, Bool.and_eq_true, decide_eq_true_eq] at h
  exact h.1
theorem knotsB_all {l : List (Int × Int)} (h : knotsB l = true) (i : Nat) (hi : i < l.length) : okK l i = true := by
  simp only [knotsB, Bool.and_eq_true] at h
  exact List.all_eq_true.1 h.2 i (List.mem_range.2 hi)
theorem tab_at {l : List (Int × Int)} (h : knotsB l = true) : TabOk l Prod.fst Prod.snd where
  two := (knotsB_len h).1
  most := (knotsB_len h).2
  inA i hi := by have := (okK_iff l i).1 (knotsB_all h i hi); exact ⟨this.1, this.2.1⟩
  inT i hi := by have := (okK_iff l i).1 (knotsB_all h i hi); exact ⟨this.2.2.1, this.2.2.2.1⟩
  up i hi := by
    have := ((okK_iff l (i + 1)).1 (knotsB_all h (i + 1) hi)).2.2.2.2
    rcases this with e | e
    · omega
    · exact e.1
theorem tab_to {l : List (Int × Int)} (h : knotsB l = true) : TabOk l Prod.snd Prod.fst where
  two := (knotsB_len h).1
  most := (knotsB_len h).2
  inT i hi := by have := (okK_iff l i).1 (knotsB_all h i hi); exact ⟨this.1, this.2.1⟩
  inA i hi := by have := (okK_iff l i).1 (knotsB_all h i hi); exact ⟨this.2.2.1, this.2.2.2.1⟩
  up i hi := by
    have := ((okK_iff l (i + 1)).1 (knotsB_all h (i + 1) hi)).2.2.2.2
    rcases this with e | e
    · omega
    · exact e.2
theorem TabOk.mono {l sa st} (h : TabOk l sa st) : ∀ (j i : Nat), i ≤ j → j < l.length → sa (l.getD i (0, 0)) ≤ sa (l.getD j (0, 0))
  | 0, i, h1, _ => by obtain rfl : i = 0 := by omega
                      exact Int.le_refl _
  | j + 1, i, h1, h2 => by
    by_cases e : i = j + 1
    · subst e; exact Int.le_refl _
    · have := h.mono j i (by omega) (by omega)
      have := h.up j h2
      omega
/-- The first knot that is not below a place. -/
def firstK (sa : Int × Int → Int) (l : List (Int × Int)) (x : Int × Int) : Nat := (List.range l.length).findIdx (atB sa l x)
theorem firstK_le (sa l x) : firstK sa l x ≤ l.length := by
  have := List.findIdx_le_length (p := atB sa l x) (xs := List.range l.length)
  simpa [firstK] using this
theorem firstK_below (sa l x) (j : Nat) (h : j < firstK sa l x) : atB sa l x j = false := by
  have := List.not_of_lt_findIdx (p := atB sa l x) (xs := List.range l.length) h
  simpa using this
theorem firstK_at (sa l x) (h : firstK sa l x < l.length) : atB sa l x (firstK sa l x) = true := by
  have := List.findIdx_getElem (p := atB sa l x) (xs := List.range l.length) (w := by simpa [firstK] using h)
  simpa [firstK] using this
theorem firstK_of {sa l x} {k : Nat} (hk : k < l.length) (h1 : ∀ j, j < k → atB sa l x j = false) (h2 : atB sa l x k = true) : firstK sa l x = k := by
  have a1 := firstK_le sa l x
  by_cases e1 : firstK sa l x < k
  · have := firstK_at sa l x (by omega)
    rw [h1 _ e1] at this; cases this
  · by_cases e2 : k < firstK sa l x
    · rw [firstK_below sa l x k e2] at h2; cases h2
    · omega
theorem firstK_above {l sa st} (h : TabOk l sa st) (x : Int × Int) (hx : 1 ≤ x.2) (j : Nat) (h1 : firstK sa l x ≤ j) (h2 : j < l.length) : atB sa l x j = true := by
  have := firstK_at sa l x (by omega)
  simp only [atB, decide_eq_true_eq] at this ⊢
  have m := h.mono j _ h1 h2
  have := Int.mul_le_mul_of_nonneg_right m (show 0 ≤ x.2 by omega)
  omega
/-- Whether a table maps a place. -/
def mayB (sa : Int × Int → Int) (l : List (Int × Int)) (x : Int × Int) : Bool := validB x && decide (x.2 ≤ 1048576) && decide (sa (l.getD 0 (0, 0)) * x.2 ≤ x.1) && decide (x.1 ≤ sa (l.getD (l.length - 1) (0, 0)) * x.2)
/-- Where a table maps a place: between the knots i and i + 1. -/
def atF (sa st : Int × Int → Int) (l : List (Int × Int)) (x : Int × Int) (i : Nat) : (Int × Int) × Int :=
  makeF (st (l.getD i (0, 0)) * ((sa (l.getD (i + 1) (0, 0)) - sa (l.getD i (0, 0))) * x.2) + (x.1 - sa (l.getD i (0, 0)) * x.2) * (st (l.getD (i + 1) (0, 0)) - st (l.getD i (0, 0)))) ((sa (l.getD (i + 1) (0, 0)) - sa (l.getD i (0, 0))) * x.2)
def mapF (sa st : Int × Int → Int) (l : List (Int × Int)) (x : Int × Int) : (Int × Int) × Int := if mayB sa l x then atF sa st l x (max (firstK sa l x) 1 - 1) else ((0, 0), 2)
theorem pc_mapped (l : List (Int × Int)) (x : Int × Int) (A T : Nat) (sa st : Int × Int → Int) (hA : ∀ k, PC Try.prog A [fr k] (i64 (sa k))) (hT : ∀ k, PC Try.prog T [fr k] (i64 (st k))) (h : TabOk l sa st) (i1 : I64 x.1) (i2 : I64 x.2) :
    PC Try.prog 81 [frs l, fr x, .fn (.func A) [] [], .fn (.func T) [] []] (.tup [fr (mapF sa st l x).1, i64 (mapF sa st l x).2]) := by
  have hlen := h.most
  have htwo := h.two
  have bad : mayB sa l x = false → mapF sa st l x = ((0, 0), 2) := fun h => by simp only [mapF, h]; rfl
  have c0 := pc_Check x
  have hmay : mayB sa l x = (validB x && decide (x.2 ≤ 1048576) && decide (sa (l.getD 0 (0, 0)) * x.2 ≤ x.1) && decide (x.1 ≤ sa (l.getD (l.length - 1) (0, 0)) * x.2)) := rfl
  cases hv : validB x
  · rw [bad (by rw [hmay, hv]; simp)]
    rw [hv] at c0
    refine pc_of_bodyF hm Try.func81 (by kernel_rfl) ?_
    conv => whnf
    (repeat' (first | (refine And.intro (a := _ = true → _) (b := _ = false → _) (fun hh => ?_) (fun hh => ?_) <;> (first | simp only [decide_eq_true_eq, decide_eq_false_iff_not, Bool.or_eq_true, Bool.and_eq_true, Bool.or_eq_false_iff, Bool.and_eq_false_iff, Bool.not_eq_true', Bool.not_eq_false', ge_iff_le, gt_iff_lt] at hh | skip) <;> (first | (exfalso; omega) | (exfalso; simp [*] at hh; done) | (exfalso; revert hh; decide) | exact absurd (by assumption) hh | (conv => whnf))) | (refine ⟨by kernel_rfl, ?_⟩; (conv => whnf)) | (refine And.intro (a := _ ∧ _) ⟨by omega, by omega⟩ ?_; (conv => whnf)) | (refine And.intro (a := _ ∧ _) ⟨by decide, by decide⟩ ?_; (conv => whnf)) | (refine And.intro (a := _ ≤ _) (by omega) ?_; (conv => whnf)) | (refine And.intro (a := _ ≠ _) (by omega) ?_; (conv => whnf)) | (refine Or.inl ?_; (conv => whnf); first | (refine ⟨_, by first | exact c0, ?_⟩; (conv => whnf)) | (refine ⟨false, ?_⟩; (conv => whnf); refine ⟨_, by first | exact c0, ?_⟩; (conv => whnf))) | (refine ⟨_, by first | exact c0, ?_⟩; (conv => whnf))))
  · rw [hv] at c0 hmay
    have hvv := (validB_iff x).1 hv
    by_cases hd : x.2 ≤ 1048576
    rotate_left
    · rw [bad (by rw [hmay]; simp [hd])]
      refine pc_of_bodyF hm Try.func81 (by kernel_rfl) ?_
      conv => whnf
      (repeat' (first | (refine And.intro (a := _ = true → _) (b := _ = false → _) (fun hh => ?_) (fun hh => ?_) <;> (first | simp only [decide_eq_true_eq, decide_eq_false_iff_not, Bool.or_eq_true, Bool.and_eq_true, Bool.or_eq_false_iff, Bool.and_eq_false_iff, Bool.not_eq_true', Bool.not_eq_false', ge_iff_le, gt_iff_lt] at hh | skip) <;> (first | (exfalso; omega) | (exfalso; simp [*] at hh; done) | (exfalso; revert hh; decide) | exact absurd (by assumption) hh | (conv => whnf))) | (refine ⟨by kernel_rfl, ?_⟩; (conv => whnf)) | (refine And.intro (a := _ ∧ _) ⟨by omega, by omega⟩ ?_; (conv => whnf)) | (refine And.intro (a := _ ∧ _) ⟨by decide, by decide⟩ ?_; (conv => whnf)) | (refine And.intro (a := _ ≤ _) (by omega) ?_; (conv => whnf)) | (refine And.intro (a := _ ≠ _) (by omega) ?_; (conv => whnf)) | (refine Or.inl ?_; (conv => whnf); first | (refine ⟨_, by first | exact c0, ?_⟩; (conv => whnf)) | (refine ⟨false, ?_⟩; (conv => whnf); refine ⟨_, by first | exact c0, ?_⟩; (conv => whnf))) | (refine ⟨_, by first | exact c0, ?_⟩; (conv => whnf))))
    have z0 := h.inA 0 (by omega)
    have zl := h.inA (l.length - 1) (by omega)
    have b0 := mul_bd (a := sa (l.getD 0 (0, 0))) (A := 4096) (b := x.2) (B := 1048576) z0.1 z0.2 (by omega) hd
    have bl := mul_bd (a := sa (l.getD (l.length - 1) (0, 0))) (A := 4096) (b := x.2) (B := 1048576) zl.1 zl.2 (by omega) hd
    have w0 : IntKind.i64.wrap (sa (l.getD 0 (0, 0)) * x.2) = sa (l.getD 0 (0, 0)) * x.2 := wi _ (by omega) (by omega)
    have wl : IntKind.i64.wrap (sa (l.getD (l.length - 1) (0, 0)) * x.2) = sa (l.getD (l.length - 1) (0, 0)) * x.2 := wi _ (by omega) (by omega)
    have hl1 : l.getD (Int.toNat (IntKind.i64.wrap ((l.length : Int) - 1))) (0, 0) = l.getD (l.length - 1) (0, 0) := by
      rw [wi _ (by omega) (by omega)]; congr 1; omega
    have hl0 : l.getD (Int.toNat 0) (0, 0) = l.getD 0 (0, 0) := rfl
    refine pc_of_bodyF hm Try.func81 (by kernel_rfl) ?_
    conv => whnf
    have wl1 : IntKind.i64.wrap ((l.length : Int) - 1) = (l.length : Int) - 1 := wi _ (by omega) (by omega)
    (repeat' (first | (refine And.intro (a := _ = true → _) (b := _ = false → _) (fun hh => ?_) (fun hh => ?_) <;> (first | simp only [decide_eq_true_eq, decide_eq_false_iff_not, Bool.or_eq_true, Bool.and_eq_true, Bool.or_eq_false_iff, Bool.and_eq_false_iff, Bool.not_eq_true', Bool.not_eq_false', ge_iff_le, gt_iff_lt] at hh | skip) <;> (first | (exfalso; omega) | (exfalso; simp [*] at hh; done) | (exfalso; revert hh; decide) | exact absurd (by assumption) hh | (conv => whnf))) | (refine ⟨by kernel_rfl, ?_⟩; (conv => whnf)) | (refine And.intro (a := _ ∧ _) ⟨by omega, by omega⟩ ?_; (conv => whnf)) | (refine And.intro (a := _ ∧ _) ⟨by decide, by decide⟩ ?_; (conv => whnf)) | (refine And.intro (a := _ ≤ _) (by omega) ?_; (conv => whnf)) | (refine And.intro (a := _ ≠ _) (by omega) ?_; (conv => whnf)) | (refine Or.inl ?_; (conv => whnf); first | (refine ⟨_, by first | exact c0 | exact hA _ | exact hT _, ?_⟩; (conv => whnf)) | (refine ⟨false, ?_⟩; (conv => whnf); refine ⟨_, by first | exact c0 | exact hA _ | exact hT _, ?_⟩; (conv => whnf))) | (refine ⟨_, by first | exact c0 | exact hA _ | exact hT _, ?_⟩; (conv => whnf))))
    · rw [hl0, w0] at hh
      have : decide (sa (l.getD 0 (0, 0)) * x.2 ≤ x.1) = false := decide_eq_false (by omega)
      rw [bad (by rw [hmay, this]; simp only [Bool.and_false, Bool.false_and, Bool.true_and])]
    · rw [hl1, wl] at hh
      have : decide (x.1 ≤ sa (l.getD (l.length - 1) (0, 0)) * x.2) = false := decide_eq_false (by omega)
      rw [bad (by rw [hmay, this]; simp only [Bool.and_false, Bool.false_and, Bool.true_and])]
    rename_i q1 q2 hx0
    rw [hl0, w0] at hx0
    rw [hl1, wl] at hh
    have good : mapF sa st l x = atF sa st l x (max (firstK sa l x) 1 - 1) := by
      have t1 : decide (sa (l.getD 0 (0, 0)) * x.2 ≤ x.1) = true := decide_eq_true (by omega)
      have t2 : decide (x.1 ≤ sa (l.getD (l.length - 1) (0, 0)) * x.2) = true := decide_eq_true (by omega)
      have t3 : decide (x.2 ≤ 1048576) = true := decide_eq_true (by omega)
      have : mayB sa l x = true := by rw [hmay, t1, t2, t3]; simp only [Bool.and_self]
      simp only [mapF, this, if_true]
    rw [good]
    have hS := pc_Search l x A sa (by omega) (fun i hi => by
      have z := h.inA i hi
      have b := mul_bd (a := sa (l.getD i (0, 0))) (A := 4096) (b := x.2) (B := 1048576) z.1 z.2 (by omega) hd
      exact pc_mapped1 l x A sa hA i hi (by omega) ⟨by omega, by omega⟩ ⟨by omega, by omega⟩) (firstK sa l x) (firstK_le sa l x) (firstK_below sa l x) (fun j h1 h2 => firstK_above h x (by omega) j h1 h2)
    have hK : max (firstK sa l x) 1 < l.length := by
      have := firstK_le sa l x
      by_cases e : firstK sa l x = l.length
      · have := firstK_below sa l x (l.length - 1) (by omega)
        simp only [atB, decide_eq_false_iff_not] at this
        omega
      · omega
    have e1 : (if 1 > (firstK sa l x : Int) then 1 else (firstK sa l x : Int)) = ((max (firstK sa l x) 1 - 1 + 1 : Nat) : Int) := by split <;> omega
    have hi : max (firstK sa l x) 1 - 1 + 1 < l.length := by omega
    (repeat' (first | (refine And.intro (a := _ = true → _) (b := _ = false → _) (fun hh => ?_) (fun hh => ?_) <;> (first | simp only [decide_eq_true_eq, decide_eq_false_iff_not, Bool.or_eq_true, Bool.and_eq_true, Bool.or_eq_false_iff, Bool.and_eq_false_iff, Bool.not_eq_true', Bool.not_eq_false', ge_iff_le, gt_iff_lt] at hh | skip) <;> (first | (exfalso; omega) | (exfalso; simp [*] at hh; done) | (exfalso; revert hh; decide) | exact absurd (by assumption) hh | (conv => whnf))) | (refine ⟨by kernel_rfl, ?_⟩; (conv => whnf)) | (refine And.intro (a := _ ∧ _) ⟨by omega, by omega⟩ ?_; (conv => whnf)) | (refine And.intro (a := _ ∧ _) ⟨by decide, by decide⟩ ?_; (conv => whnf)) | (refine And.intro (a := _ ≤ _) (by omega) ?_; (conv => whnf)) | (refine And.intro (a := _ ≠ _) (by omega) ?_; (conv => whnf)) | (refine Or.inl ?_; (conv => whnf); first | (refine ⟨_, by first | exact hS, ?_⟩; (conv => whnf)) | (refine ⟨false, ?_⟩; (conv => whnf); refine ⟨_, by first | exact hS, ?_⟩; (conv => whnf))) | (refine ⟨_, by first | exact hS, ?_⟩; (conv => whnf))))
    rw [e1]
    clear hS good e1 hK
    generalize max (firstK sa l x) 1 - 1 = i at *
    have e2 : IntKind.i64.wrap (((i + 1 : Nat) : Int) - 1) = (i : Int) := by rw [wi _ (by omega) (by omega)]; omega
    rw [e2]
    have g1 : l.getD (Int.toNat (i : Int)) (0, 0) = l.getD i (0, 0) := rfl
    have g2 : l.getD (Int.toNat ((i + 1 : Nat) : Int)) (0, 0) = l.getD (i + 1) (0, 0) := rfl
    have k1 := h.inA i (by omega)
    have k2 := h.inA (i + 1) (by omega)
    have k3 := h.inT i (by omega)
    have k4 := h.inT (i + 1) (by omega)
    have k5 := h.up i hi
    have bi := mul_bd (a := sa (l.getD i (0, 0))) (A := 4096) (b := x.2) (B := 1048576) k1.1 k1.2 (by omega) hd
    have hat : atF sa st l x i = makeF (st (l.getD i (0, 0)) * ((sa (l.getD (i + 1) (0, 0)) - sa (l.getD i (0, 0))) * x.2) + (x.1 - sa (l.getD i (0, 0)) * x.2) * (st (l.getD (i + 1) (0, 0)) - st (l.getD i (0, 0)))) ((sa (l.getD (i + 1) (0, 0)) - sa (l.getD i (0, 0))) * x.2) := rfl
    refine ⟨⟨by omega, by omega⟩, ?_⟩
    rw [g1]
    have cc := pc_compared x (sa (l.getD i (0, 0)))
    have wA : IntKind.i64.wrap (sa (l.getD i (0, 0)) * x.2) = sa (l.getD i (0, 0)) * x.2 := wi _ (by omega) (by omega)
    rw [wA, wi _ (by omega) (by omega)] at cc
    generalize l.getD i (0, 0) = ka at *
    (repeat' (first | (refine And.intro (a := _ = true → _) (b := _ = false → _) (fun hh => ?_) (fun hh => ?_) <;> (first | simp only [decide_eq_true_eq, decide_eq_false_iff_not, Bool.or_eq_true, Bool.and_eq_true, Bool.or_eq_false_iff, Bool.and_eq_false_iff, Bool.not_eq_true', Bool.not_eq_false', ge_iff_le, gt_iff_lt] at hh | skip) <;> (first | (exfalso; omega) | (exfalso; simp [*] at hh; done) | (exfalso; revert hh; decide) | exact absurd (by assumption) hh | (conv => whnf))) | (refine ⟨by kernel_rfl, ?_⟩; (conv => whnf)) | (refine And.intro (a := _ ∧ _) ⟨by omega, by omega⟩ ?_; (conv => whnf)) | (refine And.intro (a := _ ∧ _) ⟨by decide, by decide⟩ ?_; (conv => whnf)) | (refine And.intro (a := _ ≤ _) (by omega) ?_; (conv => whnf)) | (refine And.intro (a := _ ≠ _) (by omega) ?_; (conv => whnf))))
    rw [g2]
    generalize l.getD (i + 1) (0, 0) = kb at *
    (repeat' (first | (refine And.intro (a := _ = true → _) (b := _ = false → _) (fun hh => ?_) (fun hh => ?_) <;> (first | simp only [decide_eq_true_eq, decide_eq_false_iff_not, Bool.or_eq_true, Bool.and_eq_true, Bool.or_eq_false_iff, Bool.and_eq_false_iff, Bool.not_eq_true', Bool.not_eq_false', ge_iff_le, gt_iff_lt] at hh | skip) <;> (first | (exfalso; omega) | (exfalso; simp [*] at hh; done) | (exfalso; revert hh; decide) | exact absurd (by assumption) hh | (conv => whnf))) | (refine ⟨by kernel_rfl, ?_⟩; (conv => whnf)) | (refine And.intro (a := _ ∧ _) ⟨by omega, by omega⟩ ?_; (conv => whnf)) | (refine And.intro (a := _ ∧ _) ⟨by decide, by decide⟩ ?_; (conv => whnf)) | (refine And.intro (a := _ ≤ _) (by omega) ?_; (conv => whnf)) | (refine And.intro (a := _ ≠ _) (by omega) ?_; (conv => whnf)) | (refine Or.inl ?_; (conv => whnf); first | (refine ⟨_, by first | exact hA ka | exact hA kb | exact hT ka | exact hT kb | exact cc, ?_⟩; (conv => whnf)) | (refine ⟨false, ?_⟩; (conv => whnf); refine ⟨_, by first | exact hA ka | exact hA kb | exact hT ka | exact hT kb | exact cc, ?_⟩; (conv => whnf))) | (refine ⟨_, by first | exact hA ka | exact hA kb | exact hT ka | exact hT kb | exact cc, ?_⟩; (conv => whnf))))
    have d1 := mul_bd (a := sa kb - sa ka) (A := 8192) (b := x.2) (B := 1048576) (by omega) (by omega) (by omega) hd
    have d1' : 0 < (sa kb - sa ka) * x.2 := Int.mul_pos (by omega) (by omega)
    have d2 := mul_bd (a := st ka) (A := 4096) (b := (sa kb - sa ka) * x.2) (B := 8192 * 1048576) (by omega) (by omega) (by omega) (by omega)
    have d3 := mul_bd2 (a := x.1 - sa ka * x.2) (A := 8589934592) (b := st kb - st ka) (B := 8192) (by omega) (by omega) (by omega) (by omega)
    rw [wi (sa kb - sa ka) (by omega) (by omega), wi ((sa kb - sa ka) * x.2) (by omega) (by omega), wi (st ka * ((sa kb - sa ka) * x.2)) (by omega) (by omega), wi (st kb - st ka) (by omega) (by omega), wi ((x.1 - sa ka * x.2) * (st kb - st ka)) (by omega) (by omega), wi (st ka * ((sa kb - sa ka) * x.2) + (x.1 - sa ka * x.2) * (st kb - st ka)) (by omega) (by omega)]
    have cm := pc_Make (st ka * ((sa kb - sa ka) * x.2) + (x.1 - sa ka * x.2) * (st kb - st ka)) ((sa kb - sa ka) * x.2) ⟨by omega, by omega⟩ ⟨by omega, by omega⟩
    (repeat' (first | (refine And.intro (a := _ = true → _) (b := _ = false → _) (fun hh => ?_) (fun hh => ?_) <;> (first | simp only [decide_eq_true_eq, decide_eq_false_iff_not, Bool.or_eq_true, Bool.and_eq_true, Bool.or_eq_false_iff, Bool.and_eq_false_iff, Bool.not_eq_true', Bool.not_eq_false', ge_iff_le, gt_iff_lt] at hh | skip) <;> (first | (exfalso; omega) | (exfalso; simp [*] at hh; done) | (exfalso; revert hh; decide) | exact absurd (by assumption) hh | (conv => whnf))) | (refine ⟨by kernel_rfl, ?_⟩; (conv => whnf)) | (refine And.intro (a := _ ∧ _) ⟨by omega, by omega⟩ ?_; (conv => whnf)) | (refine And.intro (a := _ ∧ _) ⟨by decide, by decide⟩ ?_; (conv => whnf)) | (refine And.intro (a := _ ≤ _) (by omega) ?_; (conv => whnf)) | (refine And.intro (a := _ ≠ _) (by omega) ?_; (conv => whnf)) | (refine Or.inl ?_; (conv => whnf); first | (refine ⟨_, by first | exact cm, ?_⟩; (conv => whnf)) | (refine ⟨false, ?_⟩; (conv => whnf); refine ⟨_, by first | exact cm, ?_⟩; (conv => whnf))) | (refine ⟨_, by first | exact cm, ?_⟩; (conv => whnf))))
    all_goals rw [hat]
end Go.Proofs.Try.My
set_option maxRecDepth 100000
set_option maxHeartbeats 0
set_option linter.unusedVariables false
set_option linter.unusedSimpArgs false
namespace Go.Proofs.Try.My
open Go Go.Ev

def corF (sa st : Int × Int → Int) (l : List (Int × Int)) (x : Int × Int) : (Int × Int) × Int := if knotsB l then mapF sa st l x else ((0, 0), 40)
theorem pc_Correct (l : List (Int × Int)) (x : Int × Int) (hl : l.length < 2 ^ 39) (i1 : I64 x.1) (i2 : I64 x.2) : PC Try.prog 21 [frs l, fr x] (.tup [fr (corF Prod.fst Prod.snd l x).1, i64 (corF Prod.fst Prod.snd l x).2]) := by
  have c := pc_CheckKnots l hl
  cases h : knotsB l
  · rw [h] at c
    refine pc_of_bodyF hm Try.func21 (by kernel_rfl) ?_
    conv => whnf
    (repeat' (first | (refine And.intro (a := _ = true → _) (b := _ = false → _) (fun hh => ?_) (fun hh => ?_) <;> (first | simp only [decide_eq_true_eq, decide_eq_false_iff_not, Bool.or_eq_true, Bool.and_eq_true, Bool.or_eq_false_iff, Bool.and_eq_false_iff, Bool.not_eq_true', Bool.not_eq_false', ge_iff_le, gt_iff_lt] at hh | skip) <;> (first | (exfalso; omega) | (exfalso; simp [*] at hh; done) | (exfalso; revert hh; decide) | exact absurd (by assumption) hh | (conv => whnf))) | (refine ⟨by kernel_rfl, ?_⟩; (conv => whnf)) | (refine And.intro (a := _ ∧ _) ⟨by omega, by omega⟩ ?_; (conv => whnf)) | (refine And.intro (a := _ ∧ _) ⟨by decide, by decide⟩ ?_; (conv => whnf)) | (refine And.intro (a := _ ≤ _) (by omega) ?_; (conv => whnf)) | (refine And.intro (a := _ ≠ _) (by omega) ?_; (conv => whnf)) | (refine Or.inl ?_; (conv => whnf); first | (refine ⟨_, by first | exact c, ?_⟩; (conv => whnf)) | (refine ⟨false, ?_⟩; (conv => whnf); refine ⟨_, by first | exact c, ?_⟩; (conv => whnf))) | (refine ⟨_, by first | exact c, ?_⟩; (conv => whnf))))
    all_goals simp [corF, h]
  · rw [h] at c
    have cm := pc_mapped l x 82 83 Prod.fst Prod.snd pc_lsizeI pc_toOf (tab_at h) i1 i2
    refine pc_of_bodyF hm Try.func21 (by kernel_rfl) ?_
    conv => whnf
    (repeat' (first | (refine And.intro (a := _ = true → _) (b := _ = false → _) (fun hh => ?_) (fun hh => ?_) <;> (first | simp only [decide_eq_true_eq, decide_eq_false_iff_not, Bool.or_eq_true, Bool.and_eq_true, Bool.or_eq_false_iff, Bool.and_eq_false_iff, Bool.not_eq_true', Bool.not_eq_false', ge_iff_le, gt_iff_lt] at hh | skip) <;> (first | (exfalso; omega) | (exfalso; simp [*] at hh; done) | (exfalso; revert hh; decide) | exact absurd (by assumption) hh | (conv => whnf))) | (refine ⟨by kernel_rfl, ?_⟩; (conv => whnf)) | (refine And.intro (a := _ ∧ _) ⟨by omega, by omega⟩ ?_; (conv => whnf)) | (refine And.intro (a := _ ∧ _) ⟨by decide, by decide⟩ ?_; (conv => whnf)) | (refine And.intro (a := _ ≤ _) (by omega) ?_; (conv => whnf)) | (refine And.intro (a := _ ≠ _) (by omega) ?_; (conv => whnf)) | (refine Or.inl ?_; (conv => whnf); first | (refine ⟨_, by first | exact c | exact cm, ?_⟩; (conv => whnf)) | (refine ⟨false, ?_⟩; (conv => whnf); refine ⟨_, by first | exact c | exact cm, ?_⟩; (conv => whnf))) | (refine ⟨_, by first | exact c | exact cm, ?_⟩; (conv => whnf))))
    all_goals simp [corF, h]
theorem pc_Distort (l : List (Int × Int)) (x : Int × Int) (hl : l.length < 2 ^ 39) (i1 : I64 x.1) (i2 : I64 x.2) : PC Try.prog 88 [frs l, fr x] (.tup [fr (corF Prod.snd Prod.fst l x).1, i64 (corF Prod.snd Prod.fst l x).2]) := by
  have c := pc_CheckKnots l hl
  cases h : knotsB l
  · rw [h] at c
    refine pc_of_bodyF hm Try.func88 (by kernel_rfl) ?_
    conv => whnf
    (repeat' (first | (refine And.intro (a := _ = true → _) (b := _ = false → _) (fun hh => ?_) (fun hh => ?_) <;> (first | simp only [decide_eq_true_eq, decide_eq_false_iff_not, Bool.or_eq_true, Bool.and_eq_true, Bool.or_eq_false_iff, Bool.and_eq_false_iff, Bool.not_eq_true', Bool.not_eq_false', ge_iff_le, gt_iff_lt] at hh | skip) <;> (first | (exfalso; omega) | (exfalso; simp [*] at hh; done) | (exfalso; revert hh; decide) | exact absurd (by assumption) hh | (conv => whnf))) | (refine ⟨by kernel_rfl, ?_⟩; (conv => whnf)) | (refine And.intro (a := _ ∧ _) ⟨by omega, by omega⟩ ?_; (conv => whnf)) | (refine And.intro (a := _ ∧ _) ⟨by decide, by decide⟩ ?_; (conv => whnf)) | (refine And.intro (a := _ ≤ _) (by omega) ?_; (conv => whnf)) | (refine And.intro (a := _ ≠ _) (by omega) ?_; (conv => whnf)) | (refine Or.inl ?_; (conv => whnf); first | (refine ⟨_, by first | exact c, ?_⟩; (conv => whnf)) | (refine ⟨false, ?_⟩; (conv => whnf); refine ⟨_, by first | exact c, ?_⟩; (conv => whnf))) | (refine ⟨_, by first | exact c, ?_⟩; (conv => whnf))))
    all_goals simp [corF, h]
  · rw [h] at c
    have cm := pc_mapped l x 83 82 Prod.snd Prod.fst pc_toOf pc_lsizeI (tab_to h) i1 i2
    refine pc_of_bodyF hm Try.func88 (by kernel_rfl) ?_
    conv => whnf
    (repeat' (first | (refine And.intro (a := _ = true → _) (b := _ = false → _) (fun hh => ?_) (fun hh => ?_) <;> (first | simp only [decide_eq_true_eq, decide_eq_false_iff_not, Bool.or_eq_true, Bool.and_eq_true, Bool.or_eq_false_iff, Bool.and_eq_false_iff, Bool.not_eq_true', Bool.not_eq_false', ge_iff_le, gt_iff_lt] at hh | skip) <;> (first | (exfalso; omega) | (exfalso; simp [*] at hh; done) | (exfalso; revert hh; decide) | exact absurd (by assumption) hh | (conv => whnf))) | (refine ⟨by kernel_rfl, ?_⟩; (conv => whnf)) | (refine And.intro (a := _ ∧ _) ⟨by omega, by omega⟩ ?_; (conv => whnf)) | (refine And.intro (a := _ ∧ _) ⟨by decide, by decide⟩ ?_; (conv => whnf)) | (refine And.intro (a := _ ≤ _) (by omega) ?_; (conv => whnf)) | (refine And.intro (a := _ ≠ _) (by omega) ?_; (conv => whnf)) | (refine Or.inl ?_; (conv => whnf); first | (refine ⟨_, by first | exact c | exact cm, ?_⟩; (conv => whnf)) | (refine ⟨false, ?_⟩; (conv => whnf); refine ⟨_, by first | exact c | exact cm, ?_⟩; (conv => whnf))) | (refine ⟨_, by first | exact c | exact cm, ?_⟩; (conv => whnf))))
    all_goals simp [corF, h]
def corS (l : List (Int × Int)) (s : SpT) : SpT × Int := if knotsB l then if spanB s && decide ((mapF Prod.fst Prod.snd l s.1).2 = 0) && decide ((mapF Prod.fst Prod.snd l s.2).2 = 0) then (((mapF Prod.fst Prod.snd l s.1).1, (mapF Prod.fst Prod.snd l s.2).1), 0) else (((0, 0), (0, 0)), 2) else (((0, 0), (0, 0)), 40)
end Go.Proofs.Try.My
