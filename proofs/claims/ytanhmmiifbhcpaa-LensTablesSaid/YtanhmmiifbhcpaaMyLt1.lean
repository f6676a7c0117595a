/- A helper text: contracts of functions of the program, and plain lemmas. -/
import Derived.Test.YtanhmmiifbhcpaaMyRf2
import Derived.Test.YtanhmmiifbhcpaaMyFr
set_option maxRecDepth 100000
set_option maxHeartbeats 0
set_option linter.unusedVariables false
set_option linter.unusedSimpArgs false
namespace Go.Proofs.Try.My
open Go Go.Ev

theorem pc_lsizeI (k : Int × Int) : PC Try.prog 41 [fr k] (i64 k.1) := by
  refine pc_of_body hm Try.func41 (by kernel_rfl) ?_
  conv => whnf
theorem pc_toOf (k : Int × Int) : PC Try.prog 42 [fr k] (i64 k.2) := by
  refine pc_of_body hm Try.func42 (by kernel_rfl) ?_
  conv => whnf
theorem pc_compared (x : Int × Int) (p : Int) : PC Try.prog 74 [fr x, i64 p] (i64 (IntKind.i64.wrap (x.1 - IntKind.i64.wrap (p * x.2)))) := by
  refine pc_of_body hm Try.func74 (by kernel_rfl) ?_
  conv => whnf
/-- Whether a knot is not below a place. -/
def atB (sa : Int × Int → Int) (l : List (Int × Int)) (x : Int × Int) (i : Nat) : Bool := decide (x.1 ≤ sa (l.getD i (0, 0)) * x.2)
theorem pc_mapped1 (l : List (Int × Int)) (x : Int × Int) (A : Nat) (sa : Int × Int → Int) (hA : ∀ k, PC Try.prog A [fr k] (i64 (sa k))) (i : Nat) (hi : i < l.length) (hl : l.length < 2 ^ 40)
    (hx : I64 (sa (l.getD i (0, 0)) * x.2)) (hx2 : I64 (x.1 - sa (l.getD i (0, 0)) * x.2)) :
    PC Try.prog 73 [i64 i, .pt [i64 x.1, i64 x.2] 0, .pt [.fn (.func A) [] []] 0, .pt [frs l] 0] (.bool (atB sa l x i)) := by
  have hg : l.getD (Int.toNat (i : Int)) (0, 0) = l.getD i (0, 0) := rfl
  have c2 := pc_compared x (sa (l.getD i (0, 0)))
  have hb : atB sa l x i = decide (x.1 ≤ sa (l.getD i (0, 0)) * x.2) := rfl
  rw [hb]
  have hA := hA (l.getD i (0, 0))
  refine pc_of_body hm Try.func73 (by kernel_rfl) ?_
  conv => whnf
  (repeat' (first | (refine And.intro (a := _ = true → _) (b := _ = false → _) (fun hh => ?_) (fun hh => ?_) <;> (first | simp only [decide_eq_true_eq, decide_eq_false_iff_not, Bool.or_eq_true, Bool.and_eq_true, Bool.or_eq_false_iff, Bool.and_eq_false_iff, Bool.not_eq_true', Bool.not_eq_false', ge_iff_le, gt_iff_lt] at hh | skip) <;> (first | (exfalso; omega) | (exfalso; simp [*] at hh; done) | exact absurd (by assumption) hh | (conv => whnf))) | (refine ⟨by kernel_rfl, ?_⟩; (conv => whnf)) | (refine And.intro (a := _ ∧ _) ⟨by omega, by omega⟩ ?_; (conv => whnf)) | (refine And.intro (a := _ ≤ _) (by omega) ?_; (conv => whnf)) | (refine And.intro (a := _ ≠ _) (by omega) ?_; (conv => whnf))))
  rw [hg]
  generalize l.getD i (0, 0) = k at *
  (repeat' (first | (refine And.intro (a := _ = true → _) (b := _ = false → _) (fun hh => ?_) (fun hh => ?_) <;> (first | simp only [decide_eq_true_eq, decide_eq_false_iff_not, Bool.or_eq_true, Bool.and_eq_true, Bool.or_eq_false_iff, Bool.and_eq_false_iff, Bool.not_eq_true', Bool.not_eq_false', ge_iff_le, gt_iff_lt] at hh | skip) <;> (first | (exfalso; omega) | (exfalso; simp [*] at hh; done) | exact absurd (by assumption) hh | (conv => whnf))) | (refine ⟨by kernel_rfl, ?_⟩; (conv => whnf)) | (refine And.intro (a := _ ∧ _) ⟨by omega, by omega⟩ ?_; (conv => whnf)) | (refine And.intro (a := _ ≤ _) (by omega) ?_; (conv => whnf)) | (refine And.intro (a := _ ≠ _) (by omega) ?_; (conv => whnf)) | (refine Or.inl ?_; (conv => whnf); first | (refine ⟨_, by first | exact hA, ?_⟩; (conv => whnf)) | (refine ⟨false, ?_⟩; (conv => whnf); refine ⟨_, by first | exact hA, ?_⟩; (conv => whnf))) | (refine ⟨_, by first | exact hA, ?_⟩; (conv => whnf))))
  (repeat' (first | (refine And.intro (a := _ = true → _) (b := _ = false → _) (fun hh => ?_) (fun hh => ?_) <;> (first | simp only [decide_eq_true_eq, decide_eq_false_iff_not, Bool.or_eq_true, Bool.and_eq_true, Bool.or_eq_false_iff, Bool.and_eq_false_iff, Bool.not_eq_true', Bool.not_eq_false', ge_iff_le, gt_iff_lt] at hh | skip) <;> (first | (exfalso; omega) | (exfalso; simp [*] at hh; done) | exact absurd (by assumption) hh | (conv => whnf))) | (refine ⟨by kernel_rfl, ?_⟩; (conv => whnf)) | (refine And.intro (a := _ ∧ _) ⟨by omega, by omega⟩ ?_; (conv => whnf)) | (refine And.intro (a := _ ≤ _) (by omega) ?_; (conv => whnf)) | (refine And.intro (a := _ ≠ _) (by omega) ?_; (conv => whnf)) | (refine Or.inl ?_; (conv => whnf); first | (refine ⟨_, by first | exact c2, ?_⟩; (conv => whnf)) | (refine ⟨false, ?_⟩; (conv => whnf); refine ⟨_, by first | exact c2, ?_⟩; (conv => whnf))) | (refine ⟨_, by first | exact c2, ?_⟩; (conv => whnf))))
  rw [wi _ hx.1 hx.2, wi _ hx2.1 hx2.2]
  congr 1
  refine decide_eq_decide.2 ?_
  omega
theorem half_u (i j : Nat) (hi : i < 2 ^ 40) (hj : j < 2 ^ 40) : IntKind.i64.wrap ((IntKind.u64.wrap (IntKind.i64.wrap ((i : Int) + (j : Int)))).fdiv (2 ^ min (Int.toNat 1) IntKind.u64.bits)) = (((i + j) / 2 : Nat) : Int) := by
  have e1 : IntKind.i64.wrap ((i : Int) + (j : Int)) = ((i + j : Nat) : Int) := by rw [wi _ (by omega) (by omega)]; omega
  have e : Int.toNat ((1 : Nat) : Int) = Int.toNat 1 := rfl
  have := shr_u (i + j) 1 (by omega)
  rw [e] at this
  rw [e1, wu _ (by omega), this, wi _ (by omega) (by omega)]
theorem pc_Search (l : List (Int × Int)) (x : Int × Int) (A : Nat) (sa : Int × Int → Int) (hl : l.length < 2 ^ 39)
    (hf : ∀ i : Nat, i < l.length → PC Try.prog 73 [i64 i, .pt [i64 x.1, i64 x.2] 0, .pt [.fn (.func A) [] []] 0, .pt [frs l] 0] (.bool (atB sa l x i)))
    (k : Nat) (hk : k ≤ l.length) (h1 : ∀ j, j < k → atB sa l x j = false) (h2 : ∀ j, k ≤ j → j < l.length → atB sa l x j = true) :
    PC Try.prog 72 [i64 l.length, .fn (.func 73) [] [.pt [i64 x.1, i64 x.2] 0, .pt [.fn (.func A) [] []] 0, .pt [frs l] 0]] (i64 k) := by
  refine pc_of_body hm Try.func72 (by kernel_rfl) ?_
  conv => whnf
  (repeat' (first | (refine And.intro (a := _ = true → _) (b := _ = false → _) (fun hh => ?_) (fun hh => ?_) <;> (first | simp only [decide_eq_true_eq, decide_eq_false_iff_not, Bool.or_eq_true, Bool.and_eq_true, Bool.or_eq_false_iff, Bool.and_eq_false_iff, Bool.not_eq_true', Bool.not_eq_false', ge_iff_le, gt_iff_lt] at hh | skip) <;> (first | (exfalso; omega) | (exfalso; simp [*] at hh; done) | exact absurd (by assumption) hh | (conv => whnf))) | (refine ⟨by kernel_rfl, ?_⟩; (conv => whnf)) | (refine And.intro (a := _ ∧ _) ⟨by omega, by omega⟩ ?_; (conv => whnf)) | (refine And.intro (a := _ ≤ _) (by omega) ?_; (conv => whnf)) | (refine And.intro (a := _ ≠ _) (by omega) ?_; (conv => whnf))))
  refine Or.inr ⟨Nat × Nat, [5, 6], [], [], fun i => [i64 i.1, i64 i.2], fun _ => [], fun _ => [], fun i => i.2 - i.1, fun i => i.1 ≤ k ∧ k ≤ i.2 ∧ i.2 ≤ l.length, ?_⟩
  (conv => whnf)
  refine ⟨⟨(0, l.length), ?_⟩, ?_⟩
  · (conv => whnf)
    exact ⟨⟨⟨Nat.zero_le _, hk, Nat.le_refl _⟩, rfl, rfl, rfl⟩, by kernel_rfl, by kernel_rfl⟩
  · rintro ⟨i, j⟩ ⟨g1, g2, g3⟩
    simp only [] at g1 g2 g3
    (conv => whnf)
    refine ⟨fun h => ?_, fun h => ?_⟩
    · have h := of_decide_eq_true h
      simp only [] at h
      (conv => whnf)
      rw [half_u i j (by omega) (by omega)]
      have c := hf ((i + j) / 2) (by omega)
      have c1 : atB sa l x ((i + j) / 2) = false → (i + j) / 2 < k := fun e => by
        by_cases hh : (i + j) / 2 < k
        · exact hh
        · rw [h2 _ (by omega) (by omega)] at e; cases e
      have c2 : atB sa l x ((i + j) / 2) = true → k ≤ (i + j) / 2 := fun e => by
        by_cases hh : (i + j) / 2 < k
        · rw [h1 _ hh] at e; cases e
        · omega
      have e1 : i ≤ (i + j) / 2 := by omega
      have e2 : (i + j) / 2 < j := by omega
      generalize (i + j) / 2 = m at *
      generalize atB sa l x m = bb at *
      (repeat' (first | (refine And.intro (a := _ = true → _) (b := _ = false → _) (fun hh => ?_) (fun hh => ?_) <;> (first | simp only [decide_eq_true_eq, decide_eq_false_iff_not, Bool.or_eq_true, Bool.and_eq_true, Bool.or_eq_false_iff, Bool.and_eq_false_iff, Bool.not_eq_true', Bool.not_eq_false', ge_iff_le, gt_iff_lt] at hh | skip) <;> (first | (exfalso; omega) | (exfalso; simp [*] at hh; done) | exact absurd (by assumption) hh | (conv => whnf))) | (refine ⟨by kernel_rfl, ?_⟩; (conv => whnf)) | (refine And.intro (a := _ ∧ _) ⟨by omega, by omega⟩ ?_; (conv => whnf)) | (refine And.intro (a := _ ≤ _) (by omega) ?_; (conv => whnf)) | (refine And.intro (a := _ ≠ _) (by omega) ?_; (conv => whnf)) | (refine Or.inl ?_; (conv => whnf); first | (refine ⟨_, by first | exact c, ?_⟩; (conv => whnf)) | (refine ⟨false, ?_⟩; (conv => whnf); refine ⟨_, by first | exact c, ?_⟩; (conv => whnf))) | (refine ⟨_, by first | exact c, ?_⟩; (conv => whnf))))
      · refine ⟨(m + 1, j), ?_⟩
        (conv => whnf)
        refine ⟨⟨⟨?_, by show m + 1 ≤ k; have := c1 hh; omega, g2, g3⟩, ?_, rfl, rfl⟩, by kernel_rfl, by kernel_rfl⟩
        · show j - (m + 1) < j - i; omega
        · rw [wi _ (by omega) (by omega)]; rfl
      · refine ⟨(i, m), ?_⟩
        (conv => whnf)
        refine ⟨⟨⟨?_, g1, by show k ≤ m; exact c2 hh, by show m ≤ l.length; omega⟩, rfl, rfl, rfl⟩, by kernel_rfl, by kernel_rfl⟩
        show m - i < j - i; omega
    · have h := of_decide_eq_false h
      simp only [] at h
      (repeat' (first | (refine And.intro (a := _ = true → _) (b := _ = false → _) (fun hh => ?_) (fun hh => ?_) <;> (first | simp only [decide_eq_true_eq, decide_eq_false_iff_not, Bool.or_eq_true, Bool.and_eq_true, Bool.or_eq_false_iff, Bool.and_eq_false_iff, Bool.not_eq_true', Bool.not_eq_false', ge_iff_le, gt_iff_lt] at hh | skip) <;> (first | (exfalso; omega) | (exfalso; simp [*] at hh; done) | exact absurd (by assumption) hh | (conv => whnf))) | (refine ⟨by kernel_rfl, ?_⟩; (conv => whnf)) | (refine And.intro (a := _ ∧ _) ⟨by omega, by omega⟩ ?_; (conv => whnf)) | (refine And.intro (a := _ ≤ _) (by omega) ?_; (conv => whnf)) | (refine And.intro (a := _ ≠ _) (by omega) ?_; (conv => whnf))))
      congr 1
      show (i : Int) = k
      omega
/-- A table's knots. -/
def okK (l : List (Int × Int)) (i : Nat) : Bool := decide (-4096 ≤ (l.getD i (0, 0)).1) && decide ((l.getD i (0, 0)).1 ≤ 4096) && decide (-4096 ≤ (l.getD i (0, 0)).2) && decide ((l.getD i (0, 0)).2 ≤ 4096) &&
  (decide (i = 0) || (decide ((l.getD (i - 1) (0, 0)).1 < (l.getD i (0, 0)).1) && decide ((l.getD (i - 1) (0, 0)).2 < (l.getD i (0, 0)).2)))
def knotsB (l : List (Int × Int)) : Bool := decide (2 ≤ l.length) && decide (l.length ≤ 16) && (List.range l.length).all (okK l)
theorem okK_iff (l : List (Int × Int)) (i : Nat) : okK l i = true ↔ (-4096 ≤ (l.getD i (0, 0)).1 ∧ (l.getD i (0, 0)).1 ≤ 4096 ∧ -4096 ≤ (l.getD i (0, 0)).2 ∧ (l.getD i (0, 0)).2 ≤ 4096 ∧
    (i = 0 ∨ ((l.getD (i - 1) (0, 0)).1 < (l.getD i (0, 0)).1 ∧ (l.getD (i - 1) (0, 0)).2 < (l.getD i (0, 0)).2))) := by
  simp only [okK, Bool.and_eq_true, Bool.or_eq_true, decide_eq_true_eq, and_assoc]
theorem knots_bad {l : List (Int × Int)} {i : Nat} (hi : i < l.length) (h : ¬ okK l i = true) : knotsB l = false := by
  simp only [knotsB, Bool.and_eq_false_iff]
  exact .inr (List.all_eq_false.2 ⟨i, List.mem_range.2 hi, h⟩)
theorem knots_good {l : List (Int × Int)} (h1 : 2 ≤ l.length) (h2 : l.length ≤ 16) (h : ∀ i, i < l.length → okK l i = true) : knotsB l = true := by
  simp only [knotsB, Bool.and_eq_true, decide_eq_true_eq]
  exact ⟨⟨h1, h2⟩, List.all_eq_true.2 fun i hi => h i (List.mem_range.1 hi)⟩
theorem knots_len {l : List (Int × Int)} (h : ¬ (2 ≤ l.length ∧ l.length ≤ 16)) : knotsB l = false := by
  simp only [knotsB, Bool.and_eq_false_iff, decide_eq_false_iff_not]
  omega
theorem pc_CheckKnots (l : List (Int × Int)) (hl : l.length < 2 ^ 39) : PC Try.prog 19 [frs l] (i64 (if knotsB l then 0 else 40)) := by
  refine pc_of_body hm Try.func19 (by kernel_rfl) ?_
  conv => whnf
  (repeat' (first | (refine And.intro (a := _ = true → _) (b := _ = false → _) (fun hh => ?_) (fun hh => ?_) <;> (first | simp only [decide_eq_true_eq, decide_eq_false_iff_not, Bool.or_eq_true, Bool.and_eq_true, Bool.or_eq_false_iff, Bool.and_eq_false_iff, Bool.not_eq_true', Bool.not_eq_false', ge_iff_le, gt_iff_lt] at hh | skip) <;> (first | (exfalso; omega) | (exfalso; simp [*] at hh; done) | exact absurd (by assumption) hh | (conv => whnf))) | (refine ⟨by kernel_rfl, ?_⟩; (conv => whnf)) | (refine And.intro (a := _ ∧ _) ⟨by omega, by omega⟩ ?_; (conv => whnf)) | (refine And.intro (a := _ ≤ _) (by omega) ?_; (conv => whnf)) | (refine And.intro (a := _ ≠ _) (by omega) ?_; (conv => whnf))))
  · rw [knots_len (by omega)]; rfl
  · rw [knots_len (by omega)]; rfl
  rename_i h2
  refine Or.inr ⟨Nat, [15], [], [], fun k => [i64 k], fun _ => [], fun _ => [], fun k => l.length - k, fun k => k ≤ l.length ∧ ∀ i, i < k → okK l i = true, ?_⟩
  (conv => whnf)
  refine ⟨⟨0, ?_⟩, ?_⟩
  · (conv => whnf)
    exact ⟨⟨by simp, rfl, rfl, rfl⟩, by kernel_rfl, by kernel_rfl⟩
  · intro k hk
    (conv => whnf)
    refine ⟨fun h => ?_, fun h => ?_⟩
    · have h := of_decide_eq_true h
      (conv => whnf)
      have hg : l.getD (Int.toNat (k : Int)) (0, 0) = l.getD k (0, 0) := rfl
      refine ⟨⟨by omega, by omega⟩, ?_⟩
      rw [hg]
      have bad : ¬ okK l k = true → knotsB l = false := knots_bad (by omega)
      have good : okK l k = true → ∀ i, i < k + 1 → okK l i = true := fun h i hi => by
        by_cases e : i = k
        · subst e; exact h
        · exact hk.2 i (by omega)
      rw [okK_iff] at bad good
      have hg1 : 0 < k → IntKind.i64.wrap ((k : Int) - 1) = ((k - 1 : Nat) : Int) := fun h => by
        rw [wi _ (by omega) (by omega)]
        omega
      have hg2 : 0 < k → l.getD (Int.toNat (IntKind.i64.wrap ((k : Int) - 1))) (0, 0) = l.getD (k - 1) (0, 0) := fun h => by rw [hg1 h]; rfl
      generalize l.getD k (0, 0) = x at bad good ⊢
      obtain ⟨n, d⟩ := x
      have c := pc_fromL (-4096) 4096 [n, d] (by simp)
      have hc : (!([n, d].any (outB (-4096) 4096))) = decide (-4096 ≤ n ∧ n ≤ 4096 ∧ -4096 ≤ d ∧ d ≤ 4096) := by
        simp only [List.any_cons, List.any_nil, outB, Bool.or_false]
        rw [Bool.eq_iff_iff]
        simp only [Bool.not_eq_true', Bool.or_eq_false_iff, decide_eq_false_iff_not, decide_eq_true_eq]
        omega
      rw [hc] at c
      simp only [] at bad good
      have back : (0 < k → (l.getD (k - 1) (0, 0)).1 < n ∧ (l.getD (k - 1) (0, 0)).2 < d) → -4096 ≤ n ∧ n ≤ 4096 ∧ -4096 ≤ d ∧ d ≤ 4096 → ∀ i, i < k + 1 → okK l i = true := fun h1 h2 => good ⟨h2.1, h2.2.1, h2.2.2.1, h2.2.2.2, by
        by_cases h : k = 0
        · exact .inl h
        · exact .inr (h1 (by omega))⟩
      (repeat' (first | (refine And.intro (a := _ = true → _) (b := _ = false → _) (fun hh => ?_) (fun hh => ?_) <;> (first | simp only [decide_eq_true_eq, decide_eq_false_iff_not, Bool.or_eq_true, Bool.and_eq_true, Bool.or_eq_false_iff, Bool.and_eq_false_iff, Bool.not_eq_true', Bool.not_eq_false', ge_iff_le, gt_iff_lt] at hh | skip) <;> (first | (exfalso; omega) | (exfalso; simp [*] at hh; done) | exact absurd (by assumption) hh | (conv => whnf))) | (refine ⟨by kernel_rfl, ?_⟩; (conv => whnf)) | (refine And.intro (a := _ ∧ _) ⟨by omega, by omega⟩ ?_; (conv => whnf)) | (refine And.intro (a := _ ≤ _) (by omega) ?_; (conv => whnf)) | (refine And.intro (a := _ ≠ _) (by omega) ?_; (conv => whnf))))
      (repeat' (first | (refine And.intro (a := _ = true → _) (b := _ = false → _) (fun hh => ?_) (fun hh => ?_) <;> (first | simp only [decide_eq_true_eq, decide_eq_false_iff_not, Bool.or_eq_true, Bool.and_eq_true, Bool.or_eq_false_iff, Bool.and_eq_false_iff, Bool.not_eq_true', Bool.not_eq_false', ge_iff_le, gt_iff_lt] at hh | skip) <;> (first | (exfalso; omega) | (exfalso; simp [*] at hh; done) | exact absurd (by assumption) hh | (conv => whnf))) | (refine ⟨by kernel_rfl, ?_⟩; (conv => whnf)) | (refine And.intro (a := _ ∧ _) ⟨by omega, by omega⟩ ?_; (conv => whnf)) | (refine And.intro (a := _ ≤ _) (by omega) ?_; (conv => whnf)) | (refine And.intro (a := _ ≠ _) (by omega) ?_; (conv => whnf)) | (refine Or.inl ?_; (conv => whnf); first | (refine ⟨_, by first | exact c, ?_⟩; (conv => whnf)) | (refine ⟨false, ?_⟩; (conv => whnf); refine ⟨_, by first | exact c, ?_⟩; (conv => whnf))) | (refine ⟨_, by first | exact c, ?_⟩; (conv => whnf))))
      · rw [bad (fun hb => hh ⟨hb.1, hb.2.1, hb.2.2.1, hb.2.2.2.1⟩)]; rfl
      · rw [hg2 (by omega)] at hh
        rw [bad (fun hb => by omega)]; rfl
      · rw [hg2 (by omega)] at hh
        rw [bad (fun hb => by omega)]; rfl
      · rename_i g1 g2 g3
        rw [hg2 (by omega)] at hh g3
        refine ⟨k + 1, ?_⟩
        (conv => whnf)
        refine ⟨⟨⟨Nat.sub_lt_sub_left (by omega) (Nat.lt_succ_self k), by omega, back (fun _ => ⟨by omega, by omega⟩) g1⟩, ?_, rfl, rfl⟩, by kernel_rfl, by kernel_rfl⟩
        rw [w64 _ (by omega) (by omega)]; rfl
      · rename_i g1
        refine ⟨k + 1, ?_⟩
        (conv => whnf)
        refine ⟨⟨⟨Nat.sub_lt_sub_left (by omega) (Nat.lt_succ_self k), by omega, back (fun _ => by omega) g1⟩, ?_, rfl, rfl⟩, by kernel_rfl, by kernel_rfl⟩
        rw [w64 _ (by omega) (by omega)]; rfl
    · have h := of_decide_eq_false h
      (repeat' (first | (refine And.intro (a := _ = true → _) (b := _ = false → _) (fun hh => ?_) (fun hh => ?_) <;> (first | simp only [decide_eq_true_eq, decide_eq_false_iff_not, Bool.or_eq_true, Bool.and_eq_true, Bool.or_eq_false_iff, Bool.and_eq_false_iff, Bool.not_eq_true', Bool.not_eq_false', ge_iff_le, gt_iff_lt] at hh | skip) <;> (first | (exfalso; omega) | (exfalso; simp [*] at hh; done) | exact absurd (by assumption) hh | (conv => whnf))) | (refine ⟨by kernel_rfl, ?_⟩; (conv => whnf)) | (refine And.intro (a := _ ∧ _) ⟨by omega, by omega⟩ ?_; (conv => whnf)) | (refine And.intro (a := _ ≤ _) (by omega) ?_; (conv => whnf)) | (refine And.intro (a := _ ≠ _) (by omega) ?_; (conv => whnf))))
      rw [knots_good (by omega) (by omega) fun i hi => hk.2 i (by omega)]; rfl
end Go.Proofs.Try.My
