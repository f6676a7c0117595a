/- A helper text: contracts of functions of the program, and plain lemmas. -/
import Derived.Test.YtanhmmiifbhcpaaMyLr1
set_option maxRecDepth 100000
set_option maxHeartbeats 0
set_option linter.unusedVariables false
set_option linter.unusedSimpArgs false
namespace Go.Proofs.Try.My
open Go Go.Ev

theorem pc_rCheckKnots (l : List (Int × Int)) (hl : l.length < 2 ^ 39) : PC Try.prog 20 [frs l] (i64 (if knotsB l then 0 else 40)) := by
  have c := pc_ValidKnots l hl
  generalize knotsB l = b at *
  refine pc_of_body hm Try.func20 (by kernel_rfl) ?_
  conv => whnf
  (repeat' (first | (refine And.intro (a := _ = true → _) (b := _ = false → _) (fun hh => ?_) (fun hh => ?_) <;> (first | simp only [decide_eq_true_eq, decide_eq_false_iff_not, Bool.or_eq_true, Bool.and_eq_true, Bool.or_eq_false_iff, Bool.and_eq_false_iff, Bool.not_eq_true', Bool.not_eq_false', ge_iff_le, gt_iff_lt] at hh | skip) <;> (first | (exfalso; omega) | (exfalso; simp [*] at hh; done) | exact absurd (by assumption) hh | (conv => whnf))) | (refine ⟨by kernel_rfl, ?_⟩; (conv => whnf)) | (refine And.intro (a := _ ∧ _) ⟨by omega, by omega⟩ ?_; (conv => whnf)) | (refine And.intro (a := _ ≤ _) (by omega) ?_; (conv => whnf)) | (refine And.intro (a := _ ≠ _) (by omega) ?_; (conv => whnf)) | (refine Or.inl ?_; (conv => whnf); first | (refine ⟨_, by first | exact c, ?_⟩; (conv => whnf)) | (refine ⟨false, ?_⟩; (conv => whnf); refine ⟨_, by first | exact c, ?_⟩; (conv => whnf))) | (refine ⟨_, by first | exact c, ?_⟩; (conv => whnf))))
  all_goals simp_all
theorem pc_rmade (n d : Int) (h1 : I64 n) (h2 : I64 d) : PC Try.prog 77 [i64 n, i64 d] (fr (makeF n d).1) := by
  have c := pc_rMake n d h1 h2
  refine pc_of_body hm Try.func77 (by kernel_rfl) ?_
  conv => whnf
  (repeat' (first | (refine And.intro (a := _ = true → _) (b := _ = false → _) (fun hh => ?_) (fun hh => ?_) <;> (first | simp only [decide_eq_true_eq, decide_eq_false_iff_not, Bool.or_eq_true, Bool.and_eq_true, Bool.or_eq_false_iff, Bool.and_eq_false_iff, Bool.not_eq_true', Bool.not_eq_false', ge_iff_le, gt_iff_lt] at hh | skip) <;> (first | (exfalso; omega) | (exfalso; simp [*] at hh; done) | exact absurd (by assumption) hh | (conv => whnf))) | (refine ⟨by kernel_rfl, ?_⟩; (conv => whnf)) | (refine And.intro (a := _ ∧ _) ⟨by omega, by omega⟩ ?_; (conv => whnf)) | (refine And.intro (a := _ ≤ _) (by omega) ?_; (conv => whnf)) | (refine And.intro (a := _ ≠ _) (by omega) ?_; (conv => whnf)) | (refine Or.inl ?_; (conv => whnf); first | (refine ⟨_, by first | exact c, ?_⟩; (conv => whnf)) | (refine ⟨false, ?_⟩; (conv => whnf); refine ⟨_, by first | exact c, ?_⟩; (conv => whnf))) | (refine ⟨_, by first | exact c, ?_⟩; (conv => whnf))))
theorem pc_On (l : List (Int × Int)) (x : Int × Int) (h : TabOk l Prod.fst Prod.snd) (i1 : I64 x.1) (i2 : I64 x.2) : PC Try.prog 44 [frs l, fr x] (.bool (mayB Prod.fst l x)) := by
  have c := pc_rValid x i1 i2
  have hlen := h.most
  have htwo := h.two
  have hmay : mayB Prod.fst l x = (validB x && decide (x.2 ≤ 1048576) && decide ((l.getD 0 (0, 0)).1 * x.2 ≤ x.1) && decide (x.1 ≤ (l.getD (l.length - 1) (0, 0)).1 * x.2)) := rfl
  have hl1 : l.getD (Int.toNat (IntKind.i64.wrap ((l.length : Int) - 1))) (0, 0) = l.getD (l.length - 1) (0, 0) := by
    rw [wi _ (by omega) (by omega)]; congr 1; omega
  have hl0 : l.getD (Int.toNat 0) (0, 0) = l.getD 0 (0, 0) := rfl
  have wl1 : IntKind.i64.wrap ((l.length : Int) - 1) = (l.length : Int) - 1 := wi _ (by omega) (by omega)
  have z0 := h.inA 0 (by omega)
  have zl := h.inA (l.length - 1) (by omega)
  have hvv := validB_iff x
  cases hv : validB x
  · rw [hv] at c hmay
    refine pc_of_body hm Try.func44 (by kernel_rfl) ?_
    conv => whnf
    (repeat' (first | (refine And.intro (a := _ = true → _) (b := _ = false → _) (fun hh => ?_) (fun hh => ?_) <;> (first | simp only [decide_eq_true_eq, decide_eq_false_iff_not, Bool.or_eq_true, Bool.and_eq_true, Bool.or_eq_false_iff, Bool.and_eq_false_iff, Bool.not_eq_true', Bool.not_eq_false', ge_iff_le, gt_iff_lt] at hh | skip) <;> (first | (exfalso; omega) | (exfalso; simp [*] at hh; done) | exact absurd (by assumption) hh | (conv => whnf))) | (refine ⟨by kernel_rfl, ?_⟩; (conv => whnf)) | (refine And.intro (a := _ ∧ _) ⟨by omega, by omega⟩ ?_; (conv => whnf)) | (refine And.intro (a := _ ≤ _) (by omega) ?_; (conv => whnf)) | (refine And.intro (a := _ ≠ _) (by omega) ?_; (conv => whnf)) | (refine Or.inl ?_; (conv => whnf); first | (refine ⟨_, by first | exact c, ?_⟩; (conv => whnf)) | (refine ⟨false, ?_⟩; (conv => whnf); refine ⟨_, by first | exact c, ?_⟩; (conv => whnf))) | (refine ⟨_, by first | exact c, ?_⟩; (conv => whnf))))
    all_goals (rw [hmay]; simp only [Bool.false_and])
  · rw [hv] at c hmay hvv
    have hvv := hvv.1 rfl
    by_cases hd : x.2 ≤ 1048576
    rotate_left
    · have : decide (x.2 ≤ 1048576) = false := decide_eq_false hd
      refine pc_of_body hm Try.func44 (by kernel_rfl) ?_
      conv => whnf
      (repeat' (first | (refine And.intro (a := _ = true → _) (b := _ = false → _) (fun hh => ?_) (fun hh => ?_) <;> (first | simp only [decide_eq_true_eq, decide_eq_false_iff_not, Bool.or_eq_true, Bool.and_eq_true, Bool.or_eq_false_iff, Bool.and_eq_false_iff, Bool.not_eq_true', Bool.not_eq_false', ge_iff_le, gt_iff_lt] at hh | skip) <;> (first | (exfalso; omega) | (exfalso; simp [*] at hh; done) | exact absurd (by assumption) hh | (conv => whnf))) | (refine ⟨by kernel_rfl, ?_⟩; (conv => whnf)) | (refine And.intro (a := _ ∧ _) ⟨by omega, by omega⟩ ?_; (conv => whnf)) | (refine And.intro (a := _ ≤ _) (by omega) ?_; (conv => whnf)) | (refine And.intro (a := _ ≠ _) (by omega) ?_; (conv => whnf)) | (refine Or.inl ?_; (conv => whnf); first | (refine ⟨_, by first | exact c, ?_⟩; (conv => whnf)) | (refine ⟨false, ?_⟩; (conv => whnf); refine ⟨_, by first | exact c, ?_⟩; (conv => whnf))) | (refine ⟨_, by first | exact c, ?_⟩; (conv => whnf))))
      all_goals (rw [hmay, this]; simp only [Bool.false_and, Bool.and_false])
    have b0 := mul_bd (a := (l.getD 0 (0, 0)).1) (A := 4096) (b := x.2) (B := 1048576) z0.1 z0.2 (by omega) hd
    have bl := mul_bd (a := (l.getD (l.length - 1) (0, 0)).1) (A := 4096) (b := x.2) (B := 1048576) zl.1 zl.2 (by omega) hd
    have t3 : decide (x.2 ≤ 1048576) = true := decide_eq_true (by omega)
    rw [t3] at hmay
    refine pc_of_body hm Try.func44 (by kernel_rfl) ?_
    conv => whnf
    (repeat' (first | (refine And.intro (a := _ = true → _) (b := _ = false → _) (fun hh => ?_) (fun hh => ?_) <;> (first | simp only [decide_eq_true_eq, decide_eq_false_iff_not, Bool.or_eq_true, Bool.and_eq_true, Bool.or_eq_false_iff, Bool.and_eq_false_iff, Bool.not_eq_true', Bool.not_eq_false', ge_iff_le, gt_iff_lt] at hh | skip) <;> (first | (exfalso; omega) | (exfalso; simp [*] at hh; done) | exact absurd (by assumption) hh | (conv => whnf))) | (refine ⟨by kernel_rfl, ?_⟩; (conv => whnf)) | (refine And.intro (a := _ ∧ _) ⟨by omega, by omega⟩ ?_; (conv => whnf)) | (refine And.intro (a := _ ≤ _) (by omega) ?_; (conv => whnf)) | (refine And.intro (a := _ ≠ _) (by omega) ?_; (conv => whnf)) | (refine Or.inl ?_; (conv => whnf); first | (refine ⟨_, by first | exact c, ?_⟩; (conv => whnf)) | (refine ⟨false, ?_⟩; (conv => whnf); refine ⟨_, by first | exact c, ?_⟩; (conv => whnf))) | (refine ⟨_, by first | exact c, ?_⟩; (conv => whnf))))
    · rw [hl0, wi _ (by omega) (by omega)] at hh
      rw [hl1, wi _ (by omega) (by omega), hmay, decide_eq_true hh]
      simp only [Bool.and_self, Bool.true_and]
    · rw [hl0, wi _ (by omega) (by omega)] at hh
      rw [hmay, decide_eq_false hh]
      simp only [Bool.and_false, Bool.false_and]
theorem mayB_iff {l : List (Int × Int)} {x : Int × Int} {sa : Int × Int → Int} (h : mayB sa l x = true) : validB x = true ∧ x.2 ≤ 1048576 ∧ sa (l.getD 0 (0, 0)) * x.2 ≤ x.1 ∧ x.1 ≤ sa (l.getD (l.length - 1) (0, 0)) * x.2 := by
  simp only [mayB, Bool.and_eq_true, decide_eq_true_eq] at h
  exact ⟨h.1.1.1, h.1.1.2, h.1.2, h.2⟩
theorem firstK_ix {l : List (Int × Int)} {sa st} (h : TabOk l sa st) {x : Int × Int} (hx : 1 ≤ x.2) {k : Nat} (hk : k + 1 < l.length) (h1 : ∀ i, 0 < i → i ≤ k → atB sa l x i = false) (h2 : atB sa l x (k + 1) = true) : max (firstK sa l x) 1 - 1 = k := by
  have a1 : firstK sa l x ≤ k + 1 := by
    by_cases e : k + 1 < firstK sa l x
    · have := firstK_below sa l x _ e
      rw [h2] at this; cases this
    · omega
  by_cases hk0 : k = 0
  · omega
  · have a2 : k < firstK sa l x := by
      by_cases e : firstK sa l x ≤ k
      · have := firstK_above h x hx k e (by omega)
        rw [h1 k (by omega) (by omega)] at this; cases this
      · omega
    omega
theorem pc_Corrected (l : List (Int × Int)) (x : Int × Int) (h : TabOk l Prod.fst Prod.snd) (hmy : mayB Prod.fst l x = true) : PC Try.prog 45 [frs l, fr x] (fr (atF Prod.fst Prod.snd l x (max (firstK Prod.fst l x) 1 - 1)).1) := by
  obtain ⟨hv, hd, hx0, hxl⟩ := mayB_iff hmy
  have hvv := (validB_iff x).1 hv
  have hlen := h.most
  have htwo := h.two
  have z0 := h.inA 0 (by omega)
  have zl := h.inA (l.length - 1) (by omega)
  have b0 := mul_bd (a := (l.getD 0 (0, 0)).1) (A := 4096) (b := x.2) (B := 1048576) z0.1 z0.2 (by omega) hd
  have bl := mul_bd (a := (l.getD (l.length - 1) (0, 0)).1) (A := 4096) (b := x.2) (B := 1048576) zl.1 zl.2 (by omega) hd
  refine pc_of_body hm Try.func45 (by kernel_rfl) ?_
  conv => whnf
  refine Or.inr ⟨Nat, [5], [], [], fun k => [i64 k], fun _ => [], fun _ => [], fun k => l.length - k, fun k => k + 1 < l.length ∧ ∀ i, 0 < i → i ≤ k → atB Prod.fst l x i = false, ?_⟩
  (conv => whnf)
  refine ⟨⟨0, ?_⟩, ?_⟩
  · (conv => whnf)
    exact ⟨⟨⟨by omega, fun i h1 h2 => by omega⟩, rfl, rfl, rfl⟩, by kernel_rfl, by kernel_rfl⟩
  · intro k hk
    obtain ⟨hk1, hk2⟩ := hk
    (conv => whnf)
    have e1 : IntKind.i64.wrap ((k : Int) + 1) = ((k + 1 : Nat) : Int) := by rw [wi _ (by omega) (by omega)]; omega
    have g2 : l.getD (Int.toNat ((k + 1 : Nat) : Int)) (0, 0) = l.getD (k + 1) (0, 0) := rfl
    have z := h.inA (k + 1) hk1
    have b := mul_bd (a := (l.getD (k + 1) (0, 0)).1) (A := 4096) (b := x.2) (B := 1048576) z.1 z.2 (by omega) hd
    have hat : atB Prod.fst l x (k + 1) = decide (x.1 ≤ (l.getD (k + 1) (0, 0)).1 * x.2) := rfl
    (repeat' (first | (refine And.intro (a := _ = true → _) (b := _ = false → _) (fun hh => ?_) (fun hh => ?_) <;> (first | simp only [decide_eq_true_eq, decide_eq_false_iff_not, Bool.or_eq_true, Bool.and_eq_true, Bool.or_eq_false_iff, Bool.and_eq_false_iff, Bool.not_eq_true', Bool.not_eq_false', ge_iff_le, gt_iff_lt] at hh | skip) <;> (first | (exfalso; omega) | (exfalso; simp [*] at hh; done) | exact absurd (by assumption) hh | (conv => whnf))) | (refine ⟨by kernel_rfl, ?_⟩; (conv => whnf)) | (refine And.intro (a := _ ∧ _) ⟨by omega, by omega⟩ ?_; (conv => whnf)) | (refine And.intro (a := _ ≤ _) (by omega) ?_; (conv => whnf)) | (refine And.intro (a := _ ≠ _) (by omega) ?_; (conv => whnf))))
    · rw [e1, g2, wi _ (by omega) (by omega)] at hh
      have hk3 : k + 1 + 1 < l.length := by
        by_cases e : k + 1 = l.length - 1
        · rw [e] at hh; omega
        · omega
      refine ⟨k + 1, ?_⟩
      (conv => whnf)
      refine ⟨⟨⟨Nat.sub_lt_sub_left (by omega) (Nat.lt_succ_self k), hk3, ?_⟩, ?_, rfl, rfl⟩, by kernel_rfl, by kernel_rfl⟩
      · intro i hi1 hi2
        by_cases e : i = k + 1
        · subst e; rw [hat]; exact decide_eq_false (by omega)
        · exact hk2 i hi1 (by omega)
      · rw [e1]
    · rw [e1, g2, wi ((l.getD (k + 1) (0, 0)).1 * x.2) (by omega) (by omega)] at hh
      rw [firstK_ix h (by omega) hk1 hk2 (by rw [hat]; exact decide_eq_true (by omega)), e1, g2]
      have g1 : l.getD (Int.toNat (k : Int)) (0, 0) = l.getD k (0, 0) := rfl
      rw [g1]
      have k1 := h.inA k (by omega)
      have k3 := h.inT k (by omega)
      have k4 := h.inT (k + 1) (by omega)
      have k5 := h.up k hk1
      have hF : atF Prod.fst Prod.snd l x k = makeF ((l.getD k (0, 0)).2 * (((l.getD (k + 1) (0, 0)).1 - (l.getD k (0, 0)).1) * x.2) + (x.1 - (l.getD k (0, 0)).1 * x.2) * ((l.getD (k + 1) (0, 0)).2 - (l.getD k (0, 0)).2)) (((l.getD (k + 1) (0, 0)).1 - (l.getD k (0, 0)).1) * x.2) := rfl
      have ba := mul_bd (a := (l.getD k (0, 0)).1) (A := 4096) (b := x.2) (B := 1048576) k1.1 k1.2 (by omega) hd
      have bt := mul_bd (a := (l.getD k (0, 0)).2) (A := 4096) (b := x.2) (B := 1048576) k3.1 k3.2 (by omega) hd
      rw [hF]
      generalize l.getD k (0, 0) = ka at *
      generalize l.getD (k + 1) (0, 0) = kb at *
      obtain ⟨a1, a2⟩ := ka
      obtain ⟨b1, b2⟩ := kb
      obtain ⟨n, d⟩ := x
      simp only [] at *
      have d1 := mul_bd (a := b1 - a1) (A := 8192) (b := d) (B := 1048576) (by omega) (by omega) (by omega) hd
      have d2 := mul_bd (a := a2) (A := 4096) (b := (b1 - a1) * d) (B := 8192 * 1048576) (by omega) (by omega) (by
        have : 0 < (b1 - a1) * d := Int.mul_pos (by omega) (by omega)
        omega) (by omega)
      have d3 := mul_bd2 (a := n - a1 * d) (A := 8589934592) (b := b2 - a2) (B := 8192) (by omega) (by omega) (by omega) (by omega)
      have m1 : a2 * d * (b1 - a1) = a2 * ((b1 - a1) * d) := by rw [Int.mul_assoc, Int.mul_comm d]
      have m2 : d * (b1 - a1) = (b1 - a1) * d := Int.mul_comm _ _
      rw [wi (b1 - a1) (by omega) (by omega), wi (b2 - a2) (by omega) (by omega), wi (a1 * d) (by omega) (by omega), wi (a2 * d) (by omega) (by omega), wi (n - a1 * d) (by omega) (by omega), m1, m2, wi (a2 * ((b1 - a1) * d)) (by omega) (by omega), wi ((b1 - a1) * d) (by omega) (by omega), wi ((n - a1 * d) * (b2 - a2)) (by omega) (by omega), wi (a2 * ((b1 - a1) * d) + (n - a1 * d) * (b2 - a2)) (by omega) (by omega)]
      have cm := pc_rmade (a2 * ((b1 - a1) * d) + (n - a1 * d) * (b2 - a2)) ((b1 - a1) * d) ⟨by omega, by omega⟩ ⟨by omega, by omega⟩
      (repeat' (first | (refine And.intro (a := _ = true → _) (b := _ = false → _) (fun hh => ?_) (fun hh => ?_) <;> (first | simp only [decide_eq_true_eq, decide_eq_false_iff_not, Bool.or_eq_true, Bool.and_eq_true, Bool.or_eq_false_iff, Bool.and_eq_false_iff, Bool.not_eq_true', Bool.not_eq_false', ge_iff_le, gt_iff_lt] at hh | skip) <;> (first | (exfalso; omega) | (exfalso; simp [*] at hh; done) | exact absurd (by assumption) hh | (conv => whnf))) | (refine ⟨by kernel_rfl, ?_⟩; (conv => whnf)) | (refine And.intro (a := _ ∧ _) ⟨by omega, by omega⟩ ?_; (conv => whnf)) | (refine And.intro (a := _ ≤ _) (by omega) ?_; (conv => whnf)) | (refine And.intro (a := _ ≠ _) (by omega) ?_; (conv => whnf)) | (refine Or.inl ?_; (conv => whnf); first | (refine ⟨_, by first | exact cm, ?_⟩; (conv => whnf)) | (refine ⟨false, ?_⟩; (conv => whnf); refine ⟨_, by first | exact cm, ?_⟩; (conv => whnf))) | (refine ⟨_, by first | exact cm, ?_⟩; (conv => whnf))))
end Go.Proofs.Try.My
