/- A helper text: contracts of functions of the program, and plain lemmas. -/
import Derived.Test.YtjkoeomndepolaaMyEx4
import Derived.Test.YtjkoeomndepolaaMyDv
set_option maxRecDepth 100000
set_option maxHeartbeats 0
set_option linter.unusedVariables false
set_option linter.unusedSimpArgs false
namespace Go.Proofs.Try.My
open Go Go.Ev

/-- How many bits a number has. -/
def lenN (x : Nat) : Nat := if x = 0 then 0 else Nat.log2 x + 1
theorem lenN_eq {x m : Nat} (h1 : 2 ^ m ≤ x) (h2 : x < 2 ^ (m + 1)) : lenN x = m + 1 := by
  have h0 : x ≠ 0 := by have := Nat.pow_pos (n := m) (show 0 < 2 by omega); omega
  unfold lenN
  rw [if_neg h0, (Nat.log2_eq_iff h0).2 ⟨h1, h2⟩]
theorem lenN_bounds {x : Nat} (h : x ≠ 0) : ∃ m, lenN x = m + 1 ∧ 2 ^ m ≤ x ∧ x < 2 ^ (m + 1) := by
  refine ⟨Nat.log2 x, by simp [lenN, h], ?_⟩
  exact (Nat.log2_eq_iff h).1 rfl
theorem lenN_shift (x k : Nat) (h : x / 2 ^ k ≠ 0) : lenN x = k + lenN (x / 2 ^ k) := by
  obtain ⟨m, e, h1, h2⟩ := lenN_bounds h
  have hk : 0 < 2 ^ k := Nat.pow_pos (by omega)
  rw [e, lenN_eq (m := m + k) (x := x)]
  · omega
  · rw [Nat.pow_add]
    exact (Nat.le_div_iff_mul_le hk).1 h1
  · have := (Nat.div_lt_iff_lt_mul hk).1 h2
    rw [show m + k + 1 = m + 1 + k by omega, Nat.pow_add]
    exact this
theorem lenN_le {x k : Nat} (h : x < 2 ^ k) : lenN x ≤ k := by
  by_cases h0 : x = 0
  · subst h0; simp [lenN]
  · obtain ⟨m, e, h1, h2⟩ := lenN_bounds h0
    have : m < k := (Nat.pow_lt_pow_iff_right (a := 2) (by omega)).1 (Nat.lt_of_le_of_lt h1 h)
    omega
theorem wrap8 (n : Nat) (h : n < 256) : IntKind.u8.wrap (n : Int) = n := by simp [IntKind.wrap, IntKind.bits, IntKind.signed]; omega
theorem shr16_u (a : Nat) : ((a : Nat) : Int).fdiv (2 ^ min (Int.toNat 16) IntKind.u64.bits) = ((a / 65536 : Nat) : Int) := shr_u a 16 (by omega)
theorem shr8_u (a : Nat) : ((a : Nat) : Int).fdiv (2 ^ min (Int.toNat 8) IntKind.u64.bits) = ((a / 256 : Nat) : Int) := shr_u a 8 (by omega)
theorem len_last {s : ByteArray} (ht : ∀ i, i < 256 → byteAt s i = lenN i) (x k i : Nat) (hi : i < 256) (hk : k ≤ 56) (hx : x < 18446744073709551616) (he : lenN x = k + lenN i) : IntKind.i64.wrap ((k : Int) + IntKind.i64.wrap (byteAt s i)) = lenN x := by
  have : lenN i ≤ 8 := lenN_le hi
  rw [ht i hi, wi (lenN i : Int) (by omega) (by omega), wi _ (by omega) (by omega), he]
  omega
theorem pc_Len64 (x : Nat) (hx : x < 18446744073709551616) : PC Try.prog 168 [u64 x] (i64 (lenN x)) := by
  have s32 : x / 4294967296 ≠ 0 → lenN x = 32 + lenN (x / 4294967296) := lenN_shift x 32
  have s16 : ∀ y, y / 65536 ≠ 0 → lenN y = 16 + lenN (y / 65536) := fun y => lenN_shift y 16
  have s8 : ∀ y, y / 256 ≠ 0 → lenN y = 8 + lenN (y / 256) := fun y => lenN_shift y 8
  refine pc_of_body hm Try.func168 (by kernel_rfl) ?_
  conv => whnf
  (repeat' (first | (refine And.intro (a := _ = true → _) (b := _ = false → _) (fun hh => ?_) (fun hh => ?_) <;> (first | simp only [decide_eq_true_eq, decide_eq_false_iff_not, Bool.or_eq_true, Bool.and_eq_true, Bool.or_eq_false_iff, Bool.and_eq_false_iff, Bool.not_eq_true', Bool.not_eq_false', ge_iff_le, gt_iff_lt] at hh | skip) <;> (first | (exfalso; omega) | (exfalso; simp [*] at hh; done) | (exfalso; revert hh; decide) | exact absurd (by assumption) hh | (conv => whnf))) | (refine ⟨by kernel_rfl, ?_⟩; (conv => whnf)) | (refine And.intro (a := _ ∧ _) ⟨by omega, by omega⟩ ?_; (conv => whnf)) | (refine And.intro (a := _ ∧ _) ⟨by decide, by decide⟩ ?_; (conv => whnf)) | (refine And.intro (a := _ ≤ _) (by omega) ?_; (conv => whnf)) | (refine And.intro (a := _ ≠ _) (by omega) ?_; (conv => whnf))))
  all_goals
    generalize hs : (ByteArray.mk _) = s
    have h1 : s.size = 256 := by subst hs; kernel_rfl
    have h2 : ∀ i, i < 256 → byteAt s i = lenN i := by subst hs; decide +kernel
    clear hs
    simp only [shr32_u, shr16_u, shr8_u] at *
    rw [wrap8 _ (by omega)]
    refine ⟨⟨by omega, by omega⟩, ?_⟩
    (conv => whnf)
    rw [Int.toNat_natCast]
    congr 1
  · refine len_last h2 x 56 _ (by omega) (by omega) hx ?_
    rw [s32 (by omega), s16 _ (by omega), s8 _ (by omega)]; omega
  · refine len_last h2 x 48 _ (by omega) (by omega) hx ?_
    rw [s32 (by omega), s16 _ (by omega)]; omega
  · refine len_last h2 x 40 _ (by omega) (by omega) hx ?_
    rw [s32 (by omega), s8 _ (by omega)]; omega
  · refine len_last h2 x 32 _ (by omega) (by omega) hx ?_
    rw [s32 (by omega)]
  · refine len_last h2 x 24 _ (by omega) (by omega) hx ?_
    rw [s16 _ (by omega), s8 _ (by omega)]; omega
  · refine len_last h2 x 16 _ (by omega) (by omega) hx ?_
    rw [s16 _ (by omega)]
  · refine len_last h2 x 8 _ (by omega) (by omega) hx ?_
    rw [s8 _ (by omega)]
  · refine len_last h2 x 0 _ (by omega) (by omega) hx ?_
    omega
theorem pc_LeadingZeros64 (x : Nat) (hx : x < 18446744073709551616) : PC Try.prog 166 [u64 x] (i64 (64 - lenN x : Nat)) := by
  have h := lenN_le (x := x) (k := 64) hx
  refine pc_of_body hm Try.func166 (by kernel_rfl) ?_
  conv => whnf
  (repeat' (first | (refine And.intro (a := _ = true → _) (b := _ = false → _) (fun hh => ?_) (fun hh => ?_) <;> (first | simp only [decide_eq_true_eq, decide_eq_false_iff_not, Bool.or_eq_true, Bool.and_eq_true, Bool.or_eq_false_iff, Bool.and_eq_false_iff, Bool.not_eq_true', Bool.not_eq_false', ge_iff_le, gt_iff_lt] at hh | skip) <;> (first | (exfalso; omega) | (exfalso; simp [*] at hh; done) | (exfalso; revert hh; decide) | exact absurd (by assumption) hh | (conv => whnf))) | (refine ⟨by kernel_rfl, ?_⟩; (conv => whnf)) | (refine And.intro (a := _ ∧ _) ⟨by omega, by omega⟩ ?_; (conv => whnf)) | (refine And.intro (a := _ ∧ _) ⟨by decide, by decide⟩ ?_; (conv => whnf)) | (refine And.intro (a := _ ≤ _) (by omega) ?_; (conv => whnf)) | (refine And.intro (a := _ ≠ _) (by omega) ?_; (conv => whnf)) | (refine Or.inl ?_; (conv => whnf); first | (refine ⟨_, by first | exact pc_Len64 x hx, ?_⟩; (conv => whnf)) | (refine ⟨false, ?_⟩; (conv => whnf); refine ⟨_, by first | exact pc_Len64 x hx, ?_⟩; (conv => whnf))) | (refine ⟨_, by first | exact pc_Len64 x hx, ?_⟩; (conv => whnf))))
  rw [wi _ (by omega) (by omega)]
  congr 1
  omega
end Go.Proofs.Try.My
