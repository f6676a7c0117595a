/- A helper text: contracts of functions of the program, and plain lemmas. -/
import Derived.Test.YtanhmmiifbhcpaaMyStripes5
set_option maxRecDepth 100000
set_option maxHeartbeats 0
namespace Go.Proofs.Try.My
open Go Go.Ev

theorem pc_SameInts_nils : PC Try.prog 12 [.nils, .nils] (.bool true) := by
  have h := pc_SameInts [] [] (by simp) (by simp)
  have e : decide (([] : List Int) = []) = true := rfl
  rw [e] at h
  refine h.sub rfl (fun i hi => ?_) (.refl _)
  match i, hi with
  | 0, _ => exact .nils 1 0 eI
  | 1, _ => exact .nils 1 0 eI
theorem pc_LensStripes (k : Int) (on off : List Int) (noise : Int) : PC Try.prog 3 [i64 k, ints on, ints off, i64 noise] (.bool true) := by
  by_cases hl : on.length ≤ 50 ∧ off.length ≤ 50
  rotate_left
  · refine pc_of_body hm Try.func3 (by kernel_rfl) ?_
    conv => whnf
    (repeat' (first | (refine And.intro (a := _ = true → _) (b := _ = false → _) (fun hh => ?_) (fun hh => ?_) <;> (first | simp only [decide_eq_true_eq, decide_eq_false_iff_not, Bool.or_eq_true, Bool.and_eq_true, Bool.or_eq_false_iff, Bool.and_eq_false_iff, Bool.not_eq_true', Bool.not_eq_false', ge_iff_le, gt_iff_lt] at hh | skip) <;> (first | (exfalso; omega) | (exfalso; simp [*] at hh; done) | exact absurd (by assumption) hh | (conv => whnf))) | (refine ⟨by kernel_rfl, ?_⟩; (conv => whnf)) | (refine And.intro (a := _ ∧ _) ⟨by omega, by omega⟩ ?_; (conv => whnf)) | (refine And.intro (a := _ ≤ _) (by omega) ?_; (conv => whnf)) | (refine And.intro (a := _ ≠ _) (by omega) ?_; (conv => whnf))))
  have h1 : on.length < 2 ^ 40 := by omega
  have h2 : off.length < 2 ^ 40 := by omega
  have g1 : (if outB 0 255 k = true then (0 : Int) else grayF k) = if withB k 0 255 = true then codeF k else 0 := by
    rw [out_within]
    cases hw : withB k 0 255
    · rfl
    · exact gray_code k hw
  have g2 : (if outB 0 255 k = true then (2 : Int) else 0) = if withB k 0 255 = true then 0 else 2 := by
    rw [out_within]
    cases hw : withB k 0 255 <;> rfl
  have s1 := pc_lensGray k
  rw [g1, g2] at s1
  have s2 := pc_refGray k
  generalize (if withB k 0 255 = true then codeF k else 0) = x at s1 s2
  generalize (if withB k 0 255 = true then (0 : Int) else 2) = e at s1 s2
  have s3 := pc_SameInts on on h1 h1
  rw [show decide (on = on) = true by simp] at s3
  by_cases hb : stripesOk on off noise
  · have t1 := pc_lensStripes on off noise h1 h2 hb
    have t2 := pc_refStripes on off noise h1 h2 hb
    have b7 : 0 ≤ noise ∧ noise ≤ 64 := by have := hb.2.2.2.2.2; simp [outB] at this; omega
    have hp : 2 ^ on.length ≤ 2 ^ 8 := Nat.pow_le_pow_right (by omega) hb.2.1
    rw [outF_refF on off noise b7.1 _ (by omega)] at t1
    have hlen := refF_len on off noise (2 ^ on.length)
    generalize refF on off noise (2 ^ on.length) = l at t1 t2 hlen
    have s4 := pc_SameInts l l (by omega) (by omega)
    rw [show decide (l = l) = true by simp] at s4
    refine pc_of_body hm Try.func3 (by kernel_rfl) ?_
    conv => whnf
    (repeat' (first | (refine And.intro (a := _ = true → _) (b := _ = false → _) (fun hh => ?_) (fun hh => ?_) <;> (first | simp only [decide_eq_true_eq, decide_eq_false_iff_not, Bool.or_eq_true, Bool.and_eq_true, Bool.or_eq_false_iff, Bool.and_eq_false_iff, Bool.not_eq_true', Bool.not_eq_false', ge_iff_le, gt_iff_lt] at hh | skip) <;> (first | (exfalso; omega) | (exfalso; simp [*] at hh; done) | exact absurd (by assumption) hh | (conv => whnf))) | (refine ⟨by kernel_rfl, ?_⟩; (conv => whnf)) | (refine And.intro (a := _ ∧ _) ⟨by omega, by omega⟩ ?_; (conv => whnf)) | (refine And.intro (a := _ ≤ _) (by omega) ?_; (conv => whnf)) | (refine And.intro (a := _ ≠ _) (by omega) ?_; (conv => whnf))))
    refine ⟨⟨Int, 1, 0, eI, []⟩, on, rfl, ⟨rfl, rfl⟩, rfl, ?_, ?_, fun y _ => ⟨rfl, rfl, rfl⟩, ?_⟩
    · show (0 + on.length) * 8 ≤ _; omega
    · show 0 + on.length ≤ _; omega
    (conv => whnf)
    refine ⟨_, s1, ?_⟩
    (conv => whnf)
    refine ⟨_, s2, ?_⟩
    (conv => whnf)
    refine ⟨true, ?_⟩
    (conv => whnf)
    refine ⟨_, t1, ?_⟩
    (conv => whnf)
    refine ⟨_, t2, ?_⟩
    (conv => whnf)
    (repeat' (first | (refine And.intro (a := _ = true → _) (b := _ = false → _) (fun hh => ?_) (fun hh => ?_) <;> (first | simp only [decide_eq_true_eq, decide_eq_false_iff_not, Bool.or_eq_true, Bool.and_eq_true, Bool.or_eq_false_iff, Bool.and_eq_false_iff, Bool.not_eq_true', Bool.not_eq_false', ge_iff_le, gt_iff_lt] at hh | skip) <;> (first | (exfalso; omega) | (exfalso; simp [*] at hh; done) | exact absurd (by assumption) hh | (conv => whnf))) | (refine ⟨by kernel_rfl, ?_⟩; (conv => whnf)) | (refine And.intro (a := _ ∧ _) ⟨by omega, by omega⟩ ?_; (conv => whnf)) | (refine And.intro (a := _ ≤ _) (by omega) ?_; (conv => whnf)) | (refine And.intro (a := _ ≠ _) (by omega) ?_; (conv => whnf)) | (refine ⟨_, by first | exact s3 | exact s4, ?_⟩; (conv => whnf)) | (refine ⟨false, ?_⟩; (conv => whnf))))
  · have t1 := pc_lensStripes_bad on off noise h1 h2 hb
    have t2 := pc_refStripes_bad on off noise h1 h2 hb
    refine pc_of_body hm Try.func3 (by kernel_rfl) ?_
    conv => whnf
    (repeat' (first | (refine And.intro (a := _ = true → _) (b := _ = false → _) (fun hh => ?_) (fun hh => ?_) <;> (first | simp only [decide_eq_true_eq, decide_eq_false_iff_not, Bool.or_eq_true, Bool.and_eq_true, Bool.or_eq_false_iff, Bool.and_eq_false_iff, Bool.not_eq_true', Bool.not_eq_false', ge_iff_le, gt_iff_lt] at hh | skip) <;> (first | (exfalso; omega) | (exfalso; simp [*] at hh; done) | exact absurd (by assumption) hh | (conv => whnf))) | (refine ⟨by kernel_rfl, ?_⟩; (conv => whnf)) | (refine And.intro (a := _ ∧ _) ⟨by omega, by omega⟩ ?_; (conv => whnf)) | (refine And.intro (a := _ ≤ _) (by omega) ?_; (conv => whnf)) | (refine And.intro (a := _ ≠ _) (by omega) ?_; (conv => whnf))))
    refine ⟨⟨Int, 1, 0, eI, []⟩, on, rfl, ⟨rfl, rfl⟩, rfl, ?_, ?_, fun y _ => ⟨rfl, rfl, rfl⟩, ?_⟩
    · show (0 + on.length) * 8 ≤ _; omega
    · show 0 + on.length ≤ _; omega
    (conv => whnf)
    refine ⟨_, s1, ?_⟩
    (conv => whnf)
    refine ⟨_, s2, ?_⟩
    (conv => whnf)
    refine ⟨true, ?_⟩
    (conv => whnf)
    refine ⟨_, t1, ?_⟩
    (conv => whnf)
    refine ⟨_, t2, ?_⟩
    (conv => whnf)
    (repeat' (first | (refine And.intro (a := _ = true → _) (b := _ = false → _) (fun hh => ?_) (fun hh => ?_) <;> (first | simp only [decide_eq_true_eq, decide_eq_false_iff_not, Bool.or_eq_true, Bool.and_eq_true, Bool.or_eq_false_iff, Bool.and_eq_false_iff, Bool.not_eq_true', Bool.not_eq_false', ge_iff_le, gt_iff_lt] at hh | skip) <;> (first | (exfalso; omega) | (exfalso; simp [*] at hh; done) | exact absurd (by assumption) hh | (conv => whnf))) | (refine ⟨by kernel_rfl, ?_⟩; (conv => whnf)) | (refine And.intro (a := _ ∧ _) ⟨by omega, by omega⟩ ?_; (conv => whnf)) | (refine And.intro (a := _ ≤ _) (by omega) ?_; (conv => whnf)) | (refine And.intro (a := _ ≠ _) (by omega) ?_; (conv => whnf)) | (refine ⟨_, by first | exact s3 | exact pc_SameInts_nils, ?_⟩; (conv => whnf)) | (refine ⟨false, ?_⟩; (conv => whnf))))
end Go.Proofs.Try.My
