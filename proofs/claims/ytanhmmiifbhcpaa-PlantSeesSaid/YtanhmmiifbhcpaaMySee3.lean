/- A helper text: contracts of functions of the program, and plain lemmas. -/
import Derived.Test.YtanhmmiifbhcpaaMySee2
import Derived.Test.YtanhmmiifbhcpaaMySame
set_option maxRecDepth 100000
set_option maxHeartbeats 0
set_option linter.unusedVariables false
set_option linter.unusedSimpArgs false
namespace Go.Proofs.Try.My
open Go Go.Ev
theorem pc_PlantSees (p n : List Int) : PC Try.prog 7 [ints p, ints n] (.bool true) := by
  by_cases hl : p.length ≤ 100 ∧ n.length ≤ 100
  rotate_left
  · refine pc_of_body hm Try.func7 (by kernel_rfl) ?_
    conv => whnf
    (repeat' (first | (refine And.intro (a := _ = true → _) (b := _ = false → _) (fun hh => ?_) (fun hh => ?_) <;> (first | simp only [decide_eq_true_eq, decide_eq_false_iff_not, Bool.or_eq_true, Bool.and_eq_true, Bool.or_eq_false_iff, Bool.and_eq_false_iff, Bool.not_eq_true', Bool.not_eq_false', ge_iff_le, gt_iff_lt] at hh | skip) <;> (first | (exfalso; omega) | (exfalso; simp [*] at hh; done) | exact absurd (by assumption) hh | (conv => whnf))) | (refine ⟨by kernel_rfl, ?_⟩; (conv => whnf)) | (refine And.intro (a := _ ∧ _) ⟨by omega, by omega⟩ ?_; (conv => whnf)) | (refine And.intro (a := _ ≤ _) (by omega) ?_; (conv => whnf)) | (refine And.intro (a := _ ≠ _) (by omega) ?_; (conv => whnf))))
  have h1 : p.length < 2 ^ 40 := by omega
  have h2 : n.length < 2 ^ 40 := by omega
  by_cases ho : obsOk p n
  · have t1 := pw_Observe p n ho
    have t2 := pc_Observe11 p n h1 h2 ho
    have hsl := seenL_length p n
    generalize seenL p n = s at t1 t2 hsl
    refine pc_of_body hm Try.func7 (by kernel_rfl) ?_
    conv => whnf
    (repeat' (first | (refine And.intro (a := _ = true → _) (b := _ = false → _) (fun hh => ?_) (fun hh => ?_) <;> (first | simp only [decide_eq_true_eq, decide_eq_false_iff_not, Bool.or_eq_true, Bool.and_eq_true, Bool.or_eq_false_iff, Bool.and_eq_false_iff, Bool.not_eq_true', Bool.not_eq_false', ge_iff_le, gt_iff_lt] at hh | skip) <;> (first | (exfalso; omega) | (exfalso; simp [*] at hh; done) | exact absurd (by assumption) hh | (conv => whnf))) | (refine ⟨by kernel_rfl, ?_⟩; (conv => whnf)) | (refine And.intro (a := _ ∧ _) ⟨by omega, by omega⟩ ?_; (conv => whnf)) | (refine And.intro (a := _ ≤ _) (by omega) ?_; (conv => whnf)) | (refine And.intro (a := _ ≠ _) (by omega) ?_; (conv => whnf))))
    refine ⟨⟨Int, 1, 0, eI, []⟩, p, rfl, ⟨rfl, rfl⟩, rfl, ?_, ?_, fun y _ => ⟨rfl, rfl, rfl⟩, ?_⟩
    · show (0 + p.length) * 8 ≤ _; omega
    · show 0 + p.length ≤ _; omega
    (conv => whnf)
    refine Or.inr ⟨[22], [26], by kernel_rfl, ?_⟩
    (conv => whnf)
    refine ⟨[], _, _, _, _, ⟨t1, rfl, rfl, by kernel_rfl⟩, ?_⟩
    (conv => whnf)
    (repeat' (first | (refine And.intro (a := _ = true → _) (b := _ = false → _) (fun hh => ?_) (fun hh => ?_) <;> (first | simp only [decide_eq_true_eq, decide_eq_false_iff_not, Bool.or_eq_true, Bool.and_eq_true, Bool.or_eq_false_iff, Bool.and_eq_false_iff, Bool.not_eq_true', Bool.not_eq_false', ge_iff_le, gt_iff_lt] at hh | skip) <;> (first | (exfalso; omega) | (exfalso; simp [*] at hh; done) | exact absurd (by assumption) hh | (conv => whnf))) | (refine ⟨by kernel_rfl, ?_⟩; (conv => whnf)) | (refine And.intro (a := _ ∧ _) ⟨by omega, by omega⟩ ?_; (conv => whnf)) | (refine And.intro (a := _ ≤ _) (by omega) ?_; (conv => whnf)) | (refine And.intro (a := _ ≠ _) (by omega) ?_; (conv => whnf)) | (refine Or.inl ?_; (conv => whnf); first | (refine ⟨_, by first | exact t2 | exact pc_Same s (by omega), ?_⟩; (conv => whnf)) | (refine ⟨false, ?_⟩; (conv => whnf); refine ⟨_, by first | exact t2 | exact pc_Same s (by omega), ?_⟩; (conv => whnf))) | (refine ⟨_, by first | exact t2 | exact pc_Same s (by omega), ?_⟩; (conv => whnf))))
    refine Or.inr ⟨Nat, [45], [26], [], fun k => [i64 k], fun k => [.vec 3 1 0 eI (mixL s (fun _ => -7) k)], fun _ => [], fun k => s.length - k, fun k => k ≤ s.length, ?_⟩
    (conv => whnf)
    refine ⟨⟨0, ?_⟩, ?_⟩
    · (conv => whnf)
      refine ⟨⟨Nat.zero_le _, rfl, ?_, rfl⟩, by kernel_rfl, by kernel_rfl⟩
      show [Row.vec 3 1 0 eI s] = [Row.vec 3 1 0 eI (mixL s (fun _ => -7) 0)]
      rw [mixL_zero]
    · intro k hk
      (conv => whnf)
      refine ⟨fun h => ?_, fun h => ?_⟩
      · have h := of_decide_eq_true h
        (conv => whnf)
        refine ⟨⟨by omega, by rw [mixL_length]; omega⟩, ?_⟩
        (conv => whnf)
        refine ⟨-7, rfl, by rw [mixL_length]; omega, ?_⟩
        (conv => whnf)
        refine ⟨k + 1, ?_⟩
        (conv => whnf)
        refine ⟨⟨⟨Nat.sub_lt_sub_left (by omega) (Nat.lt_succ_self k), by omega⟩, ?_, ?_, rfl⟩, by kernel_rfl, by kernel_rfl⟩
        · rw [w64 _ (by omega) (by omega)]; rfl
        · show [Row.vec _ 1 0 eI ((mixL s (fun _ => -7) k).set k (-7))] = _
          rw [show (mixL s (fun _ => -7) k).set k (-7) = mixL s (fun _ => -7) (k + 1) from mixL_succ s (fun _ => -7) k]
      · have h := of_decide_eq_false h
        (conv => whnf)
        (repeat' (first | (refine And.intro (a := _ = true → _) (b := _ = false → _) (fun hh => ?_) (fun hh => ?_) <;> (first | simp only [decide_eq_true_eq, decide_eq_false_iff_not, Bool.or_eq_true, Bool.and_eq_true, Bool.or_eq_false_iff, Bool.and_eq_false_iff, Bool.not_eq_true', Bool.not_eq_false', ge_iff_le, gt_iff_lt] at hh | skip) <;> (first | (exfalso; omega) | (exfalso; simp [*] at hh; done) | exact absurd (by assumption) hh | (conv => whnf))) | (refine ⟨by kernel_rfl, ?_⟩; (conv => whnf)) | (refine And.intro (a := _ ∧ _) ⟨by omega, by omega⟩ ?_; (conv => whnf)) | (refine And.intro (a := _ ≤ _) (by omega) ?_; (conv => whnf)) | (refine And.intro (a := _ ≠ _) (by omega) ?_; (conv => whnf)) | (refine Or.inl ?_; (conv => whnf); first | (refine ⟨_, by first | exact pc_Same p h1, ?_⟩; (conv => whnf)) | (refine ⟨false, ?_⟩; (conv => whnf); refine ⟨_, by first | exact pc_Same p h1, ?_⟩; (conv => whnf))) | (refine ⟨_, by first | exact pc_Same p h1, ?_⟩; (conv => whnf))))
  · have t1 := pc_Observe_bad p n h1 h2 ho
    have t2 := pc_Observe11_bad p n h1 h2 ho
    generalize (if profB p = true then (2 : Int) else 50) = c at t1 t2
    refine pc_of_body hm Try.func7 (by kernel_rfl) ?_
    conv => whnf
    (repeat' (first | (refine And.intro (a := _ = true → _) (b := _ = false → _) (fun hh => ?_) (fun hh => ?_) <;> (first | simp only [decide_eq_true_eq, decide_eq_false_iff_not, Bool.or_eq_true, Bool.and_eq_true, Bool.or_eq_false_iff, Bool.and_eq_false_iff, Bool.not_eq_true', Bool.not_eq_false', ge_iff_le, gt_iff_lt] at hh | skip) <;> (first | (exfalso; omega) | (exfalso; simp [*] at hh; done) | exact absurd (by assumption) hh | (conv => whnf))) | (refine ⟨by kernel_rfl, ?_⟩; (conv => whnf)) | (refine And.intro (a := _ ∧ _) ⟨by omega, by omega⟩ ?_; (conv => whnf)) | (refine And.intro (a := _ ≤ _) (by omega) ?_; (conv => whnf)) | (refine And.intro (a := _ ≠ _) (by omega) ?_; (conv => whnf))))
    refine ⟨⟨Int, 1, 0, eI, []⟩, p, rfl, ⟨rfl, rfl⟩, rfl, ?_, ?_, fun y _ => ⟨rfl, rfl, rfl⟩, ?_⟩
    · show (0 + p.length) * 8 ≤ _; omega
    · show 0 + p.length ≤ _; omega
    (conv => whnf)
    (first | (refine Or.inl ?_; (conv => whnf); refine ⟨true, ?_⟩) | refine ⟨true, ?_⟩)
    (conv => whnf)
    (repeat' (first | (refine And.intro (a := _ = true → _) (b := _ = false → _) (fun hh => ?_) (fun hh => ?_) <;> (first | simp only [decide_eq_true_eq, decide_eq_false_iff_not, Bool.or_eq_true, Bool.and_eq_true, Bool.or_eq_false_iff, Bool.and_eq_false_iff, Bool.not_eq_true', Bool.not_eq_false', ge_iff_le, gt_iff_lt] at hh | skip) <;> (first | (exfalso; omega) | (exfalso; simp [*] at hh; done) | exact absurd (by assumption) hh | (conv => whnf))) | (refine ⟨by kernel_rfl, ?_⟩; (conv => whnf)) | (refine And.intro (a := _ ∧ _) ⟨by omega, by omega⟩ ?_; (conv => whnf)) | (refine And.intro (a := _ ≤ _) (by omega) ?_; (conv => whnf)) | (refine And.intro (a := _ ≠ _) (by omega) ?_; (conv => whnf)) | (refine Or.inl ?_; (conv => whnf); first | (refine ⟨_, by first | exact t1 | exact t2 | exact pc_SameInts_nils | exact pc_Same p h1, ?_⟩; (conv => whnf)) | (refine ⟨false, ?_⟩; (conv => whnf); refine ⟨_, by first | exact t1 | exact t2 | exact pc_SameInts_nils | exact pc_Same p h1, ?_⟩; (conv => whnf))) | (refine ⟨_, by first | exact t1 | exact t2 | exact pc_SameInts_nils | exact pc_Same p h1, ?_⟩; (conv => whnf))))
    refine Or.inl ⟨2, ?_⟩
    (conv => whnf)
    (repeat' (first | (refine And.intro (a := _ = true → _) (b := _ = false → _) (fun hh => ?_) (fun hh => ?_) <;> (first | simp only [decide_eq_true_eq, decide_eq_false_iff_not, Bool.or_eq_true, Bool.and_eq_true, Bool.or_eq_false_iff, Bool.and_eq_false_iff, Bool.not_eq_true', Bool.not_eq_false', ge_iff_le, gt_iff_lt] at hh | skip) <;> (first | (exfalso; omega) | (exfalso; simp [*] at hh; done) | exact absurd (by assumption) hh | (conv => whnf))) | (refine ⟨by kernel_rfl, ?_⟩; (conv => whnf)) | (refine And.intro (a := _ ∧ _) ⟨by omega, by omega⟩ ?_; (conv => whnf)) | (refine And.intro (a := _ ≤ _) (by omega) ?_; (conv => whnf)) | (refine And.intro (a := _ ≠ _) (by omega) ?_; (conv => whnf)) | (refine Or.inl ?_; (conv => whnf); first | (refine ⟨_, by first | exact pc_Same p h1, ?_⟩; (conv => whnf)) | (refine ⟨false, ?_⟩; (conv => whnf); refine ⟨_, by first | exact pc_Same p h1, ?_⟩; (conv => whnf))) | (refine ⟨_, by first | exact pc_Same p h1, ?_⟩; (conv => whnf))))
    all_goals skip
end Go.Proofs.Try.My
