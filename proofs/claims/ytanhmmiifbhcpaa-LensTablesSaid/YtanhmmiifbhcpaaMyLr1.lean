/- A helper text: contracts of functions of the program, and plain lemmas. -/
import Derived.Test.YtanhmmiifbhcpaaMyLt3
set_option maxRecDepth 100000
set_option maxHeartbeats 0
set_option linter.unusedVariables false
set_option linter.unusedSimpArgs false
namespace Go.Proofs.Try.My
open Go Go.Ev

theorem pc_ValidKnots (l : List (Int × Int)) (hl : l.length < 2 ^ 39) : PC Try.prog 43 [frs l] (.bool (knotsB l)) := by
  refine pc_of_body hm Try.func43 (by kernel_rfl) ?_
  conv => whnf
  (repeat' (first | (refine And.intro (a := _ = true → _) (b := _ = false → _) (fun hh => ?_) (fun hh => ?_) <;> (first | simp only [decide_eq_true_eq, decide_eq_false_iff_not, Bool.or_eq_true, Bool.and_eq_true, Bool.or_eq_false_iff, Bool.and_eq_false_iff, Bool.not_eq_true', Bool.not_eq_false', ge_iff_le, gt_iff_lt] at hh | skip) <;> (first | (exfalso; omega) | (exfalso; simp [*] at hh; done) | exact absurd (by assumption) hh | (conv => whnf))) | (refine ⟨by kernel_rfl, ?_⟩; (conv => whnf)) | (refine And.intro (a := _ ∧ _) ⟨by omega, by omega⟩ ?_; (conv => whnf)) | (refine And.intro (a := _ ≤ _) (by omega) ?_; (conv => whnf)) | (refine And.intro (a := _ ≠ _) (by omega) ?_; (conv => whnf))))
  · rw [knots_len (by omega)]
  · rw [knots_len (by omega)]
  rename_i h2
  refine Or.inr ⟨Nat, [3], [], [], fun k => [i64 k], fun _ => [], fun _ => [], fun k => l.length - k, fun k => k ≤ l.length ∧ ∀ i, i < k → okK l i = true, ?_⟩
  (conv => whnf)
  refine ⟨⟨0, ?_⟩, ?_⟩
  · (conv => whnf)

    exact ⟨⟨by simp, rfl, rfl, rfl⟩, by kernel_rfl, by kernel_rfl⟩
  · intro k hk
    (conv => whnf)
    refine ⟨fun h => ?_, fun h => ?_⟩
    · have h := of_decide_eq_true h
      (conv => whnf)
      have hg : l.getD (Int.toNat (k : Int)) (0, 0) = l.getD k (0, 0) := rfl
      have bad : ¬ okK l k = true → knotsB l = false := knots_bad (by omega)
      have good : okK l k = true → ∀ i, i < k + 1 → okK l i = true := fun h i hi => by
        by_cases e : i = k
        · subst e; exact h
        · exact hk.2 i (by omega)
      rw [okK_iff] at bad good
      have hg1 : 0 < k → IntKind.i64.wrap ((k : Int) - 1) = ((k - 1 : Nat) : Int) := fun h => by
        rw [wi _ (by omega) (by omega)]
        omega
      have hg2 : 0 < k → l.getD (Int.toNat (IntKind.i64.wrap ((k : Int) - 1))) (0, 0) = l.getD (k - 1) (0, 0) := fun h => by rw [hg1 h]; rfl
      have c1 := pc_within (l.getD k (0, 0)).1 (-4096) 4096
      have c2 := pc_within (l.getD k (0, 0)).2 (-4096) 4096
      have wB : ∀ n : Int, withB n (-4096) 4096 = true ↔ -4096 ≤ n ∧ n ≤ 4096 := fun n => by simp only [withB, Bool.and_eq_true, decide_eq_true_eq]
      have wF : ∀ n : Int, withB n (-4096) 4096 = false → ¬ (-4096 ≤ n ∧ n ≤ 4096) := fun n h e => by rw [(wB n).2 e] at h; cases h
      (repeat' (first | (refine And.intro (a := _ = true → _) (b := _ = false → _) (fun hh => ?_) (fun hh => ?_) <;> (first | simp only [decide_eq_true_eq, decide_eq_false_iff_not, Bool.or_eq_true, Bool.and_eq_true, Bool.or_eq_false_iff, Bool.and_eq_false_iff, Bool.not_eq_true', Bool.not_eq_false', ge_iff_le, gt_iff_lt] at hh | skip) <;> (first | (exfalso; omega) | (exfalso; simp [*] at hh; done) | exact absurd (by assumption) hh | (conv => whnf))) | (refine ⟨by kernel_rfl, ?_⟩; (conv => whnf)) | (refine And.intro (a := _ ∧ _) ⟨by omega, by omega⟩ ?_; (conv => whnf)) | (refine And.intro (a := _ ≤ _) (by omega) ?_; (conv => whnf)) | (refine And.intro (a := _ ≠ _) (by omega) ?_; (conv => whnf)) | (refine Or.inl ?_; (conv => whnf); first | (refine ⟨_, by first | exact c1 | exact c2, ?_⟩; (conv => whnf)) | (refine ⟨false, ?_⟩; (conv => whnf); refine ⟨_, by first | exact c1 | exact c2, ?_⟩; (conv => whnf))) | (refine ⟨_, by first | exact c1 | exact c2, ?_⟩; (conv => whnf))))
      · rw [bad (fun hb => wF _ hh ⟨hb.1, hb.2.1⟩)]
      · rw [bad (fun hb => wF _ hh ⟨hb.2.2.1, hb.2.2.2.1⟩)]
      · rw [hg2 (by omega), hg] at hh
        rw [bad (fun hb => by omega)]
      · rw [hg2 (by omega), hg] at hh
        rw [bad (fun hb => by omega)]
      · rename_i g1 g2 g3 g4
        rw [hg2 (by omega), hg] at hh g4
        rw [wB] at g1 g2
        refine ⟨k + 1, ?_⟩
        (conv => whnf)
        refine ⟨⟨⟨Nat.sub_lt_sub_left (by omega) (Nat.lt_succ_self k), by omega, good ⟨g1.1, g1.2, g2.1, g2.2, .inr ⟨by omega, by omega⟩⟩⟩, ?_, rfl, rfl⟩, by kernel_rfl, by kernel_rfl⟩
        rw [w64 _ (by omega) (by omega)]; rfl
      · rename_i g1 g2
        rw [wB] at g1 g2
        refine ⟨k + 1, ?_⟩
        (conv => whnf)
        refine ⟨⟨⟨Nat.sub_lt_sub_left (by omega) (Nat.lt_succ_self k), by omega, good ⟨g1.1, g1.2, g2.1, g2.2, .inl (by omega)⟩⟩, ?_, rfl, rfl⟩, by kernel_rfl, by kernel_rfl⟩
        rw [w64 _ (by omega) (by omega)]; rfl
    · have h := of_decide_eq_false h
      (conv => whnf)
      (repeat' (first | (refine And.intro (a := _ = true → _) (b := _ = false → _) (fun hh => ?_) (fun hh => ?_) <;> (first | simp only [decide_eq_true_eq, decide_eq_false_iff_not, Bool.or_eq_true, Bool.and_eq_true, Bool.or_eq_false_iff, Bool.and_eq_false_iff, Bool.not_eq_true', Bool.not_eq_false', ge_iff_le, gt_iff_lt] at hh | skip) <;> (first | (exfalso; omega) | (exfalso; simp [*] at hh; done) | exact absurd (by assumption) hh | (conv => whnf))) | (refine ⟨by kernel_rfl, ?_⟩; (conv => whnf)) | (refine And.intro (a := _ ∧ _) ⟨by omega, by omega⟩ ?_; (conv => whnf)) | (refine And.intro (a := _ ≤ _) (by omega) ?_; (conv => whnf)) | (refine And.intro (a := _ ≠ _) (by omega) ?_; (conv => whnf))))
      rw [knots_good (by omega) (by omega) fun i hi => hk.2 i (by omega)]
end Go.Proofs.Try.My
