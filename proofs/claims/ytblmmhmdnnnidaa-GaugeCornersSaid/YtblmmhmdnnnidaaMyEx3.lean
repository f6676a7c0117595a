/- A helper text: contracts of functions of the program, and plain lemmas. -/
import Derived.Test.YtblmmhmdnnnidaaEvSix
import Derived.Test.YtblmmhmdnnnidaaMyEx2
set_option maxRecDepth 100000
set_option maxHeartbeats 0
set_option linter.unusedVariables false
set_option linter.unusedSimpArgs false
namespace Go.Proofs.Try.My
open Go Go.Ev

/-- Spans. -/
abbrev SpT : Type := (Int × Int) × (Int × Int)
abbrev sp (s : SpT) : AV := .agg [i64 s.1.1, i64 s.1.2, i64 s.2.1, i64 s.2.2]
abbrev eS (s : SpT) : List AV := [i64 s.1.1, i64 s.1.2, i64 s.2.1, i64 s.2.2]
abbrev sps (l : List SpT) : AV := .sl 4 (((0 : Int), (0 : Int)), ((0 : Int), (0 : Int))) eS l
def spanB (s : SpT) : Bool := validB s.1 && validB s.2 && decide (cmpF s.1 s.2 ≤ 0)
theorem pc_spans (l : List SpT) (hl : l.length < 2 ^ 40) : PC Try.prog 122 [sps l] (.bool (l.all spanB)) := by
  refine pc_of_bodyF hm Try.func122 (by kernel_rfl) ?_
  conv => whnf
  refine Or.inr ⟨Nat, [7], [], [], fun k => [i64 k], fun _ => [], fun _ => [], fun k => l.length - k, fun k => k ≤ l.length ∧ ∀ i, i < k → spanB (l.getD i ((0, 0), (0, 0))) = true, ?_⟩
  (conv => whnf)
  refine ⟨⟨0, ?_⟩, ?_⟩
  · (conv => whnf)
    exact ⟨⟨by simp, rfl, rfl, rfl⟩, by kernel_rfl, by kernel_rfl⟩
  · intro k hk
    (conv => whnf)
    refine ⟨fun h => ?_, fun h => ?_⟩
    · have h := of_decide_eq_true h
      (conv => whnf)
      have hg : l.getD (Int.toNat (k : Int)) ((0, 0), (0, 0)) = l.getD k ((0, 0), (0, 0)) := rfl
      refine ⟨⟨by omega, by omega⟩, ?_⟩
      rw [hg]
      have bad : spanB (l.getD k ((0, 0), (0, 0))) = false → l.all spanB = false := getD_any spanB _ l k (by omega)
      have good : spanB (l.getD k ((0, 0), (0, 0))) = true → ∀ i, i < k + 1 → spanB (l.getD i ((0, 0), (0, 0))) = true := fun h i hi => by
        by_cases e : i = k
        · subst e; exact h
        · exact hk.2 i (by omega)
      generalize l.getD k ((0, 0), (0, 0)) = x at bad good ⊢
      obtain ⟨⟨n, d⟩, ⟨m, e⟩⟩ := x
      have v := pc_valid2 (n, d) (m, e)
      (conv => whnf)
      (repeat' (first | (refine And.intro (a := _ = true → _) (b := _ = false → _) (fun hh => ?_) (fun hh => ?_) <;> (first | simp only [decide_eq_true_eq, decide_eq_false_iff_not, Bool.or_eq_true, Bool.and_eq_true, Bool.or_eq_false_iff, Bool.and_eq_false_iff, Bool.not_eq_true', Bool.not_eq_false', ge_iff_le, gt_iff_lt] at hh | skip) <;> (first | (exfalso; omega) | (exfalso; simp [*] at hh; done) | (exfalso; revert hh; decide) | exact absurd (by assumption) hh | (conv => whnf))) | (refine ⟨by kernel_rfl, ?_⟩; (conv => whnf)) | (refine And.intro (a := _ ∧ _) ⟨by omega, by omega⟩ ?_; (conv => whnf)) | (refine And.intro (a := _ ∧ _) ⟨by decide, by decide⟩ ?_; (conv => whnf)) | (refine And.intro (a := _ ≤ _) (by omega) ?_; (conv => whnf)) | (refine And.intro (a := _ ≠ _) (by omega) ?_; (conv => whnf)) | (refine Or.inl ?_; (conv => whnf); first | (refine ⟨_, by first | exact v, ?_⟩; (conv => whnf)) | (refine ⟨false, ?_⟩; (conv => whnf); refine ⟨_, by first | exact v, ?_⟩; (conv => whnf))) | (refine ⟨_, by first | exact v, ?_⟩; (conv => whnf))))
      · rw [bad (by simp only [spanB]; rcases hh with h | h <;> simp [h])]
      · have o := pc_order (n, d) (m, e) hh.1 hh.2
        have hsb : spanB ((n, d), (m, e)) = decide (cmpF (n, d) (m, e) ≤ 0) := by simp [spanB, hh.1, hh.2]
        generalize cmpF (n, d) (m, e) = c at o hsb
        (repeat' (first | (refine And.intro (a := _ = true → _) (b := _ = false → _) (fun hh => ?_) (fun hh => ?_) <;> (first | simp only [decide_eq_true_eq, decide_eq_false_iff_not, Bool.or_eq_true, Bool.and_eq_true, Bool.or_eq_false_iff, Bool.and_eq_false_iff, Bool.not_eq_true', Bool.not_eq_false', ge_iff_le, gt_iff_lt] at hh | skip) <;> (first | (exfalso; omega) | (exfalso; simp [*] at hh; done) | (exfalso; revert hh; decide) | exact absurd (by assumption) hh | (conv => whnf))) | (refine ⟨by kernel_rfl, ?_⟩; (conv => whnf)) | (refine And.intro (a := _ ∧ _) ⟨by omega, by omega⟩ ?_; (conv => whnf)) | (refine And.intro (a := _ ∧ _) ⟨by decide, by decide⟩ ?_; (conv => whnf)) | (refine And.intro (a := _ ≤ _) (by omega) ?_; (conv => whnf)) | (refine And.intro (a := _ ≠ _) (by omega) ?_; (conv => whnf)) | (refine Or.inl ?_; (conv => whnf); first | (refine ⟨_, by first | exact o, ?_⟩; (conv => whnf)) | (refine ⟨false, ?_⟩; (conv => whnf); refine ⟨_, by first | exact o, ?_⟩; (conv => whnf))) | (refine ⟨_, by first | exact o, ?_⟩; (conv => whnf))))
        · rw [bad (by rw [hsb]; exact decide_eq_false (by omega))]
        · refine ⟨k + 1, ?_⟩
          (conv => whnf)
          refine ⟨⟨⟨Nat.sub_lt_sub_left (by omega) (Nat.lt_succ_self k), by omega, good (by rw [hsb]; exact decide_eq_true (by omega))⟩, ?_, rfl, rfl⟩, by kernel_rfl, by kernel_rfl⟩
          rw [w64 _ (by omega) (by omega)]; rfl
    · have h := of_decide_eq_false h
      (conv => whnf)
      congr 1
      exact (getD_all spanB _ l fun i hi => hk.2 i (by omega)).symm
theorem pc_spans1 (a : SpT) : PC Try.prog 122 [.slc 4 [eS a]] (.bool (spanB a)) := by
  have := PC.last (args := []) (pc_spans [a] (by simp)) (.slc 4 _ eS [a])
  simpa using this
theorem pc_spans2 (a b : SpT) : PC Try.prog 122 [.slc 4 [eS a, eS b]] (.bool (spanB a && spanB b)) := by
  have := PC.last (args := []) (pc_spans [a, b] (by simp)) (.slc 4 _ eS [a, b])
  simpa using this
theorem pc_CheckSpan (a : SpT) : PC Try.prog 94 [sp a] (i64 (if spanB a then 0 else 8)) := by
  refine pc_of_bodyF hm Try.func94 (by kernel_rfl) ?_
  conv => whnf
  (repeat' (first | (refine And.intro (a := _ = true → _) (b := _ = false → _) (fun hh => ?_) (fun hh => ?_) <;> (first | simp only [decide_eq_true_eq, decide_eq_false_iff_not, Bool.or_eq_true, Bool.and_eq_true, Bool.or_eq_false_iff, Bool.and_eq_false_iff, Bool.not_eq_true', Bool.not_eq_false', ge_iff_le, gt_iff_lt] at hh | skip) <;> (first | (exfalso; omega) | (exfalso; simp [*] at hh; done) | (exfalso; revert hh; decide) | exact absurd (by assumption) hh | (conv => whnf))) | (refine ⟨by kernel_rfl, ?_⟩; (conv => whnf)) | (refine And.intro (a := _ ∧ _) ⟨by omega, by omega⟩ ?_; (conv => whnf)) | (refine And.intro (a := _ ∧ _) ⟨by decide, by decide⟩ ?_; (conv => whnf)) | (refine And.intro (a := _ ≤ _) (by omega) ?_; (conv => whnf)) | (refine And.intro (a := _ ≠ _) (by omega) ?_; (conv => whnf)) | (refine Or.inl ?_; (conv => whnf); first | (refine ⟨_, by first | exact pc_spans1 a, ?_⟩; (conv => whnf)) | (refine ⟨false, ?_⟩; (conv => whnf); refine ⟨_, by first | exact pc_spans1 a, ?_⟩; (conv => whnf))) | (refine ⟨_, by first | exact pc_spans1 a, ?_⟩; (conv => whnf))))
  all_goals simp_all
end Go.Proofs.Try.My
