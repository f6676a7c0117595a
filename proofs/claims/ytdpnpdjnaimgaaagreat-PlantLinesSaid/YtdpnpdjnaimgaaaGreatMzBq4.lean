/- A helper text: contracts of functions of the program, and plain lemmas. -/
import Derived.Test.YtdpnpdjnaimgaaaGreatEvSix
import Derived.Test.YtdpnpdjnaimgaaaGreatMzBsA
import Derived.Test.YtdpnpdjnaimgaaaGreatMzBqA
set_option maxRecDepth 100000
set_option maxHeartbeats 0
set_option linter.unusedVariables false
set_option linter.unusedSimpArgs false
namespace Go.Proofs.Tryz.My
open Go Go.Ev
theorem pc_Great (b : BooksT) : PC Tryz.prog 53 [bks b] (.bool (!smallB b)) := by
  have big : ¬(b.users.length ≤ 30 ∧ b.recipes.length ≤ 30 ∧ b.log.length ≤ 50 ∧ (∀ i, (b.recipes.getD i rec0).appr.length ≤ 30) ∧ ∀ i, (b.log.getD i ent0).profile.length ≤ 100) → AV.bool true = AV.bool (!smallB b) := fun q => by
    have : smallB b = false := Bool.eq_false_iff.2 fun e => q (small_known e)
    rw [this]; rfl
  refine pc_of_bodyF hm Tryz.func53 (by kernel_rfl) ?_
  conv => whnf
  (repeat' (first | (refine ansS (fun hh => ?_) (fun hh => ?_) <;> (first | simp only [ansX] at hh | skip) <;> (first | (exfalso; omega) | (exfalso; simp [*] at hh; done) | (exfalso; revert hh; decide) | exact absurd (by assumption) hh | (conv => whnf))) | ((first | refine ⟨by kernel_rfl, ?_⟩ | refine ansB (by omega) (by omega) ?_ | refine ansB (by decide) (by decide) ?_ | refine And.intro (a := _ ≤ _) (by omega) ?_ | refine And.intro (a := _ ≠ _) (by omega) ?_ | fail); (conv => whnf))))
  · exact big fun q => by omega
  · exact big fun q => by omega
  · exact big fun q => by omega
  have h1 : b.users.length ≤ 30 := by omega
  have h2 : b.recipes.length ≤ 30 := by omega
  have h3 : b.log.length ≤ 50 := by omega
  refine Or.inr ⟨Nat, [3], [], [], fun k => [i64 k], fun _ => [], fun _ => [], fun k => b.recipes.length - k, fun k => k ≤ b.recipes.length ∧ ∀ i, i < k → smallR (b.recipes.getD i rec0) = true, ?_⟩
  (conv => whnf)
  refine ⟨⟨0, ?_⟩, ?_⟩
  · (conv => whnf)
    exact ⟨⟨⟨Nat.zero_le _, fun i hi => absurd hi (Nat.not_lt_zero i)⟩, rfl, rfl, rfl⟩, by kernel_rfl, by kernel_rfl⟩
  · intro k hk
    (conv => whnf)
    refine ⟨fun h => ?_, fun h => ?_⟩
    · have h := of_decide_eq_true h
      (conv => whnf)
      refine ⟨⟨by omega, by omega⟩, ?_⟩
      (conv => whnf)
      refine ⟨fun h4 => ?_, fun h4 => ?_⟩
      · have h4 := of_decide_eq_true h4
        (conv => whnf)
        refine big fun q => ?_
        have q := q.2.2.2.1 k
        exact absurd h4 (by show ¬ (((b.recipes.getD k rec0).appr.length : Int) > 30); omega)
      · have h4 := of_decide_eq_false h4
        refine ⟨k + 1, ?_⟩
        (conv => whnf)
        refine ⟨⟨⟨?_, ?_, ?_⟩, ?_, rfl, rfl⟩, by kernel_rfl, by kernel_rfl⟩
        · show b.recipes.length - (k + 1) < b.recipes.length - k; omega
        · omega
        · intro i hi
          by_cases e : i = k
          · subst e
            have h4 : ¬ (((b.recipes.getD i rec0).appr.length : Int) > 30) := h4
            exact decide_eq_true (by omega)
          · exact hk.2 i (by omega)
        · rw [w64 _ (by omega) (by omega)]; rfl
    · have h := of_decide_eq_false h
      have hR : b.recipes.all smallR = true := all_getD.2 fun i hi => hk.2 i (by omega)
      (conv => whnf)
      refine Or.inr ⟨Nat, [4], [], [], fun k => [i64 k], fun _ => [], fun _ => [], fun k => b.log.length - k, fun k => k ≤ b.log.length ∧ ∀ i, i < k → smallE (b.log.getD i ent0) = true, ?_⟩
      (conv => whnf)
      refine ⟨⟨0, ?_⟩, ?_⟩
      · (conv => whnf)
        exact ⟨⟨⟨Nat.zero_le _, fun i hi => absurd hi (Nat.not_lt_zero i)⟩, rfl, rfl, rfl⟩, by kernel_rfl, by kernel_rfl⟩
      · intro k hk
        (conv => whnf)
        refine ⟨fun h => ?_, fun h => ?_⟩
        · have h := of_decide_eq_true h
          (conv => whnf)
          refine ⟨⟨by omega, by omega⟩, ?_⟩
          (conv => whnf)
          refine ⟨fun h4 => ?_, fun h4 => ?_⟩
          · have h4 := of_decide_eq_true h4
            (conv => whnf)
            refine big fun q => ?_
            have q := q.2.2.2.2 k
            exact absurd h4 (by show ¬ (((b.log.getD k ent0).profile.length : Int) > 100); omega)
          · have h4 := of_decide_eq_false h4
            refine ⟨k + 1, ?_⟩
            (conv => whnf)
            refine ⟨⟨⟨?_, ?_, ?_⟩, ?_, rfl, rfl⟩, by kernel_rfl, by kernel_rfl⟩
            · show b.log.length - (k + 1) < b.log.length - k; omega
            · omega
            · intro i hi
              by_cases e : i = k
              · subst e
                have h4 : ¬ (((b.log.getD i ent0).profile.length : Int) > 100) := h4
                exact decide_eq_true (by omega)
              · exact hk.2 i (by omega)
            · rw [w64 _ (by omega) (by omega)]; rfl
        · have h := of_decide_eq_false h
          have hE : b.log.all smallE = true := all_getD.2 fun i hi => hk.2 i (by omega)
          (conv => whnf)
          have : smallB b = true := by
            unfold smallB
            rw [decide_eq_true h1, decide_eq_true h2, decide_eq_true h3, hR, hE]; rfl
          rw [this]; rfl
abbrev newB (k : Int) : AV := .agg [i64 k, .nils, .nils, i64 0, .nils]
def newK (keep : Int) : Int := if withB keep 1 32 then keep else 0
def newE (keep : Int) : Int := if withB keep 1 32 then 0 else 2
theorem pc_New (keep : Int) : PC Tryz.prog 55 [i64 keep] (.tup [newB (newK keep), i64 (newE keep)]) := by
  refine pc_of_bodyF hm Tryz.func55 (by kernel_rfl) ?_
  conv => whnf
  have c1 : PC Tryz.prog 105 [i64 1, i64 32, i64 keep] (.bool (decide (1 ≤ keep) && decide (keep ≤ 32))) := pc_rfrom _ _ _
  (repeat' (first | (refine ansS (fun hh => ?_) (fun hh => ?_) <;> (first | simp only [ansX] at hh | skip) <;> (first | (exfalso; omega) | (exfalso; simp [*] at hh; done) | (exfalso; revert hh; decide) | exact absurd (by assumption) hh | (conv => whnf))) | ((first | refine ⟨by kernel_rfl, ?_⟩ | refine ansB (by omega) (by omega) ?_ | refine ansB (by decide) (by decide) ?_ | refine And.intro (a := _ ≤ _) (by omega) ?_ | refine And.intro (a := _ ≠ _) (by omega) ?_ | ((try (refine Or.inl ?_; (conv => whnf))); (try (refine ⟨false, ?_⟩; (conv => whnf))); refine ⟨_, by exact c1, ?_⟩) | fail); (conv => whnf))))
  all_goals first
    | (have hw : withB keep 1 32 = true := by simp only [withB, Bool.and_eq_true, decide_eq_true_eq]; omega
       unfold newK newE
       rw [if_pos hw, if_pos hw])
    | (have hw : ¬withB keep 1 32 = true := by simp only [withB, Bool.and_eq_true, decide_eq_true_eq]; omega
       unfold newK newE
       rw [if_neg hw, if_neg hw])
    | set_option pp.maxSteps 300 in trace_state
theorem pc_r10New (keep : Int) : PC Tryz.prog 58 [i64 keep] (.tup [newB (newK keep), i64 (newE keep)]) := by
  refine pc_of_bodyF hm Tryz.func58 (by kernel_rfl) ?_
  conv => whnf
  (repeat' (first | (refine ansS (fun hh => ?_) (fun hh => ?_) <;> (first | simp only [ansX] at hh | skip) <;> (first | (exfalso; omega) | (exfalso; simp [*] at hh; done) | (exfalso; revert hh; decide) | exact absurd (by assumption) hh | (conv => whnf))) | ((first | refine ⟨by kernel_rfl, ?_⟩ | refine ansB (by omega) (by omega) ?_ | refine ansB (by decide) (by decide) ?_ | refine And.intro (a := _ ≤ _) (by omega) ?_ | refine And.intro (a := _ ≠ _) (by omega) ?_ | ((try (refine Or.inl ?_; (conv => whnf))); (try (refine ⟨false, ?_⟩; (conv => whnf))); refine ⟨_, by exact pc_r10within _ _ _, ?_⟩) | fail); (conv => whnf))))
  all_goals first
    | (have hw : withB keep 1 32 = true := by simp only [withB, Bool.and_eq_true, decide_eq_true_eq]; omega
       unfold newK newE
       rw [if_pos hw, if_pos hw])
    | (have hw : ¬withB keep 1 32 = true := by simp only [withB, Bool.and_eq_true, decide_eq_true_eq]; omega
       unfold newK newE
       rw [if_neg hw, if_neg hw])
    | set_option pp.maxSteps 300 in trace_state
end Go.Proofs.Tryz.My
