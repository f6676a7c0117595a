/- A helper text: contracts of functions of the program, and plain lemmas. -/
import Derived.Test.YtnoahgjfeablgaaGreatEvSix
import Derived.Test.YtnoahgjfeablgaaGreatMzBp9
set_option maxRecDepth 100000
set_option maxHeartbeats 0
set_option linter.unusedVariables false
set_option linter.unusedSimpArgs false
namespace Go.Proofs.Tryz.My
open Go Go.Ev
theorem may_role {rr us : List Int} {u : Int} (h : mayB rr us u = true) : (0 ≤ u ∧ u < us.length) ∧ us.getD u.toNat 0 ∈ rr := by
  unfold mayB withB at h
  simp only [Bool.and_eq_true, decide_eq_true_eq, List.contains_iff_mem] at h
  exact ⟨⟨h.1.1, by omega⟩, h.2⟩
theorem drfE_may {b : BooksT} {user : Int} {g : GauT} (h : drfE b user g = 0) : mayB [2] b.users user = true := by
  unfold drfE at h
  by_cases h1 : chkB b = true
  · rw [if_pos h1] at h
    by_cases h2 : 0 ≤ user ∧ user ≤ (b.users.length : Int) - 1
    · rw [if_neg (fun q => q h2)] at h
      cases e : mayB [2] b.users user with
      | true => rfl
      | false => rw [if_pos e] at h; cases h
    · rw [if_pos h2] at h; cases h
  · rw [if_neg h1] at h; cases h
theorem retE_may {b : BooksT} {user : Int} (h : retE b user = 0) : mayB [3] b.users user = true := by
  unfold retE at h
  by_cases h1 : chkB b = true
  · rw [if_pos h1] at h
    by_cases h2 : 0 ≤ user ∧ user ≤ (b.users.length : Int) - 1
    · rw [if_neg (fun q => q h2)] at h
      cases e : mayB [3] b.users user with
      | true => rfl
      | false => rw [if_pos e] at h; cases h
    · rw [if_pos h2] at h; cases h
  · rw [if_neg h1] at h; cases h
theorem pc_RecipeRights (b : BooksT) (a : ActT) : PC Tryz.prog 14 [bks b, act a] (.bool true) := by
  have al := pc_alive
  have gr := pc_Great b
  by_cases hs : smallB b = true
  · have o := okS hs
    rw [hs] at gr
    by_cases hp : a.profile.length ≤ 100
    · have hp20 : a.profile.length < 2 ^ 20 := by omega
      by_cases h : doE b a = 0
      · have c := pc_actOk b o a hp20 h
        unfold doE at h
        by_cases k0 : knd a = 0
        · rw [if_pos k0] at h
          clear h
          unfold knd at *
          refine pc_of_bodyF hm Tryz.func14 (by kernel_rfl) ?_
          conv => whnf
          (repeat' ((first | refine ansT ?_ | refine ansF ?_ | ((try (refine Or.inl ?_; (conv => whnf))); (try (refine ⟨false, ?_⟩; (conv => whnf))); refine ⟨_, by first | exact al | exact gr, ?_⟩) | refine ansD (by first | (simp [*]; done) | omega) ?_ | refine ansN (by first | (simp [*]; done) | omega) ?_ | refine ⟨by kernel_rfl, ?_⟩ | refine ansB (by decide) (by first | decide | (simp; done) | (simp only [List.length_cons, List.length_nil]; decide)) ?_ | fail); (conv => whnf)))
          (repeat' (first | (refine ansS (fun hh => ?_) (fun hh => ?_) <;> (first | simp only [ansX] at hh | skip) <;> (first | (exfalso; omega) | (exfalso; simp [*] at hh; done) | (exfalso; revert hh; decide) | exact absurd (by assumption) hh | (conv => whnf))) | ((first | refine ⟨by kernel_rfl, ?_⟩ | refine ansB (by omega) (by omega) ?_ | refine ansB (by decide) (by decide) ?_ | refine And.intro (a := _ ≤ _) (by omega) ?_ | refine And.intro (a := _ ≠ _) (by omega) ?_ | ((try (refine Or.inl ?_; (conv => whnf))); (try (refine ⟨false, ?_⟩; (conv => whnf))); refine ⟨_, by exact c, ?_⟩) | fail); (conv => whnf))))
          all_goals (first | rfl | (refine congrArg AV.bool ?_; simp only [ansX]; omega) | set_option pp.maxSteps 300 in trace_state)
        rw [if_neg k0] at h
        by_cases k1 : knd a = 1
        · rw [if_pos k1] at h
          obtain ⟨hu, hw⟩ := may_role (drfE_may h)
          have hw : b.users.getD a.user.toNat 0 = 2 := by simpa using hw
          clear h
          unfold knd at *
          refine pc_of_bodyF hm Tryz.func14 (by kernel_rfl) ?_
          conv => whnf
          (repeat' ((first | refine ansT ?_ | refine ansF ?_ | ((try (refine Or.inl ?_; (conv => whnf))); (try (refine ⟨false, ?_⟩; (conv => whnf))); refine ⟨_, by first | exact al | exact gr, ?_⟩) | refine ansD (by first | (simp [*]; done) | omega) ?_ | refine ansN (by first | (simp [*]; done) | omega) ?_ | refine ⟨by kernel_rfl, ?_⟩ | refine ansB (by decide) (by first | decide | (simp; done) | (simp only [List.length_cons, List.length_nil]; decide)) ?_ | fail); (conv => whnf)))
          (repeat' (first | (refine ansS (fun hh => ?_) (fun hh => ?_) <;> (first | simp only [ansX] at hh | skip) <;> (first | (exfalso; omega) | (exfalso; simp [*] at hh; done) | (exfalso; revert hh; decide) | exact absurd (by assumption) hh | (conv => whnf))) | ((first | refine ⟨by kernel_rfl, ?_⟩ | refine ansB (by omega) (by omega) ?_ | refine ansB (by decide) (by decide) ?_ | refine And.intro (a := _ ≤ _) (by omega) ?_ | refine And.intro (a := _ ≠ _) (by omega) ?_ | ((try (refine Or.inl ?_; (conv => whnf))); (try (refine ⟨false, ?_⟩; (conv => whnf))); refine ⟨_, by exact c, ?_⟩) | fail); (conv => whnf))))
          all_goals (first | rfl | (refine congrArg AV.bool ?_; simp only [ansX]; omega) | set_option pp.maxSteps 300 in trace_state)
        rw [if_neg k1] at h
        by_cases k2 : knd a = 2
        · rw [if_pos k2] at h
          obtain ⟨hc, hn, hbad, hst⟩ := apvE_zero h
          obtain ⟨hb1, hb2, hb3⟩ := badA_no hbad
          obtain ⟨hu, hw⟩ := may_role hb3
          have hw : b.users.getD a.user.toNat 0 = 2 ∨ b.users.getD a.user.toNat 0 = 3 := by simpa using hw
          have hnn := hn.2
          clear h
          clear hbad hb1 hb3
          unfold knd at *
          refine pc_of_bodyF hm Tryz.func14 (by kernel_rfl) ?_
          conv => whnf
          (repeat' ((first | refine ansT ?_ | refine ansF ?_ | ((try (refine Or.inl ?_; (conv => whnf))); (try (refine ⟨false, ?_⟩; (conv => whnf))); refine ⟨_, by first | exact al | exact gr, ?_⟩) | refine ansD (by first | (simp [*]; done) | omega) ?_ | refine ansN (by first | (simp [*]; done) | omega) ?_ | refine ⟨by kernel_rfl, ?_⟩ | refine ansB (by decide) (by first | decide | (simp; done) | (simp only [List.length_cons, List.length_nil]; decide)) ?_ | fail); (conv => whnf)))
          (repeat' (first | (refine ansS (fun hh => ?_) (fun hh => ?_) <;> (first | simp only [ansX] at hh | skip) <;> (first | (exfalso; omega) | (exfalso; simp [*] at hh; done) | (exfalso; revert hh; decide) | exact absurd (by assumption) hh | (conv => whnf))) | ((first | refine ⟨by kernel_rfl, ?_⟩ | refine ansB (by omega) (by omega) ?_ | refine ansB (by decide) (by decide) ?_ | refine And.intro (a := _ ≤ _) (by omega) ?_ | refine And.intro (a := _ ≠ _) (by omega) ?_ | ((try (refine Or.inl ?_; (conv => whnf))); (try (refine ⟨false, ?_⟩; (conv => whnf))); refine ⟨_, by exact c, ?_⟩) | fail); (conv => whnf))))
          all_goals (first | rfl | (refine congrArg AV.bool ?_; simp only [ansX]; omega) | set_option pp.maxSteps 300 in trace_state)
        rw [if_neg k2] at h
        by_cases k3 : knd a = 3
        · rw [if_pos k3] at h
          obtain ⟨hc, hn, hmy, hst⟩ := actvE_zero h
          obtain ⟨hu, hw⟩ := may_role hmy
          have hw : b.users.getD a.user.toNat 0 = 2 := by simpa using hw
          clear h
          unfold knd at *
          refine pc_of_bodyF hm Tryz.func14 (by kernel_rfl) ?_
          conv => whnf
          (repeat' ((first | refine ansT ?_ | refine ansF ?_ | ((try (refine Or.inl ?_; (conv => whnf))); (try (refine ⟨false, ?_⟩; (conv => whnf))); refine ⟨_, by first | exact al | exact gr, ?_⟩) | refine ansD (by first | (simp [*]; done) | omega) ?_ | refine ansN (by first | (simp [*]; done) | omega) ?_ | refine ⟨by kernel_rfl, ?_⟩ | refine ansB (by decide) (by first | decide | (simp; done) | (simp only [List.length_cons, List.length_nil]; decide)) ?_ | fail); (conv => whnf)))
          (repeat' (first | (refine ansS (fun hh => ?_) (fun hh => ?_) <;> (first | simp only [ansX] at hh | skip) <;> (first | (exfalso; omega) | (exfalso; simp [*] at hh; done) | (exfalso; revert hh; decide) | exact absurd (by assumption) hh | (conv => whnf))) | ((first | refine ⟨by kernel_rfl, ?_⟩ | refine ansB (by omega) (by omega) ?_ | refine ansB (by decide) (by decide) ?_ | refine And.intro (a := _ ≤ _) (by omega) ?_ | refine And.intro (a := _ ≠ _) (by omega) ?_ | ((try (refine Or.inl ?_; (conv => whnf))); (try (refine ⟨false, ?_⟩; (conv => whnf))); refine ⟨_, by exact c, ?_⟩) | fail); (conv => whnf))))
          all_goals (first | rfl | (refine congrArg AV.bool ?_; simp only [ansX]; omega) | set_option pp.maxSteps 300 in trace_state)
        rw [if_neg k3] at h
        by_cases k4 : knd a = 4
        · rw [if_pos k4] at h
          obtain ⟨hu, hw⟩ := may_role (retE_may h)
          have hw : b.users.getD a.user.toNat 0 = 3 := by simpa using hw
          clear h
          unfold knd at *
          refine pc_of_bodyF hm Tryz.func14 (by kernel_rfl) ?_
          conv => whnf
          (repeat' ((first | refine ansT ?_ | refine ansF ?_ | ((try (refine Or.inl ?_; (conv => whnf))); (try (refine ⟨false, ?_⟩; (conv => whnf))); refine ⟨_, by first | exact al | exact gr, ?_⟩) | refine ansD (by first | (simp [*]; done) | omega) ?_ | refine ansN (by first | (simp [*]; done) | omega) ?_ | refine ⟨by kernel_rfl, ?_⟩ | refine ansB (by decide) (by first | decide | (simp; done) | (simp only [List.length_cons, List.length_nil]; decide)) ?_ | fail); (conv => whnf)))
          (repeat' (first | (refine ansS (fun hh => ?_) (fun hh => ?_) <;> (first | simp only [ansX] at hh | skip) <;> (first | (exfalso; omega) | (exfalso; simp [*] at hh; done) | (exfalso; revert hh; decide) | exact absurd (by assumption) hh | (conv => whnf))) | ((first | refine ⟨by kernel_rfl, ?_⟩ | refine ansB (by omega) (by omega) ?_ | refine ansB (by decide) (by decide) ?_ | refine And.intro (a := _ ≤ _) (by omega) ?_ | refine And.intro (a := _ ≠ _) (by omega) ?_ | ((try (refine Or.inl ?_; (conv => whnf))); (try (refine ⟨false, ?_⟩; (conv => whnf))); refine ⟨_, by exact c, ?_⟩) | fail); (conv => whnf))))
          all_goals (first | rfl | (refine congrArg AV.bool ?_; simp only [ansX]; omega) | set_option pp.maxSteps 300 in trace_state)
        rw [if_neg k4] at h
        by_cases k5 : knd a = 5
        · rw [if_pos k5] at h
          clear h
          unfold knd at *
          refine pc_of_bodyF hm Tryz.func14 (by kernel_rfl) ?_
          conv => whnf
          (repeat' ((first | refine ansT ?_ | refine ansF ?_ | ((try (refine Or.inl ?_; (conv => whnf))); (try (refine ⟨false, ?_⟩; (conv => whnf))); refine ⟨_, by first | exact al | exact gr, ?_⟩) | refine ansD (by first | (simp [*]; done) | omega) ?_ | refine ansN (by first | (simp [*]; done) | omega) ?_ | refine ⟨by kernel_rfl, ?_⟩ | refine ansB (by decide) (by first | decide | (simp; done) | (simp only [List.length_cons, List.length_nil]; decide)) ?_ | fail); (conv => whnf)))
          (repeat' (first | (refine ansS (fun hh => ?_) (fun hh => ?_) <;> (first | simp only [ansX] at hh | skip) <;> (first | (exfalso; omega) | (exfalso; simp [*] at hh; done) | (exfalso; revert hh; decide) | exact absurd (by assumption) hh | (conv => whnf))) | ((first | refine ⟨by kernel_rfl, ?_⟩ | refine ansB (by omega) (by omega) ?_ | refine ansB (by decide) (by decide) ?_ | refine And.intro (a := _ ≤ _) (by omega) ?_ | refine And.intro (a := _ ≠ _) (by omega) ?_ | ((try (refine Or.inl ?_; (conv => whnf))); (try (refine ⟨false, ?_⟩; (conv => whnf))); refine ⟨_, by exact c, ?_⟩) | fail); (conv => whnf))))
          all_goals (first | rfl | (refine congrArg AV.bool ?_; simp only [ansX]; omega) | set_option pp.maxSteps 300 in trace_state)
        rw [if_neg k5] at h
        by_cases k6 : knd a = 6
        · rw [if_pos k6] at h
          obtain ⟨hc, ha, hu0, hmy, hd⟩ := mrkE_zero h
          obtain ⟨hu, hw⟩ := may_role hmy
          clear h
          clear hd
          unfold knd at *
          refine pc_of_bodyF hm Tryz.func14 (by kernel_rfl) ?_
          conv => whnf
          (repeat' ((first | refine ansT ?_ | refine ansF ?_ | ((try (refine Or.inl ?_; (conv => whnf))); (try (refine ⟨false, ?_⟩; (conv => whnf))); refine ⟨_, by first | exact al | exact gr, ?_⟩) | refine ansD (by first | (simp [*]; done) | omega) ?_ | refine ansN (by first | (simp [*]; done) | omega) ?_ | refine ⟨by kernel_rfl, ?_⟩ | refine ansB (by decide) (by first | decide | (simp; done) | (simp only [List.length_cons, List.length_nil]; decide)) ?_ | fail); (conv => whnf)))
          (repeat' (first | (refine ansS (fun hh => ?_) (fun hh => ?_) <;> (first | simp only [ansX] at hh | skip) <;> (first | (exfalso; omega) | (exfalso; simp [*] at hh; done) | (exfalso; revert hh; decide) | exact absurd (by assumption) hh | (conv => whnf))) | ((first | refine ⟨by kernel_rfl, ?_⟩ | refine ansB (by omega) (by omega) ?_ | refine ansB (by decide) (by decide) ?_ | refine And.intro (a := _ ≤ _) (by omega) ?_ | refine And.intro (a := _ ≠ _) (by omega) ?_ | ((try (refine Or.inl ?_; (conv => whnf))); (try (refine ⟨false, ?_⟩; (conv => whnf))); refine ⟨_, by exact c, ?_⟩) | fail); (conv => whnf))))
          all_goals (first | rfl | (refine congrArg AV.bool ?_; simp only [ansX]; omega) | set_option pp.maxSteps 300 in trace_state)
        rw [if_neg k6] at h
        obtain ⟨hc, ha, hu0, hmy, hd⟩ := mrkE_zero h
        obtain ⟨hu, hw⟩ := may_role hmy
        have hw : b.users.getD a.user.toNat 0 = 3 := by simpa using hw
        clear h
        clear hd
        unfold knd at *
        refine pc_of_bodyF hm Tryz.func14 (by kernel_rfl) ?_
        conv => whnf
        (repeat' ((first | refine ansT ?_ | refine ansF ?_ | ((try (refine Or.inl ?_; (conv => whnf))); (try (refine ⟨false, ?_⟩; (conv => whnf))); refine ⟨_, by first | exact al | exact gr, ?_⟩) | refine ansD (by first | (simp [*]; done) | omega) ?_ | refine ansN (by first | (simp [*]; done) | omega) ?_ | refine ⟨by kernel_rfl, ?_⟩ | refine ansB (by decide) (by first | decide | (simp; done) | (simp only [List.length_cons, List.length_nil]; decide)) ?_ | fail); (conv => whnf)))
        (repeat' (first | (refine ansS (fun hh => ?_) (fun hh => ?_) <;> (first | simp only [ansX] at hh | skip) <;> (first | (exfalso; omega) | (exfalso; simp [*] at hh; done) | (exfalso; revert hh; decide) | exact absurd (by assumption) hh | (conv => whnf))) | ((first | refine ⟨by kernel_rfl, ?_⟩ | refine ansB (by omega) (by omega) ?_ | refine ansB (by decide) (by decide) ?_ | refine And.intro (a := _ ≤ _) (by omega) ?_ | refine And.intro (a := _ ≠ _) (by omega) ?_ | ((try (refine Or.inl ?_; (conv => whnf))); (try (refine ⟨false, ?_⟩; (conv => whnf))); refine ⟨_, by exact c, ?_⟩) | fail); (conv => whnf))))
        all_goals (first | rfl | (refine congrArg AV.bool ?_; simp only [ansX]; omega) | set_option pp.maxSteps 300 in trace_state)
      · have c := pc_actBad b o a hp20 h
        refine pc_of_bodyF hm Tryz.func14 (by kernel_rfl) ?_
        conv => whnf
        (repeat' ((first | refine ansT ?_ | refine ansF ?_ | ((try (refine Or.inl ?_; (conv => whnf))); (try (refine ⟨false, ?_⟩; (conv => whnf))); refine ⟨_, by first | exact al | exact gr, ?_⟩) | refine ansD (by first | (simp [*]; done) | omega) ?_ | refine ansN (by first | (simp [*]; done) | omega) ?_ | refine ⟨by kernel_rfl, ?_⟩ | refine ansB (by decide) (by first | decide | (simp; done) | (simp only [List.length_cons, List.length_nil]; decide)) ?_ | fail); (conv => whnf)))
        (repeat' (first | (refine ansS (fun hh => ?_) (fun hh => ?_) <;> (first | simp only [ansX] at hh | skip) <;> (first | (exfalso; omega) | (exfalso; simp [*] at hh; done) | (exfalso; revert hh; decide) | exact absurd (by assumption) hh | (conv => whnf))) | ((first | refine ⟨by kernel_rfl, ?_⟩ | refine ansB (by omega) (by omega) ?_ | refine ansB (by decide) (by decide) ?_ | refine And.intro (a := _ ≤ _) (by omega) ?_ | refine And.intro (a := _ ≠ _) (by omega) ?_ | ((try (refine Or.inl ?_; (conv => whnf))); (try (refine ⟨false, ?_⟩; (conv => whnf))); refine ⟨_, by exact c, ?_⟩) | fail); (conv => whnf))))
        all_goals (first | rfl | (refine congrArg AV.bool ?_; simp only [ansX]; omega) | set_option pp.maxSteps 300 in trace_state)
    · refine pc_of_bodyF hm Tryz.func14 (by kernel_rfl) ?_
      conv => whnf
      (repeat' ((first | refine ansT ?_ | refine ansF ?_ | ((try (refine Or.inl ?_; (conv => whnf))); (try (refine ⟨false, ?_⟩; (conv => whnf))); refine ⟨_, by first | exact al | exact gr, ?_⟩) | refine ansD (by first | (simp [*]; done) | omega) ?_ | refine ansN (by first | (simp [*]; done) | omega) ?_ | refine ⟨by kernel_rfl, ?_⟩ | refine ansB (by decide) (by first | decide | (simp; done) | (simp only [List.length_cons, List.length_nil]; decide)) ?_ | fail); (conv => whnf)))
      (repeat' (first | (refine ansS (fun hh => ?_) (fun hh => ?_) <;> (first | simp only [ansX] at hh | skip) <;> (first | (exfalso; omega) | (exfalso; simp [*] at hh; done) | (exfalso; revert hh; decide) | exact absurd (by assumption) hh | (conv => whnf))) | ((first | refine ⟨by kernel_rfl, ?_⟩ | refine ansB (by omega) (by omega) ?_ | refine ansB (by decide) (by decide) ?_ | refine And.intro (a := _ ≤ _) (by omega) ?_ | refine And.intro (a := _ ≠ _) (by omega) ?_ | fail); (conv => whnf))))
      all_goals (first | rfl | (refine congrArg AV.bool ?_; simp only [ansX]; omega) | set_option pp.maxSteps 300 in trace_state)
  · have hs : smallB b = false := by simpa using hs
    rw [hs] at gr
    refine pc_of_bodyF hm Tryz.func14 (by kernel_rfl) ?_
    conv => whnf
    (repeat' ((first | refine ansT ?_ | refine ansF ?_ | ((try (refine Or.inl ?_; (conv => whnf))); (try (refine ⟨false, ?_⟩; (conv => whnf))); refine ⟨_, by first | exact al | exact gr, ?_⟩) | refine ansD (by first | (simp [*]; done) | omega) ?_ | refine ansN (by first | (simp [*]; done) | omega) ?_ | refine ⟨by kernel_rfl, ?_⟩ | refine ansB (by decide) (by first | decide | (simp; done) | (simp only [List.length_cons, List.length_nil]; decide)) ?_ | fail); (conv => whnf)))
    (repeat' (first | (refine ansS (fun hh => ?_) (fun hh => ?_) <;> (first | simp only [ansX] at hh | skip) <;> (first | (exfalso; omega) | (exfalso; simp [*] at hh; done) | (exfalso; revert hh; decide) | exact absurd (by assumption) hh | (conv => whnf))) | ((first | refine ⟨by kernel_rfl, ?_⟩ | refine ansB (by omega) (by omega) ?_ | refine ansB (by decide) (by decide) ?_ | refine And.intro (a := _ ≤ _) (by omega) ?_ | refine And.intro (a := _ ≠ _) (by omega) ?_ | fail); (conv => whnf))))
    all_goals (first | rfl | (refine congrArg AV.bool ?_; simp only [ansX]; omega) | set_option pp.maxSteps 300 in trace_state)
end Go.Proofs.Tryz.My
