/- A helper text: contracts of functions of the program, and plain lemmas. -/
import Derived.Test.YtnoahgjfeablgaaGreatEvSix
import Derived.Test.YtnoahgjfeablgaaGreatMzBm3
import Derived.Test.YtnoahgjfeablgaaGreatMzBp8
import Derived.Test.YtnoahgjfeablgaaGreatMzBsA
set_option maxRecDepth 100000
set_option maxHeartbeats 0
set_option linter.unusedVariables false
set_option linter.unusedSimpArgs false
namespace Go.Proofs.Tryz.My
open Go Go.Ev
theorem pc_SameU (b : BooksT) (o : Okay b) : PC Tryz.prog 21 [bks b, bks b] (.bool true) := by
  have c := pc_r10Same b b o o
  rwa [sameB_refl] at c
theorem pc_RecipeSettles (b : BooksT) (user other seq next : Int) : PC Tryz.prog 8 [bks b, i64 user, i64 other, i64 seq, i64 next] (.bool true) := by
  have al := pc_alive
  have gr := pc_Great b
  by_cases hs : smallB b = true
  · have o := okS hs
    rw [hs] at gr
    have sb := pc_SameU b o
    by_cases h1 : disE b user seq = 0
    · have d1 := pc_DisputeOk b o user seq h1
      have ox := okM (seq := seq) (is := true) o
      obtain ⟨a1, a2, a3, a4, a5⟩ := mrkE_zero h1
      have hd : (b.log.getD (mrkI b seq) ent0).disputed = false := by simpa using a5
      have hback := mrk_back b seq a2 hd
      have sT : setE (mrkB b seq true) other seq = 0 → PC Tryz.prog 36 [bks (mrkB b seq true), i64 other, i64 seq] (.tup [bks b, i64 0]) := fun h => by
        have c := pc_SettleOk (mrkB b seq true) ox other seq h
        rwa [hback] at c
      have sF := fun h => pc_SettleBad (mrkB b seq true) ox other seq h
      by_cases h3 : disE b other next = 0
      · have d3 := pc_DisputeOk b o other next h3
        by_cases hq : next = seq
        · clear hback a5 hd
          by_cases h2 : setE (mrkB b seq true) other seq = 0
          · have s2 := sT h2
            clear sT sF
            refine pc_of_bodyF hm Tryz.func8 (by kernel_rfl) ?_
            conv => whnf
            (repeat' ((first | refine ansT ?_ | refine ansF ?_ | ((try (refine Or.inl ?_; (conv => whnf))); (try (refine ⟨false, ?_⟩; (conv => whnf))); refine ⟨_, by first | exact al | exact gr | exact d1 | exact s2 | exact sb | exact d3, ?_⟩) | refine ansD (by first | (simp [*]; done) | omega) ?_ | refine ansN (by first | (simp [*]; done) | omega) ?_ | refine ⟨by kernel_rfl, ?_⟩ | refine ansB (by decide) (by first | decide | (simp; done) | (simp only [List.length_cons, List.length_nil]; decide)) ?_ | fail); (conv => whnf)))
            (repeat' (first | (refine ansS (fun hh => ?_) (fun hh => ?_) <;> (first | simp only [ansX] at hh | skip) <;> (first | (exfalso; omega) | (exfalso; simp [*] at hh; done) | (exfalso; revert hh; decide) | exact absurd (by assumption) hh | (conv => whnf))) | ((first | refine ⟨by kernel_rfl, ?_⟩ | refine ansB (by omega) (by omega) ?_ | refine ansB (by decide) (by decide) ?_ | refine And.intro (a := _ ≤ _) (by omega) ?_ | refine And.intro (a := _ ≠ _) (by omega) ?_ | ((try (refine Or.inl ?_; (conv => whnf))); (try (refine ⟨false, ?_⟩; (conv => whnf))); refine ⟨_, by first | exact sb | exact d3, ?_⟩) | fail); (conv => whnf))))
            all_goals (first | rfl | set_option pp.maxSteps 300 in trace_state)
          · have s2 := sF h2
            clear sT sF
            refine pc_of_bodyF hm Tryz.func8 (by kernel_rfl) ?_
            conv => whnf
            (repeat' ((first | refine ansT ?_ | refine ansF ?_ | ((try (refine Or.inl ?_; (conv => whnf))); (try (refine ⟨false, ?_⟩; (conv => whnf))); refine ⟨_, by first | exact al | exact gr | exact d1 | exact s2 | exact sb | exact d3, ?_⟩) | refine ansD (by first | (simp [*]; done) | omega) ?_ | refine ansN (by first | (simp [*]; done) | omega) ?_ | refine ⟨by kernel_rfl, ?_⟩ | refine ansB (by decide) (by first | decide | (simp; done) | (simp only [List.length_cons, List.length_nil]; decide)) ?_ | fail); (conv => whnf)))
            (repeat' (first | (refine ansS (fun hh => ?_) (fun hh => ?_) <;> (first | simp only [ansX] at hh | skip) <;> (first | (exfalso; omega) | (exfalso; simp [*] at hh; done) | (exfalso; revert hh; decide) | exact absurd (by assumption) hh | (conv => whnf))) | ((first | refine ⟨by kernel_rfl, ?_⟩ | refine ansB (by omega) (by omega) ?_ | refine ansB (by decide) (by decide) ?_ | refine And.intro (a := _ ≤ _) (by omega) ?_ | refine And.intro (a := _ ≠ _) (by omega) ?_ | ((try (refine Or.inl ?_; (conv => whnf))); (try (refine ⟨false, ?_⟩; (conv => whnf))); refine ⟨_, by first | exact sb | exact d3, ?_⟩) | fail); (conv => whnf))))
            all_goals (first | rfl | set_option pp.maxSteps 300 in trace_state)
        · have oy := okM (seq := next) (is := true) o
          have e5 := dis_after h1 h3 hq
          have d5 := pc_DisputeOk (mrkB b seq true) ox other next e5
          have e6 := dis_after h3 h1 (fun e => hq e.symm)
          have d6 := pc_DisputeOk (mrkB b next true) oy user seq e6
          obtain ⟨c1, c2, c3, c4, c5⟩ := mrkE_zero h3
          rw [← mrk_comm (mrk_ne a2 c2 hq)] at d6
          have oz := okM (seq := next) (is := true) ox
          have sz := pc_SameU _ oz
          clear hback a5 hd c5 a4 c4
          by_cases h2 : setE (mrkB b seq true) other seq = 0
          · have s2 := sT h2
            clear sT sF
            refine pc_of_bodyF hm Tryz.func8 (by kernel_rfl) ?_
            conv => whnf
            (repeat' ((first | refine ansT ?_ | refine ansF ?_ | ((try (refine Or.inl ?_; (conv => whnf))); (try (refine ⟨false, ?_⟩; (conv => whnf))); refine ⟨_, by first | exact al | exact gr | exact d1 | exact s2 | exact sb | exact d3, ?_⟩) | refine ansD (by first | (simp [*]; done) | omega) ?_ | refine ansN (by first | (simp [*]; done) | omega) ?_ | refine ⟨by kernel_rfl, ?_⟩ | refine ansB (by decide) (by first | decide | (simp; done) | (simp only [List.length_cons, List.length_nil]; decide)) ?_ | fail); (conv => whnf)))
            (repeat' (first | (refine ansS (fun hh => ?_) (fun hh => ?_) <;> (first | simp only [ansX] at hh | skip) <;> (first | (exfalso; omega) | (exfalso; simp [*] at hh; done) | (exfalso; revert hh; decide) | exact absurd (by assumption) hh | (conv => whnf))) | ((first | refine ⟨by kernel_rfl, ?_⟩ | refine ansB (by omega) (by omega) ?_ | refine ansB (by decide) (by decide) ?_ | refine And.intro (a := _ ≤ _) (by omega) ?_ | refine And.intro (a := _ ≠ _) (by omega) ?_ | ((try (refine Or.inl ?_; (conv => whnf))); (try (refine ⟨false, ?_⟩; (conv => whnf))); refine ⟨_, by first | exact sb | exact d3 | exact d5 | exact d6 | exact sz, ?_⟩) | fail); (conv => whnf))))
            all_goals (first | rfl | set_option pp.maxSteps 300 in trace_state)
          · have s2 := sF h2
            clear sT sF
            refine pc_of_bodyF hm Tryz.func8 (by kernel_rfl) ?_
            conv => whnf
            (repeat' ((first | refine ansT ?_ | refine ansF ?_ | ((try (refine Or.inl ?_; (conv => whnf))); (try (refine ⟨false, ?_⟩; (conv => whnf))); refine ⟨_, by first | exact al | exact gr | exact d1 | exact s2 | exact sb | exact d3, ?_⟩) | refine ansD (by first | (simp [*]; done) | omega) ?_ | refine ansN (by first | (simp [*]; done) | omega) ?_ | refine ⟨by kernel_rfl, ?_⟩ | refine ansB (by decide) (by first | decide | (simp; done) | (simp only [List.length_cons, List.length_nil]; decide)) ?_ | fail); (conv => whnf)))
            (repeat' (first | (refine ansS (fun hh => ?_) (fun hh => ?_) <;> (first | simp only [ansX] at hh | skip) <;> (first | (exfalso; omega) | (exfalso; simp [*] at hh; done) | (exfalso; revert hh; decide) | exact absurd (by assumption) hh | (conv => whnf))) | ((first | refine ⟨by kernel_rfl, ?_⟩ | refine ansB (by omega) (by omega) ?_ | refine ansB (by decide) (by decide) ?_ | refine And.intro (a := _ ≤ _) (by omega) ?_ | refine And.intro (a := _ ≠ _) (by omega) ?_ | ((try (refine Or.inl ?_; (conv => whnf))); (try (refine ⟨false, ?_⟩; (conv => whnf))); refine ⟨_, by first | exact sb | exact d3 | exact d5 | exact d6 | exact sz, ?_⟩) | fail); (conv => whnf))))
            all_goals (first | rfl | set_option pp.maxSteps 300 in trace_state)
      · have d3 := pc_DisputeBad b o other next h3
        clear hback a5 hd
        by_cases h2 : setE (mrkB b seq true) other seq = 0
        · have s2 := sT h2
          clear sT sF
          refine pc_of_bodyF hm Tryz.func8 (by kernel_rfl) ?_
          conv => whnf
          (repeat' ((first | refine ansT ?_ | refine ansF ?_ | ((try (refine Or.inl ?_; (conv => whnf))); (try (refine ⟨false, ?_⟩; (conv => whnf))); refine ⟨_, by first | exact al | exact gr | exact d1 | exact s2 | exact sb | exact d3, ?_⟩) | refine ansD (by first | (simp [*]; done) | omega) ?_ | refine ansN (by first | (simp [*]; done) | omega) ?_ | refine ⟨by kernel_rfl, ?_⟩ | refine ansB (by decide) (by first | decide | (simp; done) | (simp only [List.length_cons, List.length_nil]; decide)) ?_ | fail); (conv => whnf)))
          (repeat' (first | (refine ansS (fun hh => ?_) (fun hh => ?_) <;> (first | simp only [ansX] at hh | skip) <;> (first | (exfalso; omega) | (exfalso; simp [*] at hh; done) | (exfalso; revert hh; decide) | exact absurd (by assumption) hh | (conv => whnf))) | ((first | refine ⟨by kernel_rfl, ?_⟩ | refine ansB (by omega) (by omega) ?_ | refine ansB (by decide) (by decide) ?_ | refine And.intro (a := _ ≤ _) (by omega) ?_ | refine And.intro (a := _ ≠ _) (by omega) ?_ | ((try (refine Or.inl ?_; (conv => whnf))); (try (refine ⟨false, ?_⟩; (conv => whnf))); refine ⟨_, by first | exact sb | exact d3, ?_⟩) | fail); (conv => whnf))))
          all_goals (first | rfl | set_option pp.maxSteps 300 in trace_state)
        · have s2 := sF h2
          clear sT sF
          refine pc_of_bodyF hm Tryz.func8 (by kernel_rfl) ?_
          conv => whnf
          (repeat' ((first | refine ansT ?_ | refine ansF ?_ | ((try (refine Or.inl ?_; (conv => whnf))); (try (refine ⟨false, ?_⟩; (conv => whnf))); refine ⟨_, by first | exact al | exact gr | exact d1 | exact s2 | exact sb | exact d3, ?_⟩) | refine ansD (by first | (simp [*]; done) | omega) ?_ | refine ansN (by first | (simp [*]; done) | omega) ?_ | refine ⟨by kernel_rfl, ?_⟩ | refine ansB (by decide) (by first | decide | (simp; done) | (simp only [List.length_cons, List.length_nil]; decide)) ?_ | fail); (conv => whnf)))
          (repeat' (first | (refine ansS (fun hh => ?_) (fun hh => ?_) <;> (first | simp only [ansX] at hh | skip) <;> (first | (exfalso; omega) | (exfalso; simp [*] at hh; done) | (exfalso; revert hh; decide) | exact absurd (by assumption) hh | (conv => whnf))) | ((first | refine ⟨by kernel_rfl, ?_⟩ | refine ansB (by omega) (by omega) ?_ | refine ansB (by decide) (by decide) ?_ | refine And.intro (a := _ ≤ _) (by omega) ?_ | refine And.intro (a := _ ≠ _) (by omega) ?_ | ((try (refine Or.inl ?_; (conv => whnf))); (try (refine ⟨false, ?_⟩; (conv => whnf))); refine ⟨_, by first | exact sb | exact d3, ?_⟩) | fail); (conv => whnf))))
          all_goals (first | rfl | set_option pp.maxSteps 300 in trace_state)
    · have d1 := pc_DisputeBad b o user seq h1
      refine pc_of_bodyF hm Tryz.func8 (by kernel_rfl) ?_
      conv => whnf
      (repeat' ((first | refine ansT ?_ | refine ansF ?_ | ((try (refine Or.inl ?_; (conv => whnf))); (try (refine ⟨false, ?_⟩; (conv => whnf))); refine ⟨_, by first | exact al | exact gr | exact d1, ?_⟩) | refine ansD (by first | (simp [*]; done) | omega) ?_ | refine ansN (by first | (simp [*]; done) | omega) ?_ | refine ⟨by kernel_rfl, ?_⟩ | refine ansB (by decide) (by first | decide | (simp; done) | (simp only [List.length_cons, List.length_nil]; decide)) ?_ | fail); (conv => whnf)))
      (repeat' (first | (refine ansS (fun hh => ?_) (fun hh => ?_) <;> (first | simp only [ansX] at hh | skip) <;> (first | (exfalso; omega) | (exfalso; simp [*] at hh; done) | (exfalso; revert hh; decide) | exact absurd (by assumption) hh | (conv => whnf))) | ((first | refine ⟨by kernel_rfl, ?_⟩ | refine ansB (by omega) (by omega) ?_ | refine ansB (by decide) (by decide) ?_ | refine And.intro (a := _ ≤ _) (by omega) ?_ | refine And.intro (a := _ ≠ _) (by omega) ?_ | fail); (conv => whnf))))
      all_goals (first | rfl | set_option pp.maxSteps 300 in trace_state)
  · have hs : smallB b = false := by simpa using hs
    rw [hs] at gr
    refine pc_of_bodyF hm Tryz.func8 (by kernel_rfl) ?_
    conv => whnf
    (repeat' ((first | refine ansT ?_ | refine ansF ?_ | ((try (refine Or.inl ?_; (conv => whnf))); (try (refine ⟨false, ?_⟩; (conv => whnf))); refine ⟨_, by first | exact al | exact gr, ?_⟩) | refine ansD (by first | (simp [*]; done) | omega) ?_ | refine ansN (by first | (simp [*]; done) | omega) ?_ | refine ⟨by kernel_rfl, ?_⟩ | refine ansB (by decide) (by first | decide | (simp; done) | (simp only [List.length_cons, List.length_nil]; decide)) ?_ | fail); (conv => whnf)))
    first | rfl | set_option pp.maxSteps 300 in trace_state
end Go.Proofs.Tryz.My
