/- A helper text: contracts of functions of the program, and plain lemmas. -/
import Derived.Test.YtnoahgjfeablgaaGreatEvSix
import Derived.Test.YtnoahgjfeablgaaGreatMzBnA
set_option maxRecDepth 100000
set_option maxHeartbeats 0
set_option linter.unusedVariables false
set_option linter.unusedSimpArgs false
namespace Go.Proofs.Tryz.My
open Go Go.Ev
theorem pc_RecipeKeeps (b : BooksT) (a : ActT) : PC Tryz.prog 10 [bks b, act a] (.bool true) := by
  have al := pc_alive
  have gr := pc_Great b
  by_cases hs : smallB b = true
  · have o := okS hs
    rw [hs] at gr
    by_cases hp : a.profile.length ≤ 100
    · have hp20 : a.profile.length < 2 ^ 20 := by omega
      by_cases h : doE b a = 0
      · have c := pc_actOk b o a hp20 h
        have hc := do_chk h
        have g := chk_good.1 hc
        have g2 := keep_do g h
        have hc2 := chk_good.2 g2
        obtain ⟨q1, q2, q3⟩ := do_grow g h
        have ck := pc_BCheck b o
        rw [if_pos hc] at ck
        have ck2 := pc_BCheck (doB b a) (okG g2)
        rw [if_pos hc2] at ck2
        have nu := g.nu
        have nr := g.nr
        have nx := g.nx
        have nu2 := g2.nu
        have nr2 := g2.nr
        have nx2 := g2.nx
        have nl2 := g2.nl
        rw [q1] at nl2
        have w1 : IntKind.i64.wrap (((doB b a).users.length : Int) - b.users.length) = ((doB b a).users.length : Int) - b.users.length := w64 _ (by omega) (by omega)
        have w2 : IntKind.i64.wrap (((doB b a).users.length : Int) - b.users.length + (doB b a).recipes.length) = ((doB b a).users.length : Int) - b.users.length + (doB b a).recipes.length := w64 _ (by omega) (by omega)
        have w3 : IntKind.i64.wrap (((doB b a).users.length : Int) - b.users.length + (doB b a).recipes.length - b.recipes.length) = ((doB b a).users.length : Int) - b.users.length + (doB b a).recipes.length - b.recipes.length := w64 _ (by omega) (by omega)
        have w4 : IntKind.i64.wrap (((doB b a).users.length : Int) - b.users.length + (doB b a).recipes.length - b.recipes.length + (doB b a).next) = ((doB b a).users.length : Int) - b.users.length + (doB b a).recipes.length - b.recipes.length + (doB b a).next := w64 _ (by omega) (by omega)
        have w5 : IntKind.i64.wrap (((doB b a).users.length : Int) - b.users.length + (doB b a).recipes.length - b.recipes.length + (doB b a).next - b.next) = ((doB b a).users.length : Int) - b.users.length + (doB b a).recipes.length - b.recipes.length + (doB b a).next - b.next := w64 _ (by omega) (by omega)
        have W : IntKind.i64.wrap (IntKind.i64.wrap (IntKind.i64.wrap (IntKind.i64.wrap (IntKind.i64.wrap (((doB b a).users.length : Int) - b.users.length) + (doB b a).recipes.length) - b.recipes.length) + (doB b a).next) - b.next) = ((doB b a).users.length : Int) - b.users.length + (doB b a).recipes.length - b.recipes.length + (doB b a).next - b.next := by rw [w1, w2, w3, w4, w5]
        rw [← W] at q2
        clear w1 w2 w3 w4 w5 W h hs hc hc2 g g2
        refine pc_of_bodyF hm Tryz.func10 (by kernel_rfl) ?_
        conv => whnf
        (repeat' ((first | refine ansT ?_ | refine ansF ?_ | ((try (refine Or.inl ?_; (conv => whnf))); (try (refine ⟨false, ?_⟩; (conv => whnf))); refine ⟨_, by first | exact al | exact gr, ?_⟩) | refine ansD (by first | (simp [*]; done) | omega) ?_ | refine ansN (by first | (simp [*]; done) | omega) ?_ | refine ⟨by kernel_rfl, ?_⟩ | refine ansB (by decide) (by first | decide | (simp; done) | (simp only [List.length_cons, List.length_nil]; decide)) ?_ | fail); (conv => whnf)))
        (repeat' (first | (refine ansS (fun hh => ?_) (fun hh => ?_) <;> (first | simp only [ansX] at hh | skip) <;> (first | (exfalso; omega) | (exfalso; simp [*] at hh; done) | (exfalso; revert hh; decide) | exact absurd (by assumption) hh | (conv => whnf))) | ((first | refine ⟨by kernel_rfl, ?_⟩ | refine ansB (by omega) (by omega) ?_ | refine ansB (by decide) (by decide) ?_ | refine And.intro (a := _ ≤ _) (by omega) ?_ | refine And.intro (a := _ ≠ _) (by omega) ?_ | ((try (refine Or.inl ?_; (conv => whnf))); (try (refine ⟨false, ?_⟩; (conv => whnf))); refine ⟨_, by first | exact c | exact ck | exact ck2, ?_⟩) | fail); (conv => whnf))))
        all_goals (first | rfl | (refine congrArg AV.bool ?_; simp only [ansX]; omega) | set_option pp.maxSteps 300 in trace_state)
      · have c := pc_actBad b o a hp20 h
        have s0 := pc_SameNew 0
        refine pc_of_bodyF hm Tryz.func10 (by kernel_rfl) ?_
        conv => whnf
        (repeat' ((first | refine ansT ?_ | refine ansF ?_ | ((try (refine Or.inl ?_; (conv => whnf))); (try (refine ⟨false, ?_⟩; (conv => whnf))); refine ⟨_, by first | exact al | exact gr, ?_⟩) | refine ansD (by first | (simp [*]; done) | omega) ?_ | refine ansN (by first | (simp [*]; done) | omega) ?_ | refine ⟨by kernel_rfl, ?_⟩ | refine ansB (by decide) (by first | decide | (simp; done) | (simp only [List.length_cons, List.length_nil]; decide)) ?_ | fail); (conv => whnf)))
        (repeat' (first | (refine ansS (fun hh => ?_) (fun hh => ?_) <;> (first | simp only [ansX] at hh | skip) <;> (first | (exfalso; omega) | (exfalso; simp [*] at hh; done) | (exfalso; revert hh; decide) | exact absurd (by assumption) hh | (conv => whnf))) | ((first | refine ⟨by kernel_rfl, ?_⟩ | refine ansB (by omega) (by omega) ?_ | refine ansB (by decide) (by decide) ?_ | refine And.intro (a := _ ≤ _) (by omega) ?_ | refine And.intro (a := _ ≠ _) (by omega) ?_ | ((try (refine Or.inl ?_; (conv => whnf))); (try (refine ⟨false, ?_⟩; (conv => whnf))); refine ⟨_, by first | exact c | exact s0, ?_⟩) | fail); (conv => whnf))))
        all_goals (first | rfl | set_option pp.maxSteps 300 in trace_state)
    · refine pc_of_bodyF hm Tryz.func10 (by kernel_rfl) ?_
      conv => whnf
      (repeat' ((first | refine ansT ?_ | refine ansF ?_ | ((try (refine Or.inl ?_; (conv => whnf))); (try (refine ⟨false, ?_⟩; (conv => whnf))); refine ⟨_, by first | exact al | exact gr, ?_⟩) | refine ansD (by first | (simp [*]; done) | omega) ?_ | refine ansN (by first | (simp [*]; done) | omega) ?_ | refine ⟨by kernel_rfl, ?_⟩ | refine ansB (by decide) (by first | decide | (simp; done) | (simp only [List.length_cons, List.length_nil]; decide)) ?_ | fail); (conv => whnf)))
      (repeat' (first | (refine ansS (fun hh => ?_) (fun hh => ?_) <;> (first | simp only [ansX] at hh | skip) <;> (first | (exfalso; omega) | (exfalso; simp [*] at hh; done) | (exfalso; revert hh; decide) | exact absurd (by assumption) hh | (conv => whnf))) | ((first | refine ⟨by kernel_rfl, ?_⟩ | refine ansB (by omega) (by omega) ?_ | refine ansB (by decide) (by decide) ?_ | refine And.intro (a := _ ≤ _) (by omega) ?_ | refine And.intro (a := _ ≠ _) (by omega) ?_ | fail); (conv => whnf))))
      all_goals (first | rfl | set_option pp.maxSteps 300 in trace_state)
  · have hs : smallB b = false := by simpa using hs
    rw [hs] at gr
    refine pc_of_bodyF hm Tryz.func10 (by kernel_rfl) ?_
    conv => whnf
    (repeat' ((first | refine ansT ?_ | refine ansF ?_ | ((try (refine Or.inl ?_; (conv => whnf))); (try (refine ⟨false, ?_⟩; (conv => whnf))); refine ⟨_, by first | exact al | exact gr, ?_⟩) | refine ansD (by first | (simp [*]; done) | omega) ?_ | refine ansN (by first | (simp [*]; done) | omega) ?_ | refine ⟨by kernel_rfl, ?_⟩ | refine ansB (by decide) (by first | decide | (simp; done) | (simp only [List.length_cons, List.length_nil]; decide)) ?_ | fail); (conv => whnf)))
    (repeat' (first | (refine ansS (fun hh => ?_) (fun hh => ?_) <;> (first | simp only [ansX] at hh | skip) <;> (first | (exfalso; omega) | (exfalso; simp [*] at hh; done) | (exfalso; revert hh; decide) | exact absurd (by assumption) hh | (conv => whnf))) | ((first | refine ⟨by kernel_rfl, ?_⟩ | refine ansB (by omega) (by omega) ?_ | refine ansB (by decide) (by decide) ?_ | refine And.intro (a := _ ≤ _) (by omega) ?_ | refine And.intro (a := _ ≠ _) (by omega) ?_ | fail); (conv => whnf))))
    all_goals (first | rfl | set_option pp.maxSteps 300 in trace_state)
end Go.Proofs.Tryz.My
