/- A helper text: contracts of functions of the program, and plain lemmas. -/
import Derived.Test.YtnoahgjfeablgaaGreatEvSix
import Derived.Test.YtnoahgjfeablgaaGreatMzBn9a
import Derived.Test.YtnoahgjfeablgaaGreatMzBm1
import Derived.Test.YtnoahgjfeablgaaGreatMzBnB
set_option maxRecDepth 100000
set_option maxHeartbeats 0
set_option linter.unusedVariables false
set_option linter.unusedSimpArgs false
namespace Go.Proofs.Tryz.My
open Go Go.Ev
theorem all_take {l : List EntT} {k : Nat} (hk : k < l.length) : (l.take (k + 1)).all EntT.disputed = ((l.take k).all EntT.disputed && (l.getD k ent0).disputed) := by
  rw [List.take_add_one, List.getElem?_eq_getElem hk, getD_at hk]
  show (l.take k ++ [l[k]]).all EntT.disputed = _
  rw [List.all_append]
  simp
theorem bneF (c : Bool) : ¬(c != c) = true := by cases c <;> decide
theorem all_upto {l : List EntT} {k : Nat} (h : ∀ m, m < k → (l.getD m ent0).disputed = true) : (l.take k).all EntT.disputed = true := by
  rw [List.all_eq_true]
  intro x hx
  obtain ⟨i, hi, e⟩ := List.getElem_of_mem hx
  rw [List.length_take] at hi
  rw [List.getElem_take] at e
  have := h i (by omega)
  rw [getD_at (show i < l.length by omega), e] at this
  exact this
theorem pc_RecipeHeld (b : BooksT) (a : ActT) (hk0 : 0 ≤ a.kind) : PC Tryz.prog 12 [bks b, act a] (.bool true) := by
  have al := pc_alive
  have gr := pc_Great b
  by_cases hs : smallB b = true
  · have o := okS hs
    rw [hs] at gr
    by_cases hp : a.profile.length ≤ 100
    · have hp20 : a.profile.length < 2 ^ 20 := by omega
      by_cases h : doE b a = 0
      · have c := pc_actOk b o a hp20 h
        have g := chk_good.1 (do_chk h)
        have hkn : ¬(knd a = 0 ∨ knd a = 1 ∨ knd a = 2 ∨ knd a = 3 ∨ knd a = 4 ∨ knd a = 5 ∨ knd a = 6) → ¬knd a < 6 := fun q z => q (by
          have h1 : 0 ≤ knd a := Int.tmod_nonneg _ hk0
          omega)
        have held : ∀ k, k < b.log.length → HeldAt b (doB b a) a k := fun k hk => do_held g hkn h hk
        have od := (okG (keep_do g h)).l
        have ol := o.l
        clear h g hkn
        generalize doB b a = d at *
        refine pc_of_bodyF hm Tryz.func12 (by kernel_rfl) ?_
        conv => whnf
        (repeat' ((first | refine ansT ?_ | refine ansF ?_ | ((try (refine Or.inl ?_; (conv => whnf))); (try (refine ⟨false, ?_⟩; (conv => whnf))); refine ⟨_, by first | exact al | exact gr, ?_⟩) | refine ansD (by first | (simp [*]; done) | omega) ?_ | refine ansN (by first | (simp [*]; done) | omega) ?_ | refine ⟨by kernel_rfl, ?_⟩ | refine ansB (by decide) (by first | decide | (simp; done) | (simp only [List.length_cons, List.length_nil]; decide)) ?_ | fail); (conv => whnf)))
        (repeat' (first | (refine ansS (fun hh => ?_) (fun hh => ?_) <;> (first | simp only [ansX] at hh | skip) <;> (first | (exfalso; omega) | (exfalso; simp [*] at hh; done) | (exfalso; revert hh; decide) | exact absurd (by assumption) hh | (conv => whnf))) | ((first | refine ⟨by kernel_rfl, ?_⟩ | refine ansB (by omega) (by omega) ?_ | refine ansB (by decide) (by decide) ?_ | refine And.intro (a := _ ≤ _) (by omega) ?_ | refine And.intro (a := _ ≠ _) (by omega) ?_ | ((try (refine Or.inl ?_; (conv => whnf))); (try (refine ⟨false, ?_⟩; (conv => whnf))); refine ⟨_, by exact c, ?_⟩) | fail); (conv => whnf))))
        refine Or.inr ⟨Nat × Nat × Nat, [67, 10, 11], [], [], fun t => [i64 t.1, i64 t.2.2, fndV ((b.log.take t.1).all EntT.disputed) t.2.1], fun _ => [], fun _ => [], fun t => b.log.length - t.1, fun t => t.1 ≤ b.log.length ∧ ((t.2.1 = 0 ∧ (b.log.take t.1).all EntT.disputed = false) ∨ (t.2.1 = 1 ∧ (b.log.take t.1).all EntT.disputed = true) ∨ t.2.1 = 2) ∧ (t.2.2 = 0 ∨ (t.2.2 = 1 ∧ d.log.length = b.log.length ∧ (b.log.take t.1).all EntT.disputed = false)), ?_⟩
        (conv => whnf)
        refine ⟨⟨(0, 1, 0), ?_⟩, ?_⟩
        · (conv => whnf)
          exact ⟨⟨⟨Nat.zero_le _, .inr (.inl ⟨rfl, rfl⟩), .inl rfl⟩, rfl, rfl, rfl⟩, by kernel_rfl, by kernel_rfl⟩
        rintro ⟨k, kk, D⟩ ⟨hk, hfl, hD⟩
        simp only [] at hk hfl hD
        rcases hfl with ⟨e, hF⟩ | ⟨e, hF⟩ | e
        · subst e
          rcases hD with hD | ⟨hD, hDl, hDF⟩
          · subst hD
            (conv => whnf)
            refine ⟨fun hlt => ?_, fun hlt => ?_⟩
            · have hlt := of_decide_eq_true hlt
              have hkk : k < b.log.length := by omega
              have hat := all_take hkk
              rw [hF, Bool.false_and] at hat
              have hpk := lt40 (o.p k)
              have hh0 := held k hkk
              (conv => whnf)
              refine ⟨⟨by omega, by omega⟩, ?_⟩
              (conv => whnf)
              rcases hh0 with ⟨q, h1, h2, h3⟩ | ⟨h1, h2, h3, h4, h5, h6⟩
              · have fd := pc_findT d.log (by omega) (b.log.getD k ent0).seq h1
                rw [h2] at fd
                rcases h3 with h3 | ⟨h3, h4⟩
                · subst h3
                  (repeat' ((first | refine ansT ?_ | refine ansF ?_ | ((try (refine Or.inl ?_; (conv => whnf))); (try (refine ⟨false, ?_⟩; (conv => whnf))); refine ⟨_, by exact fd, ?_⟩) | refine ansD (by first | (simp [*]; done) | omega) ?_ | refine ansN (by first | (simp [*]; done) | omega) ?_ | refine ⟨by kernel_rfl, ?_⟩ | refine ansB (by decide) (by first | decide | (simp; done) | (simp only [List.length_cons, List.length_nil]; decide)) ?_ | fail); (conv => whnf)))
                  (repeat' (first | (refine ansS (fun hh => ?_) (fun hh => ?_) <;> (first | simp only [ansX] at hh | skip) <;> (first | (exfalso; omega) | (exfalso; simp [*] at hh; done) | (exfalso; revert hh; decide) | exact absurd (by assumption) hh | (conv => whnf))) | ((first | refine ⟨by kernel_rfl, ?_⟩ | refine ansB (by omega) (by omega) ?_ | refine ansB (by decide) (by decide) ?_ | refine And.intro (a := _ ≤ _) (by omega) ?_ | refine And.intro (a := _ ≠ _) (by omega) ?_ | ((try (refine Or.inl ?_; (conv => whnf))); (try (refine ⟨false, ?_⟩; (conv => whnf))); refine ⟨_, by exact pc_SameE _ hpk, ?_⟩) | fail); (conv => whnf))))
                  all_goals (try (exfalso; exact bneF _ (by assumption)))
                  all_goals
                    refine ⟨(k + 1, 0, 0), ?_⟩
                    (conv => whnf)
                    refine ⟨⟨⟨?_, ?_, ?_, ?_⟩, ?_, rfl, rfl⟩, by kernel_rfl, by kernel_rfl⟩
                    · show b.log.length - (k + 1) < b.log.length - k; omega
                    · show k + 1 ≤ b.log.length; omega
                    · exact .inl ⟨rfl, hat⟩
                    · exact .inl rfl
                    · rw [w64 _ (by omega) (by omega)]; rfl
                · unfold knd at h3
                  have z4 : a.number = (b.log.getD (Int.toNat (k : Int)) ent0).seq := h4
                  (repeat' ((first | refine ansT ?_ | refine ansF ?_ | ((try (refine Or.inl ?_; (conv => whnf))); (try (refine ⟨false, ?_⟩; (conv => whnf))); refine ⟨_, by exact fd, ?_⟩) | refine ansD (by first | (simp [*]; done) | omega) ?_ | refine ansN (by first | (simp [*]; done) | omega) ?_ | refine ⟨by kernel_rfl, ?_⟩ | refine ansB (by decide) (by first | decide | (simp; done) | (simp only [List.length_cons, List.length_nil]; decide)) ?_ | fail); (conv => whnf)))
                  (repeat' (first | (refine ansS (fun hh => ?_) (fun hh => ?_) <;> (first | simp only [ansX] at hh | skip) <;> (first | (exfalso; omega) | (exfalso; simp [*] at hh; done) | (exfalso; revert hh; decide) | exact absurd (by assumption) hh | (conv => whnf))) | ((first | refine ⟨by kernel_rfl, ?_⟩ | refine ansB (by omega) (by omega) ?_ | refine ansB (by decide) (by decide) ?_ | refine And.intro (a := _ ≤ _) (by omega) ?_ | refine And.intro (a := _ ≠ _) (by omega) ?_ | ((try (refine Or.inl ?_; (conv => whnf))); (try (refine ⟨false, ?_⟩; (conv => whnf))); refine ⟨_, by exact pc_SameE _ hpk, ?_⟩) | fail); (conv => whnf))))
                  all_goals (try (exfalso; exact bneF _ (by assumption)))
                  all_goals
                    refine ⟨(k + 1, 0, 0), ?_⟩
                    (conv => whnf)
                    refine ⟨⟨⟨?_, ?_, ?_, ?_⟩, ?_, rfl, rfl⟩, by kernel_rfl, by kernel_rfl⟩
                    · show b.log.length - (k + 1) < b.log.length - k; omega
                    · show k + 1 ≤ b.log.length; omega
                    · exact .inl ⟨rfl, hat⟩
                    · exact .inl rfl
                    · rw [w64 _ (by omega) (by omega)]; rfl
              · exfalso
                rw [all_upto h3] at hF
                cases hF
            · (conv => whnf)
              (repeat' (first | (refine ansS (fun hh => ?_) (fun hh => ?_) <;> (first | simp only [ansX] at hh | skip) <;> (first | (exfalso; omega) | (exfalso; simp [*] at hh; done) | (exfalso; revert hh; decide) | exact absurd (by assumption) hh | (conv => whnf))) | ((first | refine ⟨by kernel_rfl, ?_⟩ | refine ansB (by omega) (by omega) ?_ | refine ansB (by decide) (by decide) ?_ | refine And.intro (a := _ ≤ _) (by omega) ?_ | refine And.intro (a := _ ≠ _) (by omega) ?_ | fail); (conv => whnf))))
              all_goals (first | rfl | (refine congrArg AV.bool ?_; simp only [ansX]; omega) | set_option pp.maxSteps 300 in trace_state)
          · subst hD
            (conv => whnf)
            refine ⟨fun hlt => ?_, fun hlt => ?_⟩
            · have hlt := of_decide_eq_true hlt
              have hkk : k < b.log.length := by omega
              have hat := all_take hkk
              rw [hF, Bool.false_and] at hat
              have hpk := lt40 (o.p k)
              have hh0 := held k hkk
              (conv => whnf)
              refine ⟨⟨by omega, by omega⟩, ?_⟩
              (conv => whnf)
              rcases hh0 with ⟨q, h1, h2, h3⟩ | ⟨h1, h2, h3, h4, h5, h6⟩
              · have fd := pc_findT d.log (by omega) (b.log.getD k ent0).seq h1
                rw [h2] at fd
                rcases h3 with h3 | ⟨h3, h4⟩
                · subst h3
                  (repeat' ((first | refine ansT ?_ | refine ansF ?_ | ((try (refine Or.inl ?_; (conv => whnf))); (try (refine ⟨false, ?_⟩; (conv => whnf))); refine ⟨_, by exact fd, ?_⟩) | refine ansD (by first | (simp [*]; done) | omega) ?_ | refine ansN (by first | (simp [*]; done) | omega) ?_ | refine ⟨by kernel_rfl, ?_⟩ | refine ansB (by decide) (by first | decide | (simp; done) | (simp only [List.length_cons, List.length_nil]; decide)) ?_ | fail); (conv => whnf)))
                  (repeat' (first | (refine ansS (fun hh => ?_) (fun hh => ?_) <;> (first | simp only [ansX] at hh | skip) <;> (first | (exfalso; omega) | (exfalso; simp [*] at hh; done) | (exfalso; revert hh; decide) | exact absurd (by assumption) hh | (conv => whnf))) | ((first | refine ⟨by kernel_rfl, ?_⟩ | refine ansB (by omega) (by omega) ?_ | refine ansB (by decide) (by decide) ?_ | refine And.intro (a := _ ≤ _) (by omega) ?_ | refine And.intro (a := _ ≠ _) (by omega) ?_ | ((try (refine Or.inl ?_; (conv => whnf))); (try (refine ⟨false, ?_⟩; (conv => whnf))); refine ⟨_, by exact pc_SameE _ hpk, ?_⟩) | fail); (conv => whnf))))
                  all_goals (try (exfalso; exact bneF _ (by assumption)))
                  all_goals
                    refine ⟨(k + 1, 0, 1), ?_⟩
                    (conv => whnf)
                    refine ⟨⟨⟨?_, ?_, ?_, ?_⟩, ?_, rfl, rfl⟩, by kernel_rfl, by kernel_rfl⟩
                    · show b.log.length - (k + 1) < b.log.length - k; omega
                    · show k + 1 ≤ b.log.length; omega
                    · exact .inl ⟨rfl, hat⟩
                    · exact .inr ⟨rfl, hDl, hat⟩
                    · rw [w64 _ (by omega) (by omega)]; rfl
                · unfold knd at h3
                  have z4 : a.number = (b.log.getD (Int.toNat (k : Int)) ent0).seq := h4
                  (repeat' ((first | refine ansT ?_ | refine ansF ?_ | ((try (refine Or.inl ?_; (conv => whnf))); (try (refine ⟨false, ?_⟩; (conv => whnf))); refine ⟨_, by exact fd, ?_⟩) | refine ansD (by first | (simp [*]; done) | omega) ?_ | refine ansN (by first | (simp [*]; done) | omega) ?_ | refine ⟨by kernel_rfl, ?_⟩ | refine ansB (by decide) (by first | decide | (simp; done) | (simp only [List.length_cons, List.length_nil]; decide)) ?_ | fail); (conv => whnf)))
                  (repeat' (first | (refine ansS (fun hh => ?_) (fun hh => ?_) <;> (first | simp only [ansX] at hh | skip) <;> (first | (exfalso; omega) | (exfalso; simp [*] at hh; done) | (exfalso; revert hh; decide) | exact absurd (by assumption) hh | (conv => whnf))) | ((first | refine ⟨by kernel_rfl, ?_⟩ | refine ansB (by omega) (by omega) ?_ | refine ansB (by decide) (by decide) ?_ | refine And.intro (a := _ ≤ _) (by omega) ?_ | refine And.intro (a := _ ≠ _) (by omega) ?_ | ((try (refine Or.inl ?_; (conv => whnf))); (try (refine ⟨false, ?_⟩; (conv => whnf))); refine ⟨_, by exact pc_SameE _ hpk, ?_⟩) | fail); (conv => whnf))))
                  all_goals (try (exfalso; exact bneF _ (by assumption)))
                  all_goals
                    refine ⟨(k + 1, 0, 1), ?_⟩
                    (conv => whnf)
                    refine ⟨⟨⟨?_, ?_, ?_, ?_⟩, ?_, rfl, rfl⟩, by kernel_rfl, by kernel_rfl⟩
                    · show b.log.length - (k + 1) < b.log.length - k; omega
                    · show k + 1 ≤ b.log.length; omega
                    · exact .inl ⟨rfl, hat⟩
                    · exact .inr ⟨rfl, hDl, hat⟩
                    · rw [w64 _ (by omega) (by omega)]; rfl
              · exfalso
                rw [all_upto h3] at hF
                cases hF
            · (conv => whnf)
              (repeat' (first | (refine ansS (fun hh => ?_) (fun hh => ?_) <;> (first | simp only [ansX] at hh | skip) <;> (first | (exfalso; omega) | (exfalso; simp [*] at hh; done) | (exfalso; revert hh; decide) | exact absurd (by assumption) hh | (conv => whnf))) | ((first | refine ⟨by kernel_rfl, ?_⟩ | refine ansB (by omega) (by omega) ?_ | refine ansB (by decide) (by decide) ?_ | refine And.intro (a := _ ≤ _) (by omega) ?_ | refine And.intro (a := _ ≠ _) (by omega) ?_ | fail); (conv => whnf))))
              all_goals (first | rfl | (refine congrArg AV.bool ?_; simp only [ansX]; omega) | set_option pp.maxSteps 300 in trace_state)
        · subst e
          rcases hD with hD | ⟨hD, hDl, hDF⟩
          · subst hD
            (conv => whnf)
            refine ⟨fun hlt => ?_, fun hlt => ?_⟩
            · have hlt := of_decide_eq_true hlt
              have hkk : k < b.log.length := by omega
              have hat := all_take hkk
              rw [hF, Bool.true_and] at hat
              have hpk := lt40 (o.p k)
              have hh0 := held k hkk
              (conv => whnf)
              refine ⟨⟨by omega, by omega⟩, ?_⟩
              (conv => whnf)
              rcases hh0 with ⟨q, h1, h2, h3⟩ | ⟨h1, h2, h3, h4, h5, h6⟩
              · have fd := pc_findT d.log (by omega) (b.log.getD k ent0).seq h1
                rw [h2] at fd
                rcases h3 with h3 | ⟨h3, h4⟩
                · subst h3
                  (repeat' ((first | refine ansT ?_ | refine ansF ?_ | ((try (refine Or.inl ?_; (conv => whnf))); (try (refine ⟨false, ?_⟩; (conv => whnf))); refine ⟨_, by exact fd, ?_⟩) | refine ansD (by first | (simp [*]; done) | omega) ?_ | refine ansN (by first | (simp [*]; done) | omega) ?_ | refine ⟨by kernel_rfl, ?_⟩ | refine ansB (by decide) (by first | decide | (simp; done) | (simp only [List.length_cons, List.length_nil]; decide)) ?_ | fail); (conv => whnf)))
                  (repeat' (first | (refine ansS (fun hh => ?_) (fun hh => ?_) <;> (first | simp only [ansX] at hh | skip) <;> (first | (exfalso; omega) | (exfalso; simp [*] at hh; done) | (exfalso; revert hh; decide) | exact absurd (by assumption) hh | (conv => whnf))) | ((first | refine ⟨by kernel_rfl, ?_⟩ | refine ansB (by omega) (by omega) ?_ | refine ansB (by decide) (by decide) ?_ | refine And.intro (a := _ ≤ _) (by omega) ?_ | refine And.intro (a := _ ≠ _) (by omega) ?_ | ((try (refine Or.inl ?_; (conv => whnf))); (try (refine ⟨false, ?_⟩; (conv => whnf))); refine ⟨_, by exact pc_SameE _ hpk, ?_⟩) | fail); (conv => whnf))))
                  all_goals (try (exfalso; exact bneF _ (by assumption)))
                  all_goals
                    refine ⟨(k + 1, 2, 0), ?_⟩
                    (conv => whnf)
                    refine ⟨⟨⟨?_, ?_, ?_, ?_⟩, ?_, rfl, rfl⟩, by kernel_rfl, by kernel_rfl⟩
                    · show b.log.length - (k + 1) < b.log.length - k; omega
                    · show k + 1 ≤ b.log.length; omega
                    · exact .inr (.inr rfl)
                    · exact .inl rfl
                    · rw [w64 _ (by omega) (by omega)]; show _ = [i64 ((k + 1 : Nat) : Int), i64 ((0 : Nat) : Int), AV.bool ((b.log.take (k + 1)).all EntT.disputed)]; rw [hat]; rfl
                · unfold knd at h3
                  have z4 : a.number = (b.log.getD (Int.toNat (k : Int)) ent0).seq := h4
                  (repeat' ((first | refine ansT ?_ | refine ansF ?_ | ((try (refine Or.inl ?_; (conv => whnf))); (try (refine ⟨false, ?_⟩; (conv => whnf))); refine ⟨_, by exact fd, ?_⟩) | refine ansD (by first | (simp [*]; done) | omega) ?_ | refine ansN (by first | (simp [*]; done) | omega) ?_ | refine ⟨by kernel_rfl, ?_⟩ | refine ansB (by decide) (by first | decide | (simp; done) | (simp only [List.length_cons, List.length_nil]; decide)) ?_ | fail); (conv => whnf)))
                  (repeat' (first | (refine ansS (fun hh => ?_) (fun hh => ?_) <;> (first | simp only [ansX] at hh | skip) <;> (first | (exfalso; omega) | (exfalso; simp [*] at hh; done) | (exfalso; revert hh; decide) | exact absurd (by assumption) hh | (conv => whnf))) | ((first | refine ⟨by kernel_rfl, ?_⟩ | refine ansB (by omega) (by omega) ?_ | refine ansB (by decide) (by decide) ?_ | refine And.intro (a := _ ≤ _) (by omega) ?_ | refine And.intro (a := _ ≠ _) (by omega) ?_ | ((try (refine Or.inl ?_; (conv => whnf))); (try (refine ⟨false, ?_⟩; (conv => whnf))); refine ⟨_, by exact pc_SameE _ hpk, ?_⟩) | fail); (conv => whnf))))
                  all_goals (try (exfalso; exact bneF _ (by assumption)))
                  all_goals
                    refine ⟨(k + 1, 2, 0), ?_⟩
                    (conv => whnf)
                    refine ⟨⟨⟨?_, ?_, ?_, ?_⟩, ?_, rfl, rfl⟩, by kernel_rfl, by kernel_rfl⟩
                    · show b.log.length - (k + 1) < b.log.length - k; omega
                    · show k + 1 ≤ b.log.length; omega
                    · exact .inr (.inr rfl)
                    · exact .inl rfl
                    · rw [w64 _ (by omega) (by omega)]; show _ = [i64 ((k + 1 : Nat) : Int), i64 ((0 : Nat) : Int), AV.bool ((b.log.take (k + 1)).all EntT.disputed)]; rw [hat]; rfl
              · have fd := pc_findF d.log (by omega) (b.log.getD k ent0).seq (by rw [h1]; decide)
                have z2 : (b.log.getD (Int.toNat (k : Int)) ent0).disputed = false := h2
                have z3 : (b.log[k]'hkk).disputed = false := by have z := h2; rw [getD_at hkk] at z; exact z
                rw [h2] at hat
                unfold knd at h4
                (repeat' ((first | refine ansT ?_ | refine ansF ?_ | ((try (refine Or.inl ?_; (conv => whnf))); (try (refine ⟨false, ?_⟩; (conv => whnf))); refine ⟨_, by exact fd, ?_⟩) | refine ansD (by first | (simp [*]; done) | omega) ?_ | refine ansN (by first | (simp [*]; done) | omega) ?_ | refine ⟨by kernel_rfl, ?_⟩ | refine ansB (by decide) (by first | decide | (simp; done) | (simp only [List.length_cons, List.length_nil]; decide)) ?_ | fail); (conv => whnf)))
                (repeat' (first | (refine ansS (fun hh => ?_) (fun hh => ?_) <;> (first | simp only [ansX] at hh | skip) <;> (first | (exfalso; omega) | (exfalso; simp [*] at hh; done) | (exfalso; revert hh; decide) | exact absurd (by assumption) hh | (conv => whnf))) | ((first | refine ⟨by kernel_rfl, ?_⟩ | refine ansB (by omega) (by omega) ?_ | refine ansB (by decide) (by decide) ?_ | refine And.intro (a := _ ≤ _) (by omega) ?_ | refine And.intro (a := _ ≠ _) (by omega) ?_ | fail); (conv => whnf))))
                refine ⟨(k + 1, 2, 1), ?_⟩
                (conv => whnf)
                refine ⟨⟨⟨?_, ?_, ?_, ?_⟩, ?_, rfl, rfl⟩, by kernel_rfl, by kernel_rfl⟩
                · show b.log.length - (k + 1) < b.log.length - k; omega
                · show k + 1 ≤ b.log.length; omega
                · exact .inr (.inr rfl)
                · exact .inr ⟨rfl, h6, hat⟩
                · show [i64 (IntKind.i64.wrap ((k : Int) + 1)), i64 (IntKind.i64.wrap (((0 : Nat) : Int) + 1)), AV.bool (b.log.getD (Int.toNat (k : Int)) ent0).disputed] = [i64 ((k + 1 : Nat) : Int), i64 ((1 : Nat) : Int), AV.bool ((b.log.take (k + 1)).all EntT.disputed)]
                  rw [hat, z2, w64 _ (by omega) (by omega), w64 _ (by omega) (by omega)]
                  rfl
            · (conv => whnf)
              (repeat' (first | (refine ansS (fun hh => ?_) (fun hh => ?_) <;> (first | simp only [ansX] at hh | skip) <;> (first | (exfalso; omega) | (exfalso; simp [*] at hh; done) | (exfalso; revert hh; decide) | exact absurd (by assumption) hh | (conv => whnf))) | ((first | refine ⟨by kernel_rfl, ?_⟩ | refine ansB (by omega) (by omega) ?_ | refine ansB (by decide) (by decide) ?_ | refine And.intro (a := _ ≤ _) (by omega) ?_ | refine And.intro (a := _ ≠ _) (by omega) ?_ | fail); (conv => whnf))))
              all_goals (first | rfl | (refine congrArg AV.bool ?_; simp only [ansX]; omega) | set_option pp.maxSteps 300 in trace_state)
          · rw [hF] at hDF
            cases hDF
        · subst e
          cases hF : (b.log.take k).all EntT.disputed
          · rcases hD with hD | ⟨hD, hDl, hDF⟩
            · subst hD
              (conv => whnf)
              refine ⟨fun hlt => ?_, fun hlt => ?_⟩
              · have hlt := of_decide_eq_true hlt
                have hkk : k < b.log.length := by omega
                have hat := all_take hkk
                rw [hF, Bool.false_and] at hat
                have hpk := lt40 (o.p k)
                have hh0 := held k hkk
                (conv => whnf)
                refine ⟨⟨by omega, by omega⟩, ?_⟩
                (conv => whnf)
                rcases hh0 with ⟨q, h1, h2, h3⟩ | ⟨h1, h2, h3, h4, h5, h6⟩
                · have fd := pc_findT d.log (by omega) (b.log.getD k ent0).seq h1
                  rw [h2] at fd
                  rcases h3 with h3 | ⟨h3, h4⟩
                  · subst h3
                    (repeat' ((first | refine ansT ?_ | refine ansF ?_ | ((try (refine Or.inl ?_; (conv => whnf))); (try (refine ⟨false, ?_⟩; (conv => whnf))); refine ⟨_, by exact fd, ?_⟩) | refine ansD (by first | (simp [*]; done) | omega) ?_ | refine ansN (by first | (simp [*]; done) | omega) ?_ | refine ⟨by kernel_rfl, ?_⟩ | refine ansB (by decide) (by first | decide | (simp; done) | (simp only [List.length_cons, List.length_nil]; decide)) ?_ | fail); (conv => whnf)))
                    (repeat' (first | (refine ansS (fun hh => ?_) (fun hh => ?_) <;> (first | simp only [ansX] at hh | skip) <;> (first | (exfalso; omega) | (exfalso; simp [*] at hh; done) | (exfalso; revert hh; decide) | exact absurd (by assumption) hh | (conv => whnf))) | ((first | refine ⟨by kernel_rfl, ?_⟩ | refine ansB (by omega) (by omega) ?_ | refine ansB (by decide) (by decide) ?_ | refine And.intro (a := _ ≤ _) (by omega) ?_ | refine And.intro (a := _ ≠ _) (by omega) ?_ | ((try (refine Or.inl ?_; (conv => whnf))); (try (refine ⟨false, ?_⟩; (conv => whnf))); refine ⟨_, by exact pc_SameE _ hpk, ?_⟩) | fail); (conv => whnf))))
                    all_goals (try (exfalso; exact bneF _ (by assumption)))
                    all_goals
                      refine ⟨(k + 1, 0, 0), ?_⟩
                      (conv => whnf)
                      refine ⟨⟨⟨?_, ?_, ?_, ?_⟩, ?_, rfl, rfl⟩, by kernel_rfl, by kernel_rfl⟩
                      · show b.log.length - (k + 1) < b.log.length - k; omega
                      · show k + 1 ≤ b.log.length; omega
                      · exact .inl ⟨rfl, hat⟩
                      · exact .inl rfl
                      · rw [w64 _ (by omega) (by omega)]; rfl
                  · unfold knd at h3
                    have z4 : a.number = (b.log.getD (Int.toNat (k : Int)) ent0).seq := h4
                    (repeat' ((first | refine ansT ?_ | refine ansF ?_ | ((try (refine Or.inl ?_; (conv => whnf))); (try (refine ⟨false, ?_⟩; (conv => whnf))); refine ⟨_, by exact fd, ?_⟩) | refine ansD (by first | (simp [*]; done) | omega) ?_ | refine ansN (by first | (simp [*]; done) | omega) ?_ | refine ⟨by kernel_rfl, ?_⟩ | refine ansB (by decide) (by first | decide | (simp; done) | (simp only [List.length_cons, List.length_nil]; decide)) ?_ | fail); (conv => whnf)))
                    (repeat' (first | (refine ansS (fun hh => ?_) (fun hh => ?_) <;> (first | simp only [ansX] at hh | skip) <;> (first | (exfalso; omega) | (exfalso; simp [*] at hh; done) | (exfalso; revert hh; decide) | exact absurd (by assumption) hh | (conv => whnf))) | ((first | refine ⟨by kernel_rfl, ?_⟩ | refine ansB (by omega) (by omega) ?_ | refine ansB (by decide) (by decide) ?_ | refine And.intro (a := _ ≤ _) (by omega) ?_ | refine And.intro (a := _ ≠ _) (by omega) ?_ | ((try (refine Or.inl ?_; (conv => whnf))); (try (refine ⟨false, ?_⟩; (conv => whnf))); refine ⟨_, by exact pc_SameE _ hpk, ?_⟩) | fail); (conv => whnf))))
                    all_goals (try (exfalso; exact bneF _ (by assumption)))
                    all_goals
                      refine ⟨(k + 1, 0, 0), ?_⟩
                      (conv => whnf)
                      refine ⟨⟨⟨?_, ?_, ?_, ?_⟩, ?_, rfl, rfl⟩, by kernel_rfl, by kernel_rfl⟩
                      · show b.log.length - (k + 1) < b.log.length - k; omega
                      · show k + 1 ≤ b.log.length; omega
                      · exact .inl ⟨rfl, hat⟩
                      · exact .inl rfl
                      · rw [w64 _ (by omega) (by omega)]; rfl
                · exfalso
                  rw [all_upto h3] at hF
                  cases hF
              · (conv => whnf)
                (repeat' (first | (refine ansS (fun hh => ?_) (fun hh => ?_) <;> (first | simp only [ansX] at hh | skip) <;> (first | (exfalso; omega) | (exfalso; simp [*] at hh; done) | (exfalso; revert hh; decide) | exact absurd (by assumption) hh | (conv => whnf))) | ((first | refine ⟨by kernel_rfl, ?_⟩ | refine ansB (by omega) (by omega) ?_ | refine ansB (by decide) (by decide) ?_ | refine And.intro (a := _ ≤ _) (by omega) ?_ | refine And.intro (a := _ ≠ _) (by omega) ?_ | fail); (conv => whnf))))
                all_goals (first | rfl | (refine congrArg AV.bool ?_; simp only [ansX]; omega) | set_option pp.maxSteps 300 in trace_state)
            · subst hD
              (conv => whnf)
              refine ⟨fun hlt => ?_, fun hlt => ?_⟩
              · have hlt := of_decide_eq_true hlt
                have hkk : k < b.log.length := by omega
                have hat := all_take hkk
                rw [hF, Bool.false_and] at hat
                have hpk := lt40 (o.p k)
                have hh0 := held k hkk
                (conv => whnf)
                refine ⟨⟨by omega, by omega⟩, ?_⟩
                (conv => whnf)
                rcases hh0 with ⟨q, h1, h2, h3⟩ | ⟨h1, h2, h3, h4, h5, h6⟩
                · have fd := pc_findT d.log (by omega) (b.log.getD k ent0).seq h1
                  rw [h2] at fd
                  rcases h3 with h3 | ⟨h3, h4⟩
                  · subst h3
                    (repeat' ((first | refine ansT ?_ | refine ansF ?_ | ((try (refine Or.inl ?_; (conv => whnf))); (try (refine ⟨false, ?_⟩; (conv => whnf))); refine ⟨_, by exact fd, ?_⟩) | refine ansD (by first | (simp [*]; done) | omega) ?_ | refine ansN (by first | (simp [*]; done) | omega) ?_ | refine ⟨by kernel_rfl, ?_⟩ | refine ansB (by decide) (by first | decide | (simp; done) | (simp only [List.length_cons, List.length_nil]; decide)) ?_ | fail); (conv => whnf)))
                    (repeat' (first | (refine ansS (fun hh => ?_) (fun hh => ?_) <;> (first | simp only [ansX] at hh | skip) <;> (first | (exfalso; omega) | (exfalso; simp [*] at hh; done) | (exfalso; revert hh; decide) | exact absurd (by assumption) hh | (conv => whnf))) | ((first | refine ⟨by kernel_rfl, ?_⟩ | refine ansB (by omega) (by omega) ?_ | refine ansB (by decide) (by decide) ?_ | refine And.intro (a := _ ≤ _) (by omega) ?_ | refine And.intro (a := _ ≠ _) (by omega) ?_ | ((try (refine Or.inl ?_; (conv => whnf))); (try (refine ⟨false, ?_⟩; (conv => whnf))); refine ⟨_, by exact pc_SameE _ hpk, ?_⟩) | fail); (conv => whnf))))
                    all_goals (try (exfalso; exact bneF _ (by assumption)))
                    all_goals
                      refine ⟨(k + 1, 0, 1), ?_⟩
                      (conv => whnf)
                      refine ⟨⟨⟨?_, ?_, ?_, ?_⟩, ?_, rfl, rfl⟩, by kernel_rfl, by kernel_rfl⟩
                      · show b.log.length - (k + 1) < b.log.length - k; omega
                      · show k + 1 ≤ b.log.length; omega
                      · exact .inl ⟨rfl, hat⟩
                      · exact .inr ⟨rfl, hDl, hat⟩
                      · rw [w64 _ (by omega) (by omega)]; rfl
                  · unfold knd at h3
                    have z4 : a.number = (b.log.getD (Int.toNat (k : Int)) ent0).seq := h4
                    (repeat' ((first | refine ansT ?_ | refine ansF ?_ | ((try (refine Or.inl ?_; (conv => whnf))); (try (refine ⟨false, ?_⟩; (conv => whnf))); refine ⟨_, by exact fd, ?_⟩) | refine ansD (by first | (simp [*]; done) | omega) ?_ | refine ansN (by first | (simp [*]; done) | omega) ?_ | refine ⟨by kernel_rfl, ?_⟩ | refine ansB (by decide) (by first | decide | (simp; done) | (simp only [List.length_cons, List.length_nil]; decide)) ?_ | fail); (conv => whnf)))
                    (repeat' (first | (refine ansS (fun hh => ?_) (fun hh => ?_) <;> (first | simp only [ansX] at hh | skip) <;> (first | (exfalso; omega) | (exfalso; simp [*] at hh; done) | (exfalso; revert hh; decide) | exact absurd (by assumption) hh | (conv => whnf))) | ((first | refine ⟨by kernel_rfl, ?_⟩ | refine ansB (by omega) (by omega) ?_ | refine ansB (by decide) (by decide) ?_ | refine And.intro (a := _ ≤ _) (by omega) ?_ | refine And.intro (a := _ ≠ _) (by omega) ?_ | ((try (refine Or.inl ?_; (conv => whnf))); (try (refine ⟨false, ?_⟩; (conv => whnf))); refine ⟨_, by exact pc_SameE _ hpk, ?_⟩) | fail); (conv => whnf))))
                    all_goals (try (exfalso; exact bneF _ (by assumption)))
                    all_goals
                      refine ⟨(k + 1, 0, 1), ?_⟩
                      (conv => whnf)
                      refine ⟨⟨⟨?_, ?_, ?_, ?_⟩, ?_, rfl, rfl⟩, by kernel_rfl, by kernel_rfl⟩
                      · show b.log.length - (k + 1) < b.log.length - k; omega
                      · show k + 1 ≤ b.log.length; omega
                      · exact .inl ⟨rfl, hat⟩
                      · exact .inr ⟨rfl, hDl, hat⟩
                      · rw [w64 _ (by omega) (by omega)]; rfl
                · exfalso
                  rw [all_upto h3] at hF
                  cases hF
              · (conv => whnf)
                (repeat' (first | (refine ansS (fun hh => ?_) (fun hh => ?_) <;> (first | simp only [ansX] at hh | skip) <;> (first | (exfalso; omega) | (exfalso; simp [*] at hh; done) | (exfalso; revert hh; decide) | exact absurd (by assumption) hh | (conv => whnf))) | ((first | refine ⟨by kernel_rfl, ?_⟩ | refine ansB (by omega) (by omega) ?_ | refine ansB (by decide) (by decide) ?_ | refine And.intro (a := _ ≤ _) (by omega) ?_ | refine And.intro (a := _ ≠ _) (by omega) ?_ | fail); (conv => whnf))))
                all_goals (first | rfl | (refine congrArg AV.bool ?_; simp only [ansX]; omega) | set_option pp.maxSteps 300 in trace_state)
          · rcases hD with hD | ⟨hD, hDl, hDF⟩
            · subst hD
              (conv => whnf)
              refine ⟨fun hlt => ?_, fun hlt => ?_⟩
              · have hlt := of_decide_eq_true hlt
                have hkk : k < b.log.length := by omega
                have hat := all_take hkk
                rw [hF, Bool.true_and] at hat
                have hpk := lt40 (o.p k)
                have hh0 := held k hkk
                (conv => whnf)
                refine ⟨⟨by omega, by omega⟩, ?_⟩
                (conv => whnf)
                rcases hh0 with ⟨q, h1, h2, h3⟩ | ⟨h1, h2, h3, h4, h5, h6⟩
                · have fd := pc_findT d.log (by omega) (b.log.getD k ent0).seq h1
                  rw [h2] at fd
                  rcases h3 with h3 | ⟨h3, h4⟩
                  · subst h3
                    (repeat' ((first | refine ansT ?_ | refine ansF ?_ | ((try (refine Or.inl ?_; (conv => whnf))); (try (refine ⟨false, ?_⟩; (conv => whnf))); refine ⟨_, by exact fd, ?_⟩) | refine ansD (by first | (simp [*]; done) | omega) ?_ | refine ansN (by first | (simp [*]; done) | omega) ?_ | refine ⟨by kernel_rfl, ?_⟩ | refine ansB (by decide) (by first | decide | (simp; done) | (simp only [List.length_cons, List.length_nil]; decide)) ?_ | fail); (conv => whnf)))
                    (repeat' (first | (refine ansS (fun hh => ?_) (fun hh => ?_) <;> (first | simp only [ansX] at hh | skip) <;> (first | (exfalso; omega) | (exfalso; simp [*] at hh; done) | (exfalso; revert hh; decide) | exact absurd (by assumption) hh | (conv => whnf))) | ((first | refine ⟨by kernel_rfl, ?_⟩ | refine ansB (by omega) (by omega) ?_ | refine ansB (by decide) (by decide) ?_ | refine And.intro (a := _ ≤ _) (by omega) ?_ | refine And.intro (a := _ ≠ _) (by omega) ?_ | ((try (refine Or.inl ?_; (conv => whnf))); (try (refine ⟨false, ?_⟩; (conv => whnf))); refine ⟨_, by exact pc_SameE _ hpk, ?_⟩) | fail); (conv => whnf))))
                    all_goals (try (exfalso; exact bneF _ (by assumption)))
                    all_goals
                      refine ⟨(k + 1, 2, 0), ?_⟩
                      (conv => whnf)
                      refine ⟨⟨⟨?_, ?_, ?_, ?_⟩, ?_, rfl, rfl⟩, by kernel_rfl, by kernel_rfl⟩
                      · show b.log.length - (k + 1) < b.log.length - k; omega
                      · show k + 1 ≤ b.log.length; omega
                      · exact .inr (.inr rfl)
                      · exact .inl rfl
                      · rw [w64 _ (by omega) (by omega)]; show _ = [i64 ((k + 1 : Nat) : Int), i64 ((0 : Nat) : Int), AV.bool ((b.log.take (k + 1)).all EntT.disputed)]; rw [hat]; rfl
                  · unfold knd at h3
                    have z4 : a.number = (b.log.getD (Int.toNat (k : Int)) ent0).seq := h4
                    (repeat' ((first | refine ansT ?_ | refine ansF ?_ | ((try (refine Or.inl ?_; (conv => whnf))); (try (refine ⟨false, ?_⟩; (conv => whnf))); refine ⟨_, by exact fd, ?_⟩) | refine ansD (by first | (simp [*]; done) | omega) ?_ | refine ansN (by first | (simp [*]; done) | omega) ?_ | refine ⟨by kernel_rfl, ?_⟩ | refine ansB (by decide) (by first | decide | (simp; done) | (simp only [List.length_cons, List.length_nil]; decide)) ?_ | fail); (conv => whnf)))
                    (repeat' (first | (refine ansS (fun hh => ?_) (fun hh => ?_) <;> (first | simp only [ansX] at hh | skip) <;> (first | (exfalso; omega) | (exfalso; simp [*] at hh; done) | (exfalso; revert hh; decide) | exact absurd (by assumption) hh | (conv => whnf))) | ((first | refine ⟨by kernel_rfl, ?_⟩ | refine ansB (by omega) (by omega) ?_ | refine ansB (by decide) (by decide) ?_ | refine And.intro (a := _ ≤ _) (by omega) ?_ | refine And.intro (a := _ ≠ _) (by omega) ?_ | ((try (refine Or.inl ?_; (conv => whnf))); (try (refine ⟨false, ?_⟩; (conv => whnf))); refine ⟨_, by exact pc_SameE _ hpk, ?_⟩) | fail); (conv => whnf))))
                    all_goals (try (exfalso; exact bneF _ (by assumption)))
                    all_goals
                      refine ⟨(k + 1, 2, 0), ?_⟩
                      (conv => whnf)
                      refine ⟨⟨⟨?_, ?_, ?_, ?_⟩, ?_, rfl, rfl⟩, by kernel_rfl, by kernel_rfl⟩
                      · show b.log.length - (k + 1) < b.log.length - k; omega
                      · show k + 1 ≤ b.log.length; omega
                      · exact .inr (.inr rfl)
                      · exact .inl rfl
                      · rw [w64 _ (by omega) (by omega)]; show _ = [i64 ((k + 1 : Nat) : Int), i64 ((0 : Nat) : Int), AV.bool ((b.log.take (k + 1)).all EntT.disputed)]; rw [hat]; rfl
                · have fd := pc_findF d.log (by omega) (b.log.getD k ent0).seq (by rw [h1]; decide)
                  have z2 : (b.log.getD (Int.toNat (k : Int)) ent0).disputed = false := h2
                  have z3 : (b.log[k]'hkk).disputed = false := by have z := h2; rw [getD_at hkk] at z; exact z
                  rw [h2] at hat
                  unfold knd at h4
                  (repeat' ((first | refine ansT ?_ | refine ansF ?_ | ((try (refine Or.inl ?_; (conv => whnf))); (try (refine ⟨false, ?_⟩; (conv => whnf))); refine ⟨_, by exact fd, ?_⟩) | refine ansD (by first | (simp [*]; done) | omega) ?_ | refine ansN (by first | (simp [*]; done) | omega) ?_ | refine ⟨by kernel_rfl, ?_⟩ | refine ansB (by decide) (by first | decide | (simp; done) | (simp only [List.length_cons, List.length_nil]; decide)) ?_ | fail); (conv => whnf)))
                  (repeat' (first | (refine ansS (fun hh => ?_) (fun hh => ?_) <;> (first | simp only [ansX] at hh | skip) <;> (first | (exfalso; omega) | (exfalso; simp [*] at hh; done) | (exfalso; revert hh; decide) | exact absurd (by assumption) hh | (conv => whnf))) | ((first | refine ⟨by kernel_rfl, ?_⟩ | refine ansB (by omega) (by omega) ?_ | refine ansB (by decide) (by decide) ?_ | refine And.intro (a := _ ≤ _) (by omega) ?_ | refine And.intro (a := _ ≠ _) (by omega) ?_ | fail); (conv => whnf))))
                  refine ⟨(k + 1, 2, 1), ?_⟩
                  (conv => whnf)
                  refine ⟨⟨⟨?_, ?_, ?_, ?_⟩, ?_, rfl, rfl⟩, by kernel_rfl, by kernel_rfl⟩
                  · show b.log.length - (k + 1) < b.log.length - k; omega
                  · show k + 1 ≤ b.log.length; omega
                  · exact .inr (.inr rfl)
                  · exact .inr ⟨rfl, h6, hat⟩
                  · show [i64 (IntKind.i64.wrap ((k : Int) + 1)), i64 (IntKind.i64.wrap (((0 : Nat) : Int) + 1)), AV.bool (b.log.getD (Int.toNat (k : Int)) ent0).disputed] = [i64 ((k + 1 : Nat) : Int), i64 ((1 : Nat) : Int), AV.bool ((b.log.take (k + 1)).all EntT.disputed)]
                    rw [hat, z2, w64 _ (by omega) (by omega), w64 _ (by omega) (by omega)]
                    rfl
              · (conv => whnf)
                (repeat' (first | (refine ansS (fun hh => ?_) (fun hh => ?_) <;> (first | simp only [ansX] at hh | skip) <;> (first | (exfalso; omega) | (exfalso; simp [*] at hh; done) | (exfalso; revert hh; decide) | exact absurd (by assumption) hh | (conv => whnf))) | ((first | refine ⟨by kernel_rfl, ?_⟩ | refine ansB (by omega) (by omega) ?_ | refine ansB (by decide) (by decide) ?_ | refine And.intro (a := _ ≤ _) (by omega) ?_ | refine And.intro (a := _ ≠ _) (by omega) ?_ | fail); (conv => whnf))))
                all_goals (first | rfl | (refine congrArg AV.bool ?_; simp only [ansX]; omega) | set_option pp.maxSteps 300 in trace_state)
            · rw [hF] at hDF
              cases hDF
      · have c := pc_actBad b o a hp20 h
        by_cases h5 : (knd a = 5 ∧ doE b a = 9) ∧ b.next < 1099511627776
        · obtain ⟨⟨k5, e9⟩, hn⟩ := h5
          have e5 : rcdE b a.number a.profile = 9 := by
            unfold doE at e9
            rw [if_neg (by omega), if_neg (by omega), if_neg (by omega), if_neg (by omega), if_neg (by omega), if_pos k5] at e9
            exact e9
          have hall := rcd_full e5 hn
          rw [e9] at c
          have ol := o.l
          unfold knd at k5
          clear h e9 e5
          refine pc_of_bodyF hm Tryz.func12 (by kernel_rfl) ?_
          conv => whnf
          (repeat' ((first | refine ansT ?_ | refine ansF ?_ | ((try (refine Or.inl ?_; (conv => whnf))); (try (refine ⟨false, ?_⟩; (conv => whnf))); refine ⟨_, by first | exact al | exact gr, ?_⟩) | refine ansD (by first | (simp [*]; done) | omega) ?_ | refine ansN (by first | (simp [*]; done) | omega) ?_ | refine ⟨by kernel_rfl, ?_⟩ | refine ansB (by decide) (by first | decide | (simp; done) | (simp only [List.length_cons, List.length_nil]; decide)) ?_ | fail); (conv => whnf)))
          (repeat' (first | (refine ansS (fun hh => ?_) (fun hh => ?_) <;> (first | simp only [ansX] at hh | skip) <;> (first | (exfalso; omega) | (exfalso; simp [*] at hh; done) | (exfalso; revert hh; decide) | exact absurd (by assumption) hh | (conv => whnf))) | ((first | refine ⟨by kernel_rfl, ?_⟩ | refine ansB (by omega) (by omega) ?_ | refine ansB (by decide) (by decide) ?_ | refine And.intro (a := _ ≤ _) (by omega) ?_ | refine And.intro (a := _ ≠ _) (by omega) ?_ | ((try (refine Or.inl ?_; (conv => whnf))); (try (refine ⟨false, ?_⟩; (conv => whnf))); refine ⟨_, by exact c, ?_⟩) | fail); (conv => whnf))))
          refine Or.inr ⟨Nat, [55], [], [], fun k => [i64 k], fun _ => [], fun _ => [], fun k => b.log.length - k, fun k => k ≤ b.log.length, ?_⟩
          (conv => whnf)
          refine ⟨⟨0, ?_⟩, ?_⟩
          · (conv => whnf)
            exact ⟨⟨Nat.zero_le _, rfl, rfl, rfl⟩, by kernel_rfl, by kernel_rfl⟩
          intro k hk
          (conv => whnf)
          refine ⟨fun h1 => ?_, fun h1 => ?_⟩
          · have h1 := of_decide_eq_true h1
            have hkk : k < b.log.length := by omega
            have z := hall k hkk
            have z3 : (b.log[k]'hkk).disputed = true := by have z := z; rw [getD_at hkk] at z; exact z
            (conv => whnf)
            refine ⟨⟨by omega, by omega⟩, ?_⟩
            (conv => whnf)
            (repeat' (first | (refine ansS (fun hh => ?_) (fun hh => ?_) <;> (first | simp only [ansX] at hh | skip) <;> (first | (exfalso; omega) | (exfalso; simp [*] at hh; done) | (exfalso; revert hh; decide) | exact absurd (by assumption) hh | (conv => whnf))) | ((first | refine ⟨by kernel_rfl, ?_⟩ | refine ansB (by omega) (by omega) ?_ | refine ansB (by decide) (by decide) ?_ | refine And.intro (a := _ ≤ _) (by omega) ?_ | refine And.intro (a := _ ≠ _) (by omega) ?_ | fail); (conv => whnf))))
            refine ⟨k + 1, ?_⟩
            (conv => whnf)
            refine ⟨⟨⟨?_, ?_⟩, ?_, rfl, rfl⟩, by kernel_rfl, by kernel_rfl⟩
            · show b.log.length - (k + 1) < b.log.length - k; omega
            · show k + 1 ≤ b.log.length; omega
            · rw [w64 _ (by omega) (by omega)]; rfl
          · (conv => whnf)
            (repeat' (first | (refine ansS (fun hh => ?_) (fun hh => ?_) <;> (first | simp only [ansX] at hh | skip) <;> (first | (exfalso; omega) | (exfalso; simp [*] at hh; done) | (exfalso; revert hh; decide) | exact absurd (by assumption) hh | (conv => whnf))) | ((first | refine ⟨by kernel_rfl, ?_⟩ | refine ansB (by omega) (by omega) ?_ | refine ansB (by decide) (by decide) ?_ | refine And.intro (a := _ ≤ _) (by omega) ?_ | refine And.intro (a := _ ≠ _) (by omega) ?_ | fail); (conv => whnf))))
            all_goals (first | rfl | set_option pp.maxSteps 300 in trace_state)
        · unfold knd at h5
          generalize doE b a = e at *
          refine pc_of_bodyF hm Tryz.func12 (by kernel_rfl) ?_
          conv => whnf
          (repeat' ((first | refine ansT ?_ | refine ansF ?_ | ((try (refine Or.inl ?_; (conv => whnf))); (try (refine ⟨false, ?_⟩; (conv => whnf))); refine ⟨_, by first | exact al | exact gr, ?_⟩) | refine ansD (by first | (simp [*]; done) | omega) ?_ | refine ansN (by first | (simp [*]; done) | omega) ?_ | refine ⟨by kernel_rfl, ?_⟩ | refine ansB (by decide) (by first | decide | (simp; done) | (simp only [List.length_cons, List.length_nil]; decide)) ?_ | fail); (conv => whnf)))
          (repeat' (first | (refine ansS (fun hh => ?_) (fun hh => ?_) <;> (first | simp only [ansX] at hh | skip) <;> (first | (exfalso; omega) | (exfalso; simp [*] at hh; done) | (exfalso; revert hh; decide) | exact absurd (by assumption) hh | (conv => whnf))) | ((first | refine ⟨by kernel_rfl, ?_⟩ | refine ansB (by omega) (by omega) ?_ | refine ansB (by decide) (by decide) ?_ | refine And.intro (a := _ ≤ _) (by omega) ?_ | refine And.intro (a := _ ≠ _) (by omega) ?_ | ((try (refine Or.inl ?_; (conv => whnf))); (try (refine ⟨false, ?_⟩; (conv => whnf))); refine ⟨_, by exact c, ?_⟩) | fail); (conv => whnf))))
          all_goals (first | rfl | (exfalso; exact h5 (by refine ⟨⟨?_, ?_⟩, ?_⟩ <;> omega)) | set_option pp.maxSteps 300 in trace_state)
    · refine pc_of_bodyF hm Tryz.func12 (by kernel_rfl) ?_
      conv => whnf
      (repeat' ((first | refine ansT ?_ | refine ansF ?_ | ((try (refine Or.inl ?_; (conv => whnf))); (try (refine ⟨false, ?_⟩; (conv => whnf))); refine ⟨_, by first | exact al | exact gr, ?_⟩) | refine ansD (by first | (simp [*]; done) | omega) ?_ | refine ansN (by first | (simp [*]; done) | omega) ?_ | refine ⟨by kernel_rfl, ?_⟩ | refine ansB (by decide) (by first | decide | (simp; done) | (simp only [List.length_cons, List.length_nil]; decide)) ?_ | fail); (conv => whnf)))
      (repeat' (first | (refine ansS (fun hh => ?_) (fun hh => ?_) <;> (first | simp only [ansX] at hh | skip) <;> (first | (exfalso; omega) | (exfalso; simp [*] at hh; done) | (exfalso; revert hh; decide) | exact absurd (by assumption) hh | (conv => whnf))) | ((first | refine ⟨by kernel_rfl, ?_⟩ | refine ansB (by omega) (by omega) ?_ | refine ansB (by decide) (by decide) ?_ | refine And.intro (a := _ ≤ _) (by omega) ?_ | refine And.intro (a := _ ≠ _) (by omega) ?_ | fail); (conv => whnf))))
      all_goals (first | rfl | set_option pp.maxSteps 300 in trace_state)
  · have hs : smallB b = false := by simpa using hs
    rw [hs] at gr
    refine pc_of_bodyF hm Tryz.func12 (by kernel_rfl) ?_
    conv => whnf
    (repeat' ((first | refine ansT ?_ | refine ansF ?_ | ((try (refine Or.inl ?_; (conv => whnf))); (try (refine ⟨false, ?_⟩; (conv => whnf))); refine ⟨_, by first | exact al | exact gr, ?_⟩) | refine ansD (by first | (simp [*]; done) | omega) ?_ | refine ansN (by first | (simp [*]; done) | omega) ?_ | refine ⟨by kernel_rfl, ?_⟩ | refine ansB (by decide) (by first | decide | (simp; done) | (simp only [List.length_cons, List.length_nil]; decide)) ?_ | fail); (conv => whnf)))
    (repeat' (first | (refine ansS (fun hh => ?_) (fun hh => ?_) <;> (first | simp only [ansX] at hh | skip) <;> (first | (exfalso; omega) | (exfalso; simp [*] at hh; done) | (exfalso; revert hh; decide) | exact absurd (by assumption) hh | (conv => whnf))) | ((first | refine ⟨by kernel_rfl, ?_⟩ | refine ansB (by omega) (by omega) ?_ | refine ansB (by decide) (by decide) ?_ | refine And.intro (a := _ ≤ _) (by omega) ?_ | refine And.intro (a := _ ≠ _) (by omega) ?_ | fail); (conv => whnf))))
    all_goals (first | rfl | set_option pp.maxSteps 300 in trace_state)
end Go.Proofs.Tryz.My
