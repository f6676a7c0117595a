/- A helper text: contracts of functions of the program, and plain lemmas. -/
import Derived.Test.YtnoahgjfeablgaaGreatMzBnA
import Derived.Test.YtnoahgjfeablgaaGreatEvSix
set_option maxRecDepth 100000
set_option maxHeartbeats 0
set_option linter.unusedVariables false
set_option linter.unusedSimpArgs false
namespace Go.Proofs.Tryz.My
open Go Go.Ev
def FixR (r s : RecT) : Prop := s.author = r.author ∧ s.gauge = r.gauge ∧ r.state ≤ s.state ∧ (r.appr.length ≤ s.appr.length ∧ s.appr.length ≤ r.appr.length + 1) ∧ ∀ u, u ∈ r.appr → u ∈ s.appr
theorem FixR.refl (r : RecT) : FixR r r := ⟨rfl, rfl, Int.le_refl _, ⟨Nat.le_refl _, Nat.le_succ _⟩, fun _ h => h⟩
theorem fix_st {r : RecT} {n : Int} (h : r.state ≤ n) : FixR r (setSt r n) := ⟨rfl, rfl, h, ⟨Nat.le_refl _, Nat.le_succ _⟩, fun _ h => h⟩
structure Fixed (b c : BooksT) : Prop where
  ul : b.users.length ≤ c.users.length
  rl : b.recipes.length ≤ c.recipes.length
  us : ∀ i, i < b.users.length → c.users.getD i 0 = b.users.getD i 0
  rs : ∀ i, i < b.recipes.length → FixR (b.recipes.getD i rec0) (c.recipes.getD i rec0)
theorem fix_same {b c : BooksT} (h1 : c.users = b.users) (h2 : c.recipes = b.recipes) : Fixed b c := by
  obtain ⟨k, us, rs, n, lg⟩ := c
  have h1 : us = b.users := h1
  have h2 : rs = b.recipes := h2
  subst h1
  subst h2
  exact ⟨Nat.le_refl _, Nat.le_refl _, fun _ _ => rfl, fun _ _ => .refl _⟩
theorem fix_set {b : BooksT} {i : Nat} {y : RecT} (hi : i < b.recipes.length) (h : FixR (b.recipes.getD i rec0) y) : Fixed b (setR b i y) := by
  refine ⟨Nat.le_refl _, by rw [show (setR b i y).recipes.length = b.recipes.length from List.length_set]; exact Nat.le_refl _, fun _ _ => rfl, fun k hk => ?_⟩
  show FixR _ ((b.recipes.set i y).getD k rec0)
  by_cases e : i = k
  · subst e
    rw [getD_set_at hi]; exact h
  · have z : (b.recipes.set i y).getD k rec0 = b.recipes.getD k rec0 := by
      rw [List.getD, List.getElem?_set_ne e]; rfl
    rw [z]; exact .refl _
theorem fix_calm (b : BooksT) : Fixed b (calmB b) := by
  unfold calmB
  by_cases ha : b.recipes.any isAct = true
  · rw [if_pos ha]
    exact fix_set (firstA_lt ha) (fix_st (by rw [firstA_is ha]; omega))
  · rw [if_neg ha]
    exact fix_same rfl rfl
theorem fix_actv {b : BooksT} (g : GoodB b) {number : Int} (hi : number.toNat < b.recipes.length) (h2 : (b.recipes.getD number.toNat rec0).state = 2) : Fixed b (actvB b number) := by
  have f := fix_calm b
  obtain ⟨g1, z, hl, hk⟩ := keep_calm g
  have e := hk number.toNat (by omega)
  refine ⟨f.ul, ?_, f.us, fun k hk => ?_⟩
  · show b.recipes.length ≤ ((calmB b).recipes.set _ _).length
    rw [List.length_set, hl]; exact Nat.le_refl _
  · show FixR _ (((calmB b).recipes.set number.toNat (setSt ((calmB b).recipes.getD number.toNat rec0) 3)).getD k rec0)
    by_cases q : number.toNat = k
    · subst q
      rw [getD_set_at (by omega), e]
      exact fix_st (by omega)
    · have z : ((calmB b).recipes.set number.toNat (setSt ((calmB b).recipes.getD number.toNat rec0) 3)).getD k rec0 = (calmB b).recipes.getD k rec0 := by
        rw [List.getD, List.getElem?_set_ne q]; rfl
      rw [z]; exact f.rs k hk
theorem fix_apv {b : BooksT} {user number : Int} (g : GoodB b) (h : apvE b user number = 0) : Fixed b (apvB b user number) := by
  obtain ⟨hc, hn, hb, h2⟩ := apvE_zero h
  have hi : number.toNat < b.recipes.length := by have := hn.2; omega
  have r := (rec_at g hi).2.2.2.2.1
  refine fix_set hi ⟨rfl, rfl, ?_, ?_, fun u hu => ins_mem.2 (.inr hu)⟩
  · show _ ≤ (if _ then (2 : Int) else _)
    split <;> omega
  · show _ ≤ (insI _ _).length ∧ (insI _ _).length ≤ _
    rw [insI_len]
    omega
theorem fix_add (b : BooksT) (r : Int) : Fixed b (addU b r) := by
  refine ⟨by show _ ≤ (b.users ++ [r]).length; simp, Nat.le_refl _, fun i hi => ?_, fun _ _ => .refl _⟩
  show (b.users ++ [r]).getD i 0 = _
  simp only [List.getD]
  rw [List.getElem?_append_left hi]
theorem fix_drf (b : BooksT) (user : Int) (gg : GauT) : Fixed b (drfB b user gg) := by
  refine ⟨Nat.le_refl _, by show _ ≤ (b.recipes ++ [newRec user gg]).length; simp, fun _ _ => rfl, fun i hi => ?_⟩
  have z : (b.recipes ++ [newRec user gg]).getD i rec0 = b.recipes.getD i rec0 := by
    simp only [List.getD]
    rw [List.getElem?_append_left hi]
  show FixR _ ((b.recipes ++ [newRec user gg]).getD i rec0)
  rw [z]; exact .refl _
theorem do_fix {b : BooksT} {a : ActT} (g : GoodB b) (h : doE b a = 0) : Fixed b (doB b a) := by
  unfold doE at h
  unfold doB
  by_cases k0 : knd a = 0
  · rw [if_pos k0] at h ⊢
    exact fix_add b a.role
  rw [if_neg k0] at h ⊢
  by_cases k1 : knd a = 1
  · rw [if_pos k1] at h ⊢
    exact fix_drf b a.user a.gauge
  rw [if_neg k1] at h ⊢
  by_cases k2 : knd a = 2
  · rw [if_pos k2] at h ⊢
    exact fix_apv g h
  rw [if_neg k2] at h ⊢
  by_cases k3 : knd a = 3
  · rw [if_pos k3] at h ⊢
    obtain ⟨hc, hn, hmy, h2⟩ := actvE_zero h
    exact fix_actv g (by have := hn.2; omega) h2
  rw [if_neg k3] at h ⊢
  by_cases k4 : knd a = 4
  · rw [if_pos k4] at h ⊢
    have z := (retE_all h).2.2
    exact fix_set (firstA_lt z) (fix_st (by rw [firstA_is z]; omega))
  rw [if_neg k4] at h ⊢
  by_cases k5 : knd a = 5
  · rw [if_pos k5] at h ⊢
    exact fix_same rfl rfl
  rw [if_neg k5] at h ⊢
  by_cases k6 : knd a = 6
  · rw [if_pos k6] at h ⊢
    exact fix_same rfl rfl
  rw [if_neg k6] at h ⊢
  exact fix_same rfl rfl
end Go.Proofs.Tryz.My
set_option maxRecDepth 100000
set_option maxHeartbeats 0
set_option linter.unusedVariables false
set_option linter.unusedSimpArgs false
namespace Go.Proofs.Tryz.My
open Go Go.Ev
theorem act_take {l : List RecT} {i : Nat} (hi : i < l.length) : activeN (l.take (i + 1)) = activeN (l.take i) + if (l.getD i rec0).state = 3 then 1 else 0 := by
  rw [List.take_add_one, List.getElem?_eq_getElem hi]
  show activeN (l.take i ++ [l[i]]) = _
  rw [act_app, getD_at hi]
theorem act_len (l : List RecT) : activeN l ≤ l.length := List.length_filter_le _ _
theorem has_take {l : List Int} {m : Nat} {u : Int} (hm : m < l.length) : (l.take (m + 1)).contains u = ((l.take m).contains u || decide (u = l.getD m 0)) := by
  rw [List.take_add_one, List.getElem?_eq_getElem hm, getD_at hm]
  show (l.take m ++ [l[m]]).contains u = _
  rw [Bool.eq_iff_iff, Bool.or_eq_true, List.contains_iff_mem, List.contains_iff_mem, List.mem_append, List.mem_singleton, decide_eq_true_eq]
def fndV (q : Bool) : Nat → AV
  | 0 => .ff
  | 1 => .tt
  | _ => .bool q
theorem pc_RecipeFixed (b : BooksT) (a : ActT) : PC Tryz.prog 13 [bks b, act a] (.bool true) := by
  have al := pc_alive
  have gr := pc_Great b
  by_cases hs : smallB b = true
  · have o := okS hs
    rw [hs] at gr
    by_cases hp : a.profile.length ≤ 100
    · have hp20 : a.profile.length < 2 ^ 20 := by omega
      by_cases h : doE b a = 0
      · have c := pc_actOk b o a hp20 h
        have g := chk_good.1 (do_chk h)
        have g2 := keep_do g h
        have fx := do_fix g h
        have hac := g2.ac
        have nu2 := g2.nu
        have nr2 := g2.nr
        have oa := (okG g2).a
        have ob := o.a
        clear h g
        generalize doB b a = d at *
        have ul := fx.ul
        have rl := fx.rl
        refine pc_of_bodyF hm Tryz.func13 (by kernel_rfl) ?_
        conv => whnf
        (repeat' ((first | refine ansT ?_ | refine ansF ?_ | ((try (refine Or.inl ?_; (conv => whnf))); (try (refine ⟨false, ?_⟩; (conv => whnf))); refine ⟨_, by first | exact al | exact gr, ?_⟩) | refine ansD (by first | (simp [*]; done) | omega) ?_ | refine ansN (by first | (simp [*]; done) | omega) ?_ | refine ⟨by kernel_rfl, ?_⟩ | refine ansB (by decide) (by first | decide | (simp; done) | (simp only [List.length_cons, List.length_nil]; decide)) ?_ | fail); (conv => whnf)))
        (repeat' (first | (refine ansS (fun hh => ?_) (fun hh => ?_) <;> (first | simp only [ansX] at hh | skip) <;> (first | (exfalso; omega) | (exfalso; simp [*] at hh; done) | (exfalso; revert hh; decide) | exact absurd (by assumption) hh | (conv => whnf))) | ((first | refine ⟨by kernel_rfl, ?_⟩ | refine ansB (by omega) (by omega) ?_ | refine ansB (by decide) (by decide) ?_ | refine And.intro (a := _ ≤ _) (by omega) ?_ | refine And.intro (a := _ ≠ _) (by omega) ?_ | ((try (refine Or.inl ?_; (conv => whnf))); (try (refine ⟨false, ?_⟩; (conv => whnf))); refine ⟨_, by exact c, ?_⟩) | fail); (conv => whnf))))
        refine Or.inr ⟨Nat, [60], [], [], fun k => [i64 k], fun _ => [], fun _ => [], fun k => b.users.length - k, fun k => k ≤ b.users.length, ?_⟩
        (conv => whnf)
        refine ⟨⟨0, ?_⟩, ?_⟩
        · (conv => whnf)
          exact ⟨⟨Nat.zero_le _, rfl, rfl, rfl⟩, by kernel_rfl, by kernel_rfl⟩
        intro k hk
        (conv => whnf)
        refine ⟨fun h1 => ?_, fun h1 => ?_⟩
        · have h1 := of_decide_eq_true h1
          have hkk : k < b.users.length := by omega
          have e := fx.us k hkk
          have e2 : d.users.getD (Int.toNat (k : Int)) 0 = b.users.getD (Int.toNat (k : Int)) 0 := e
          (conv => whnf)
          (repeat' (first | (refine ansS (fun hh => ?_) (fun hh => ?_) <;> (first | simp only [ansX] at hh | skip) <;> (first | (exfalso; omega) | (exfalso; simp [*] at hh; done) | (exfalso; revert hh; decide) | exact absurd (by assumption) hh | (conv => whnf))) | ((first | refine ⟨by kernel_rfl, ?_⟩ | refine ansB (by omega) (by omega) ?_ | refine ansB (by decide) (by decide) ?_ | refine And.intro (a := _ ≤ _) (by omega) ?_ | refine And.intro (a := _ ≠ _) (by omega) ?_ | fail); (conv => whnf))))
          refine ⟨k + 1, ?_⟩
          (conv => whnf)
          refine ⟨⟨⟨?_, ?_⟩, ?_, rfl, rfl⟩, by kernel_rfl, by kernel_rfl⟩
          · show b.users.length - (k + 1) < b.users.length - k; omega
          · show k + 1 ≤ b.users.length; omega
          · rw [w64 _ (by omega) (by omega)]; rfl
        clear h1 hk
        (conv => whnf)
        refine Or.inr ⟨Nat, [78, 9], [], [], fun i => [i64 i, i64 (activeN (d.recipes.take i))], fun _ => [], fun _ => [], fun i => d.recipes.length - i, fun i => i ≤ d.recipes.length, ?_⟩
        (conv => whnf)
        refine ⟨⟨0, ?_⟩, ?_⟩
        · (conv => whnf)
          exact ⟨⟨Nat.zero_le _, rfl, rfl, rfl⟩, by kernel_rfl, by kernel_rfl⟩
        intro i hi
        have hal : activeN (d.recipes.take i) ≤ i := Nat.le_trans (act_len _) (by rw [List.length_take]; omega)
        (conv => whnf)
        refine ⟨fun h1 => ?_, fun h1 => ?_⟩
        · have h1 := of_decide_eq_true h1
          have hii : i < d.recipes.length := by omega
          have ht := act_take hii
          (conv => whnf)
          refine ⟨⟨by omega, by omega⟩, ?_⟩
          (conv => whnf)
          rw [show Int.toNat (i : Int) = i from rfl]
          by_cases q : (d.recipes.getD i rec0).state = 3
          · rw [if_pos q] at ht
            refine ⟨fun _ => ?_, fun z => absurd q (of_decide_eq_false z)⟩
            (conv => whnf)
            rw [show IntKind.i64.wrap ((activeN (d.recipes.take i) : Int) + 1) = ((activeN (d.recipes.take (i + 1)) : Nat) : Int) by rw [w64 _ (by omega) (by omega)]; omega]
            clear q ht hal
            refine ⟨fun q2 => ?_, fun q2 => ?_⟩
            · (conv => whnf)
              refine ⟨i + 1, ?_⟩
              (conv => whnf)
              refine ⟨⟨⟨?_, ?_⟩, ?_, rfl, rfl⟩, by kernel_rfl, by kernel_rfl⟩
              · show d.recipes.length - (i + 1) < d.recipes.length - i; omega
              · show i + 1 ≤ d.recipes.length; omega
              · rw [w64 _ (by omega) (by omega)]; rfl
            have q2 := of_decide_eq_false q2
            have hib : i < b.recipes.length := by omega
            obtain ⟨f1, f2, f3, f4, f5⟩ := fx.rs i hib
            have oai := oa i
            have obi := ob i
            have ww : IntKind.i64.wrap (((b.recipes.getD (Int.toNat (i : Int)) rec0).appr.length : Int) + 1) = ((b.recipes.getD (Int.toNat (i : Int)) rec0).appr.length : Int) + 1 := w64 _ (by omega) (by show ((b.recipes.getD i rec0).appr.length : Int) + 1 ≤ _; omega)
            have e1 : (d.recipes.getD (Int.toNat (i : Int)) rec0).author = (b.recipes.getD (Int.toNat (i : Int)) rec0).author := f1
            have e3 : (b.recipes.getD (Int.toNat (i : Int)) rec0).state ≤ (d.recipes.getD (Int.toNat (i : Int)) rec0).state := f3
            have e4 : (b.recipes.getD (Int.toNat (i : Int)) rec0).appr.length ≤ (d.recipes.getD (Int.toNat (i : Int)) rec0).appr.length ∧ (d.recipes.getD (Int.toNat (i : Int)) rec0).appr.length ≤ (b.recipes.getD (Int.toNat (i : Int)) rec0).appr.length + 1 := f4
            have g1 : gThr (d.recipes.getD (Int.toNat (i : Int)) rec0).gauge = gThr (b.recipes.getD (Int.toNat (i : Int)) rec0).gauge := congrArg gThr f2
            have g2 : gNoi (d.recipes.getD (Int.toNat (i : Int)) rec0).gauge = gNoi (b.recipes.getD (Int.toNat (i : Int)) rec0).gauge := congrArg gNoi f2
            have g3 : (gSc (d.recipes.getD (Int.toNat (i : Int)) rec0).gauge).1.1 = (gSc (b.recipes.getD (Int.toNat (i : Int)) rec0).gauge).1.1 := congrArg (fun z => (gSc z).1.1) f2
            have g4 : (gSc (d.recipes.getD (Int.toNat (i : Int)) rec0).gauge).1.2 = (gSc (b.recipes.getD (Int.toNat (i : Int)) rec0).gauge).1.2 := congrArg (fun z => (gSc z).1.2) f2
            have g5 : (gSc (d.recipes.getD (Int.toNat (i : Int)) rec0).gauge).2.1 = (gSc (b.recipes.getD (Int.toNat (i : Int)) rec0).gauge).2.1 := congrArg (fun z => (gSc z).2.1) f2
            have g6 : (gSc (d.recipes.getD (Int.toNat (i : Int)) rec0).gauge).2.2 = (gSc (b.recipes.getD (Int.toNat (i : Int)) rec0).gauge).2.2 := congrArg (fun z => (gSc z).2.2) f2
            have g7 : (d.recipes.getD (Int.toNat (i : Int)) rec0).gauge.1.2.1 = (b.recipes.getD (Int.toNat (i : Int)) rec0).gauge.1.2.1 := congrArg (fun z : GauT => z.1.2.1) f2
            have g8 : (d.recipes.getD (Int.toNat (i : Int)) rec0).gauge.1.2.2 = (b.recipes.getD (Int.toNat (i : Int)) rec0).gauge.1.2.2 := congrArg (fun z : GauT => z.1.2.2) f2
            have g9 : (d.recipes.getD (Int.toNat (i : Int)) rec0).gauge.2.1 = (b.recipes.getD (Int.toNat (i : Int)) rec0).gauge.2.1 := congrArg (fun z : GauT => z.2.1) f2
            have g10 : (d.recipes.getD (Int.toNat (i : Int)) rec0).gauge.2.2 = (b.recipes.getD (Int.toNat (i : Int)) rec0).gauge.2.2 := congrArg (fun z : GauT => z.2.2) f2
            (conv => whnf)
            (repeat' (first | (refine ansS (fun hh => ?_) (fun hh => ?_) <;> (first | simp only [ansX] at hh | skip) <;> (first | (exfalso; omega) | (exfalso; simp [*] at hh; done) | (exfalso; revert hh; decide) | exact absurd (by assumption) hh | (conv => whnf))) | ((first | refine ⟨by kernel_rfl, ?_⟩ | refine ansB (by omega) (by omega) ?_ | refine ansB (by decide) (by decide) ?_ | refine And.intro (a := _ ≤ _) (by omega) ?_ | refine And.intro (a := _ ≠ _) (by omega) ?_ | fail); (conv => whnf))))
            · exfalso
              rcases hh with z | z | z | z | z | z | z | z | z | z | z <;> first | exact z (by omega) | cases z
            clear g1 g2 g3 g4 g5 g6 g7 g8 g9 g10 e1 e3 e4 ww f1 f2 f3 f4
            refine Or.inr ⟨Nat, [146], [], [], fun j => [i64 j], fun _ => [], fun _ => [], fun j => (b.recipes.getD i rec0).appr.length - j, fun j => j ≤ (b.recipes.getD i rec0).appr.length, ?_⟩
            (conv => whnf)
            refine ⟨⟨0, ?_⟩, ?_⟩
            · (conv => whnf)
              exact ⟨⟨Nat.zero_le _, rfl, rfl, rfl⟩, by kernel_rfl, by kernel_rfl⟩
            intro j hj
            (conv => whnf)
            refine ⟨fun h2 => ?_, fun h2 => ?_⟩
            · have h2 : (j : Int) < ((b.recipes.getD i rec0).appr.length : Int) := of_decide_eq_true h2
              have hjj : j < (b.recipes.getD i rec0).appr.length := by omega
              have hin : (b.recipes.getD i rec0).appr.getD j 0 ∈ (d.recipes.getD i rec0).appr := f5 _ (by rw [getD_at hjj]; exact List.getElem_mem hjj)
              (conv => whnf)
              refine ⟨⟨by omega, h2⟩, ?_⟩
              (conv => whnf)
              refine Or.inr ⟨Nat × Nat, [153, 15], [], [], fun m => [i64 m.1, fndV (((d.recipes.getD i rec0).appr.take m.1).contains ((b.recipes.getD i rec0).appr.getD j 0)) m.2], fun _ => [], fun _ => [], fun m => (d.recipes.getD i rec0).appr.length - m.1, fun m => m.1 ≤ (d.recipes.getD i rec0).appr.length ∧ ((m.2 = 0 ∧ ((d.recipes.getD i rec0).appr.take m.1).contains ((b.recipes.getD i rec0).appr.getD j 0) = false) ∨ (m.2 = 1 ∧ ((d.recipes.getD i rec0).appr.take m.1).contains ((b.recipes.getD i rec0).appr.getD j 0) = true) ∨ m.2 = 2), ?_⟩
              (conv => whnf)
              refine ⟨⟨(0, 0), ?_⟩, ?_⟩
              · (conv => whnf)
                exact ⟨⟨⟨Nat.zero_le _, .inl ⟨rfl, rfl⟩⟩, rfl, rfl, rfl⟩, by kernel_rfl, by kernel_rfl⟩
              rintro ⟨m, kk⟩ ⟨hm0, hkk⟩
              simp only [] at hm0 hkk
              have hfull : (d.recipes.getD i rec0).appr.contains ((b.recipes.getD i rec0).appr.getD j 0) = true := List.contains_iff_mem.2 hin
              have het : ¬(m : Int) < ((d.recipes.getD i rec0).appr.length : Int) → (d.recipes.getD i rec0).appr.take m = (d.recipes.getD i rec0).appr := fun z => List.take_of_length_le (by omega)
              rcases hkk with ⟨k0, hq⟩ | ⟨k0, hq⟩ | k0
              · subst k0
                (conv => whnf)
                refine ⟨fun h3 => ?_, fun h3 => ?_⟩
                · have h3 : (m : Int) < ((d.recipes.getD i rec0).appr.length : Int) := of_decide_eq_true h3
                  have hmm : m < (d.recipes.getD i rec0).appr.length := by omega
                  have ht := has_take (u := (b.recipes.getD i rec0).appr.getD j 0) hmm
                  rw [hq, Bool.false_or] at ht
                  (conv => whnf)
                  refine ⟨⟨by omega, h3⟩, ?_⟩
                  (conv => whnf)
                  (repeat' ((first | refine ansT ?_ | refine ansF ?_ | refine ansD (by first | (simp [*]; done) | omega) ?_ | refine ansN (by first | (simp [*]; done) | omega) ?_ | refine ⟨by kernel_rfl, ?_⟩ | refine ansB (by decide) (by first | decide | (simp; done) | (simp only [List.length_cons, List.length_nil]; decide)) ?_ | fail); (conv => whnf)))
                  refine ⟨(m + 1, 2), ?_⟩
                  (conv => whnf)
                  refine ⟨⟨⟨?_, ?_, ?_⟩, ?_, rfl, rfl⟩, by kernel_rfl, by kernel_rfl⟩
                  · show (d.recipes.getD i rec0).appr.length - (m + 1) < (d.recipes.getD i rec0).appr.length - m; omega
                  · show m + 1 ≤ (d.recipes.getD i rec0).appr.length; omega
                  · exact .inr (.inr rfl)
                  · rw [w64 _ (by omega) (by omega)]; show _ = [i64 ((m + 1 : Nat) : Int), AV.bool (((d.recipes.getD i rec0).appr.take (m + 1)).contains ((b.recipes.getD i rec0).appr.getD j 0))]; rw [ht]; rfl
                · have h3 : ¬(m : Int) < ((d.recipes.getD i rec0).appr.length : Int) := of_decide_eq_false h3
                  rw [het h3, hfull] at hq
                  cases hq
              · subst k0
                (conv => whnf)
                refine ⟨fun h3 => ?_, fun h3 => ?_⟩
                · have h3 : (m : Int) < ((d.recipes.getD i rec0).appr.length : Int) := of_decide_eq_true h3
                  have hmm : m < (d.recipes.getD i rec0).appr.length := by omega
                  have ht := has_take (u := (b.recipes.getD i rec0).appr.getD j 0) hmm
                  rw [hq, Bool.true_or] at ht
                  (conv => whnf)
                  refine ⟨⟨by omega, h3⟩, ?_⟩
                  (conv => whnf)
                  (repeat' ((first | refine ansT ?_ | refine ansF ?_ | refine ansD (by first | (simp [*]; done) | omega) ?_ | refine ansN (by first | (simp [*]; done) | omega) ?_ | refine ⟨by kernel_rfl, ?_⟩ | refine ansB (by decide) (by first | decide | (simp; done) | (simp only [List.length_cons, List.length_nil]; decide)) ?_ | fail); (conv => whnf)))
                  refine ⟨(m + 1, 1), ?_⟩
                  (conv => whnf)
                  refine ⟨⟨⟨?_, ?_, ?_⟩, ?_, rfl, rfl⟩, by kernel_rfl, by kernel_rfl⟩
                  · show (d.recipes.getD i rec0).appr.length - (m + 1) < (d.recipes.getD i rec0).appr.length - m; omega
                  · show m + 1 ≤ (d.recipes.getD i rec0).appr.length; omega
                  · exact .inr (.inl ⟨rfl, ht⟩)
                  · rw [w64 _ (by omega) (by omega)]; rfl
                · have h3 : ¬(m : Int) < ((d.recipes.getD i rec0).appr.length : Int) := of_decide_eq_false h3
                  (conv => whnf)
                  (repeat' ((first | refine ansT ?_ | refine ansF ?_ | refine ansD (by first | (simp [*]; done) | omega) ?_ | refine ansN (by first | (simp [*]; done) | omega) ?_ | refine ⟨by kernel_rfl, ?_⟩ | refine ansB (by decide) (by first | decide | (simp; done) | (simp only [List.length_cons, List.length_nil]; decide)) ?_ | fail); (conv => whnf)))
                  refine ⟨j + 1, ?_⟩
                  (conv => whnf)
                  refine ⟨⟨⟨?_, ?_⟩, ?_, rfl, rfl⟩, by kernel_rfl, by kernel_rfl⟩
                  · show (b.recipes.getD i rec0).appr.length - (j + 1) < (b.recipes.getD i rec0).appr.length - j; omega
                  · show j + 1 ≤ (b.recipes.getD i rec0).appr.length; omega
                  · rw [w64 _ (by omega) (by omega)]; rfl
              · subst k0
                (conv => whnf)
                refine ⟨fun h3 => ?_, fun h3 => ?_⟩
                · have h3 : (m : Int) < ((d.recipes.getD i rec0).appr.length : Int) := of_decide_eq_true h3
                  have hmm : m < (d.recipes.getD i rec0).appr.length := by omega
                  have ht := has_take (u := (b.recipes.getD i rec0).appr.getD j 0) hmm
                  (conv => whnf)
                  refine ⟨⟨by omega, h3⟩, ?_⟩
                  (conv => whnf)
                  cases hq : ((d.recipes.getD i rec0).appr.take m).contains ((b.recipes.getD i rec0).appr.getD j 0)
                  · rw [hq, Bool.false_or] at ht
                    (repeat' ((first | refine ansT ?_ | refine ansF ?_ | refine ansD (by first | (simp [*]; done) | omega) ?_ | refine ansN (by first | (simp [*]; done) | omega) ?_ | refine ⟨by kernel_rfl, ?_⟩ | refine ansB (by decide) (by first | decide | (simp; done) | (simp only [List.length_cons, List.length_nil]; decide)) ?_ | fail); (conv => whnf)))
                    refine ⟨(m + 1, 2), ?_⟩
                    (conv => whnf)
                    refine ⟨⟨⟨?_, ?_, ?_⟩, ?_, rfl, rfl⟩, by kernel_rfl, by kernel_rfl⟩
                    · show (d.recipes.getD i rec0).appr.length - (m + 1) < (d.recipes.getD i rec0).appr.length - m; omega
                    · show m + 1 ≤ (d.recipes.getD i rec0).appr.length; omega
                    · exact .inr (.inr rfl)
                    · rw [w64 _ (by omega) (by omega)]; show _ = [i64 ((m + 1 : Nat) : Int), AV.bool (((d.recipes.getD i rec0).appr.take (m + 1)).contains ((b.recipes.getD i rec0).appr.getD j 0))]; rw [ht]; rfl
                  · rw [hq, Bool.true_or] at ht
                    (repeat' ((first | refine ansT ?_ | refine ansF ?_ | refine ansD (by first | (simp [*]; done) | omega) ?_ | refine ansN (by first | (simp [*]; done) | omega) ?_ | refine ⟨by kernel_rfl, ?_⟩ | refine ansB (by decide) (by first | decide | (simp; done) | (simp only [List.length_cons, List.length_nil]; decide)) ?_ | fail); (conv => whnf)))
                    refine ⟨(m + 1, 1), ?_⟩
                    (conv => whnf)
                    refine ⟨⟨⟨?_, ?_, ?_⟩, ?_, rfl, rfl⟩, by kernel_rfl, by kernel_rfl⟩
                    · show (d.recipes.getD i rec0).appr.length - (m + 1) < (d.recipes.getD i rec0).appr.length - m; omega
                    · show m + 1 ≤ (d.recipes.getD i rec0).appr.length; omega
                    · exact .inr (.inl ⟨rfl, ht⟩)
                    · rw [w64 _ (by omega) (by omega)]; rfl
                · have h3 : ¬(m : Int) < ((d.recipes.getD i rec0).appr.length : Int) := of_decide_eq_false h3
                  rw [het h3, hfull]
                  (conv => whnf)
                  (repeat' ((first | refine ansT ?_ | refine ansF ?_ | refine ansD (by first | (simp [*]; done) | omega) ?_ | refine ansN (by first | (simp [*]; done) | omega) ?_ | refine ⟨by kernel_rfl, ?_⟩ | refine ansB (by decide) (by first | decide | (simp; done) | (simp only [List.length_cons, List.length_nil]; decide)) ?_ | fail); (conv => whnf)))
                  refine ⟨j + 1, ?_⟩
                  (conv => whnf)
                  refine ⟨⟨⟨?_, ?_⟩, ?_, rfl, rfl⟩, by kernel_rfl, by kernel_rfl⟩
                  · show (b.recipes.getD i rec0).appr.length - (j + 1) < (b.recipes.getD i rec0).appr.length - j; omega
                  · show j + 1 ≤ (b.recipes.getD i rec0).appr.length; omega
                  · rw [w64 _ (by omega) (by omega)]; rfl
            · (conv => whnf)
              refine ⟨i + 1, ?_⟩
              (conv => whnf)
              refine ⟨⟨⟨?_, ?_⟩, ?_, rfl, rfl⟩, by kernel_rfl, by kernel_rfl⟩
              · show d.recipes.length - (i + 1) < d.recipes.length - i; omega
              · show i + 1 ≤ d.recipes.length; omega
              · rw [w64 _ (by omega) (by omega)]; rfl
          · rw [if_neg q] at ht
            refine ⟨fun z => absurd (of_decide_eq_true z) q, fun _ => ?_⟩
            (conv => whnf)
            rw [show activeN (d.recipes.take i) = activeN (d.recipes.take (i + 1)) by omega]
            clear q ht hal
            refine ⟨fun q2 => ?_, fun q2 => ?_⟩
            · (conv => whnf)
              refine ⟨i + 1, ?_⟩
              (conv => whnf)
              refine ⟨⟨⟨?_, ?_⟩, ?_, rfl, rfl⟩, by kernel_rfl, by kernel_rfl⟩
              · show d.recipes.length - (i + 1) < d.recipes.length - i; omega
              · show i + 1 ≤ d.recipes.length; omega
              · rw [w64 _ (by omega) (by omega)]; rfl
            have q2 := of_decide_eq_false q2
            have hib : i < b.recipes.length := by omega
            obtain ⟨f1, f2, f3, f4, f5⟩ := fx.rs i hib
            have oai := oa i
            have obi := ob i
            have ww : IntKind.i64.wrap (((b.recipes.getD (Int.toNat (i : Int)) rec0).appr.length : Int) + 1) = ((b.recipes.getD (Int.toNat (i : Int)) rec0).appr.length : Int) + 1 := w64 _ (by omega) (by show ((b.recipes.getD i rec0).appr.length : Int) + 1 ≤ _; omega)
            have e1 : (d.recipes.getD (Int.toNat (i : Int)) rec0).author = (b.recipes.getD (Int.toNat (i : Int)) rec0).author := f1
            have e3 : (b.recipes.getD (Int.toNat (i : Int)) rec0).state ≤ (d.recipes.getD (Int.toNat (i : Int)) rec0).state := f3
            have e4 : (b.recipes.getD (Int.toNat (i : Int)) rec0).appr.length ≤ (d.recipes.getD (Int.toNat (i : Int)) rec0).appr.length ∧ (d.recipes.getD (Int.toNat (i : Int)) rec0).appr.length ≤ (b.recipes.getD (Int.toNat (i : Int)) rec0).appr.length + 1 := f4
            have g1 : gThr (d.recipes.getD (Int.toNat (i : Int)) rec0).gauge = gThr (b.recipes.getD (Int.toNat (i : Int)) rec0).gauge := congrArg gThr f2
            have g2 : gNoi (d.recipes.getD (Int.toNat (i : Int)) rec0).gauge = gNoi (b.recipes.getD (Int.toNat (i : Int)) rec0).gauge := congrArg gNoi f2
            have g3 : (gSc (d.recipes.getD (Int.toNat (i : Int)) rec0).gauge).1.1 = (gSc (b.recipes.getD (Int.toNat (i : Int)) rec0).gauge).1.1 := congrArg (fun z => (gSc z).1.1) f2
            have g4 : (gSc (d.recipes.getD (Int.toNat (i : Int)) rec0).gauge).1.2 = (gSc (b.recipes.getD (Int.toNat (i : Int)) rec0).gauge).1.2 := congrArg (fun z => (gSc z).1.2) f2
            have g5 : (gSc (d.recipes.getD (Int.toNat (i : Int)) rec0).gauge).2.1 = (gSc (b.recipes.getD (Int.toNat (i : Int)) rec0).gauge).2.1 := congrArg (fun z => (gSc z).2.1) f2
            have g6 : (gSc (d.recipes.getD (Int.toNat (i : Int)) rec0).gauge).2.2 = (gSc (b.recipes.getD (Int.toNat (i : Int)) rec0).gauge).2.2 := congrArg (fun z => (gSc z).2.2) f2
            have g7 : (d.recipes.getD (Int.toNat (i : Int)) rec0).gauge.1.2.1 = (b.recipes.getD (Int.toNat (i : Int)) rec0).gauge.1.2.1 := congrArg (fun z : GauT => z.1.2.1) f2
            have g8 : (d.recipes.getD (Int.toNat (i : Int)) rec0).gauge.1.2.2 = (b.recipes.getD (Int.toNat (i : Int)) rec0).gauge.1.2.2 := congrArg (fun z : GauT => z.1.2.2) f2
            have g9 : (d.recipes.getD (Int.toNat (i : Int)) rec0).gauge.2.1 = (b.recipes.getD (Int.toNat (i : Int)) rec0).gauge.2.1 := congrArg (fun z : GauT => z.2.1) f2
            have g10 : (d.recipes.getD (Int.toNat (i : Int)) rec0).gauge.2.2 = (b.recipes.getD (Int.toNat (i : Int)) rec0).gauge.2.2 := congrArg (fun z : GauT => z.2.2) f2
            (conv => whnf)
            (repeat' (first | (refine ansS (fun hh => ?_) (fun hh => ?_) <;> (first | simp only [ansX] at hh | skip) <;> (first | (exfalso; omega) | (exfalso; simp [*] at hh; done) | (exfalso; revert hh; decide) | exact absurd (by assumption) hh | (conv => whnf))) | ((first | refine ⟨by kernel_rfl, ?_⟩ | refine ansB (by omega) (by omega) ?_ | refine ansB (by decide) (by decide) ?_ | refine And.intro (a := _ ≤ _) (by omega) ?_ | refine And.intro (a := _ ≠ _) (by omega) ?_ | fail); (conv => whnf))))
            · exfalso
              rcases hh with z | z | z | z | z | z | z | z | z | z | z <;> first | exact z (by omega) | cases z
            clear g1 g2 g3 g4 g5 g6 g7 g8 g9 g10 e1 e3 e4 ww f1 f2 f3 f4
            refine Or.inr ⟨Nat, [146], [], [], fun j => [i64 j], fun _ => [], fun _ => [], fun j => (b.recipes.getD i rec0).appr.length - j, fun j => j ≤ (b.recipes.getD i rec0).appr.length, ?_⟩
            (conv => whnf)
            refine ⟨⟨0, ?_⟩, ?_⟩
            · (conv => whnf)
              exact ⟨⟨Nat.zero_le _, rfl, rfl, rfl⟩, by kernel_rfl, by kernel_rfl⟩
            intro j hj
            (conv => whnf)
            refine ⟨fun h2 => ?_, fun h2 => ?_⟩
            · have h2 : (j : Int) < ((b.recipes.getD i rec0).appr.length : Int) := of_decide_eq_true h2
              have hjj : j < (b.recipes.getD i rec0).appr.length := by omega
              have hin : (b.recipes.getD i rec0).appr.getD j 0 ∈ (d.recipes.getD i rec0).appr := f5 _ (by rw [getD_at hjj]; exact List.getElem_mem hjj)
              (conv => whnf)
              refine ⟨⟨by omega, h2⟩, ?_⟩
              (conv => whnf)
              refine Or.inr ⟨Nat × Nat, [153, 15], [], [], fun m => [i64 m.1, fndV (((d.recipes.getD i rec0).appr.take m.1).contains ((b.recipes.getD i rec0).appr.getD j 0)) m.2], fun _ => [], fun _ => [], fun m => (d.recipes.getD i rec0).appr.length - m.1, fun m => m.1 ≤ (d.recipes.getD i rec0).appr.length ∧ ((m.2 = 0 ∧ ((d.recipes.getD i rec0).appr.take m.1).contains ((b.recipes.getD i rec0).appr.getD j 0) = false) ∨ (m.2 = 1 ∧ ((d.recipes.getD i rec0).appr.take m.1).contains ((b.recipes.getD i rec0).appr.getD j 0) = true) ∨ m.2 = 2), ?_⟩
              (conv => whnf)
              refine ⟨⟨(0, 0), ?_⟩, ?_⟩
              · (conv => whnf)
                exact ⟨⟨⟨Nat.zero_le _, .inl ⟨rfl, rfl⟩⟩, rfl, rfl, rfl⟩, by kernel_rfl, by kernel_rfl⟩
              rintro ⟨m, kk⟩ ⟨hm0, hkk⟩
              simp only [] at hm0 hkk
              have hfull : (d.recipes.getD i rec0).appr.contains ((b.recipes.getD i rec0).appr.getD j 0) = true := List.contains_iff_mem.2 hin
              have het : ¬(m : Int) < ((d.recipes.getD i rec0).appr.length : Int) → (d.recipes.getD i rec0).appr.take m = (d.recipes.getD i rec0).appr := fun z => List.take_of_length_le (by omega)
              rcases hkk with ⟨k0, hq⟩ | ⟨k0, hq⟩ | k0
              · subst k0
                (conv => whnf)
                refine ⟨fun h3 => ?_, fun h3 => ?_⟩
                · have h3 : (m : Int) < ((d.recipes.getD i rec0).appr.length : Int) := of_decide_eq_true h3
                  have hmm : m < (d.recipes.getD i rec0).appr.length := by omega
                  have ht := has_take (u := (b.recipes.getD i rec0).appr.getD j 0) hmm
                  rw [hq, Bool.false_or] at ht
                  (conv => whnf)
                  refine ⟨⟨by omega, h3⟩, ?_⟩
                  (conv => whnf)
                  (repeat' ((first | refine ansT ?_ | refine ansF ?_ | refine ansD (by first | (simp [*]; done) | omega) ?_ | refine ansN (by first | (simp [*]; done) | omega) ?_ | refine ⟨by kernel_rfl, ?_⟩ | refine ansB (by decide) (by first | decide | (simp; done) | (simp only [List.length_cons, List.length_nil]; decide)) ?_ | fail); (conv => whnf)))
                  refine ⟨(m + 1, 2), ?_⟩
                  (conv => whnf)
                  refine ⟨⟨⟨?_, ?_, ?_⟩, ?_, rfl, rfl⟩, by kernel_rfl, by kernel_rfl⟩
                  · show (d.recipes.getD i rec0).appr.length - (m + 1) < (d.recipes.getD i rec0).appr.length - m; omega
                  · show m + 1 ≤ (d.recipes.getD i rec0).appr.length; omega
                  · exact .inr (.inr rfl)
                  · rw [w64 _ (by omega) (by omega)]; show _ = [i64 ((m + 1 : Nat) : Int), AV.bool (((d.recipes.getD i rec0).appr.take (m + 1)).contains ((b.recipes.getD i rec0).appr.getD j 0))]; rw [ht]; rfl
                · have h3 : ¬(m : Int) < ((d.recipes.getD i rec0).appr.length : Int) := of_decide_eq_false h3
                  rw [het h3, hfull] at hq
                  cases hq
              · subst k0
                (conv => whnf)
                refine ⟨fun h3 => ?_, fun h3 => ?_⟩
                · have h3 : (m : Int) < ((d.recipes.getD i rec0).appr.length : Int) := of_decide_eq_true h3
                  have hmm : m < (d.recipes.getD i rec0).appr.length := by omega
                  have ht := has_take (u := (b.recipes.getD i rec0).appr.getD j 0) hmm
                  rw [hq, Bool.true_or] at ht
                  (conv => whnf)
                  refine ⟨⟨by omega, h3⟩, ?_⟩
                  (conv => whnf)
                  (repeat' ((first | refine ansT ?_ | refine ansF ?_ | refine ansD (by first | (simp [*]; done) | omega) ?_ | refine ansN (by first | (simp [*]; done) | omega) ?_ | refine ⟨by kernel_rfl, ?_⟩ | refine ansB (by decide) (by first | decide | (simp; done) | (simp only [List.length_cons, List.length_nil]; decide)) ?_ | fail); (conv => whnf)))
                  refine ⟨(m + 1, 1), ?_⟩
                  (conv => whnf)
                  refine ⟨⟨⟨?_, ?_, ?_⟩, ?_, rfl, rfl⟩, by kernel_rfl, by kernel_rfl⟩
                  · show (d.recipes.getD i rec0).appr.length - (m + 1) < (d.recipes.getD i rec0).appr.length - m; omega
                  · show m + 1 ≤ (d.recipes.getD i rec0).appr.length; omega
                  · exact .inr (.inl ⟨rfl, ht⟩)
                  · rw [w64 _ (by omega) (by omega)]; rfl
                · have h3 : ¬(m : Int) < ((d.recipes.getD i rec0).appr.length : Int) := of_decide_eq_false h3
                  (conv => whnf)
                  (repeat' ((first | refine ansT ?_ | refine ansF ?_ | refine ansD (by first | (simp [*]; done) | omega) ?_ | refine ansN (by first | (simp [*]; done) | omega) ?_ | refine ⟨by kernel_rfl, ?_⟩ | refine ansB (by decide) (by first | decide | (simp; done) | (simp only [List.length_cons, List.length_nil]; decide)) ?_ | fail); (conv => whnf)))
                  refine ⟨j + 1, ?_⟩
                  (conv => whnf)
                  refine ⟨⟨⟨?_, ?_⟩, ?_, rfl, rfl⟩, by kernel_rfl, by kernel_rfl⟩
                  · show (b.recipes.getD i rec0).appr.length - (j + 1) < (b.recipes.getD i rec0).appr.length - j; omega
                  · show j + 1 ≤ (b.recipes.getD i rec0).appr.length; omega
                  · rw [w64 _ (by omega) (by omega)]; rfl
              · subst k0
                (conv => whnf)
                refine ⟨fun h3 => ?_, fun h3 => ?_⟩
                · have h3 : (m : Int) < ((d.recipes.getD i rec0).appr.length : Int) := of_decide_eq_true h3
                  have hmm : m < (d.recipes.getD i rec0).appr.length := by omega
                  have ht := has_take (u := (b.recipes.getD i rec0).appr.getD j 0) hmm
                  (conv => whnf)
                  refine ⟨⟨by omega, h3⟩, ?_⟩
                  (conv => whnf)
                  cases hq : ((d.recipes.getD i rec0).appr.take m).contains ((b.recipes.getD i rec0).appr.getD j 0)
                  · rw [hq, Bool.false_or] at ht
                    (repeat' ((first | refine ansT ?_ | refine ansF ?_ | refine ansD (by first | (simp [*]; done) | omega) ?_ | refine ansN (by first | (simp [*]; done) | omega) ?_ | refine ⟨by kernel_rfl, ?_⟩ | refine ansB (by decide) (by first | decide | (simp; done) | (simp only [List.length_cons, List.length_nil]; decide)) ?_ | fail); (conv => whnf)))
                    refine ⟨(m + 1, 2), ?_⟩
                    (conv => whnf)
                    refine ⟨⟨⟨?_, ?_, ?_⟩, ?_, rfl, rfl⟩, by kernel_rfl, by kernel_rfl⟩
                    · show (d.recipes.getD i rec0).appr.length - (m + 1) < (d.recipes.getD i rec0).appr.length - m; omega
                    · show m + 1 ≤ (d.recipes.getD i rec0).appr.length; omega
                    · exact .inr (.inr rfl)
                    · rw [w64 _ (by omega) (by omega)]; show _ = [i64 ((m + 1 : Nat) : Int), AV.bool (((d.recipes.getD i rec0).appr.take (m + 1)).contains ((b.recipes.getD i rec0).appr.getD j 0))]; rw [ht]; rfl
                  · rw [hq, Bool.true_or] at ht
                    (repeat' ((first | refine ansT ?_ | refine ansF ?_ | refine ansD (by first | (simp [*]; done) | omega) ?_ | refine ansN (by first | (simp [*]; done) | omega) ?_ | refine ⟨by kernel_rfl, ?_⟩ | refine ansB (by decide) (by first | decide | (simp; done) | (simp only [List.length_cons, List.length_nil]; decide)) ?_ | fail); (conv => whnf)))
                    refine ⟨(m + 1, 1), ?_⟩
                    (conv => whnf)
                    refine ⟨⟨⟨?_, ?_, ?_⟩, ?_, rfl, rfl⟩, by kernel_rfl, by kernel_rfl⟩
                    · show (d.recipes.getD i rec0).appr.length - (m + 1) < (d.recipes.getD i rec0).appr.length - m; omega
                    · show m + 1 ≤ (d.recipes.getD i rec0).appr.length; omega
                    · exact .inr (.inl ⟨rfl, ht⟩)
                    · rw [w64 _ (by omega) (by omega)]; rfl
                · have h3 : ¬(m : Int) < ((d.recipes.getD i rec0).appr.length : Int) := of_decide_eq_false h3
                  rw [het h3, hfull]
                  (conv => whnf)
                  (repeat' ((first | refine ansT ?_ | refine ansF ?_ | refine ansD (by first | (simp [*]; done) | omega) ?_ | refine ansN (by first | (simp [*]; done) | omega) ?_ | refine ⟨by kernel_rfl, ?_⟩ | refine ansB (by decide) (by first | decide | (simp; done) | (simp only [List.length_cons, List.length_nil]; decide)) ?_ | fail); (conv => whnf)))
                  refine ⟨j + 1, ?_⟩
                  (conv => whnf)
                  refine ⟨⟨⟨?_, ?_⟩, ?_, rfl, rfl⟩, by kernel_rfl, by kernel_rfl⟩
                  · show (b.recipes.getD i rec0).appr.length - (j + 1) < (b.recipes.getD i rec0).appr.length - j; omega
                  · show j + 1 ≤ (b.recipes.getD i rec0).appr.length; omega
                  · rw [w64 _ (by omega) (by omega)]; rfl
            · (conv => whnf)
              refine ⟨i + 1, ?_⟩
              (conv => whnf)
              refine ⟨⟨⟨?_, ?_⟩, ?_, rfl, rfl⟩, by kernel_rfl, by kernel_rfl⟩
              · show d.recipes.length - (i + 1) < d.recipes.length - i; omega
              · show i + 1 ≤ d.recipes.length; omega
              · rw [w64 _ (by omega) (by omega)]; rfl
        · have h1 := of_decide_eq_false h1
          have ei : d.recipes.take i = d.recipes := List.take_of_length_le (by omega)
          rw [ei]
          (conv => whnf)
          (repeat' (first | (refine ansS (fun hh => ?_) (fun hh => ?_) <;> (first | simp only [ansX] at hh | skip) <;> (first | (exfalso; omega) | (exfalso; simp [*] at hh; done) | (exfalso; revert hh; decide) | exact absurd (by assumption) hh | (conv => whnf))) | ((first | refine ⟨by kernel_rfl, ?_⟩ | refine ansB (by omega) (by omega) ?_ | refine ansB (by decide) (by decide) ?_ | refine And.intro (a := _ ≤ _) (by omega) ?_ | refine And.intro (a := _ ≠ _) (by omega) ?_ | fail); (conv => whnf))))
          all_goals (first | rfl | (refine congrArg AV.bool ?_; simp only [ansX]; omega) | set_option pp.maxSteps 300 in trace_state)
      · have c := pc_actBad b o a hp20 h
        refine pc_of_bodyF hm Tryz.func13 (by kernel_rfl) ?_
        conv => whnf
        (repeat' ((first | refine ansT ?_ | refine ansF ?_ | ((try (refine Or.inl ?_; (conv => whnf))); (try (refine ⟨false, ?_⟩; (conv => whnf))); refine ⟨_, by first | exact al | exact gr, ?_⟩) | refine ansD (by first | (simp [*]; done) | omega) ?_ | refine ansN (by first | (simp [*]; done) | omega) ?_ | refine ⟨by kernel_rfl, ?_⟩ | refine ansB (by decide) (by first | decide | (simp; done) | (simp only [List.length_cons, List.length_nil]; decide)) ?_ | fail); (conv => whnf)))
        (repeat' (first | (refine ansS (fun hh => ?_) (fun hh => ?_) <;> (first | simp only [ansX] at hh | skip) <;> (first | (exfalso; omega) | (exfalso; simp [*] at hh; done) | (exfalso; revert hh; decide) | exact absurd (by assumption) hh | (conv => whnf))) | ((first | refine ⟨by kernel_rfl, ?_⟩ | refine ansB (by omega) (by omega) ?_ | refine ansB (by decide) (by decide) ?_ | refine And.intro (a := _ ≤ _) (by omega) ?_ | refine And.intro (a := _ ≠ _) (by omega) ?_ | ((try (refine Or.inl ?_; (conv => whnf))); (try (refine ⟨false, ?_⟩; (conv => whnf))); refine ⟨_, by exact c, ?_⟩) | fail); (conv => whnf))))
        all_goals (first | rfl | set_option pp.maxSteps 300 in trace_state)
    · refine pc_of_bodyF hm Tryz.func13 (by kernel_rfl) ?_
      conv => whnf
      (repeat' ((first | refine ansT ?_ | refine ansF ?_ | ((try (refine Or.inl ?_; (conv => whnf))); (try (refine ⟨false, ?_⟩; (conv => whnf))); refine ⟨_, by first | exact al | exact gr, ?_⟩) | refine ansD (by first | (simp [*]; done) | omega) ?_ | refine ansN (by first | (simp [*]; done) | omega) ?_ | refine ⟨by kernel_rfl, ?_⟩ | refine ansB (by decide) (by first | decide | (simp; done) | (simp only [List.length_cons, List.length_nil]; decide)) ?_ | fail); (conv => whnf)))
      (repeat' (first | (refine ansS (fun hh => ?_) (fun hh => ?_) <;> (first | simp only [ansX] at hh | skip) <;> (first | (exfalso; omega) | (exfalso; simp [*] at hh; done) | (exfalso; revert hh; decide) | exact absurd (by assumption) hh | (conv => whnf))) | ((first | refine ⟨by kernel_rfl, ?_⟩ | refine ansB (by omega) (by omega) ?_ | refine ansB (by decide) (by decide) ?_ | refine And.intro (a := _ ≤ _) (by omega) ?_ | refine And.intro (a := _ ≠ _) (by omega) ?_ | fail); (conv => whnf))))
      all_goals (first | rfl | set_option pp.maxSteps 300 in trace_state)
  · have hs : smallB b = false := by simpa using hs
    rw [hs] at gr
    refine pc_of_bodyF hm Tryz.func13 (by kernel_rfl) ?_
    conv => whnf
    (repeat' ((first | refine ansT ?_ | refine ansF ?_ | ((try (refine Or.inl ?_; (conv => whnf))); (try (refine ⟨false, ?_⟩; (conv => whnf))); refine ⟨_, by first | exact al | exact gr, ?_⟩) | refine ansD (by first | (simp [*]; done) | omega) ?_ | refine ansN (by first | (simp [*]; done) | omega) ?_ | refine ⟨by kernel_rfl, ?_⟩ | refine ansB (by decide) (by first | decide | (simp; done) | (simp only [List.length_cons, List.length_nil]; decide)) ?_ | fail); (conv => whnf)))
    (repeat' (first | (refine ansS (fun hh => ?_) (fun hh => ?_) <;> (first | simp only [ansX] at hh | skip) <;> (first | (exfalso; omega) | (exfalso; simp [*] at hh; done) | (exfalso; revert hh; decide) | exact absurd (by assumption) hh | (conv => whnf))) | ((first | refine ⟨by kernel_rfl, ?_⟩ | refine ansB (by omega) (by omega) ?_ | refine ansB (by decide) (by decide) ?_ | refine And.intro (a := _ ≤ _) (by omega) ?_ | refine And.intro (a := _ ≠ _) (by omega) ?_ | fail); (conv => whnf))))
    all_goals (first | rfl | set_option pp.maxSteps 300 in trace_state)
end Go.Proofs.Tryz.My
