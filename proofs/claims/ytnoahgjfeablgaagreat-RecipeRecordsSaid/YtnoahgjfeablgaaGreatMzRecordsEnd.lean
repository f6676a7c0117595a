/- RecipeRecords of layer 10: one more entry of the log, as the document says; the books and the profile stay. -/
import Derived.Test.YtnoahgjfeablgaaGreatEvSix
import Derived.Test.YtnoahgjfeablgaaGreatMzBq9
import Derived.Test.YtnoahgjfeablgaaGreatMzBpC
import Derived.Test.YtnoahgjfeablgaaGreatMzBn1
import Derived.Test.YtnoahgjfeablgaaGreatMzBsA
import Derived.Test.YtnoahgjfeablgaaGreatMzBq4
import Derived.Test.YtnoahgjfeablgaaGreatMzBqA
import Derived.Test.YtnoahgjfeablgaaGreatMzBt1
import Derived.Test.YtnoahgjfeablgaaGreatMzBoA
import Derived.Test.YtnoahgjfeablgaaGreatMzBqB
import Derived.Test.YtnoahgjfeablgaaGreatMzBkA
import Derived.Test.YtnoahgjfeablgaaGreatMzGdD
import Derived.Test.YtnoahgjfeablgaaGreatEvTen
import Derived.Test.YtnoahgjfeablgaaGreatRows
import Derived.WalkKit
import Derived.ProofKit
import Derived.OpenShut
import Derived.ChangeOld
import Derived.Below
import Derived.Test.YtnoahgjfeablgaaGreatMzIniA
set_option maxRecDepth 100000
set_option maxHeartbeats 0
set_option linter.unusedVariables false
set_option linter.unusedSimpArgs false
namespace Go.Proofs.Tryz.My
open Go Go.Ev
theorem pc_r10yields (l : List EntT) (hl : l.length < 2 ^ 40) : PC Tryz.prog 78 [ents l] (i64 (ixE isFree l)) := by
  refine pc_of_bodyF hm Tryz.func78 (by kernel_rfl) ?_
  conv => whnf
  refine Or.inr ⟨Nat, [3], [], [], fun k => [i64 k], fun _ => [], fun _ => [], fun k => l.length - k, fun k => k ≤ l.length ∧ ∀ m, m < k → isFree (l.getD m ent0) = false, ?_⟩
  (conv => whnf)
  refine ⟨⟨0, ?_⟩, ?_⟩
  · (conv => whnf)
    exact ⟨⟨⟨Nat.zero_le _, fun i hi => absurd hi (Nat.not_lt_zero i)⟩, rfl, rfl, rfl⟩, by kernel_rfl, by kernel_rfl⟩
  intro k hk
  (conv => whnf)
  refine ⟨fun h => ?_, fun h => ?_⟩
  · have h := of_decide_eq_true h
    have hkk : k < l.length := by omega
    (conv => whnf)
    refine ⟨⟨by omega, by omega⟩, ?_⟩
    (conv => whnf)
    rw [show Int.toNat (k : Int) = k from rfl]
    refine ⟨fun q1 => ?_, fun q1 => ?_⟩
    · (conv => whnf)
      exact congrArg i64 (ixE_hit (p := isFree) hkk q1 hk.2).symm
    · refine ⟨k + 1, ?_⟩
      (conv => whnf)
      refine ⟨⟨⟨?_, ?_, ?_⟩, ?_, rfl, rfl⟩, by kernel_rfl, by kernel_rfl⟩
      · show l.length - (k + 1) < l.length - k; omega
      · omega
      · intro m h2
        by_cases e : m = k
        · subst e; exact q1
        · exact hk.2 m (by omega)
      · rw [w64 _ (by omega) (by omega)]; rfl
  · have h := of_decide_eq_false h
    (conv => whnf)
    exact congrArg i64 (ixE_none (p := isFree) fun m h2 => hk.2 m (by omega)).symm
theorem mea_err {g : GauT} (hg : gauB g = true) (p : List Int) : (meaF g p).2.2 = if profB p then 0 else 50 := by
  cases hp : profB p with
  | true => exact (mea_ok hg hp).1
  | false =>
    unfold meaF
    rw [if_pos hg]
    obtain ⟨⟨t1, t2⟩, ⟨n1, n2⟩, _⟩ := gauB_known hg
    rcases wid_err (p := p) t1 t2 n1 n2 with ⟨_, q⟩ | ⟨q, _⟩
    · rw [q]
      unfold meaG
      rw [if_neg (by decide), if_neg (by decide)]
      rfl
    · rw [hp] at q; cases q
theorem act_gau {b : BooksT} (h : chkB b = true) (ha : b.recipes.any isAct = true) : gauB (rcdG b) = true := by
  have g := (chk_good.1 h).rc (b.recipes.getD (firstA b.recipes) rec0) (by rw [getD_at (firstA_lt ha)]; exact List.getElem_mem _)
  exact g.2.2.2.1
theorem okay_rcd {b : BooksT} (o : Okay b) (h : chkB b = true) {profile : List Int} (hp : profile.length < 2 ^ 20) (part : Int) : Okay (rcdB b part profile) := by
  have s := chk_small h
  have hl : (rcdL b).length ≤ 32 := by
    unfold rcdL
    split
    · unfold dropE
      rw [List.length_append, List.length_take, List.length_drop]
      omega
    · omega
  refine ⟨o.u, o.r, ?_, o.a, fun i => ?_⟩
  · show (rcdL b ++ [rcdX b part profile]).length < _
    rw [List.length_append]
    show (rcdL b).length + 1 < _
    omega
  · show ((rcdL b ++ [rcdX b part profile]).getD i ent0).profile.length < _
    have key : ∀ x, x ∈ rcdL b ++ [rcdX b part profile] → x.profile.length < 2 ^ 20 := fun x hx => by
      rcases List.mem_append.1 hx with q | q
      · have : x ∈ b.log := by
          unfold rcdL at q
          split at q
          · unfold dropE at q
            rcases List.mem_append.1 q with q | q
            · exact List.mem_of_mem_take q
            · exact List.mem_of_mem_drop q
          · exact q
        obtain ⟨k, hk, e⟩ := List.getElem_of_mem this
        have := o.p k
        rw [getD_at hk, e] at this
        exact this
      · rw [List.mem_singleton.1 q]; exact hp
    by_cases hi : i < (rcdL b ++ [rcdX b part profile]).length
    · rw [getD_at hi]; exact key _ (List.getElem_mem _)
    · rw [List.getD, List.getElem?_eq_none (by omega)]; show (0 : Nat) < _; decide
theorem pc_r10RecordOk (b : BooksT) (o : Okay b) (hI : ∀ i, IG (b.recipes.getD i rec0).gauge) (part : Int) (profile : List Int) (hp : profile.length < 2 ^ 20) (h : rcdE b part profile = 0) :
    PC Tryz.prog 32 [bks b, i64 part, ints profile] (.tup [bks (rcdB b part profile), .agg [i64 b.next, i64 (firstA b.recipes), i64 part, ints profile, u8 (meaF (rcdG b) profile).2.1, .ff], i64 0]) := by
  obtain ⟨hc, hpt, ha, hm0, hfull, hnx⟩ := rcdE_zero h
  clear h
  have gg := act_gau hc ha
  have pe := mea_err gg profile
  rw [hm0] at pe
  have s := chk_small hc
  have nx := chk_next hc
  have c := pc_Valid b o hI
  rw [hc] at c
  have c1 : PC Tryz.prog 65 [i64 part, i64 0, i64 1099511627776] (.bool (decide (0 ≤ part) && decide (part ≤ 1099511627776))) := pc_r10within _ _ _
  have c2 := pc_r10current b o
  have hN : actI b.recipes = firstA b.recipes := by unfold actI; rw [if_pos ha]
  rw [hN] at c2
  have c5 := pc_CheckProfile5 profile (lt40 hp)
  rw [← pe] at c5
  have hA := firstA_lt ha
  have c4 := pc_r10yields b.log (lt40 o.l)
  unfold ixE at c4
  have w1 : IntKind.i64.wrap (b.next + 1) = b.next + 1 := w64 _ (by omega) (by omega)
  have j := pc_Judged (b.recipes.getD (firstA b.recipes) rec0).gauge profile (hI _) (lt40 hp)
  have ox := okay_rcd o hc hp part
  unfold rcdB rcdX rcdL rcdG at *
  clear pe
  clear gg
  generalize firstA b.recipes = n at *
  by_cases hf : (b.log.length : Int) = b.keep
  · have hfr := hfull hf
    rw [if_pos hfr] at c4
    rw [if_pos hf] at ox ⊢
    have hi := fi_lt hfr
    generalize b.log.findIdx isFree = i at *
    have hdl := dropE_len hi
    have w2 : IntKind.i64.wrap ((i : Int) + 1) = (i : Int) + 1 := w64 _ (by omega) (by omega)
    have tw := pc_r10Twin b o
    have dt : List.take ((b.log.length : Int) - ((i : Int) + 1)).toNat (List.drop ((i : Int) + 1).toNat b.log) = b.log.drop (i + 1) := by
      rw [show ((i : Int) + 1).toNat = i + 1 by omega]
      exact List.take_of_length_le (by rw [List.length_drop]; omega)
    refine pc_of_bodyF hm Tryz.func32 (by kernel_rfl) ?_
    conv => whnf
    (repeat' ((first | refine ansT ?_ | refine ansF ?_ | ((try (refine Or.inl ?_; (conv => whnf))); (try (refine ⟨false, ?_⟩; (conv => whnf))); refine ⟨_, by exact c, ?_⟩) | refine ansD (by first | (simp [*]; done) | omega) ?_ | refine ansN (by first | (simp [*]; done) | omega) ?_ | refine ⟨by kernel_rfl, ?_⟩ | refine ansB (by decide) (by first | decide | (simp; done) | (simp only [List.length_cons, List.length_nil]; decide)) ?_ | fail); (conv => whnf)))
    (repeat' (first | (refine ansS (fun hh => ?_) (fun hh => ?_) <;> (first | simp only [ansX] at hh | skip) <;> (first | (exfalso; omega) | (exfalso; simp [*] at hh; done) | (exfalso; revert hh; decide) | exact absurd (by assumption) hh | (conv => whnf))) | ((first | refine ⟨by kernel_rfl, ?_⟩ | refine ansB (by omega) (by omega) ?_ | refine ansB (by decide) (by decide) ?_ | refine And.intro (a := _ ≤ _) (by omega) ?_ | refine And.intro (a := _ ≠ _) (by omega) ?_ | ((try (refine Or.inl ?_; (conv => whnf))); (try (refine ⟨false, ?_⟩; (conv => whnf))); refine ⟨_, by first | exact c1 | exact c2 | exact c5 | exact c4 | exact tw, ?_⟩) | fail); (conv => whnf))))
    refine ⟨⟨EntT, 6, ent0, eEnt, []⟩, b.log.take i, rfl, ⟨rfl, rfl⟩, rfl, ?_, ?_, fun y _ => ⟨rfl, rfl, rfl⟩, ?_⟩
    · show (0 + (b.log.take i).length) * 56 ≤ _; rw [List.length_take]; omega
    · show 0 + (b.log.take i).length ≤ _; rw [List.length_take]; omega
    (conv => whnf)
    (repeat' (first | (refine ansS (fun hh => ?_) (fun hh => ?_) <;> (first | simp only [ansX] at hh | skip) <;> (first | (exfalso; omega) | (exfalso; simp [*] at hh; done) | (exfalso; revert hh; decide) | exact absurd (by assumption) hh | (conv => whnf))) | ((first | refine ⟨by kernel_rfl, ?_⟩ | refine ansB (by omega) (by omega) ?_ | refine ansB (by decide) (by decide) ?_ | refine And.intro (a := _ ≤ _) (by omega) ?_ | refine And.intro (a := _ ≠ _) (by omega) ?_ | fail); (conv => whnf))))
    rw [w2]
    refine ⟨⟨EntT, 6, ent0, eEnt, b.log.take i⟩, b.log.drop (i + 1), rfl, rfl, ?_, ?_, ?_, fun y _ => ⟨rfl, rfl, rfl⟩, ?_⟩
    · conv => whnf
      exact congrArg (SlD.mk EntT 6 ent0 eEnt) dt
    · show ((b.log.take i).length + (b.log.drop (i + 1)).length) * 56 ≤ _; rw [List.length_take, List.length_drop]; omega
    · show (b.log.take i).length + (b.log.drop (i + 1)).length ≤ _; rw [List.length_take, List.length_drop]; omega
    (conv => whnf)
    (repeat' (first | (refine ansS (fun hh => ?_) (fun hh => ?_) <;> (first | simp only [ansX] at hh | skip) <;> (first | (exfalso; omega) | (exfalso; simp [*] at hh; done) | (exfalso; revert hh; decide) | exact absurd (by assumption) hh | (conv => whnf))) | ((first | refine ⟨by kernel_rfl, ?_⟩ | refine ansB (by omega) (by omega) ?_ | refine ansB (by decide) (by decide) ?_ | refine And.intro (a := _ ≤ _) (by omega) ?_ | refine And.intro (a := _ ≠ _) (by omega) ?_ | fail); (conv => whnf))))
    refine ⟨⟨Int, 1, 0, eI, []⟩, profile, rfl, ⟨rfl, rfl⟩, rfl, ?_, ?_, fun y _ => ⟨rfl, rfl, rfl⟩, ?_⟩
    · show (0 + profile.length) * 8 ≤ _; omega
    · show 0 + profile.length ≤ _; omega
    (conv => whnf)
    (repeat' (first | (refine ansS (fun hh => ?_) (fun hh => ?_) <;> (first | simp only [ansX] at hh | skip) <;> (first | (exfalso; omega) | (exfalso; simp [*] at hh; done) | (exfalso; revert hh; decide) | exact absurd (by assumption) hh | (conv => whnf))) | ((first | refine ⟨by kernel_rfl, ?_⟩ | refine ansB (by omega) (by omega) ?_ | refine ansB (by decide) (by decide) ?_ | refine And.intro (a := _ ≤ _) (by omega) ?_ | refine And.intro (a := _ ≠ _) (by omega) ?_ | ((try (refine Or.inl ?_; (conv => whnf))); (try (refine ⟨false, ?_⟩; (conv => whnf))); refine ⟨_, by exact j, ?_⟩) | fail); (conv => whnf))))
    refine ⟨⟨EntT, 6, ent0, eEnt, dropE b.log i⟩, [⟨b.next, n, part, profile, (meaF (b.recipes.getD n rec0).gauge profile).2.1, false⟩], rfl, rfl, ⟨rfl, rfl⟩, ?_, ?_, fun y _ => ⟨rfl, rfl, rfl⟩, ?_⟩
    · show ((dropE b.log i).length + 1) * 56 ≤ _; omega
    · show (dropE b.log i).length + 1 ≤ _; omega
    (conv => whnf)
    have tw2 := pc_r10Twin ⟨b.keep, b.users, b.recipes, b.next + 1, dropE b.log i ++ [⟨b.next, n, part, profile, (meaF (b.recipes.getD n rec0).gauge profile).2.1, false⟩]⟩ ox
    rw [← w1] at tw2
    (repeat' (first | (refine ansS (fun hh => ?_) (fun hh => ?_) <;> (first | simp only [ansX] at hh | skip) <;> (first | (exfalso; omega) | (exfalso; simp [*] at hh; done) | (exfalso; revert hh; decide) | exact absurd (by assumption) hh | (conv => whnf))) | ((first | refine ⟨by kernel_rfl, ?_⟩ | refine ansB (by omega) (by omega) ?_ | refine ansB (by decide) (by decide) ?_ | refine And.intro (a := _ ≤ _) (by omega) ?_ | refine And.intro (a := _ ≠ _) (by omega) ?_ | ((try (refine Or.inl ?_; (conv => whnf))); (try (refine ⟨false, ?_⟩; (conv => whnf))); refine ⟨_, by exact tw2, ?_⟩) | fail); (conv => whnf))))
    all_goals (first | rfl | (rw [w1]; rfl) | set_option pp.maxSteps 300 in trace_state)
  · rw [if_neg hf] at ox ⊢
    refine pc_of_bodyF hm Tryz.func32 (by kernel_rfl) ?_
    conv => whnf
    (repeat' ((first | refine ansT ?_ | refine ansF ?_ | ((try (refine Or.inl ?_; (conv => whnf))); (try (refine ⟨false, ?_⟩; (conv => whnf))); refine ⟨_, by exact c, ?_⟩) | refine ansD (by first | (simp [*]; done) | omega) ?_ | refine ansN (by first | (simp [*]; done) | omega) ?_ | refine ⟨by kernel_rfl, ?_⟩ | refine ansB (by decide) (by first | decide | (simp; done) | (simp only [List.length_cons, List.length_nil]; decide)) ?_ | fail); (conv => whnf)))
    (repeat' (first | (refine ansS (fun hh => ?_) (fun hh => ?_) <;> (first | simp only [ansX] at hh | skip) <;> (first | (exfalso; omega) | (exfalso; simp [*] at hh; done) | (exfalso; revert hh; decide) | exact absurd (by assumption) hh | (conv => whnf))) | ((first | refine ⟨by kernel_rfl, ?_⟩ | refine ansB (by omega) (by omega) ?_ | refine ansB (by decide) (by decide) ?_ | refine And.intro (a := _ ≤ _) (by omega) ?_ | refine And.intro (a := _ ≠ _) (by omega) ?_ | ((try (refine Or.inl ?_; (conv => whnf))); (try (refine ⟨false, ?_⟩; (conv => whnf))); refine ⟨_, by first | exact c1 | exact c2 | exact c5 | exact c4, ?_⟩) | fail); (conv => whnf))))
    (refine Or.inr ⟨[ ], [ 59, 58, 57 ], by kernel_rfl, ?_⟩; (conv => whnf); refine ⟨[ ], _, _, _, _, ⟨ pw_r10Twin b o, rfl, rfl, by kernel_rfl⟩, ?_⟩)
    (conv => whnf)
    (repeat' (first | (refine ansS (fun hh => ?_) (fun hh => ?_) <;> (first | simp only [ansX] at hh | skip) <;> (first | (exfalso; omega) | (exfalso; simp [*] at hh; done) | (exfalso; revert hh; decide) | exact absurd (by assumption) hh | (conv => whnf))) | ((first | refine ⟨by kernel_rfl, ?_⟩ | refine ansB (by omega) (by omega) ?_ | refine ansB (by decide) (by decide) ?_ | refine And.intro (a := _ ≤ _) (by omega) ?_ | refine And.intro (a := _ ≠ _) (by omega) ?_ | fail); (conv => whnf))))
    refine ⟨⟨Int, 1, 0, eI, []⟩, profile, rfl, ⟨rfl, rfl⟩, rfl, ?_, ?_, fun y _ => ⟨rfl, rfl, rfl⟩, ?_⟩
    · show (0 + profile.length) * 8 ≤ _; omega
    · show 0 + profile.length ≤ _; omega
    (conv => whnf)
    (repeat' (first | (refine ansS (fun hh => ?_) (fun hh => ?_) <;> (first | simp only [ansX] at hh | skip) <;> (first | (exfalso; omega) | (exfalso; simp [*] at hh; done) | (exfalso; revert hh; decide) | exact absurd (by assumption) hh | (conv => whnf))) | ((first | refine ⟨by kernel_rfl, ?_⟩ | refine ansB (by omega) (by omega) ?_ | refine ansB (by decide) (by decide) ?_ | refine And.intro (a := _ ≤ _) (by omega) ?_ | refine And.intro (a := _ ≠ _) (by omega) ?_ | fail); (conv => whnf))))
    refine ⟨hA, ?_⟩
    (conv => whnf)
    (repeat' (first | (refine ansS (fun hh => ?_) (fun hh => ?_) <;> (first | simp only [ansX] at hh | skip) <;> (first | (exfalso; omega) | (exfalso; simp [*] at hh; done) | (exfalso; revert hh; decide) | exact absurd (by assumption) hh | (conv => whnf))) | ((first | refine ⟨by kernel_rfl, ?_⟩ | refine ansB (by omega) (by omega) ?_ | refine ansB (by decide) (by decide) ?_ | refine And.intro (a := _ ≤ _) (by omega) ?_ | refine And.intro (a := _ ≠ _) (by omega) ?_ | ((try (refine Or.inl ?_; (conv => whnf))); (try (refine ⟨false, ?_⟩; (conv => whnf))); refine ⟨_, by exact j, ?_⟩) | fail); (conv => whnf))))
    refine ⟨⟨EntT, 6, ent0, eEnt, b.log⟩, [⟨b.next, n, part, profile, (meaF (b.recipes.getD n rec0).gauge profile).2.1, false⟩], rfl, rfl, ⟨rfl, rfl⟩, ?_, ?_, fun y _ => ⟨rfl, rfl, rfl⟩, ?_⟩
    · show (b.log.length + 1) * 56 ≤ _; omega
    · show b.log.length + 1 ≤ _; omega
    (conv => whnf)
    have tw2 := pc_r10Twin ⟨b.keep, b.users, b.recipes, b.next + 1, b.log ++ [⟨b.next, n, part, profile, (meaF (b.recipes.getD n rec0).gauge profile).2.1, false⟩]⟩ ox
    rw [← w1] at tw2
    (repeat' (first | (refine ansS (fun hh => ?_) (fun hh => ?_) <;> (first | simp only [ansX] at hh | skip) <;> (first | (exfalso; omega) | (exfalso; simp [*] at hh; done) | (exfalso; revert hh; decide) | exact absurd (by assumption) hh | (conv => whnf))) | ((first | refine ⟨by kernel_rfl, ?_⟩ | refine ansB (by omega) (by omega) ?_ | refine ansB (by decide) (by decide) ?_ | refine And.intro (a := _ ≤ _) (by omega) ?_ | refine And.intro (a := _ ≠ _) (by omega) ?_ | ((try (refine Or.inl ?_; (conv => whnf))); (try (refine ⟨false, ?_⟩; (conv => whnf))); refine ⟨_, by exact tw2, ?_⟩) | fail); (conv => whnf))))
    all_goals (first | rfl | (rw [w1]; rfl) | set_option pp.maxSteps 300 in trace_state)
theorem pc_r10RecordBad (b : BooksT) (o : Okay b) (hI : ∀ i, IG (b.recipes.getD i rec0).gauge) (part : Int) (profile : List Int) (hp : profile.length < 2 ^ 20) (h : ¬rcdE b part profile = 0) :
    PC Tryz.prog 32 [bks b, i64 part, ints profile] (.tup [newB 0, entZ, i64 (rcdE b part profile)]) := by
  have c := pc_Valid b o hI
  by_cases hc : chkB b = true
  · unfold rcdE at h ⊢
    rw [if_pos hc] at h ⊢
    rw [hc] at c
    have s := chk_small hc
    have nx := chk_next hc
    have c1 : PC Tryz.prog 65 [i64 part, i64 0, i64 1099511627776] (.bool (decide (0 ≤ part) && decide (part ≤ 1099511627776))) := pc_r10within _ _ _
    by_cases hpt : 0 ≤ part ∧ part ≤ 1099511627776
    · rw [if_neg (fun q => q hpt)] at h ⊢
      have c2 := pc_r10current b o
      by_cases ha : b.recipes.any isAct = true
      · rw [if_neg (fun q => q ha)] at h ⊢
        have hN : actI b.recipes = firstA b.recipes := by unfold actI; rw [if_pos ha]
        rw [hN] at c2
        have pe := mea_err (act_gau hc ha) profile
        have c5 := pc_CheckProfile5 profile (lt40 hp)
        rw [← pe] at c5
        unfold rcdG at h c5 ⊢
        clear pe
        generalize firstA b.recipes = n at *
        by_cases hm0 : (meaF (b.recipes.getD n rec0).gauge profile).2.2 = 0
        · rw [if_neg (fun q => q hm0)] at h ⊢
          have h9 : ((b.log.length : Int) = b.keep ∧ ¬b.log.any isFree = true) ∨ b.next = 1099511627776 := Decidable.byContradiction fun q => h (if_neg q)
          rw [if_pos h9]
          rw [hm0] at c5
          clear h
          have c4 := pc_r10yields b.log (lt40 o.l)
          unfold ixE at c4
          by_cases hfr : b.log.any isFree = true
          · have hnx : b.next = 1099511627776 := by
              rcases h9 with q | q
              · exact absurd hfr q.2
              · exact q
            clear h9
            rw [if_pos hfr] at c4
            generalize b.log.findIdx isFree = i at *
            refine pc_of_bodyF hm Tryz.func32 (by kernel_rfl) ?_
            conv => whnf
            (repeat' ((first | refine ansT ?_ | refine ansF ?_ | ((try (refine Or.inl ?_; (conv => whnf))); (try (refine ⟨false, ?_⟩; (conv => whnf))); refine ⟨_, by exact c, ?_⟩) | refine ansD (by first | (simp [*]; done) | omega) ?_ | refine ansN (by first | (simp [*]; done) | omega) ?_ | refine ⟨by kernel_rfl, ?_⟩ | refine ansB (by decide) (by first | decide | (simp; done) | (simp only [List.length_cons, List.length_nil]; decide)) ?_ | fail); (conv => whnf)))
            (repeat' (first | (refine ansS (fun hh => ?_) (fun hh => ?_) <;> (first | simp only [ansX] at hh | skip) <;> (first | (exfalso; omega) | (exfalso; simp [*] at hh; done) | (exfalso; revert hh; decide) | exact absurd (by assumption) hh | (conv => whnf))) | ((first | refine ⟨by kernel_rfl, ?_⟩ | refine ansB (by omega) (by omega) ?_ | refine ansB (by decide) (by decide) ?_ | refine And.intro (a := _ ≤ _) (by omega) ?_ | refine And.intro (a := _ ≠ _) (by omega) ?_ | ((try (refine Or.inl ?_; (conv => whnf))); (try (refine ⟨false, ?_⟩; (conv => whnf))); refine ⟨_, by first | exact c1 | exact c2 | exact c5 | exact c4, ?_⟩) | fail); (conv => whnf))))
            all_goals (first | rfl | set_option pp.maxSteps 300 in trace_state)
          · rw [if_neg hfr] at c4
            refine pc_of_bodyF hm Tryz.func32 (by kernel_rfl) ?_
            conv => whnf
            (repeat' ((first | refine ansT ?_ | refine ansF ?_ | ((try (refine Or.inl ?_; (conv => whnf))); (try (refine ⟨false, ?_⟩; (conv => whnf))); refine ⟨_, by exact c, ?_⟩) | refine ansD (by first | (simp [*]; done) | omega) ?_ | refine ansN (by first | (simp [*]; done) | omega) ?_ | refine ⟨by kernel_rfl, ?_⟩ | refine ansB (by decide) (by first | decide | (simp; done) | (simp only [List.length_cons, List.length_nil]; decide)) ?_ | fail); (conv => whnf)))
            (repeat' (first | (refine ansS (fun hh => ?_) (fun hh => ?_) <;> (first | simp only [ansX] at hh | skip) <;> (first | (exfalso; omega) | (exfalso; simp [*] at hh; done) | (exfalso; revert hh; decide) | exact absurd (by assumption) hh | (conv => whnf))) | ((first | refine ⟨by kernel_rfl, ?_⟩ | refine ansB (by omega) (by omega) ?_ | refine ansB (by decide) (by decide) ?_ | refine And.intro (a := _ ≤ _) (by omega) ?_ | refine And.intro (a := _ ≠ _) (by omega) ?_ | ((try (refine Or.inl ?_; (conv => whnf))); (try (refine ⟨false, ?_⟩; (conv => whnf))); refine ⟨_, by first | exact c1 | exact c2 | exact c5 | exact c4, ?_⟩) | fail); (conv => whnf))))
            all_goals (first | rfl | set_option pp.maxSteps 300 in trace_state)
        · rw [if_pos hm0]
          clear h
          refine pc_of_bodyF hm Tryz.func32 (by kernel_rfl) ?_
          conv => whnf
          (repeat' ((first | refine ansT ?_ | refine ansF ?_ | ((try (refine Or.inl ?_; (conv => whnf))); (try (refine ⟨false, ?_⟩; (conv => whnf))); refine ⟨_, by exact c, ?_⟩) | refine ansD (by first | (simp [*]; done) | omega) ?_ | refine ansN (by first | (simp [*]; done) | omega) ?_ | refine ⟨by kernel_rfl, ?_⟩ | refine ansB (by decide) (by first | decide | (simp; done) | (simp only [List.length_cons, List.length_nil]; decide)) ?_ | fail); (conv => whnf)))
          (repeat' (first | (refine ansS (fun hh => ?_) (fun hh => ?_) <;> (first | simp only [ansX] at hh | skip) <;> (first | (exfalso; omega) | (exfalso; simp [*] at hh; done) | (exfalso; revert hh; decide) | exact absurd (by assumption) hh | (conv => whnf))) | ((first | refine ⟨by kernel_rfl, ?_⟩ | refine ansB (by omega) (by omega) ?_ | refine ansB (by decide) (by decide) ?_ | refine And.intro (a := _ ≤ _) (by omega) ?_ | refine And.intro (a := _ ≠ _) (by omega) ?_ | ((try (refine Or.inl ?_; (conv => whnf))); (try (refine ⟨false, ?_⟩; (conv => whnf))); refine ⟨_, by first | exact c1 | exact c2 | exact c5, ?_⟩) | fail); (conv => whnf))))
          all_goals (first | rfl | set_option pp.maxSteps 300 in trace_state)
      · rw [if_pos ha]
        have hN : actI b.recipes = -1 := by unfold actI; rw [if_neg ha]
        rw [hN] at c2
        clear h
        refine pc_of_bodyF hm Tryz.func32 (by kernel_rfl) ?_
        conv => whnf
        (repeat' ((first | refine ansT ?_ | refine ansF ?_ | ((try (refine Or.inl ?_; (conv => whnf))); (try (refine ⟨false, ?_⟩; (conv => whnf))); refine ⟨_, by exact c, ?_⟩) | refine ansD (by first | (simp [*]; done) | omega) ?_ | refine ansN (by first | (simp [*]; done) | omega) ?_ | refine ⟨by kernel_rfl, ?_⟩ | refine ansB (by decide) (by first | decide | (simp; done) | (simp only [List.length_cons, List.length_nil]; decide)) ?_ | fail); (conv => whnf)))
        (repeat' (first | (refine ansS (fun hh => ?_) (fun hh => ?_) <;> (first | simp only [ansX] at hh | skip) <;> (first | (exfalso; omega) | (exfalso; simp [*] at hh; done) | (exfalso; revert hh; decide) | exact absurd (by assumption) hh | (conv => whnf))) | ((first | refine ⟨by kernel_rfl, ?_⟩ | refine ansB (by omega) (by omega) ?_ | refine ansB (by decide) (by decide) ?_ | refine And.intro (a := _ ≤ _) (by omega) ?_ | refine And.intro (a := _ ≠ _) (by omega) ?_ | ((try (refine Or.inl ?_; (conv => whnf))); (try (refine ⟨false, ?_⟩; (conv => whnf))); refine ⟨_, by first | exact c1 | exact c2, ?_⟩) | fail); (conv => whnf))))
        all_goals (first | rfl | set_option pp.maxSteps 300 in trace_state)
    · rw [if_pos hpt]
      clear h
      refine pc_of_bodyF hm Tryz.func32 (by kernel_rfl) ?_
      conv => whnf
      (repeat' ((first | refine ansT ?_ | refine ansF ?_ | ((try (refine Or.inl ?_; (conv => whnf))); (try (refine ⟨false, ?_⟩; (conv => whnf))); refine ⟨_, by exact c, ?_⟩) | refine ansD (by first | (simp [*]; done) | omega) ?_ | refine ansN (by first | (simp [*]; done) | omega) ?_ | refine ⟨by kernel_rfl, ?_⟩ | refine ansB (by decide) (by first | decide | (simp; done) | (simp only [List.length_cons, List.length_nil]; decide)) ?_ | fail); (conv => whnf)))
      (repeat' (first | (refine ansS (fun hh => ?_) (fun hh => ?_) <;> (first | simp only [ansX] at hh | skip) <;> (first | (exfalso; omega) | (exfalso; simp [*] at hh; done) | (exfalso; revert hh; decide) | exact absurd (by assumption) hh | (conv => whnf))) | ((first | refine ⟨by kernel_rfl, ?_⟩ | refine ansB (by omega) (by omega) ?_ | refine ansB (by decide) (by decide) ?_ | refine And.intro (a := _ ≤ _) (by omega) ?_ | refine And.intro (a := _ ≠ _) (by omega) ?_ | ((try (refine Or.inl ?_; (conv => whnf))); (try (refine ⟨false, ?_⟩; (conv => whnf))); refine ⟨_, by exact c1, ?_⟩) | fail); (conv => whnf))))
      all_goals (first | rfl | set_option pp.maxSteps 300 in trace_state)
  · have hc2 : chkB b = false := by simpa using hc
    rw [hc2] at c
    unfold rcdE
    rw [if_neg hc]
    refine pc_of_bodyF hm Tryz.func32 (by kernel_rfl) ?_
    conv => whnf
    (repeat' ((first | refine ansT ?_ | refine ansF ?_ | ((try (refine Or.inl ?_; (conv => whnf))); (try (refine ⟨false, ?_⟩; (conv => whnf))); refine ⟨_, by exact c, ?_⟩) | refine ansD (by first | (simp [*]; done) | omega) ?_ | refine ansN (by first | (simp [*]; done) | omega) ?_ | refine ⟨by kernel_rfl, ?_⟩ | refine ansB (by decide) (by first | decide | (simp; done) | (simp only [List.length_cons, List.length_nil]; decide)) ?_ | fail); (conv => whnf)))
    all_goals (first | rfl | set_option pp.maxSteps 300 in trace_state)
end Go.Proofs.Tryz.My
set_option maxRecDepth 100000
set_option maxHeartbeats 0
set_option linter.unusedVariables false
set_option linter.unusedSimpArgs false
namespace Go.Proofs.Tryz.My
open Go Go.Ev
def rcdR (b : BooksT) (profile : List Int) : List Row := ownR b ++ [.vec 3 1 0 eI profile]
abbrev rcdXR (b : BooksT) (part : Int) (profile : List Int) : AV := .agg [i64 b.next, i64 (firstA b.recipes), i64 part, .own 3, u8 (meaF (rcdG b) profile).2.1, .ff]
theorem pw_RecordRaw (b : BooksT) (o : Okay b) (part : Int) (profile : List Int) (hp : profile.length < 2 ^ 20) (h : rcdE b part profile = 0) :
    PW Tryz.prog 31 [bks b, i64 part, ints profile] [] (.tup [ownB (rcdB b part profile), rcdXR b part profile, i64 0]) (rcdR (rcdB b part profile) profile) := by
  obtain ⟨hc, hpt, ha, hm0, hfull, hnx⟩ := rcdE_zero h
  clear h
  have s := chk_small hc
  have nx := chk_next hc
  have c1 : PC Tryz.prog 55 [i64 0, i64 1099511627776, i64 part] (.bool (decide (0 ≤ part) && decide (part ≤ 1099511627776))) := pc_rfrom 0 _ part
  have c2 := pc_Active b o
  have hN : actN b = firstA b.recipes := by unfold actN; rw [if_pos hc, if_pos ha]
  have hE : actE b = 0 := by unfold actE; rw [if_pos hc, if_pos ha]
  rw [hN, hE] at c2
  have c3 := pc_Measure (b.recipes.getD (firstA b.recipes) rec0).gauge profile (lt40 hp)
  have hm1 : (meaF (b.recipes.getD (firstA b.recipes) rec0).gauge profile).2.2 = 0 := hm0
  rw [hm1] at c3
  have hA := firstA_lt ha
  have c4 := pc_IxFree b.log (lt40 o.l)
  unfold ixE at c4
  have w1 : IntKind.i64.wrap (b.next + 1) = b.next + 1 := w64 _ (by omega) (by omega)
  unfold rcdB rcdXR rcdX rcdL rcdG rcdR ownR
  generalize firstA b.recipes = n at *
  by_cases hf : (b.log.length : Int) = b.keep
  · have hfr := hfull hf
    rw [if_pos hfr] at c4
    rw [if_pos hf]
    have hi := fi_lt hfr
    generalize b.log.findIdx isFree = i at *
    have hdl := dropE_len hi
    have w2 : IntKind.i64.wrap ((i : Int) + 1) = (i : Int) + 1 := w64 _ (by omega) (by omega)
    refine pw_of_bodyF hm Tryz.func31 (by kernel_rfl) ⟨by kernel_rfl, ?_⟩
    conv => whnf
    (refine Or.inr ⟨[ ], [ 22, 19, 20, 21 ], by kernel_rfl, ?_⟩; (conv => whnf); refine ⟨[ ], _, _, _, _, ⟨ pw_open b o hc, rfl, rfl, by kernel_rfl⟩, ?_⟩)
    (conv => whnf)
    (repeat' ((first | refine ansT ?_ | refine ansF ?_ | refine ansD (by first | (simp [*]; done) | omega) ?_ | refine ansN (by first | (simp [*]; done) | omega) ?_ | refine ⟨by kernel_rfl, ?_⟩ | refine ansB (by decide) (by first | decide | (simp; done) | (simp only [List.length_cons, List.length_nil]; decide)) ?_ | fail); (conv => whnf)))
    (repeat' (first | (refine ansS (fun hh => ?_) (fun hh => ?_) <;> (first | simp only [ansX] at hh | skip) <;> (first | (exfalso; omega) | (exfalso; simp [*] at hh; done) | (exfalso; revert hh; decide) | exact absurd (by assumption) hh | (conv => whnf))) | ((first | refine ⟨by kernel_rfl, ?_⟩ | refine ansB (by omega) (by omega) ?_ | refine ansB (by decide) (by decide) ?_ | refine And.intro (a := _ ≤ _) (by omega) ?_ | refine And.intro (a := _ ≠ _) (by omega) ?_ | ((try (refine Or.inl ?_; (conv => whnf))); (try (refine ⟨false, ?_⟩; (conv => whnf))); refine ⟨_, by first | exact c1 | exact c2 | exact c3, ?_⟩) | fail); (conv => whnf))))
    refine ⟨hA, ?_⟩
    (conv => whnf)
    (repeat' (first | (refine ansS (fun hh => ?_) (fun hh => ?_) <;> (first | simp only [ansX] at hh | skip) <;> (first | (exfalso; omega) | (exfalso; simp [*] at hh; done) | (exfalso; revert hh; decide) | exact absurd (by assumption) hh | (conv => whnf))) | ((first | refine ⟨by kernel_rfl, ?_⟩ | refine ansB (by omega) (by omega) ?_ | refine ansB (by decide) (by decide) ?_ | refine And.intro (a := _ ≤ _) (by omega) ?_ | refine And.intro (a := _ ≠ _) (by omega) ?_ | ((try (refine Or.inl ?_; (conv => whnf))); (try (refine ⟨false, ?_⟩; (conv => whnf))); refine ⟨_, by first | exact c3 | exact c4, ?_⟩) | fail); (conv => whnf))))
    rw [w2]
    (refine Or.inr ⟨[ ], [ 94 ], by kernel_rfl, ?_⟩; (conv => whnf); refine ⟨[ 21 ], _, _, _, _, ⟨ pw_Del b.log i hi, rfl, rfl, by kernel_rfl⟩, ?_⟩)
    (conv => whnf)
    (repeat' (first | (refine ansS (fun hh => ?_) (fun hh => ?_) <;> (first | simp only [ansX] at hh | skip) <;> (first | (exfalso; omega) | (exfalso; simp [*] at hh; done) | (exfalso; revert hh; decide) | exact absurd (by assumption) hh | (conv => whnf))) | ((first | refine ⟨by kernel_rfl, ?_⟩ | refine ansB (by omega) (by omega) ?_ | refine ansB (by decide) (by decide) ?_ | refine And.intro (a := _ ≤ _) (by omega) ?_ | refine And.intro (a := _ ≠ _) (by omega) ?_ | fail); (conv => whnf))))
    refine Or.inr ⟨_, ⟨pw_CloneI profile hp, by kernel_rfl, by kernel_rfl⟩, ?_⟩
    (conv => whnf)
    (repeat' (first | (refine ansS (fun hh => ?_) (fun hh => ?_) <;> (first | simp only [ansX] at hh | skip) <;> (first | (exfalso; omega) | (exfalso; simp [*] at hh; done) | (exfalso; revert hh; decide) | exact absurd (by assumption) hh | (conv => whnf))) | ((first | refine ⟨by kernel_rfl, ?_⟩ | refine ansB (by omega) (by omega) ?_ | refine ansB (by decide) (by decide) ?_ | refine And.intro (a := _ ≤ _) (by omega) ?_ | refine And.intro (a := _ ≠ _) (by omega) ?_ | fail); (conv => whnf))))
    refine ⟨profile, ⟨b.next, n, part, profile, (meaF (b.recipes.getD n rec0).gauge profile).2.1, false⟩, ⟨rfl, rfl, rfl, ?_, ?_⟩, ?_⟩
    · show ((dropE b.log i).length + 1) * 56 ≤ _; omega
    · show (dropE b.log i).length + 1 ≤ _; omega
    (conv => whnf)
    (repeat' (first | (refine ansS (fun hh => ?_) (fun hh => ?_) <;> (first | simp only [ansX] at hh | skip) <;> (first | (exfalso; omega) | (exfalso; simp [*] at hh; done) | (exfalso; revert hh; decide) | exact absurd (by assumption) hh | (conv => whnf))) | ((first | refine ⟨by kernel_rfl, ?_⟩ | refine ansB (by omega) (by omega) ?_ | refine ansB (by decide) (by decide) ?_ | refine And.intro (a := _ ≤ _) (by omega) ?_ | refine And.intro (a := _ ≠ _) (by omega) ?_ | fail); (conv => whnf))))
    (refine Or.inr ⟨[ ], [ 137 ], by kernel_rfl, ?_⟩; (conv => whnf); refine ⟨[ ], _, _, _, _, ⟨ pw_CloneI profile hp, rfl, rfl, by kernel_rfl⟩, ?_⟩)
    (conv => whnf)
    (repeat' (first | (refine ansS (fun hh => ?_) (fun hh => ?_) <;> (first | simp only [ansX] at hh | skip) <;> (first | (exfalso; omega) | (exfalso; simp [*] at hh; done) | (exfalso; revert hh; decide) | exact absurd (by assumption) hh | (conv => whnf))) | ((first | refine ⟨by kernel_rfl, ?_⟩ | refine ansB (by omega) (by omega) ?_ | refine ansB (by decide) (by decide) ?_ | refine And.intro (a := _ ≤ _) (by omega) ?_ | refine And.intro (a := _ ≠ _) (by omega) ?_ | fail); (conv => whnf))))
    refine ⟨[19, 20, 132, 137], by kernel_rfl, ?_⟩
    (conv => whnf)
    rw [w1]
    exact ⟨rfl, rfl⟩
  · rw [if_neg hf]
    refine pw_of_bodyF hm Tryz.func31 (by kernel_rfl) ⟨by kernel_rfl, ?_⟩
    conv => whnf
    (refine Or.inr ⟨[ ], [ 22, 19, 20, 21 ], by kernel_rfl, ?_⟩; (conv => whnf); refine ⟨[ ], _, _, _, _, ⟨ pw_open b o hc, rfl, rfl, by kernel_rfl⟩, ?_⟩)
    (conv => whnf)
    (repeat' ((first | refine ansT ?_ | refine ansF ?_ | refine ansD (by first | (simp [*]; done) | omega) ?_ | refine ansN (by first | (simp [*]; done) | omega) ?_ | refine ⟨by kernel_rfl, ?_⟩ | refine ansB (by decide) (by first | decide | (simp; done) | (simp only [List.length_cons, List.length_nil]; decide)) ?_ | fail); (conv => whnf)))
    (repeat' (first | (refine ansS (fun hh => ?_) (fun hh => ?_) <;> (first | simp only [ansX] at hh | skip) <;> (first | (exfalso; omega) | (exfalso; simp [*] at hh; done) | (exfalso; revert hh; decide) | exact absurd (by assumption) hh | (conv => whnf))) | ((first | refine ⟨by kernel_rfl, ?_⟩ | refine ansB (by omega) (by omega) ?_ | refine ansB (by decide) (by decide) ?_ | refine And.intro (a := _ ≤ _) (by omega) ?_ | refine And.intro (a := _ ≠ _) (by omega) ?_ | ((try (refine Or.inl ?_; (conv => whnf))); (try (refine ⟨false, ?_⟩; (conv => whnf))); refine ⟨_, by first | exact c1 | exact c2 | exact c3, ?_⟩) | fail); (conv => whnf))))
    refine ⟨hA, ?_⟩
    (conv => whnf)
    (repeat' (first | (refine ansS (fun hh => ?_) (fun hh => ?_) <;> (first | simp only [ansX] at hh | skip) <;> (first | (exfalso; omega) | (exfalso; simp [*] at hh; done) | (exfalso; revert hh; decide) | exact absurd (by assumption) hh | (conv => whnf))) | ((first | refine ⟨by kernel_rfl, ?_⟩ | refine ansB (by omega) (by omega) ?_ | refine ansB (by decide) (by decide) ?_ | refine And.intro (a := _ ≤ _) (by omega) ?_ | refine And.intro (a := _ ≠ _) (by omega) ?_ | ((try (refine Or.inl ?_; (conv => whnf))); (try (refine ⟨false, ?_⟩; (conv => whnf))); refine ⟨_, by exact c3, ?_⟩) | fail); (conv => whnf))))
    refine Or.inr ⟨_, ⟨pw_CloneI profile hp, by kernel_rfl, by kernel_rfl⟩, ?_⟩
    (conv => whnf)
    (repeat' (first | (refine ansS (fun hh => ?_) (fun hh => ?_) <;> (first | simp only [ansX] at hh | skip) <;> (first | (exfalso; omega) | (exfalso; simp [*] at hh; done) | (exfalso; revert hh; decide) | exact absurd (by assumption) hh | (conv => whnf))) | ((first | refine ⟨by kernel_rfl, ?_⟩ | refine ansB (by omega) (by omega) ?_ | refine ansB (by decide) (by decide) ?_ | refine And.intro (a := _ ≤ _) (by omega) ?_ | refine And.intro (a := _ ≠ _) (by omega) ?_ | fail); (conv => whnf))))
    refine ⟨profile, ⟨b.next, n, part, profile, (meaF (b.recipes.getD n rec0).gauge profile).2.1, false⟩, ⟨rfl, rfl, rfl, ?_, ?_⟩, ?_⟩
    · show (b.log.length + 1) * 56 ≤ _; omega
    · show b.log.length + 1 ≤ _; omega
    (conv => whnf)
    (repeat' (first | (refine ansS (fun hh => ?_) (fun hh => ?_) <;> (first | simp only [ansX] at hh | skip) <;> (first | (exfalso; omega) | (exfalso; simp [*] at hh; done) | (exfalso; revert hh; decide) | exact absurd (by assumption) hh | (conv => whnf))) | ((first | refine ⟨by kernel_rfl, ?_⟩ | refine ansB (by omega) (by omega) ?_ | refine ansB (by decide) (by decide) ?_ | refine And.intro (a := _ ≤ _) (by omega) ?_ | refine And.intro (a := _ ≠ _) (by omega) ?_ | fail); (conv => whnf))))
    (refine Or.inr ⟨[ ], [ 137 ], by kernel_rfl, ?_⟩; (conv => whnf); refine ⟨[ ], _, _, _, _, ⟨ pw_CloneI profile hp, rfl, rfl, by kernel_rfl⟩, ?_⟩)
    (conv => whnf)
    (repeat' (first | (refine ansS (fun hh => ?_) (fun hh => ?_) <;> (first | simp only [ansX] at hh | skip) <;> (first | (exfalso; omega) | (exfalso; simp [*] at hh; done) | (exfalso; revert hh; decide) | exact absurd (by assumption) hh | (conv => whnf))) | ((first | refine ⟨by kernel_rfl, ?_⟩ | refine ansB (by omega) (by omega) ?_ | refine ansB (by decide) (by decide) ?_ | refine And.intro (a := _ ≤ _) (by omega) ?_ | refine And.intro (a := _ ≠ _) (by omega) ?_ | fail); (conv => whnf))))
    refine ⟨[19, 20, 132, 137], by kernel_rfl, ?_⟩
    (conv => whnf)
    rw [w1]
    exact ⟨rfl, rfl⟩
end Go.Proofs.Tryz.My
set_option maxRecDepth 100000
set_option maxHeartbeats 0
set_option linter.unusedVariables false
set_option linter.unusedSimpArgs false
namespace Go.Proofs.Tryz.My
open Go Go.Ev
def IB (b : BooksT) : Prop := ∀ i, IG (b.recipes.getD i rec0).gauge
theorem okay_of {b : BooksT} (h : smallB b = true) : Okay b := by
  obtain ⟨h1, h2, h3, h4, h5⟩ := small_known h
  exact ⟨by omega, by omega, by omega, fun i => by have := h4 i; omega, fun i => by have := h5 i; omega⟩
end Go.Proofs.Tryz.My
set_option maxRecDepth 100000
set_option maxHeartbeats 0
set_option linter.unusedVariables false
set_option linter.unusedSimpArgs false
namespace Go.Proofs.Tryz.My
open Go Go.Ev
theorem pc_spoil0 : PC Tryz.prog 22 [newB 0] (.tup []) := by
  refine pc_of_bodyF hm Tryz.func22 (by kernel_rfl) ?_
  conv => whnf
  refine Or.inl ⟨1, ?_⟩
  (conv => whnf)
  (repeat' ((first | refine ansT ?_ | refine ansF ?_ | refine ansD (by first | (simp [*]; done) | omega) ?_ | refine ansN (by first | (simp [*]; done) | omega) ?_ | refine ⟨by kernel_rfl, ?_⟩ | refine ansB (by decide) (by first | decide | (simp; done) | (simp only [List.length_cons, List.length_nil]; decide)) ?_ | fail); (conv => whnf)))
  refine Or.inl ⟨1, ?_⟩
  (conv => whnf)
  (repeat' ((first | refine ansT ?_ | refine ansF ?_ | refine ansD (by first | (simp [*]; done) | omega) ?_ | refine ansN (by first | (simp [*]; done) | omega) ?_ | refine ⟨by kernel_rfl, ?_⟩ | refine ansB (by decide) (by first | decide | (simp; done) | (simp only [List.length_cons, List.length_nil]; decide)) ?_ | fail); (conv => whnf)))
  refine Or.inl ⟨1, ?_⟩
  (conv => whnf)
  (repeat' ((first | refine ansT ?_ | refine ansF ?_ | refine ansD (by first | (simp [*]; done) | omega) ?_ | refine ansN (by first | (simp [*]; done) | omega) ?_ | refine ⟨by kernel_rfl, ?_⟩ | refine ansB (by decide) (by first | decide | (simp; done) | (simp only [List.length_cons, List.length_nil]; decide)) ?_ | fail); (conv => whnf)))
  all_goals (first | rfl | set_option pp.maxSteps 300 in trace_state)
theorem pc_SameT (b : BooksT) (o : Okay b) : PC Tryz.prog 21 [bks b, bks b] (.bool true) := by
  have c := pc_r10Same b b o o
  rwa [sameB_refl] at c
end Go.Proofs.Tryz.My
set_option maxRecDepth 100000
set_option maxHeartbeats 0
set_option linter.unusedVariables false
set_option linter.unusedSimpArgs false
namespace Go.Proofs.Tryz.My
open Go Go.Ev
abbrev rcdXV (b : BooksT) (part : Int) (profile : List Int) : AV := .agg [i64 b.next, i64 (firstA b.recipes), i64 part, ints profile, u8 (meaF (rcdG b) profile).2.1, .ff]
theorem sub_rcdX (b : BooksT) (part : Int) (profile : List Int) : Sub (rcdXV b part profile) (ent (rcdX b part profile)) := by
  refine (sub_list (xs := [i64 b.next, i64 (firstA b.recipes), i64 part, ints profile, u8 (meaF (rcdG b) profile).2.1, .ff]) (ys := eEnt (rcdX b part profile)) rfl fun i hi => ?_).1
  match i with
  | 0 => exact .refl _
  | 1 => exact .refl _
  | 2 => exact .refl _
  | 3 => exact .refl _
  | 4 => exact .refl _
  | 5 => exact sub_ff
  | (n + 6) => exact .refl _
theorem sub_entZ : Sub entZ (ent ent0) := by
  refine (sub_list (xs := [i64 0, i64 0, i64 0, .nils, u8 0, .ff]) (ys := eEnt ent0) rfl fun i hi => ?_).1
  match i with
  | 0 => exact .refl _
  | 1 => exact .refl _
  | 2 => exact .refl _
  | 3 => exact Sub.nils _ _ _
  | 4 => exact .refl _
  | 5 => exact sub_ff
  | (n + 6) => exact .refl _
theorem pc_SameX (x y : AV) (s : EntT) (hs : s.profile.length < 2 ^ 40) (hx : Sub x (ent s)) (hy : Sub y (ent s)) : PC Tryz.prog 33 [x, y] (.bool true) := by
  have c := pc_SameEntry s s hs hs
  rw [sameE_refl] at c
  refine c.sub rfl (fun i hi => ?_) (.refl _)
  match i with
  | 0 => exact hx
  | 1 => exact hy
  | (n + 2) => exact .refl _
theorem pc_RecipeRecords (b : BooksT) (hb : IB b) (part : Int) (profile : List Int) : PC Tryz.prog 5 [bks b, i64 part, ints profile] (.bool true) := by
  have gr := pc_Great b
  by_cases hs : smallB b = true
  · have o := okay_of hs
    rw [hs] at gr
    have tw := pc_r10Twin b o
    have sb := pc_SameT b o
    have s0 := pc_SameNew 0
    by_cases hl : profile.length ≤ 100
    · have hp : profile.length < 2 ^ 20 := by omega
      by_cases ha : rcdE b part profile = 0
      · have hc := (rcdE_zero ha).1
        have a2 := pc_r10RecordOk b o hb part profile hp ha
        have oa := okay_rcd o hc hp part
        have sa := pc_SameT _ oa
        have sx := pc_SameX (rcdXV b part profile) (rcdXV b part profile) (rcdX b part profile) (lt40 hp) (sub_rcdX _ _ _) (sub_rcdX _ _ _)
        refine pc_of_bodyF hm Tryz.func5 (by kernel_rfl) ?_
        conv => whnf
        (repeat' ((first | refine ansT ?_ | refine ansF ?_ | ((try (refine Or.inl ?_; (conv => whnf))); (try (refine ⟨false, ?_⟩; (conv => whnf))); refine ⟨_, by exact gr, ?_⟩) | refine ansD (by first | (simp [*]; done) | omega) ?_ | refine ansN (by first | (simp [*]; done) | omega) ?_ | refine ⟨by kernel_rfl, ?_⟩ | refine ansB (by decide) (by first | decide | (simp; done) | (simp only [List.length_cons, List.length_nil]; decide)) ?_ | fail); (conv => whnf)))
        (repeat' (first | (refine ansS (fun hh => ?_) (fun hh => ?_) <;> (first | simp only [ansX] at hh | skip) <;> (first | (exfalso; omega) | (exfalso; simp [*] at hh; done) | (exfalso; revert hh; decide) | exact absurd (by assumption) hh | (conv => whnf))) | ((first | refine ⟨by kernel_rfl, ?_⟩ | refine ansB (by omega) (by omega) ?_ | refine ansB (by decide) (by decide) ?_ | refine And.intro (a := _ ≤ _) (by omega) ?_ | refine And.intro (a := _ ≠ _) (by omega) ?_ | ((try (refine Or.inl ?_; (conv => whnf))); (try (refine ⟨false, ?_⟩; (conv => whnf))); refine ⟨_, by exact tw, ?_⟩) | fail); (conv => whnf))))
        refine ⟨⟨Int, 1, 0, eI, []⟩, profile, rfl, ⟨rfl, rfl⟩, rfl, ?_, ?_, fun y _ => ⟨rfl, rfl, rfl⟩, ?_⟩
        · show (0 + profile.length) * 8 ≤ _; omega
        · show 0 + profile.length ≤ _; omega
        (conv => whnf)
        (refine Or.inr ⟨[29 ], [ 30, 31, 32, 33 ], by kernel_rfl, ?_⟩; (conv => whnf); refine ⟨[ ], _, _, _, _, ⟨ pw_RecordRaw b o part profile hp ha, rfl, rfl, by kernel_rfl⟩, ?_⟩)
        (conv => whnf)
        (repeat' ((first | refine ansT ?_ | refine ansF ?_ | ((try (refine Or.inl ?_; (conv => whnf))); (try (refine ⟨false, ?_⟩; (conv => whnf))); refine ⟨_, by exact a2, ?_⟩) | refine ansD (by first | (simp [*]; done) | omega) ?_ | refine ansN (by first | (simp [*]; done) | omega) ?_ | refine ⟨by kernel_rfl, ?_⟩ | refine ansB (by decide) (by first | decide | (simp; done) | (simp only [List.length_cons, List.length_nil]; decide)) ?_ | fail); (conv => whnf)))
        (repeat' (first | (refine ansS (fun hh => ?_) (fun hh => ?_) <;> (first | simp only [ansX] at hh | skip) <;> (first | (exfalso; omega) | (exfalso; simp [*] at hh; done) | (exfalso; revert hh; decide) | exact absurd (by assumption) hh | (conv => whnf))) | ((first | refine ⟨by kernel_rfl, ?_⟩ | refine ansB (by omega) (by omega) ?_ | refine ansB (by decide) (by decide) ?_ | refine And.intro (a := _ ≤ _) (by omega) ?_ | refine And.intro (a := _ ≠ _) (by omega) ?_ | ((try (refine Or.inl ?_; (conv => whnf))); (try (refine ⟨false, ?_⟩; (conv => whnf))); refine ⟨_, by first | exact sa | exact sx, ?_⟩) | fail); (conv => whnf))))
        refine Or.inr ⟨Nat, [62], [33], [], fun k => [i64 k], fun k => [.vec 3 1 0 eI (upK (fun _ => -9) 0 profile k)], fun _ => [], fun k => profile.length - k, fun k => k ≤ profile.length, ?_⟩
        (conv => whnf)
        refine ⟨⟨0, ?_⟩, ?_⟩
        · (conv => whnf)
          exact ⟨⟨Nat.zero_le _, rfl, rfl, rfl⟩, by kernel_rfl, by kernel_rfl⟩
        intro k hk
        have hL := upK_len (fun _ : Int => (-9 : Int)) 0 profile k
        (conv => whnf)
        refine ⟨fun h => ?_, fun h => ?_⟩
        · have h := of_decide_eq_true h
          (conv => whnf)
          refine ⟨⟨by omega, by omega⟩, ?_⟩
          (conv => whnf)
          refine ⟨-9, rfl, by show k < (upK (fun _ : Int => (-9 : Int)) 0 profile k).length; omega, ?_⟩
          (conv => whnf)
          refine ⟨k + 1, ?_⟩
          (conv => whnf)
          refine ⟨⟨⟨?_, ?_⟩, ?_, rfl, rfl⟩, by kernel_rfl, by kernel_rfl⟩
          · show profile.length - (k + 1) < profile.length - k; omega
          · show k + 1 ≤ profile.length; omega
          · rw [w64 _ (by omega) (by omega)]; rfl
        have h := of_decide_eq_false h
        clear h hk hL
        (conv => whnf)
        (repeat' (first | (refine ansS (fun hh => ?_) (fun hh => ?_) <;> (first | simp only [ansX] at hh | skip) <;> (first | (exfalso; omega) | (exfalso; simp [*] at hh; done) | (exfalso; revert hh; decide) | exact absurd (by assumption) hh | (conv => whnf))) | ((first | refine ⟨by kernel_rfl, ?_⟩ | refine ansB (by omega) (by omega) ?_ | refine ansB (by decide) (by decide) ?_ | refine And.intro (a := _ ≤ _) (by omega) ?_ | refine And.intro (a := _ ≠ _) (by omega) ?_ | ((try (refine Or.inl ?_; (conv => whnf))); (try (refine ⟨false, ?_⟩; (conv => whnf))); refine ⟨_, by exact sa, ?_⟩) | fail); (conv => whnf))))
        (refine Or.inr ⟨[ ], [ ], by kernel_rfl, ?_⟩; (conv => whnf); refine ⟨[ 30, 31, 32 ], _, _, _, _, ⟨ pw_spoil _ oa, rfl, rfl, by kernel_rfl⟩, ?_⟩)
        (conv => whnf)
        refine Or.inr ⟨Nat, [80, 15], [], [], fun k => [i64 k, .bool true], fun _ => [], fun _ => [], fun k => profile.length - k, fun k => k ≤ profile.length, ?_⟩
        (conv => whnf)
        refine ⟨⟨0, ?_⟩, ?_⟩
        · (conv => whnf)
          exact ⟨⟨Nat.zero_le _, rfl, rfl, rfl⟩, by kernel_rfl, by kernel_rfl⟩
        intro k hk
        (conv => whnf)
        refine ⟨fun h => ?_, fun h => ?_⟩
        · have h := of_decide_eq_true h
          (conv => whnf)
          (repeat' (first | (refine ansS (fun hh => ?_) (fun hh => ?_) <;> (first | simp only [ansX] at hh | skip) <;> (first | (exfalso; omega) | (exfalso; simp [*] at hh; done) | (exfalso; revert hh; decide) | exact absurd (by assumption) hh | (conv => whnf))) | ((first | refine ⟨by kernel_rfl, ?_⟩ | refine ansB (by omega) (by omega) ?_ | refine ansB (by decide) (by decide) ?_ | refine And.intro (a := _ ≤ _) (by omega) ?_ | refine And.intro (a := _ ≠ _) (by omega) ?_ | fail); (conv => whnf))))
          refine ⟨⟨by omega, by show (k : Int) < (([] ++ profile : List Int).length : Int); rw [List.nil_append]; omega⟩, ?_⟩
          (conv => whnf)
          (repeat' (first | (refine ansS (fun hh => ?_) (fun hh => ?_) <;> (first | simp only [ansX] at hh | skip) <;> (first | (exfalso; omega) | (exfalso; simp [*] at hh; done) | (exfalso; revert hh; decide) | exact absurd (by assumption) hh | (conv => whnf))) | ((first | refine ⟨by kernel_rfl, ?_⟩ | refine ansB (by omega) (by omega) ?_ | refine ansB (by decide) (by decide) ?_ | refine And.intro (a := _ ≤ _) (by omega) ?_ | refine And.intro (a := _ ≠ _) (by omega) ?_ | fail); (conv => whnf))))
          refine ⟨k + 1, ?_⟩
          (conv => whnf)
          refine ⟨⟨⟨?_, ?_⟩, ?_, rfl, rfl⟩, by kernel_rfl, by kernel_rfl⟩
          · show profile.length - (k + 1) < profile.length - k; omega
          · show k + 1 ≤ profile.length; omega
          · rw [w64 _ (by omega) (by omega)]
            have e : decide ((([] ++ profile : List Int).getD k 0) = profile.getD k 0) = true := decide_eq_true rfl
            exact congrArg (fun x => [i64 ((k : Int) + 1), AV.bool x]) e
        (conv => whnf)
        (repeat' (first | (refine ansS (fun hh => ?_) (fun hh => ?_) <;> (first | simp only [ansX] at hh | skip) <;> (first | (exfalso; omega) | (exfalso; simp [*] at hh; done) | (exfalso; revert hh; decide) | exact absurd (by assumption) hh | (conv => whnf))) | ((first | refine ⟨by kernel_rfl, ?_⟩ | refine ansB (by omega) (by omega) ?_ | refine ansB (by decide) (by decide) ?_ | refine And.intro (a := _ ≤ _) (by omega) ?_ | refine And.intro (a := _ ≠ _) (by omega) ?_ | ((try (refine Or.inl ?_; (conv => whnf))); (try (refine ⟨false, ?_⟩; (conv => whnf))); refine ⟨_, by exact sb, ?_⟩) | fail); (conv => whnf))))
        all_goals (first | rfl | set_option pp.maxSteps 300 in trace_state)
      · have a1 := pc_RecordBad b o part profile hp ha
        have a2 := pc_r10RecordBad b o hb part profile hp ha
        have sx := pc_SameX entZ entZ ent0 (by decide) sub_entZ sub_entZ
        refine pc_of_bodyF hm Tryz.func5 (by kernel_rfl) ?_
        conv => whnf
        (repeat' ((first | refine ansT ?_ | refine ansF ?_ | ((try (refine Or.inl ?_; (conv => whnf))); (try (refine ⟨false, ?_⟩; (conv => whnf))); refine ⟨_, by exact gr, ?_⟩) | refine ansD (by first | (simp [*]; done) | omega) ?_ | refine ansN (by first | (simp [*]; done) | omega) ?_ | refine ⟨by kernel_rfl, ?_⟩ | refine ansB (by decide) (by first | decide | (simp; done) | (simp only [List.length_cons, List.length_nil]; decide)) ?_ | fail); (conv => whnf)))
        (repeat' (first | (refine ansS (fun hh => ?_) (fun hh => ?_) <;> (first | simp only [ansX] at hh | skip) <;> (first | (exfalso; omega) | (exfalso; simp [*] at hh; done) | (exfalso; revert hh; decide) | exact absurd (by assumption) hh | (conv => whnf))) | ((first | refine ⟨by kernel_rfl, ?_⟩ | refine ansB (by omega) (by omega) ?_ | refine ansB (by decide) (by decide) ?_ | refine And.intro (a := _ ≤ _) (by omega) ?_ | refine And.intro (a := _ ≠ _) (by omega) ?_ | ((try (refine Or.inl ?_; (conv => whnf))); (try (refine ⟨false, ?_⟩; (conv => whnf))); refine ⟨_, by exact tw, ?_⟩) | fail); (conv => whnf))))
        refine ⟨⟨Int, 1, 0, eI, []⟩, profile, rfl, ⟨rfl, rfl⟩, rfl, ?_, ?_, fun y _ => ⟨rfl, rfl, rfl⟩, ?_⟩
        · show (0 + profile.length) * 8 ≤ _; omega
        · show 0 + profile.length ≤ _; omega
        (conv => whnf)
        ((first | refine Or.inl ?_ | skip); (conv => whnf); refine ⟨true, ?_⟩; (conv => whnf); refine ⟨_, a1, ?_⟩; (conv => whnf))
        (repeat' ((first | refine ansT ?_ | refine ansF ?_ | ((try (refine Or.inl ?_; (conv => whnf))); (try (refine ⟨false, ?_⟩; (conv => whnf))); refine ⟨_, by exact a2, ?_⟩) | refine ansD (by first | (simp [*]; done) | omega) ?_ | refine ansN (by first | (simp [*]; done) | omega) ?_ | refine ⟨by kernel_rfl, ?_⟩ | refine ansB (by decide) (by first | decide | (simp; done) | (simp only [List.length_cons, List.length_nil]; decide)) ?_ | fail); (conv => whnf)))
        (repeat' (first | (refine ansS (fun hh => ?_) (fun hh => ?_) <;> (first | simp only [ansX] at hh | skip) <;> (first | (exfalso; omega) | (exfalso; simp [*] at hh; done) | (exfalso; revert hh; decide) | exact absurd (by assumption) hh | (conv => whnf))) | ((first | refine ⟨by kernel_rfl, ?_⟩ | refine ansB (by omega) (by omega) ?_ | refine ansB (by decide) (by decide) ?_ | refine And.intro (a := _ ≤ _) (by omega) ?_ | refine And.intro (a := _ ≠ _) (by omega) ?_ | ((try (refine Or.inl ?_; (conv => whnf))); (try (refine ⟨false, ?_⟩; (conv => whnf))); refine ⟨_, by first | exact s0 | exact sx, ?_⟩) | fail); (conv => whnf))))
        refine Or.inl ⟨1, ?_⟩
        (conv => whnf)
        (repeat' (first | (refine ansS (fun hh => ?_) (fun hh => ?_) <;> (first | simp only [ansX] at hh | skip) <;> (first | (exfalso; omega) | (exfalso; simp [*] at hh; done) | (exfalso; revert hh; decide) | exact absurd (by assumption) hh | (conv => whnf))) | ((first | refine ⟨by kernel_rfl, ?_⟩ | refine ansB (by omega) (by omega) ?_ | refine ansB (by decide) (by decide) ?_ | refine And.intro (a := _ ≤ _) (by omega) ?_ | refine And.intro (a := _ ≠ _) (by omega) ?_ | ((try (refine Or.inl ?_; (conv => whnf))); (try (refine ⟨false, ?_⟩; (conv => whnf))); refine ⟨_, by exact s0, ?_⟩) | fail); (conv => whnf))))
        (repeat' (first | (refine ansS (fun hh => ?_) (fun hh => ?_) <;> (first | simp only [ansX] at hh | skip) <;> (first | (exfalso; omega) | (exfalso; simp [*] at hh; done) | (exfalso; revert hh; decide) | exact absurd (by assumption) hh | (conv => whnf))) | ((first | refine ⟨by kernel_rfl, ?_⟩ | refine ansB (by omega) (by omega) ?_ | refine ansB (by decide) (by decide) ?_ | refine And.intro (a := _ ≤ _) (by omega) ?_ | refine And.intro (a := _ ≠ _) (by omega) ?_ | ((try (refine Or.inl ?_; (conv => whnf))); (try (refine ⟨false, ?_⟩; (conv => whnf))); refine ⟨_, by exact pc_spoil0, ?_⟩) | fail); (conv => whnf))))
        refine Or.inr ⟨Nat, [80, 15], [], [], fun k => [i64 k, .bool true], fun _ => [], fun _ => [], fun k => profile.length - k, fun k => k ≤ profile.length, ?_⟩
        (conv => whnf)
        refine ⟨⟨0, ?_⟩, ?_⟩
        · (conv => whnf)
          exact ⟨⟨Nat.zero_le _, rfl, rfl, rfl⟩, by kernel_rfl, by kernel_rfl⟩
        intro k hk
        (conv => whnf)
        refine ⟨fun h => ?_, fun h => ?_⟩
        · have h := of_decide_eq_true h
          (conv => whnf)
          (repeat' (first | (refine ansS (fun hh => ?_) (fun hh => ?_) <;> (first | simp only [ansX] at hh | skip) <;> (first | (exfalso; omega) | (exfalso; simp [*] at hh; done) | (exfalso; revert hh; decide) | exact absurd (by assumption) hh | (conv => whnf))) | ((first | refine ⟨by kernel_rfl, ?_⟩ | refine ansB (by omega) (by omega) ?_ | refine ansB (by decide) (by decide) ?_ | refine And.intro (a := _ ≤ _) (by omega) ?_ | refine And.intro (a := _ ≠ _) (by omega) ?_ | fail); (conv => whnf))))
          refine ⟨⟨by omega, by show (k : Int) < (([] ++ profile : List Int).length : Int); rw [List.nil_append]; omega⟩, ?_⟩
          (conv => whnf)
          (repeat' (first | (refine ansS (fun hh => ?_) (fun hh => ?_) <;> (first | simp only [ansX] at hh | skip) <;> (first | (exfalso; omega) | (exfalso; simp [*] at hh; done) | (exfalso; revert hh; decide) | exact absurd (by assumption) hh | (conv => whnf))) | ((first | refine ⟨by kernel_rfl, ?_⟩ | refine ansB (by omega) (by omega) ?_ | refine ansB (by decide) (by decide) ?_ | refine And.intro (a := _ ≤ _) (by omega) ?_ | refine And.intro (a := _ ≠ _) (by omega) ?_ | fail); (conv => whnf))))
          refine ⟨k + 1, ?_⟩
          (conv => whnf)
          refine ⟨⟨⟨?_, ?_⟩, ?_, rfl, rfl⟩, by kernel_rfl, by kernel_rfl⟩
          · show profile.length - (k + 1) < profile.length - k; omega
          · show k + 1 ≤ profile.length; omega
          · rw [w64 _ (by omega) (by omega)]
            have e : decide ((([] ++ profile : List Int).getD k 0) = profile.getD k 0) = true := decide_eq_true rfl
            exact congrArg (fun x => [i64 ((k : Int) + 1), AV.bool x]) e
        (conv => whnf)
        (repeat' (first | (refine ansS (fun hh => ?_) (fun hh => ?_) <;> (first | simp only [ansX] at hh | skip) <;> (first | (exfalso; omega) | (exfalso; simp [*] at hh; done) | (exfalso; revert hh; decide) | exact absurd (by assumption) hh | (conv => whnf))) | ((first | refine ⟨by kernel_rfl, ?_⟩ | refine ansB (by omega) (by omega) ?_ | refine ansB (by decide) (by decide) ?_ | refine And.intro (a := _ ≤ _) (by omega) ?_ | refine And.intro (a := _ ≠ _) (by omega) ?_ | ((try (refine Or.inl ?_; (conv => whnf))); (try (refine ⟨false, ?_⟩; (conv => whnf))); refine ⟨_, by exact sb, ?_⟩) | fail); (conv => whnf))))
        all_goals (first | rfl | set_option pp.maxSteps 300 in trace_state)
    · refine pc_of_bodyF hm Tryz.func5 (by kernel_rfl) ?_
      conv => whnf
      (repeat' ((first | refine ansT ?_ | refine ansF ?_ | ((try (refine Or.inl ?_; (conv => whnf))); (try (refine ⟨false, ?_⟩; (conv => whnf))); refine ⟨_, by exact gr, ?_⟩) | refine ansD (by first | (simp [*]; done) | omega) ?_ | refine ansN (by first | (simp [*]; done) | omega) ?_ | refine ⟨by kernel_rfl, ?_⟩ | refine ansB (by decide) (by first | decide | (simp; done) | (simp only [List.length_cons, List.length_nil]; decide)) ?_ | fail); (conv => whnf)))
      (repeat' (first | (refine ansS (fun hh => ?_) (fun hh => ?_) <;> (first | simp only [ansX] at hh | skip) <;> (first | (exfalso; omega) | (exfalso; simp [*] at hh; done) | (exfalso; revert hh; decide) | exact absurd (by assumption) hh | (conv => whnf))) | ((first | refine ⟨by kernel_rfl, ?_⟩ | refine ansB (by omega) (by omega) ?_ | refine ansB (by decide) (by decide) ?_ | refine And.intro (a := _ ≤ _) (by omega) ?_ | refine And.intro (a := _ ≠ _) (by omega) ?_ | fail); (conv => whnf))))
      all_goals (first | rfl | set_option pp.maxSteps 300 in trace_state)
  · have hs : smallB b = false := by simpa using hs
    rw [hs] at gr
    refine pc_of_bodyF hm Tryz.func5 (by kernel_rfl) ?_
    conv => whnf
    (repeat' ((first | refine ansT ?_ | refine ansF ?_ | ((try (refine Or.inl ?_; (conv => whnf))); (try (refine ⟨false, ?_⟩; (conv => whnf))); refine ⟨_, by exact gr, ?_⟩) | refine ansD (by first | (simp [*]; done) | omega) ?_ | refine ansN (by first | (simp [*]; done) | omega) ?_ | refine ⟨by kernel_rfl, ?_⟩ | refine ansB (by decide) (by first | decide | (simp; done) | (simp only [List.length_cons, List.length_nil]; decide)) ?_ | fail); (conv => whnf)))
    first | rfl | set_option pp.maxSteps 300 in trace_state
end Go.Proofs.Tryz.My
set_option maxRecDepth 100000
set_option maxHeartbeats 0
set_option linter.unusedVariables false
set_option linter.unusedSimpArgs false
namespace Go.Proofs.YtnoahgjfeablgaaGreat.BooksIn
open Go Go.Ev Go.Proofs.Tryz.My
open Go.ChangeShapes Go.WideShapes Go.ChangeAt Go.RowKit
def IB (b : BooksT) : Prop := ∀ i, IG (b.recipes.getD i rec0).gauge
theorem dFrac : Dec Tryz.prog 28 eF (fun y : Int × Int => I64 y.1 ∧ I64 y.2) :=
  dec_two Tryz.underlying28 rfl rfl rfl (by kernel_rfl) (by kernel_rfl) (dec_int Tryz.underlying3 (by kernel_rfl)) (dec_int Tryz.underlying3 (by kernel_rfl)) (fun _ => by kernel_rfl)
theorem dSpan : Dec Tryz.prog 30 eS (fun y : SpT => (I64 y.1.1 ∧ I64 y.1.2) ∧ (I64 y.2.1 ∧ I64 y.2.2)) :=
  dec_two Tryz.underlying30 rfl rfl rfl (by kernel_rfl) (by kernel_rfl) dFrac dFrac (fun _ => by kernel_rfl)
theorem dGauge : Dec Tryz.prog 32 eG (fun y : GauT => ((((I64 y.1.1.1.1 ∧ I64 y.1.1.1.2) ∧ ((I64 y.1.1.2.1.1 ∧ I64 y.1.1.2.1.2) ∧ (I64 y.1.1.2.2.1 ∧ I64 y.1.1.2.2.2))) ∧ (I64 y.1.2.1 ∧ I64 y.1.2.2)) ∧ (I64 y.2.1 ∧ I64 y.2.2))) :=
  dec_all Tryz.underlying32 rfl (by kernel_rfl)
    (dec_more (k := 4) Tryz.underlying32 rfl (by kernel_rfl) (dec_more (k := 3) Tryz.underlying32 rfl (by kernel_rfl) (dec_more (k := 2) Tryz.underlying32 rfl (by kernel_rfl) (dec_more (k := 1) Tryz.underlying32 rfl (by kernel_rfl)
      (dec_one Tryz.underlying32 rfl (by kernel_rfl) (dec_int Tryz.underlying3 (by kernel_rfl))) (dec_int Tryz.underlying3 (by kernel_rfl)) (fun _ => by kernel_rfl)) dSpan (fun _ => by kernel_rfl)) dFrac (fun _ => by kernel_rfl)) dFrac (fun _ => by kernel_rfl))
theorem dInt : DecM Tryz.prog 3 (fun n : Int => [i64 n]) I64 := Dec.mem (dec_int Tryz.underlying3 (by kernel_rfl))
theorem dInts : DecM Tryz.prog 56 (fun l : List Int => [ints l]) (fun _ => True) := by
  have h0 : DecM Tryz.prog 56 (fun l : List Int => [.sl (Tryz.prog.cellsOf 3) 0 (fun n : Int => [i64 n]) l]) (fun l => (∀ n ∈ l, I64 n) ∧ l.length ≤ maxLen) := decM_slice (d := (0 : Int)) Tryz.underlying56 (by kernel_rfl) (of_decide_eq_true (by kernel_rfl)) dInt
  have e : Tryz.prog.cellsOf 3 = 1 := by kernel_rfl
  rw [e] at h0
  intro H enc w base spare held fuel cs x ht
  exact DecM.weak h0 (fun _ _ => trivial) ht
theorem dU8 : DecM Tryz.prog 5 (fun n : Int => [u8 n]) (fun n => (Lit.int .u8 n).wf = true) := Dec.mem (dec_num Tryz.underlying5 (by kernel_rfl))
theorem dU8s : DecM Tryz.prog 22 (fun l : List Int => [u8l l]) (fun _ => True) := by
  have h0 : DecM Tryz.prog 22 (fun l : List Int => [.sl (Tryz.prog.cellsOf 5) 0 (fun n : Int => [u8 n]) l]) (fun l => (∀ n ∈ l, (Lit.int .u8 n).wf = true) ∧ l.length ≤ maxLen) := decM_slice (d := (0 : Int)) Tryz.underlying22 (by kernel_rfl) (of_decide_eq_true (by kernel_rfl)) dU8
  have e : Tryz.prog.cellsOf 5 = 1 := by kernel_rfl
  rw [e] at h0
  intro H enc w base spare held fuel cs x ht
  exact DecM.weak h0 (fun _ _ => trivial) ht
theorem dGaugeM : DecM Tryz.prog 32 eG (fun y : GauT => ((((I64 y.1.1.1.1 ∧ I64 y.1.1.1.2) ∧ ((I64 y.1.1.2.1.1 ∧ I64 y.1.1.2.1.2) ∧ (I64 y.1.1.2.2.1 ∧ I64 y.1.1.2.2.2))) ∧ (I64 y.1.2.1 ∧ I64 y.1.2.2)) ∧ (I64 y.2.1 ∧ I64 y.2.2))) := Dec.mem dGauge
theorem dRec0 : DecM Tryz.prog 76 (fun y : ((Int × GauT) × List Int) × Int => ((([i64 y.1.1.1] ++ eG y.1.1.2) ++ [ints y.1.2]) ++ [u8 y.2])) (fun y => ((I64 y.1.1.1 ∧ ((((I64 y.1.1.2.1.1.1.1 ∧ I64 y.1.1.2.1.1.1.2) ∧ ((I64 y.1.1.2.1.1.2.1.1 ∧ I64 y.1.1.2.1.1.2.1.2) ∧ (I64 y.1.1.2.1.1.2.2.1 ∧ I64 y.1.1.2.1.1.2.2.2))) ∧ (I64 y.1.1.2.1.2.1 ∧ I64 y.1.1.2.1.2.2)) ∧ (I64 y.1.1.2.2.1 ∧ I64 y.1.1.2.2.2))) ∧ True) ∧ (Lit.int .u8 y.2).wf = true) :=
  decM_all Tryz.underlying76 rfl (by kernel_rfl)
    (decM_more (k := 3) Tryz.underlying76 rfl (by kernel_rfl) (decM_more (k := 2) Tryz.underlying76 rfl (by kernel_rfl) (decM_more (k := 1) Tryz.underlying76 rfl (by kernel_rfl)
      (decM_one Tryz.underlying76 rfl (by kernel_rfl) dInt) dGaugeM (fun _ => by kernel_rfl)) dInts (fun _ => by kernel_rfl)) dU8 (fun _ => by kernel_rfl))
theorem dRec : DecM Tryz.prog 76 eRec (fun x => IG x.gauge) := by
  refine DecM.weak (DecM.map (en' := eRec) dRec0 (fun y => (⟨y.1.1.1, y.1.1.2, y.1.2, y.2⟩ : RecT)) (fun _ => rfl)) fun x h => by
    obtain ⟨y, rfl, ⟨⟨_, ⟨⟨a, b⟩, c⟩⟩, _⟩, _⟩ := h
    exact ⟨a.1.1, a.1.2, ⟨a.2.1.1, a.2.1.2, a.2.2.1, a.2.2.2⟩, ⟨b.1, b.2, c.1, c.2⟩⟩
theorem dRecs : DecM Tryz.prog 23 (fun l : List RecT => [recs l]) (fun l => ∀ x ∈ l, IG x.gauge) := by
  have h0 : DecM Tryz.prog 23 (fun l : List RecT => [.sl (Tryz.prog.cellsOf 76) rec0 eRec l]) (fun l => (∀ n ∈ l, IG n.gauge) ∧ l.length ≤ maxLen) := decM_slice (d := rec0) Tryz.underlying23 (by kernel_rfl) (of_decide_eq_true (by kernel_rfl)) dRec
  have e : Tryz.prog.cellsOf 76 = 13 := by kernel_rfl
  rw [e] at h0
  intro H enc w base spare held fuel cs x ht
  exact DecM.weak h0 (fun _ h => h.1) ht
theorem dBool : DecM Tryz.prog 4 (fun b : Bool => [.bool b]) (fun _ => True) := decM_bool Tryz.underlying4 (by kernel_rfl)
theorem dEnt0 : DecM Tryz.prog 58 (fun y : ((((Int × Int) × Int) × List Int) × Int) × Bool => ((((([i64 y.1.1.1.1.1] ++ [i64 y.1.1.1.1.2]) ++ [i64 y.1.1.1.2]) ++ [ints y.1.1.2]) ++ [u8 y.1.2]) ++ [.bool y.2])) (fun y => ((((I64 y.1.1.1.1.1 ∧ I64 y.1.1.1.1.2) ∧ I64 y.1.1.1.2) ∧ True) ∧ (Lit.int .u8 y.1.2).wf = true) ∧ True) :=
  decM_all Tryz.underlying58 rfl (by kernel_rfl)
    (decM_more (k := 5) Tryz.underlying58 rfl (by kernel_rfl) (decM_more (k := 4) Tryz.underlying58 rfl (by kernel_rfl) (decM_more (k := 3) Tryz.underlying58 rfl (by kernel_rfl) (decM_more (k := 2) Tryz.underlying58 rfl (by kernel_rfl) (decM_more (k := 1) Tryz.underlying58 rfl (by kernel_rfl)
      (decM_one Tryz.underlying58 rfl (by kernel_rfl) dInt) dInt (fun _ => by kernel_rfl)) dInt (fun _ => by kernel_rfl)) dInts (fun _ => by kernel_rfl)) dU8 (fun _ => by kernel_rfl)) dBool (fun _ => by kernel_rfl))
theorem dEnt : DecM Tryz.prog 58 eEnt (fun _ => True) := by
  refine DecM.weak (DecM.map (en' := eEnt) dEnt0 (fun y => (⟨y.1.1.1.1.1, y.1.1.1.1.2, y.1.1.1.2, y.1.1.2, y.1.2, y.2⟩ : EntT)) (fun _ => rfl)) fun _ _ => trivial
theorem dEnts : DecM Tryz.prog 24 (fun l : List EntT => [ents l]) (fun _ => True) := by
  have h0 : DecM Tryz.prog 24 (fun l : List EntT => [.sl (Tryz.prog.cellsOf 58) ent0 eEnt l]) (fun l => (∀ n ∈ l, True) ∧ l.length ≤ maxLen) := decM_slice (d := ent0) Tryz.underlying24 (by kernel_rfl) (of_decide_eq_true (by kernel_rfl)) dEnt
  have e : Tryz.prog.cellsOf 58 = 6 := by kernel_rfl
  rw [e] at h0
  intro H enc w base spare held fuel cs x ht
  exact DecM.weak h0 (fun _ _ => trivial) ht
theorem dBooks0 : DecM Tryz.prog 26 (fun y : (((Int × List Int) × List RecT) × Int) × List EntT => (((([i64 y.1.1.1.1] ++ [u8l y.1.1.1.2]) ++ [recs y.1.1.2]) ++ [i64 y.1.2]) ++ [ents y.2])) (fun y => (((I64 y.1.1.1.1 ∧ True) ∧ ∀ x ∈ y.1.1.2, IG x.gauge) ∧ I64 y.1.2) ∧ True) :=
  decM_all Tryz.underlying26 rfl (by kernel_rfl)
    (decM_more (k := 4) Tryz.underlying26 rfl (by kernel_rfl) (decM_more (k := 3) Tryz.underlying26 rfl (by kernel_rfl) (decM_more (k := 2) Tryz.underlying26 rfl (by kernel_rfl) (decM_more (k := 1) Tryz.underlying26 rfl (by kernel_rfl)
      (decM_one Tryz.underlying26 rfl (by kernel_rfl) dInt) dU8s (fun _ => by kernel_rfl)) dRecs (fun _ => by kernel_rfl)) dInt (fun _ => by kernel_rfl)) dEnts (fun _ => by kernel_rfl))
theorem ig0 : IG rec0.gauge := by
  have h : I64 (0 : Int) := by first | (unfold I64; decide) | decide | exact ⟨by decide, by decide⟩
  exact ⟨h, h, ⟨h, h, h, h⟩, ⟨h, h, h, h⟩⟩
theorem dBooks : DecM Tryz.prog 26 eB IB := by
  refine DecM.weak (DecM.map (en' := eB) dBooks0 (fun y => (⟨y.1.1.1.1, y.1.1.1.2, y.1.1.2, y.1.2, y.2⟩ : BooksT)) (fun _ => rfl)) fun x h => by
    obtain ⟨y, rfl, ⟨⟨_, h⟩, _⟩, _⟩ := h
    intro i
    by_cases hi : i < y.1.1.2.length
    · have e : y.1.1.2.getD i rec0 = y.1.1.2[i] := by simp [List.getD, hi]
      show IG (y.1.1.2.getD i rec0).gauge
      rw [e]
      exact h _ (List.getElem_mem hi)
    · have e : y.1.1.2.getD i rec0 = rec0 := by rw [List.getD, List.getElem?_eq_none (by omega)]; rfl
      show IG (y.1.1.2.getD i rec0).gauge
      rw [e]
      exact ig0
end Go.Proofs.YtnoahgjfeablgaaGreat.BooksIn
set_option maxRecDepth 100000
set_option maxHeartbeats 0
set_option linter.unusedVariables false
set_option linter.unusedSimpArgs false
namespace Go.Proofs.YtnoahgjfeablgaaGreat.RecipeRecordsDone
open Go Go.Ev Go.Proofs.Tryz.My Go.Proofs.YtnoahgjfeablgaaGreat.BooksIn
open Go.ChangeShapes Go.WideShapes Go.ChangeAt Go.RowKit
theorem own : ownKnob Tryz.prog.godebug = none := by kernel_rfl
theorem laidOut : laidOutB Tryz.prog = true := by kernel_rfl
theorem walk (w : World) (b : BooksT) (hb : BooksIn.IB b) (v0 : Value) (h0 : RepI (fun b => b < w.heap.size) w (.agg (eB b)) v0) (n1 : Int) (n2 : List Int) (v2 : Value) (h2 : RepI (fun b => b < w.heap.size) w (ints n2) v2) :
    Calls Tryz.prog 5 #[v0, .int .i64 n1, v2] w fun e w' => e = .returned (.bool true) ∧ Below w.heap.size w w' := by
  refine PC.callsTrue (pc_RecipeRecords b hb n1 n2) Tryz.func5 (by kernel_rfl) rfl rfl fun i hi => ?_
  match i, hi with
  | 0, _ => exact h0
  | 1, _ => exact .int _ _
  | 2, _ => exact h2
theorem lifted (os : Os) (started : os.Started) (H : Type) (enc : TypeId × Value → H) :
    ReturnsInHanded {} Tryz.checked os 5 .any (Rows.recipeRecordsSpec.pre6 enc Tryz.prog Tryz.f5 Rows.recipeRecordsRow.domain false) (Rows.recipeRecordsSpec.post enc Tryz.prog Tryz.f5 false true false false) := by
  refine returnsInHanded_of_change (C := Tryz.checked) own started (by kernel_rfl) Tryz.func5
    (ChangeSpec.witness6 (enc := enc) (C := Tryz.checked) false ⟨#[], #[.agg #[.int .i64 0, .slice none 0 0, .slice none 0 0, .int .i64 0, .slice none 0 0], .int .i64 0, .slice none 0 0], []⟩ 8 (by kernel_rfl) (by kernel_rfl) (by kernel_rfl) (by kernel_rfl)) ?_
  intro W base args ds gs before hval0 hW hcnd _
  have hval : ∀ (j : Nat) t v, Tryz.f5.params[j]? = some t → args[j]? = some v → Value.okWide Tryz.prog W .any base t v := hval0
  have hW' := hW
  obtain ⟨p, q, hA0, hV, rfl, hfz, hnd⟩ := hW
  have hA : DataW.TrodAll enc Tryz.prog W 0 (fun _ => true) true Tryz.f5.params.toList args.toList ds p := hA0
  rw [Tryz.params5] at hA hval
  obtain ⟨v0, vs0, d0, ds0, p0, q0, hargs, rfl, rfl, h0, r0⟩ := trodAll_cons hA
  obtain ⟨v1, vs1, d1, ds1, p1, q1, rfl, rfl, rfl, h1, r1⟩ := trodAll_cons r0
  obtain ⟨v2, vs2, d2, ds2, p2, q2, rfl, rfl, rfl, h2, r2⟩ := trodAll_cons r1
  obtain ⟨rfl, rfl, rfl⟩ := trodAll_nil r2
  obtain rfl : args = #[v0, v1, v2] := by cases args; simp_all
  obtain ⟨rfl, rfl⟩ := trodVars_none hV
  have k0 := h0
  have lt0 : ∀ x ∈ p0, x.block < W.heap.size := by obtain ⟨m, hm⟩ := k0; exact DataW.trod_lt m _ _ _ hm
  obtain ⟨b, hb, i0⟩ := repI_structM Tryz.underlying26 dBooks (fun _ => by kernel_rfl) (hval 0 26 v0 rfl rfl) h0
  obtain ⟨a1, rfl, rfl, rfl, w1⟩ := open_int Tryz.underlying3 (hval 1 3 v1 rfl rfl) h1
  obtain ⟨a2, len2, cap2, rfl⟩ := okWide_slice Tryz.underlying56 (hval 2 56 v2 rfl rfl)
  have k2 := h2
  have lt2 : ∀ x ∈ p2, x.block < W.heap.size := by obtain ⟨m, hm⟩ := k2; exact DataW.trod_lt m _ _ _ hm
  obtain ⟨l2, i2, _, n2⟩ : ∃ l : List Int, RepI (fun b => b < W.heap.size) W (ints l) (.slice a2 len2 cap2) ∧ (∀ n ∈ l, I64 n) ∧ l.length ≤ maxLen := by
    obtain ⟨fuel, hf⟩ := h2
    exact repI_ints Tryz.underlying56 Tryz.underlying3 (by kernel_rfl) (hval 2 56 _ rfl rfl) hf
  clear hA0 hval0
  refine (walk W b hb v0 i0 a1 l2 _ i2).mono fun e W' ⟨he, bel⟩ => ?_
  subst he
  exact ⟨_, rfl, _, _, _, [], _, [], hW', trodAll_mk1 (shut_bool Tryz.underlying4 _), (trodAll_cons_mk (Below.trod laidOut (by kernel_rfl) (of_decide_eq_true (by kernel_rfl)) k0 bel lt0) (trodAll_cons_mk (shut_int Tryz.underlying3 w1) (trodAll_cons_mk (Below.trod laidOut (by kernel_rfl) (of_decide_eq_true (by kernel_rfl)) k2 bel lt2) trodAll_mk0))), rfl, bel.frame _, fun h => by cases h⟩
theorem closed : joinedFacts Tryz.pinned.checked.prog 5 Tryz.f5 Rows.recipeRecordsSpec Rows.recipeRecordsRow = true :=
  (restOf Tryz.pinned.checked.prog 5 Tryz.f5 Rows.recipeRecordsSpec Rows.recipeRecordsRow make_eq mayEnter_eq liftsFinal_eq).2 (by kernel_rfl)
theorem over : Rows.recipeRecordsRow.holds Tryz.pinned (OpenSpec.ofChange Rows.recipeRecordsSpec) :=
  OpenClaim.holds_of_wide 5 Tryz.f5 rfl rfl rfl rfl rfl rfl rfl ⟨rfl, rfl, rfl, rfl, rfl⟩ rfl rfl rfl rfl rfl (by kernel_rfl) Tryz.func5 closed
    (of_decide_eq_true (by kernel_rfl)) (by unfold Func.isWrapper; first | (rw [if_pos (by decide +kernel)]; kernel_rfl) | (rw [if_neg (by decide +kernel)]; exact ⟨rfl, rfl⟩))
    (fun os started H enc _ => lifted os started H enc)
theorem proved : Rows.RecipeRecordsSaid := over
#print axioms proved
end Go.Proofs.YtnoahgjfeablgaaGreat.RecipeRecordsDone
