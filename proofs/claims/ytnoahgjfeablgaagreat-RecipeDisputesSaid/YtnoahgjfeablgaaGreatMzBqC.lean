/- A helper text: contracts of functions of the program, and plain lemmas. -/
import Derived.Test.YtnoahgjfeablgaaGreatEvSix
import Derived.Test.YtnoahgjfeablgaaGreatMzBqB
import Derived.Test.YtnoahgjfeablgaaGreatMzBpA
set_option maxRecDepth 100000
set_option maxHeartbeats 0
set_option linter.unusedVariables false
set_option linter.unusedSimpArgs false
namespace Go.Proofs.Tryz.My
open Go Go.Ev
theorem pc_r10entry (b : BooksT) (o : Okay b) (q : Int) : PC Tryz.prog 83 [bks b, i64 q] (i64 (ixE (isSeq q) b.log)) := by
  have hl := o.l
  refine pc_of_bodyF hm Tryz.func83 (by kernel_rfl) ?_
  conv => whnf
  refine Or.inr ⟨Nat, [5], [], [], fun k => [i64 k], fun _ => [], fun _ => [], fun k => b.log.length - k, fun k => k ≤ b.log.length ∧ ∀ m, m < k → isSeq q (b.log.getD m ent0) = false, ?_⟩
  (conv => whnf)
  refine ⟨⟨0, ?_⟩, ?_⟩
  · (conv => whnf)
    exact ⟨⟨⟨Nat.zero_le _, fun i hi => absurd hi (Nat.not_lt_zero i)⟩, rfl, rfl, rfl⟩, by kernel_rfl, by kernel_rfl⟩
  intro k hk
  (conv => whnf)
  refine ⟨fun h => ?_, fun h => ?_⟩
  · have h := of_decide_eq_true h
    have hkk : k < b.log.length := by omega
    (conv => whnf)
    refine ⟨⟨by omega, by omega⟩, ?_⟩
    (conv => whnf)
    rw [show Int.toNat (k : Int) = k from rfl]
    refine ⟨fun q1 => ?_, fun q1 => ?_⟩
    · (conv => whnf)
      exact congrArg i64 (ixE_hit hkk q1 hk.2).symm
    · refine ⟨k + 1, ?_⟩
      (conv => whnf)
      refine ⟨⟨⟨?_, ?_, ?_⟩, ?_, rfl, rfl⟩, by kernel_rfl, by kernel_rfl⟩
      · show b.log.length - (k + 1) < b.log.length - k; omega
      · omega
      · intro m h2
        by_cases e : m = k
        · subst e; exact q1
        · exact hk.2 m (by omega)
      · rw [w64 _ (by omega) (by omega)]; rfl
  · have h := of_decide_eq_false h
    (conv => whnf)
    exact congrArg i64 (ixE_none fun m h2 => hk.2 m (by omega)).symm
theorem may123_in {us : List Int} {u : Int} (h1 : 0 ≤ u) (h2 : u < us.length) (hs : Staff us) : mayB [1, 2, 3] us u = true := by
  have h3 := hs u.toNat (by omega)
  unfold mayB withB
  rw [decide_eq_true h1, decide_eq_true (show u ≤ (us.length : Int) - 1 by omega), Bool.true_and, Bool.true_and]
  simp only [List.contains, List.elem_eq_mem, decide_eq_true_eq, List.mem_cons, List.not_mem_nil, or_false]
  omega
theorem chk_staff {b : BooksT} (h : chkB b = true) : Staff b.users := by
  simp only [chkB, Bool.and_eq_true] at h
  exact staff_of h.1.1.2
def RefMay (b : BooksT) (is : Bool) (rr : List Int) : Prop := ∀ u : Int, 0 ≤ u → u < b.users.length → (mayB rr b.users u = !(!is && decide (b.users.getD u.toNat 0 ≠ 3)))
theorem refMayT {b : BooksT} (h : chkB b = true) : RefMay b true [1, 2, 3] := fun u h1 h2 => by rw [may123_in h1 h2 (chk_staff h)]; rfl
theorem refMayF (b : BooksT) : RefMay b false [3] := fun u h1 h2 => by
  rw [may3_in h1 h2]
  by_cases e : b.users.getD u.toNat 0 = 3 <;> simp [e]
theorem pc_r10disOk (b : BooksT) (o : Okay b) (hI : ∀ i, IG (b.recipes.getD i rec0).gauge) (user seq : Int) (is : Bool) (rr : List Int) (hr : chkB b = true → RefMay b is rr) (h : mrkE b user seq is rr = 0) : PC Tryz.prog 81 [bks b, i64 user, i64 seq, .bool is] (.tup [bks (mrkB b seq is), i64 0]) := by
  obtain ⟨hc, ha, hu, hmy, hd⟩ := mrkE_zero h
  clear h
  have s := chk_small hc
  have hm2 := hr hc user hu.1 (by omega)
  rw [hmy] at hm2
  have hlt : mrkI b seq < b.log.length := fi_lt ha
  have e := pc_r10entry b o seq
  have c := pc_Valid b o hI
  rw [hc] at c
  unfold ixE at e
  rw [if_pos ha] at e
  unfold mrkB
  unfold mrkI at *
  generalize b.log.findIdx (isSeq seq) = i at *
  cases is with
  | true =>
    have hd2 : (b.log.getD i ent0).disputed = false := by simpa using hd
    have z2 : (b.log[i]'hlt).disputed = false := by have z := hd2; simp only [List.getD, List.getElem?_eq_getElem hlt, Option.getD_some] at z; exact z
    clear hm2
    refine pc_of_bodyF hm Tryz.func81 (by kernel_rfl) ?_
    conv => whnf
    (repeat' ((first | refine ansT ?_ | refine ansF ?_ | ((try (refine Or.inl ?_; (conv => whnf))); (try (refine ⟨false, ?_⟩; (conv => whnf))); refine ⟨_, by first | exact c | exact e, ?_⟩) | refine ansD (by first | (simp [*]; done) | omega) ?_ | refine ansN (by first | (simp [*]; done) | omega) ?_ | refine ⟨by kernel_rfl, ?_⟩ | refine ansB (by decide) (by first | decide | (simp; done) | (simp only [List.length_cons, List.length_nil]; decide)) ?_ | fail); (conv => whnf)))
    (repeat' (first | (refine ansS (fun hh => ?_) (fun hh => ?_) <;> (first | simp only [ansX] at hh | skip) <;> (first | (exfalso; omega) | (exfalso; simp [*] at hh; done) | (exfalso; revert hh; decide) | exact absurd (by assumption) hh | (conv => whnf))) | ((first | refine ⟨by kernel_rfl, ?_⟩ | refine ansB (by omega) (by omega) ?_ | refine ansB (by decide) (by decide) ?_ | refine And.intro (a := _ ≤ _) (by omega) ?_ | refine And.intro (a := _ ≠ _) (by omega) ?_ | ((try (refine Or.inl ?_; (conv => whnf))); (try (refine ⟨false, ?_⟩; (conv => whnf))); refine ⟨_, by exact pc_isUser b o _, ?_⟩) | fail); (conv => whnf))))
    (refine Or.inr ⟨[ ], [ 51, 49, 50 ], by kernel_rfl, ?_⟩; (conv => whnf); refine ⟨[ ], _, _, _, _, ⟨ pw_r10Twin b o, rfl, rfl, by kernel_rfl⟩, ?_⟩)
    (conv => whnf)
    (repeat' (first | (refine ansS (fun hh => ?_) (fun hh => ?_) <;> (first | simp only [ansX] at hh | skip) <;> (first | (exfalso; omega) | (exfalso; simp [*] at hh; done) | (exfalso; revert hh; decide) | exact absurd (by assumption) hh | (conv => whnf))) | ((first | refine ⟨by kernel_rfl, ?_⟩ | refine ansB (by omega) (by omega) ?_ | refine ansB (by decide) (by decide) ?_ | refine And.intro (a := _ ≤ _) (by omega) ?_ | refine And.intro (a := _ ≠ _) (by omega) ?_ | fail); (conv => whnf))))
    refine ⟨setD (b.log.getD i ent0) true, rfl, hlt, ?_⟩
    (conv => whnf)
    rfl
  | false =>
    have hd2 : (b.log.getD i ent0).disputed = true := by simpa using hd
    have z2 : (b.log[i]'hlt).disputed = true := by have z := hd2; simp only [List.getD, List.getElem?_eq_getElem hlt, Option.getD_some] at z; exact z
    have h3 : b.users.getD user.toNat 0 = 3 := by simpa using hm2
    clear hm2
    refine pc_of_bodyF hm Tryz.func81 (by kernel_rfl) ?_
    conv => whnf
    (repeat' ((first | refine ansT ?_ | refine ansF ?_ | ((try (refine Or.inl ?_; (conv => whnf))); (try (refine ⟨false, ?_⟩; (conv => whnf))); refine ⟨_, by first | exact c | exact e, ?_⟩) | refine ansD (by first | (simp [*]; done) | omega) ?_ | refine ansN (by first | (simp [*]; done) | omega) ?_ | refine ⟨by kernel_rfl, ?_⟩ | refine ansB (by decide) (by first | decide | (simp; done) | (simp only [List.length_cons, List.length_nil]; decide)) ?_ | fail); (conv => whnf)))
    (repeat' (first | (refine ansS (fun hh => ?_) (fun hh => ?_) <;> (first | simp only [ansX] at hh | skip) <;> (first | (exfalso; omega) | (exfalso; simp [*] at hh; done) | (exfalso; revert hh; decide) | exact absurd (by assumption) hh | (conv => whnf))) | ((first | refine ⟨by kernel_rfl, ?_⟩ | refine ansB (by omega) (by omega) ?_ | refine ansB (by decide) (by decide) ?_ | refine And.intro (a := _ ≤ _) (by omega) ?_ | refine And.intro (a := _ ≠ _) (by omega) ?_ | ((try (refine Or.inl ?_; (conv => whnf))); (try (refine ⟨false, ?_⟩; (conv => whnf))); refine ⟨_, by exact pc_isUser b o _, ?_⟩) | fail); (conv => whnf))))
    (refine Or.inr ⟨[ ], [ 51, 49, 50 ], by kernel_rfl, ?_⟩; (conv => whnf); refine ⟨[ ], _, _, _, _, ⟨ pw_r10Twin b o, rfl, rfl, by kernel_rfl⟩, ?_⟩)
    (conv => whnf)
    (repeat' (first | (refine ansS (fun hh => ?_) (fun hh => ?_) <;> (first | simp only [ansX] at hh | skip) <;> (first | (exfalso; omega) | (exfalso; simp [*] at hh; done) | (exfalso; revert hh; decide) | exact absurd (by assumption) hh | (conv => whnf))) | ((first | refine ⟨by kernel_rfl, ?_⟩ | refine ansB (by omega) (by omega) ?_ | refine ansB (by decide) (by decide) ?_ | refine And.intro (a := _ ≤ _) (by omega) ?_ | refine And.intro (a := _ ≠ _) (by omega) ?_ | fail); (conv => whnf))))
    refine ⟨setD (b.log.getD i ent0) false, rfl, hlt, ?_⟩
    (conv => whnf)
    rfl
theorem pc_r10disBad (b : BooksT) (o : Okay b) (hI : ∀ i, IG (b.recipes.getD i rec0).gauge) (user seq : Int) (is : Bool) (rr : List Int) (hr : chkB b = true → RefMay b is rr) (h : ¬mrkE b user seq is rr = 0) : PC Tryz.prog 81 [bks b, i64 user, i64 seq, .bool is] (.tup [newB 0, i64 (mrkE b user seq is rr)]) := by
  have c := pc_Valid b o hI
  by_cases hc : chkB b = true
  · rw [hc] at c
    have hr := hr hc
    have s := chk_small hc
    have e := pc_r10entry b o seq
    have hl := o.l
    unfold mrkE at h ⊢
    rw [if_pos hc] at h ⊢
    unfold ixE at e
    unfold mrkI at *
    by_cases ha : b.log.any (isSeq seq) = true
    · rw [if_pos ha] at e
      have hlt : b.log.findIdx (isSeq seq) < b.log.length := fi_lt ha
      generalize b.log.findIdx (isSeq seq) = i at *
      by_cases hu : 0 ≤ user ∧ user ≤ (b.users.length : Int) - 1
      · rw [if_neg (fun q => q ⟨ha, hu⟩)] at h ⊢
        have hm2 := hr user hu.1 (by omega)
        by_cases hmy : mayB rr b.users user = true
        · rw [if_neg (by rw [hmy]; decide)] at h ⊢
          have hd : (b.log.getD i ent0).disputed = is := Decidable.byContradiction fun q => h (if_neg q)
          rw [if_pos hd]
          rw [hmy] at hm2
          cases is with
          | true =>
            have z2 : (b.log[i]'hlt).disputed = true := by have z := hd; simp only [List.getD, List.getElem?_eq_getElem hlt, Option.getD_some] at z; exact z
            clear hm2
            refine pc_of_bodyF hm Tryz.func81 (by kernel_rfl) ?_
            conv => whnf
            (repeat' ((first | refine ansT ?_ | refine ansF ?_ | ((try (refine Or.inl ?_; (conv => whnf))); (try (refine ⟨false, ?_⟩; (conv => whnf))); refine ⟨_, by first | exact c | exact e, ?_⟩) | refine ansD (by first | (simp [*]; done) | omega) ?_ | refine ansN (by first | (simp [*]; done) | omega) ?_ | refine ⟨by kernel_rfl, ?_⟩ | refine ansB (by decide) (by first | decide | (simp; done) | (simp only [List.length_cons, List.length_nil]; decide)) ?_ | fail); (conv => whnf)))
            (repeat' (first | (refine ansS (fun hh => ?_) (fun hh => ?_) <;> (first | simp only [ansX] at hh | skip) <;> (first | (exfalso; omega) | (exfalso; simp [*] at hh; done) | (exfalso; revert hh; decide) | exact absurd (by assumption) hh | (conv => whnf))) | ((first | refine ⟨by kernel_rfl, ?_⟩ | refine ansB (by omega) (by omega) ?_ | refine ansB (by decide) (by decide) ?_ | refine And.intro (a := _ ≤ _) (by omega) ?_ | refine And.intro (a := _ ≠ _) (by omega) ?_ | ((try (refine Or.inl ?_; (conv => whnf))); (try (refine ⟨false, ?_⟩; (conv => whnf))); refine ⟨_, by exact pc_isUser b o _, ?_⟩) | fail); (conv => whnf))))
            all_goals (first | rfl | set_option pp.maxSteps 300 in trace_state)
          | false =>
            have h3 : b.users.getD user.toNat 0 = 3 := by simpa using hm2
            have z2 : (b.log[i]'hlt).disputed = false := by have z := hd; simp only [List.getD, List.getElem?_eq_getElem hlt, Option.getD_some] at z; exact z
            clear hm2
            refine pc_of_bodyF hm Tryz.func81 (by kernel_rfl) ?_
            conv => whnf
            (repeat' ((first | refine ansT ?_ | refine ansF ?_ | ((try (refine Or.inl ?_; (conv => whnf))); (try (refine ⟨false, ?_⟩; (conv => whnf))); refine ⟨_, by first | exact c | exact e, ?_⟩) | refine ansD (by first | (simp [*]; done) | omega) ?_ | refine ansN (by first | (simp [*]; done) | omega) ?_ | refine ⟨by kernel_rfl, ?_⟩ | refine ansB (by decide) (by first | decide | (simp; done) | (simp only [List.length_cons, List.length_nil]; decide)) ?_ | fail); (conv => whnf)))
            (repeat' (first | (refine ansS (fun hh => ?_) (fun hh => ?_) <;> (first | simp only [ansX] at hh | skip) <;> (first | (exfalso; omega) | (exfalso; simp [*] at hh; done) | (exfalso; revert hh; decide) | exact absurd (by assumption) hh | (conv => whnf))) | ((first | refine ⟨by kernel_rfl, ?_⟩ | refine ansB (by omega) (by omega) ?_ | refine ansB (by decide) (by decide) ?_ | refine And.intro (a := _ ≤ _) (by omega) ?_ | refine And.intro (a := _ ≠ _) (by omega) ?_ | ((try (refine Or.inl ?_; (conv => whnf))); (try (refine ⟨false, ?_⟩; (conv => whnf))); refine ⟨_, by exact pc_isUser b o _, ?_⟩) | fail); (conv => whnf))))
            all_goals (first | rfl | set_option pp.maxSteps 300 in trace_state)
        · have hm3 : mayB rr b.users user = false := by simpa using hmy
          rw [if_pos hm3]
          rw [hm3] at hm2
          cases is with
          | true => simp at hm2
          | false =>
            have h3 : ¬b.users.getD user.toNat 0 = 3 := by simpa using hm2
            clear hm2
            refine pc_of_bodyF hm Tryz.func81 (by kernel_rfl) ?_
            conv => whnf
            (repeat' ((first | refine ansT ?_ | refine ansF ?_ | ((try (refine Or.inl ?_; (conv => whnf))); (try (refine ⟨false, ?_⟩; (conv => whnf))); refine ⟨_, by first | exact c | exact e, ?_⟩) | refine ansD (by first | (simp [*]; done) | omega) ?_ | refine ansN (by first | (simp [*]; done) | omega) ?_ | refine ⟨by kernel_rfl, ?_⟩ | refine ansB (by decide) (by first | decide | (simp; done) | (simp only [List.length_cons, List.length_nil]; decide)) ?_ | fail); (conv => whnf)))
            (repeat' (first | (refine ansS (fun hh => ?_) (fun hh => ?_) <;> (first | simp only [ansX] at hh | skip) <;> (first | (exfalso; omega) | (exfalso; simp [*] at hh; done) | (exfalso; revert hh; decide) | exact absurd (by assumption) hh | (conv => whnf))) | ((first | refine ⟨by kernel_rfl, ?_⟩ | refine ansB (by omega) (by omega) ?_ | refine ansB (by decide) (by decide) ?_ | refine And.intro (a := _ ≤ _) (by omega) ?_ | refine And.intro (a := _ ≠ _) (by omega) ?_ | ((try (refine Or.inl ?_; (conv => whnf))); (try (refine ⟨false, ?_⟩; (conv => whnf))); refine ⟨_, by exact pc_isUser b o _, ?_⟩) | fail); (conv => whnf))))
            all_goals (first | rfl | set_option pp.maxSteps 300 in trace_state)
      · rw [if_pos (fun q => hu q.2)]
        refine pc_of_bodyF hm Tryz.func81 (by kernel_rfl) ?_
        conv => whnf
        (repeat' ((first | refine ansT ?_ | refine ansF ?_ | ((try (refine Or.inl ?_; (conv => whnf))); (try (refine ⟨false, ?_⟩; (conv => whnf))); refine ⟨_, by first | exact c | exact e, ?_⟩) | refine ansD (by first | (simp [*]; done) | omega) ?_ | refine ansN (by first | (simp [*]; done) | omega) ?_ | refine ⟨by kernel_rfl, ?_⟩ | refine ansB (by decide) (by first | decide | (simp; done) | (simp only [List.length_cons, List.length_nil]; decide)) ?_ | fail); (conv => whnf)))
        (repeat' (first | (refine ansS (fun hh => ?_) (fun hh => ?_) <;> (first | simp only [ansX] at hh | skip) <;> (first | (exfalso; omega) | (exfalso; simp [*] at hh; done) | (exfalso; revert hh; decide) | exact absurd (by assumption) hh | (conv => whnf))) | ((first | refine ⟨by kernel_rfl, ?_⟩ | refine ansB (by omega) (by omega) ?_ | refine ansB (by decide) (by decide) ?_ | refine And.intro (a := _ ≤ _) (by omega) ?_ | refine And.intro (a := _ ≠ _) (by omega) ?_ | ((try (refine Or.inl ?_; (conv => whnf))); (try (refine ⟨false, ?_⟩; (conv => whnf))); refine ⟨_, by exact pc_isUser b o _, ?_⟩) | fail); (conv => whnf))))
        all_goals (first | rfl | set_option pp.maxSteps 300 in trace_state)
    · rw [if_neg ha] at e
      rw [if_pos (fun q => ha q.1)]
      refine pc_of_bodyF hm Tryz.func81 (by kernel_rfl) ?_
      conv => whnf
      (repeat' ((first | refine ansT ?_ | refine ansF ?_ | ((try (refine Or.inl ?_; (conv => whnf))); (try (refine ⟨false, ?_⟩; (conv => whnf))); refine ⟨_, by first | exact c | exact e, ?_⟩) | refine ansD (by first | (simp [*]; done) | omega) ?_ | refine ansN (by first | (simp [*]; done) | omega) ?_ | refine ⟨by kernel_rfl, ?_⟩ | refine ansB (by decide) (by first | decide | (simp; done) | (simp only [List.length_cons, List.length_nil]; decide)) ?_ | fail); (conv => whnf)))
      (repeat' (first | (refine ansS (fun hh => ?_) (fun hh => ?_) <;> (first | simp only [ansX] at hh | skip) <;> (first | (exfalso; omega) | (exfalso; simp [*] at hh; done) | (exfalso; revert hh; decide) | exact absurd (by assumption) hh | (conv => whnf))) | ((first | refine ⟨by kernel_rfl, ?_⟩ | refine ansB (by omega) (by omega) ?_ | refine ansB (by decide) (by decide) ?_ | refine And.intro (a := _ ≤ _) (by omega) ?_ | refine And.intro (a := _ ≠ _) (by omega) ?_ | ((try (refine Or.inl ?_; (conv => whnf))); (try (refine ⟨false, ?_⟩; (conv => whnf))); refine ⟨_, by exact pc_isUser b o _, ?_⟩) | fail); (conv => whnf))))
      all_goals (first | rfl | set_option pp.maxSteps 300 in trace_state)
  · have hc2 : chkB b = false := by simpa using hc
    unfold mrkE
    rw [if_neg hc]
    rw [hc2] at c
    refine pc_of_bodyF hm Tryz.func81 (by kernel_rfl) ?_
    conv => whnf
    (repeat' ((first | refine ansT ?_ | refine ansF ?_ | ((try (refine Or.inl ?_; (conv => whnf))); (try (refine ⟨false, ?_⟩; (conv => whnf))); refine ⟨_, by exact c, ?_⟩) | refine ansD (by first | (simp [*]; done) | omega) ?_ | refine ansN (by first | (simp [*]; done) | omega) ?_ | refine ⟨by kernel_rfl, ?_⟩ | refine ansB (by decide) (by first | decide | (simp; done) | (simp only [List.length_cons, List.length_nil]; decide)) ?_ | fail); (conv => whnf)))
    first | rfl | set_option pp.maxSteps 300 in trace_state
end Go.Proofs.Tryz.My
set_option maxRecDepth 100000
set_option maxHeartbeats 0
set_option linter.unusedVariables false
set_option linter.unusedSimpArgs false
namespace Go.Proofs.Tryz.My
open Go Go.Ev
theorem pc_r10DisputeOk (b : BooksT) (o : Okay b) (hI : ∀ i, IG (b.recipes.getD i rec0).gauge) (user seq : Int) (h : disE b user seq = 0) : PC Tryz.prog 35 [bks b, i64 user, i64 seq] (.tup [bks (mrkB b seq true), i64 0]) := by
  have c : PC Tryz.prog 81 [bks b, i64 user, i64 seq, .tt] (.tup [bks (mrkB b seq true), i64 0]) := (pc_r10disOk b o hI user seq true [1, 2, 3] refMayT h).tts
  refine pc_of_bodyF hm Tryz.func35 (by kernel_rfl) ?_
  conv => whnf
  (repeat' ((first | refine ansT ?_ | refine ansF ?_ | ((try (refine Or.inl ?_; (conv => whnf))); (try (refine ⟨false, ?_⟩; (conv => whnf))); refine ⟨_, by exact c, ?_⟩) | refine ansD (by first | (simp [*]; done) | omega) ?_ | refine ansN (by first | (simp [*]; done) | omega) ?_ | refine ⟨by kernel_rfl, ?_⟩ | refine ansB (by decide) (by first | decide | (simp; done) | (simp only [List.length_cons, List.length_nil]; decide)) ?_ | fail); (conv => whnf)))
  all_goals (first | rfl | set_option pp.maxSteps 300 in trace_state)
theorem pc_r10DisputeBad (b : BooksT) (o : Okay b) (hI : ∀ i, IG (b.recipes.getD i rec0).gauge) (user seq : Int) (h : ¬disE b user seq = 0) : PC Tryz.prog 35 [bks b, i64 user, i64 seq] (.tup [newB 0, i64 (disE b user seq)]) := by
  have c : PC Tryz.prog 81 [bks b, i64 user, i64 seq, .tt] (.tup [newB 0, i64 (mrkE b user seq true [1, 2, 3])]) := (pc_r10disBad b o hI user seq true [1, 2, 3] refMayT h).tts
  refine pc_of_bodyF hm Tryz.func35 (by kernel_rfl) ?_
  conv => whnf
  (repeat' ((first | refine ansT ?_ | refine ansF ?_ | ((try (refine Or.inl ?_; (conv => whnf))); (try (refine ⟨false, ?_⟩; (conv => whnf))); refine ⟨_, by exact c, ?_⟩) | refine ansD (by first | (simp [*]; done) | omega) ?_ | refine ansN (by first | (simp [*]; done) | omega) ?_ | refine ⟨by kernel_rfl, ?_⟩ | refine ansB (by decide) (by first | decide | (simp; done) | (simp only [List.length_cons, List.length_nil]; decide)) ?_ | fail); (conv => whnf)))
  all_goals (first | rfl | set_option pp.maxSteps 300 in trace_state)
theorem pc_r10SettleOk (b : BooksT) (o : Okay b) (hI : ∀ i, IG (b.recipes.getD i rec0).gauge) (user seq : Int) (h : setE b user seq = 0) : PC Tryz.prog 37 [bks b, i64 user, i64 seq] (.tup [bks (mrkB b seq false), i64 0]) := by
  have c : PC Tryz.prog 81 [bks b, i64 user, i64 seq, .ff] (.tup [bks (mrkB b seq false), i64 0]) := (pc_r10disOk b o hI user seq false [3] (fun _ => refMayF b) h).tts
  refine pc_of_bodyF hm Tryz.func37 (by kernel_rfl) ?_
  conv => whnf
  (repeat' ((first | refine ansT ?_ | refine ansF ?_ | ((try (refine Or.inl ?_; (conv => whnf))); (try (refine ⟨false, ?_⟩; (conv => whnf))); refine ⟨_, by exact c, ?_⟩) | refine ansD (by first | (simp [*]; done) | omega) ?_ | refine ansN (by first | (simp [*]; done) | omega) ?_ | refine ⟨by kernel_rfl, ?_⟩ | refine ansB (by decide) (by first | decide | (simp; done) | (simp only [List.length_cons, List.length_nil]; decide)) ?_ | fail); (conv => whnf)))
  all_goals (first | rfl | set_option pp.maxSteps 300 in trace_state)
theorem pc_r10SettleBad (b : BooksT) (o : Okay b) (hI : ∀ i, IG (b.recipes.getD i rec0).gauge) (user seq : Int) (h : ¬setE b user seq = 0) : PC Tryz.prog 37 [bks b, i64 user, i64 seq] (.tup [newB 0, i64 (setE b user seq)]) := by
  have c : PC Tryz.prog 81 [bks b, i64 user, i64 seq, .ff] (.tup [newB 0, i64 (mrkE b user seq false [3])]) := (pc_r10disBad b o hI user seq false [3] (fun _ => refMayF b) h).tts
  refine pc_of_bodyF hm Tryz.func37 (by kernel_rfl) ?_
  conv => whnf
  (repeat' ((first | refine ansT ?_ | refine ansF ?_ | ((try (refine Or.inl ?_; (conv => whnf))); (try (refine ⟨false, ?_⟩; (conv => whnf))); refine ⟨_, by exact c, ?_⟩) | refine ansD (by first | (simp [*]; done) | omega) ?_ | refine ansN (by first | (simp [*]; done) | omega) ?_ | refine ⟨by kernel_rfl, ?_⟩ | refine ansB (by decide) (by first | decide | (simp; done) | (simp only [List.length_cons, List.length_nil]; decide)) ?_ | fail); (conv => whnf)))
  all_goals (first | rfl | set_option pp.maxSteps 300 in trace_state)
theorem pc_r10Replay (b : BooksT) (o : Okay b) (hI : ∀ i, IG (b.recipes.getD i rec0).gauge) (seq : Int) : PC Tryz.prog 39 [bks b, i64 seq] (.tup [u8 (repV b seq), i64 (repE b seq)]) := by
  have c := pc_Valid b o hI
  unfold repV repE
  by_cases hc : chkB b = true
  · rw [if_pos hc, if_pos hc]
    rw [hc] at c
    have e := pc_r10entry b o seq
    have hl := o.l
    unfold ixE at e
    unfold mrkI
    by_cases ha : b.log.any (isSeq seq) = true
    · rw [if_pos ha] at e
      rw [if_pos ha, if_pos ha]
      have hlt : b.log.findIdx (isSeq seq) < b.log.length := fi_lt ha
      generalize b.log.findIdx (isSeq seq) = i at *
      obtain ⟨hr, hm0, hv⟩ := chk_log hc _ hlt
      have j := pc_Judged (b.recipes.getD (b.log.getD i ent0).recipe.toNat rec0).gauge (b.log.getD i ent0).profile (hI _) (lt40 (o.p i))
      rw [hv] at j
      have hr2 : 0 ≤ (b.log.getD (Int.toNat (i : Int)) ent0).recipe ∧ (b.log.getD (Int.toNat (i : Int)) ent0).recipe ≤ (b.recipes.length : Int) - 1 := hr
      refine pc_of_bodyF hm Tryz.func39 (by kernel_rfl) ?_
      conv => whnf
      (repeat' ((first | refine ansT ?_ | refine ansF ?_ | ((try (refine Or.inl ?_; (conv => whnf))); (try (refine ⟨false, ?_⟩; (conv => whnf))); refine ⟨_, by first | exact c | exact e, ?_⟩) | refine ansD (by first | (simp [*]; done) | omega) ?_ | refine ansN (by first | (simp [*]; done) | omega) ?_ | refine ⟨by kernel_rfl, ?_⟩ | refine ansB (by decide) (by first | decide | (simp; done) | (simp only [List.length_cons, List.length_nil]; decide)) ?_ | fail); (conv => whnf)))
      (repeat' (first | (refine ansS (fun hh => ?_) (fun hh => ?_) <;> (first | simp only [ansX] at hh | skip) <;> (first | (exfalso; omega) | (exfalso; simp [*] at hh; done) | (exfalso; revert hh; decide) | exact absurd (by assumption) hh | (conv => whnf))) | ((first | refine ⟨by kernel_rfl, ?_⟩ | refine ansB (by omega) (by omega) ?_ | refine ansB (by decide) (by decide) ?_ | refine And.intro (a := _ ≤ _) (by omega) ?_ | refine And.intro (a := _ ≠ _) (by omega) ?_ | ((try (refine Or.inl ?_; (conv => whnf))); (try (refine ⟨false, ?_⟩; (conv => whnf))); refine ⟨_, by exact j, ?_⟩) | fail); (conv => whnf))))
      all_goals (first | rfl | set_option pp.maxSteps 300 in trace_state)
    · rw [if_neg ha] at e
      rw [if_neg ha, if_neg ha]
      refine pc_of_bodyF hm Tryz.func39 (by kernel_rfl) ?_
      conv => whnf
      (repeat' ((first | refine ansT ?_ | refine ansF ?_ | ((try (refine Or.inl ?_; (conv => whnf))); (try (refine ⟨false, ?_⟩; (conv => whnf))); refine ⟨_, by first | exact c | exact e, ?_⟩) | refine ansD (by first | (simp [*]; done) | omega) ?_ | refine ansN (by first | (simp [*]; done) | omega) ?_ | refine ⟨by kernel_rfl, ?_⟩ | refine ansB (by decide) (by first | decide | (simp; done) | (simp only [List.length_cons, List.length_nil]; decide)) ?_ | fail); (conv => whnf)))
      (repeat' (first | (refine ansS (fun hh => ?_) (fun hh => ?_) <;> (first | simp only [ansX] at hh | skip) <;> (first | (exfalso; omega) | (exfalso; simp [*] at hh; done) | (exfalso; revert hh; decide) | exact absurd (by assumption) hh | (conv => whnf))) | ((first | refine ⟨by kernel_rfl, ?_⟩ | refine ansB (by omega) (by omega) ?_ | refine ansB (by decide) (by decide) ?_ | refine And.intro (a := _ ≤ _) (by omega) ?_ | refine And.intro (a := _ ≠ _) (by omega) ?_ | fail); (conv => whnf))))
      all_goals (first | rfl | set_option pp.maxSteps 300 in trace_state)
  · have hc2 : chkB b = false := by simpa using hc
    rw [if_neg hc, if_neg hc]
    rw [hc2] at c
    refine pc_of_bodyF hm Tryz.func39 (by kernel_rfl) ?_
    conv => whnf
    (repeat' ((first | refine ansT ?_ | refine ansF ?_ | ((try (refine Or.inl ?_; (conv => whnf))); (try (refine ⟨false, ?_⟩; (conv => whnf))); refine ⟨_, by exact c, ?_⟩) | refine ansD (by first | (simp [*]; done) | omega) ?_ | refine ansN (by first | (simp [*]; done) | omega) ?_ | refine ⟨by kernel_rfl, ?_⟩ | refine ansB (by decide) (by first | decide | (simp; done) | (simp only [List.length_cons, List.length_nil]; decide)) ?_ | fail); (conv => whnf)))
    first | rfl | set_option pp.maxSteps 300 in trace_state
end Go.Proofs.Tryz.My
