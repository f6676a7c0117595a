/- A helper text: contracts of functions of the program, and plain lemmas. -/
import Derived.Test.YtdpnpdjnaimgaaaGreatEvSix
import Derived.Test.YtdpnpdjnaimgaaaGreatMzBkB
import Derived.Test.YtdpnpdjnaimgaaaGreatMzBk1
import Derived.Test.YtdpnpdjnaimgaaaGreatMzBkA
set_option maxRecDepth 100000
set_option maxHeartbeats 0
set_option linter.unusedVariables false
set_option linter.unusedSimpArgs false
namespace Go.Proofs.Tryz.My
open Go Go.Ev
abbrev rcp (x : RecT) : AV := .agg (eRec x)
abbrev ent (s : EntT) : AV := .agg (eEnt s)
def eqF {α : Type} (p : α → α → Bool) (d : α) (l m : List α) : Bool := decide ((l.length : Int) = m.length) && (List.range l.length).all fun i => p (l.getD i d) (m.getD i d)
theorem eqF_len {α : Type} {p : α → α → Bool} {d : α} {l m : List α} (h : ¬(l.length : Int) = m.length) : false = eqF p d l m := by
  unfold eqF
  rw [decide_eq_false h, Bool.false_and]
theorem eqF_bad {α : Type} {p : α → α → Bool} {d : α} {l m : List α} {i : Nat} (hi : i < l.length) (h : p (l.getD i d) (m.getD i d) = false) : false = eqF p d l m := by
  unfold eqF
  rw [all_range_bad hi h, Bool.and_false]
theorem eqF_ok {α : Type} {p : α → α → Bool} {d : α} {l m : List α} (hl : (l.length : Int) = m.length) (h : ∀ i, i < l.length → p (l.getD i d) (m.getD i d) = true) : true = eqF p d l m := by
  unfold eqF
  rw [decide_eq_true hl, all_range.2 h, Bool.true_and]
theorem eqF_refl {α : Type} {p : α → α → Bool} {d : α} (h : ∀ x, p x x = true) (l : List α) : eqF p d l l = true := (eqF_ok rfl fun i _ => h _).symm
def eqI (l m : List Int) : Bool := eqF (fun a b => decide (a = b)) 0 l m
theorem pc_sameInts (l m : List Int) (hl : l.length < 2 ^ 40) (hl2 : m.length < 2 ^ 40) : PC Tryz.prog 111 [ints l, ints m] (.bool (eqI l m)) := by
  unfold eqI
  refine pc_of_bodyF hm Tryz.func111 (by kernel_rfl) ?_
  conv => whnf
  refine ⟨fun h0 => ?_, fun h0 => ?_⟩
  · have h0 : ¬(l.length : Int) = m.length := by simpa using h0
    (conv => whnf)
    exact congrArg AV.bool (eqF_len h0)
  have h0 : (l.length : Int) = m.length := by simpa using h0
  (conv => whnf)
  refine Or.inr ⟨Nat, [5], [], [], fun k => [i64 k], fun _ => [], fun _ => [], fun k => l.length - k, fun k => k ≤ l.length ∧ ∀ i, i < k → (fun a b => decide (a = b)) (l.getD i 0) (m.getD i 0) = true, ?_⟩
  (conv => whnf)
  refine ⟨⟨0, ?_⟩, ?_⟩
  · (conv => whnf)
    exact ⟨⟨⟨Nat.zero_le _, fun i hi => absurd hi (Nat.not_lt_zero i)⟩, rfl, rfl, rfl⟩, by kernel_rfl, by kernel_rfl⟩
  · intro k hk
    (conv => whnf)
    refine ⟨fun h => ?_, fun h => ?_⟩
    · have h := of_decide_eq_true h
      have hkk : k < l.length := by omega
      (repeat' (first | (refine ansS (fun hh => ?_) (fun hh => ?_) <;> (first | simp only [ansX] at hh | skip) <;> (first | (exfalso; omega) | (exfalso; simp [*] at hh; done) | (exfalso; revert hh; decide) | exact absurd (by assumption) hh | (conv => whnf))) | ((first | refine ⟨by kernel_rfl, ?_⟩ | refine ansB (by omega) (by omega) ?_ | refine ansB (by decide) (by decide) ?_ | refine And.intro (a := _ ≤ _) (by omega) ?_ | refine And.intro (a := _ ≠ _) (by omega) ?_ | fail); (conv => whnf))))
      · exact congrArg AV.bool (eqF_bad (p := fun a b => decide (a = b)) (d := 0) hkk (decide_eq_false (by assumption)))
      · refine ⟨k + 1, ?_⟩
        (conv => whnf)
        refine ⟨⟨⟨?_, ?_, ?_⟩, ?_, rfl, rfl⟩, by kernel_rfl, by kernel_rfl⟩
        · show l.length - (k + 1) < l.length - k; omega
        · omega
        · intro i hi
          by_cases e : i = k
          · subst e; exact decide_eq_true (by assumption)
          · exact hk.2 i (by omega)
        · rw [w64 _ (by omega) (by omega)]; rfl
    · have h := of_decide_eq_false h
      (conv => whnf)
      exact congrArg AV.bool (eqF_ok h0 fun i hi => hk.2 i (by omega))
theorem pc_EqInt (l m : List Int) (hl : l.length < 2 ^ 40) (hl2 : m.length < 2 ^ 40) : PC Tryz.prog 100 [ints l, ints m] (.bool (eqI l m)) := by
  unfold eqI
  refine pc_of_bodyF hm Tryz.func100 (by kernel_rfl) ?_
  conv => whnf
  refine ⟨fun h0 => ?_, fun h0 => ?_⟩
  · have h0 : ¬(l.length : Int) = m.length := by simpa using h0
    (conv => whnf)
    exact congrArg AV.bool (eqF_len h0)
  have h0 : (l.length : Int) = m.length := by simpa using h0
  (conv => whnf)
  refine Or.inr ⟨Nat, [13], [], [], fun k => [i64 k], fun _ => [], fun _ => [], fun k => l.length - k, fun k => k ≤ l.length ∧ ∀ i, i < k → (fun a b => decide (a = b)) (l.getD i 0) (m.getD i 0) = true, ?_⟩
  (conv => whnf)
  refine ⟨⟨0, ?_⟩, ?_⟩
  · (conv => whnf)
    exact ⟨⟨⟨Nat.zero_le _, fun i hi => absurd hi (Nat.not_lt_zero i)⟩, rfl, rfl, rfl⟩, by kernel_rfl, by kernel_rfl⟩
  · intro k hk
    (conv => whnf)
    refine ⟨fun h => ?_, fun h => ?_⟩
    · have h := of_decide_eq_true h
      have hkk : k < l.length := by omega
      (repeat' (first | (refine ansS (fun hh => ?_) (fun hh => ?_) <;> (first | simp only [ansX] at hh | skip) <;> (first | (exfalso; omega) | (exfalso; simp [*] at hh; done) | (exfalso; revert hh; decide) | exact absurd (by assumption) hh | (conv => whnf))) | ((first | refine ⟨by kernel_rfl, ?_⟩ | refine ansB (by omega) (by omega) ?_ | refine ansB (by decide) (by decide) ?_ | refine And.intro (a := _ ≤ _) (by omega) ?_ | refine And.intro (a := _ ≠ _) (by omega) ?_ | fail); (conv => whnf))))
      · exact congrArg AV.bool (eqF_bad (p := fun a b => decide (a = b)) (d := 0) hkk (decide_eq_false (by assumption)))
      · refine ⟨k + 1, ?_⟩
        (conv => whnf)
        refine ⟨⟨⟨?_, ?_, ?_⟩, ?_, rfl, rfl⟩, by kernel_rfl, by kernel_rfl⟩
        · show l.length - (k + 1) < l.length - k; omega
        · omega
        · intro i hi
          by_cases e : i = k
          · subst e; exact decide_eq_true (by assumption)
          · exact hk.2 i (by omega)
        · rw [w64 _ (by omega) (by omega)]; rfl
    · have h := of_decide_eq_false h
      (conv => whnf)
      exact congrArg AV.bool (eqF_ok h0 fun i hi => hk.2 i (by omega))
theorem pc_EqU8 (l m : List Int) (hl : l.length < 2 ^ 40) (hl2 : m.length < 2 ^ 40) : PC Tryz.prog 102 [u8l l, u8l m] (.bool (eqI l m)) := by
  unfold eqI
  refine pc_of_bodyF hm Tryz.func102 (by kernel_rfl) ?_
  conv => whnf
  refine ⟨fun h0 => ?_, fun h0 => ?_⟩
  · have h0 : ¬(l.length : Int) = m.length := by simpa using h0
    (conv => whnf)
    exact congrArg AV.bool (eqF_len h0)
  have h0 : (l.length : Int) = m.length := by simpa using h0
  (conv => whnf)
  refine Or.inr ⟨Nat, [13], [], [], fun k => [i64 k], fun _ => [], fun _ => [], fun k => l.length - k, fun k => k ≤ l.length ∧ ∀ i, i < k → (fun a b => decide (a = b)) (l.getD i 0) (m.getD i 0) = true, ?_⟩
  (conv => whnf)
  refine ⟨⟨0, ?_⟩, ?_⟩
  · (conv => whnf)
    exact ⟨⟨⟨Nat.zero_le _, fun i hi => absurd hi (Nat.not_lt_zero i)⟩, rfl, rfl, rfl⟩, by kernel_rfl, by kernel_rfl⟩
  · intro k hk
    (conv => whnf)
    refine ⟨fun h => ?_, fun h => ?_⟩
    · have h := of_decide_eq_true h
      have hkk : k < l.length := by omega
      (repeat' (first | (refine ansS (fun hh => ?_) (fun hh => ?_) <;> (first | simp only [ansX] at hh | skip) <;> (first | (exfalso; omega) | (exfalso; simp [*] at hh; done) | (exfalso; revert hh; decide) | exact absurd (by assumption) hh | (conv => whnf))) | ((first | refine ⟨by kernel_rfl, ?_⟩ | refine ansB (by omega) (by omega) ?_ | refine ansB (by decide) (by decide) ?_ | refine And.intro (a := _ ≤ _) (by omega) ?_ | refine And.intro (a := _ ≠ _) (by omega) ?_ | fail); (conv => whnf))))
      · exact congrArg AV.bool (eqF_bad (p := fun a b => decide (a = b)) (d := 0) hkk (decide_eq_false (by assumption)))
      · refine ⟨k + 1, ?_⟩
        (conv => whnf)
        refine ⟨⟨⟨?_, ?_, ?_⟩, ?_, rfl, rfl⟩, by kernel_rfl, by kernel_rfl⟩
        · show l.length - (k + 1) < l.length - k; omega
        · omega
        · intro i hi
          by_cases e : i = k
          · subst e; exact decide_eq_true (by assumption)
          · exact hk.2 i (by omega)
        · rw [w64 _ (by omega) (by omega)]; rfl
    · have h := of_decide_eq_false h
      (conv => whnf)
      exact congrArg AV.bool (eqF_ok h0 fun i hi => hk.2 i (by omega))
def sameG (g h : GauT) : Prop := gThr g = gThr h ∧ gNoi g = gNoi h ∧ (gSc g).1.1 = (gSc h).1.1 ∧ (gSc g).1.2 = (gSc h).1.2 ∧ (gSc g).2.1 = (gSc h).2.1 ∧ (gSc g).2.2 = (gSc h).2.2 ∧ g.1.2.1 = h.1.2.1 ∧ g.1.2.2 = h.1.2.2 ∧ g.2.1 = h.2.1 ∧ g.2.2 = h.2.2
instance (g h : GauT) : Decidable (sameG g h) := by unfold sameG; infer_instance
def sameR (x y : RecT) : Bool := decide (x.author = y.author) && (decide (sameG x.gauge y.gauge) && (decide (x.state = y.state) && eqI x.appr y.appr))
def sameE (x y : EntT) : Bool := decide (x.seq = y.seq) && (decide (x.recipe = y.recipe) && (decide (x.part = y.part) && (decide (x.verdict = y.verdict) && ((x.disputed == y.disputed) && eqI x.profile y.profile))))
theorem sameR_iff {x y : RecT} : sameR x y = true ↔ x.author = y.author ∧ sameG x.gauge y.gauge ∧ x.state = y.state ∧ eqI x.appr y.appr = true := by
  simp only [sameR, Bool.and_eq_true, decide_eq_true_eq]
theorem sameE_iff {x y : EntT} : sameE x y = true ↔ x.seq = y.seq ∧ x.recipe = y.recipe ∧ x.part = y.part ∧ x.verdict = y.verdict ∧ (x.disputed == y.disputed) = true ∧ eqI x.profile y.profile = true := by
  simp only [sameE, Bool.and_eq_true, decide_eq_true_eq]
theorem sameR_refl (x : RecT) : sameR x x = true := sameR_iff.2 ⟨rfl, by unfold sameG; simp, rfl, eqF_refl (p := fun a b => decide (a = b)) (d := (0 : Int)) (fun _ => decide_eq_true rfl) _⟩
theorem sameE_refl (x : EntT) : sameE x x = true := sameE_iff.2 ⟨rfl, rfl, rfl, rfl, by simp, eqF_refl (p := fun a b => decide (a = b)) (d := (0 : Int)) (fun _ => decide_eq_true rfl) _⟩
theorem pc_Same1 (x y : RecT) (hx : x.appr.length < 2 ^ 40) (hy : y.appr.length < 2 ^ 40) : PC Tryz.prog 99 [rcp x, rcp y] (.bool (sameR x y)) := by
  refine pc_of_bodyF hm Tryz.func99 (by kernel_rfl) ?_
  conv => whnf
  (repeat' (first | (refine ansS (fun hh => ?_) (fun hh => ?_) <;> (first | simp only [ansX] at hh | skip) <;> (first | (exfalso; omega) | (exfalso; simp [*] at hh; done) | (exfalso; revert hh; decide) | exact absurd (by assumption) hh | (conv => whnf))) | ((first | refine ⟨by kernel_rfl, ?_⟩ | refine ansB (by omega) (by omega) ?_ | refine ansB (by decide) (by decide) ?_ | refine And.intro (a := _ ≤ _) (by omega) ?_ | refine And.intro (a := _ ≠ _) (by omega) ?_ | ((try (refine Or.inl ?_; (conv => whnf))); (try (refine ⟨false, ?_⟩; (conv => whnf))); refine ⟨_, by exact pc_EqInt _ _ hx hy, ?_⟩) | fail); (conv => whnf))))
  all_goals first
    | (refine congrArg AV.bool (Eq.symm (Bool.eq_false_iff.2 fun q => ?_)); have q := sameR_iff.1 q; unfold sameG at q; (try simp only [reduceCtorEq, or_false, and_true, Bool.true_eq_false] at *); omega)
    | (refine congrArg AV.bool ?_; rw [Bool.eq_iff_iff, sameR_iff]; unfold sameG; exact ⟨fun q => ⟨by omega, by omega, by omega, q⟩, fun q => q.2.2.2⟩)
    | set_option pp.maxSteps 300 in trace_state
theorem pc_Same2 (x y : EntT) (hx : x.profile.length < 2 ^ 40) (hy : y.profile.length < 2 ^ 40) : PC Tryz.prog 101 [ent x, ent y] (.bool (sameE x y)) := by
  refine pc_of_bodyF hm Tryz.func101 (by kernel_rfl) ?_
  conv => whnf
  (repeat' (first | (refine ansS (fun hh => ?_) (fun hh => ?_) <;> (first | simp only [ansX] at hh | skip) <;> (first | (exfalso; omega) | (exfalso; simp [*] at hh; done) | (exfalso; revert hh; decide) | exact absurd (by assumption) hh | (conv => whnf))) | ((first | refine ⟨by kernel_rfl, ?_⟩ | refine ansB (by omega) (by omega) ?_ | refine ansB (by decide) (by decide) ?_ | refine And.intro (a := _ ≤ _) (by omega) ?_ | refine And.intro (a := _ ≠ _) (by omega) ?_ | ((try (refine Or.inl ?_; (conv => whnf))); (try (refine ⟨false, ?_⟩; (conv => whnf))); refine ⟨_, by exact pc_EqInt _ _ hx hy, ?_⟩) | fail); (conv => whnf))))
  all_goals first
    | (refine congrArg AV.bool (Eq.symm (Bool.eq_false_iff.2 fun q => ?_)); have q := sameE_iff.1 q; first | omega | exact Bool.noConfusion (q.2.2.2.2.1.symm.trans (by assumption)) | exact Bool.noConfusion (q.2.2.2.2.2.symm.trans (by assumption)))
    | (refine congrArg AV.bool ?_; rw [Bool.eq_iff_iff, sameE_iff]; exact ⟨fun q => ⟨by omega, by omega, by omega, by omega, by assumption, by assumption⟩, fun q => by first | exact q.2.2.2.2.2 | exact q.2.2.2.2.1⟩)
    | set_option pp.maxSteps 300 in trace_state
theorem pc_SameEntry (x y : EntT) (hx : x.profile.length < 2 ^ 40) (hy : y.profile.length < 2 ^ 40) : PC Tryz.prog 112 [ent x, ent y] (.bool (sameE x y)) := by
  refine pc_of_bodyF hm Tryz.func112 (by kernel_rfl) ?_
  conv => whnf
  (repeat' (first | (refine ansS (fun hh => ?_) (fun hh => ?_) <;> (first | simp only [ansX] at hh | skip) <;> (first | (exfalso; omega) | (exfalso; simp [*] at hh; done) | (exfalso; revert hh; decide) | exact absurd (by assumption) hh | (conv => whnf))) | ((first | refine ⟨by kernel_rfl, ?_⟩ | refine ansB (by omega) (by omega) ?_ | refine ansB (by decide) (by decide) ?_ | refine And.intro (a := _ ≤ _) (by omega) ?_ | refine And.intro (a := _ ≠ _) (by omega) ?_ | ((try (refine Or.inl ?_; (conv => whnf))); (try (refine ⟨false, ?_⟩; (conv => whnf))); refine ⟨_, by exact pc_sameInts _ _ hx hy, ?_⟩) | fail); (conv => whnf))))
  all_goals first
    | (refine congrArg AV.bool (Eq.symm (Bool.eq_false_iff.2 fun q => ?_)); have q := sameE_iff.1 q; first | omega | exact Bool.noConfusion (q.2.2.2.2.1.symm.trans (by assumption)) | exact Bool.noConfusion (q.2.2.2.2.2.symm.trans (by assumption)))
    | (refine congrArg AV.bool ?_; rw [Bool.eq_iff_iff, sameE_iff]; exact ⟨fun q => ⟨by omega, by omega, by omega, by omega, by assumption, by assumption⟩, fun q => by first | exact q.2.2.2.2.2 | exact q.2.2.2.2.1⟩)
    | set_option pp.maxSteps 300 in trace_state
end Go.Proofs.Tryz.My
set_option maxRecDepth 100000
set_option maxHeartbeats 0
set_option linter.unusedVariables false
set_option linter.unusedSimpArgs false
namespace Go.Proofs.Tryz.My
open Go Go.Ev
theorem pc_EqRec (fid : Nat) (p : RecT → RecT → Bool) (l m : List RecT) (hl : l.length < 2 ^ 40) (hp : ∀ i, PC Tryz.prog fid [rcp (l.getD i rec0), rcp (m.getD i rec0)] (.bool (p (l.getD i rec0) (m.getD i rec0)))) :
    PC Tryz.prog 103 [recs l, recs m, .fn (.func fid) [] []] (.bool (eqF p rec0 l m)) := by
  refine pc_of_bodyF hm Tryz.func103 (by kernel_rfl) ?_
  conv => whnf
  refine ⟨fun h0 => ?_, fun h0 => ?_⟩
  · have h0 : ¬(l.length : Int) = m.length := by simpa using h0
    (conv => whnf)
    exact congrArg AV.bool (eqF_len h0)
  have h0 : (l.length : Int) = m.length := by simpa using h0
  (conv => whnf)
  refine Or.inr ⟨Nat, [17], [], [], fun k => [i64 k], fun _ => [], fun _ => [], fun k => l.length - k, fun k => k ≤ l.length ∧ ∀ i, i < k → p (l.getD i rec0) (m.getD i rec0) = true, ?_⟩
  (conv => whnf)
  refine ⟨⟨0, ?_⟩, ?_⟩
  · (conv => whnf)
    exact ⟨⟨⟨Nat.zero_le _, fun i hi => absurd hi (Nat.not_lt_zero i)⟩, rfl, rfl, rfl⟩, by kernel_rfl, by kernel_rfl⟩
  · intro k hk
    (conv => whnf)
    refine ⟨fun h => ?_, fun h => ?_⟩
    · have h := of_decide_eq_true h
      have hkk : k < l.length := by omega
      (repeat' (first | (refine ansS (fun hh => ?_) (fun hh => ?_) <;> (first | simp only [ansX] at hh | skip) <;> (first | (exfalso; omega) | (exfalso; simp [*] at hh; done) | (exfalso; revert hh; decide) | exact absurd (by assumption) hh | (conv => whnf))) | ((first | refine ⟨by kernel_rfl, ?_⟩ | refine ansB (by omega) (by omega) ?_ | refine ansB (by decide) (by decide) ?_ | refine And.intro (a := _ ≤ _) (by omega) ?_ | refine And.intro (a := _ ≠ _) (by omega) ?_ | ((try (refine Or.inl ?_; (conv => whnf))); (try (refine ⟨false, ?_⟩; (conv => whnf))); refine ⟨_, by exact hp _, ?_⟩) | fail); (conv => whnf))))
      · exact congrArg AV.bool (eqF_bad hkk (by assumption))
      · refine ⟨k + 1, ?_⟩
        (conv => whnf)
        refine ⟨⟨⟨?_, ?_, ?_⟩, ?_, rfl, rfl⟩, by kernel_rfl, by kernel_rfl⟩
        · show l.length - (k + 1) < l.length - k; omega
        · omega
        · intro i hi
          by_cases e : i = k
          · subst e; assumption
          · exact hk.2 i (by omega)
        · rw [w64 _ (by omega) (by omega)]; rfl
    · have h := of_decide_eq_false h
      (conv => whnf)
      exact congrArg AV.bool (eqF_ok h0 fun i hi => hk.2 i (by omega))
theorem pc_EqEnt (fid : Nat) (p : EntT → EntT → Bool) (l m : List EntT) (hl : l.length < 2 ^ 40) (hp : ∀ i, PC Tryz.prog fid [ent (l.getD i ent0), ent (m.getD i ent0)] (.bool (p (l.getD i ent0) (m.getD i ent0)))) :
    PC Tryz.prog 104 [ents l, ents m, .fn (.func fid) [] []] (.bool (eqF p ent0 l m)) := by
  refine pc_of_bodyF hm Tryz.func104 (by kernel_rfl) ?_
  conv => whnf
  refine ⟨fun h0 => ?_, fun h0 => ?_⟩
  · have h0 : ¬(l.length : Int) = m.length := by simpa using h0
    (conv => whnf)
    exact congrArg AV.bool (eqF_len h0)
  have h0 : (l.length : Int) = m.length := by simpa using h0
  (conv => whnf)
  refine Or.inr ⟨Nat, [17], [], [], fun k => [i64 k], fun _ => [], fun _ => [], fun k => l.length - k, fun k => k ≤ l.length ∧ ∀ i, i < k → p (l.getD i ent0) (m.getD i ent0) = true, ?_⟩
  (conv => whnf)
  refine ⟨⟨0, ?_⟩, ?_⟩
  · (conv => whnf)
    exact ⟨⟨⟨Nat.zero_le _, fun i hi => absurd hi (Nat.not_lt_zero i)⟩, rfl, rfl, rfl⟩, by kernel_rfl, by kernel_rfl⟩
  · intro k hk
    (conv => whnf)
    refine ⟨fun h => ?_, fun h => ?_⟩
    · have h := of_decide_eq_true h
      have hkk : k < l.length := by omega
      (repeat' (first | (refine ansS (fun hh => ?_) (fun hh => ?_) <;> (first | simp only [ansX] at hh | skip) <;> (first | (exfalso; omega) | (exfalso; simp [*] at hh; done) | (exfalso; revert hh; decide) | exact absurd (by assumption) hh | (conv => whnf))) | ((first | refine ⟨by kernel_rfl, ?_⟩ | refine ansB (by omega) (by omega) ?_ | refine ansB (by decide) (by decide) ?_ | refine And.intro (a := _ ≤ _) (by omega) ?_ | refine And.intro (a := _ ≠ _) (by omega) ?_ | ((try (refine Or.inl ?_; (conv => whnf))); (try (refine ⟨false, ?_⟩; (conv => whnf))); refine ⟨_, by exact hp _, ?_⟩) | fail); (conv => whnf))))
      · exact congrArg AV.bool (eqF_bad hkk (by assumption))
      · refine ⟨k + 1, ?_⟩
        (conv => whnf)
        refine ⟨⟨⟨?_, ?_, ?_⟩, ?_, rfl, rfl⟩, by kernel_rfl, by kernel_rfl⟩
        · show l.length - (k + 1) < l.length - k; omega
        · omega
        · intro i hi
          by_cases e : i = k
          · subst e; assumption
          · exact hk.2 i (by omega)
        · rw [w64 _ (by omega) (by omega)]; rfl
    · have h := of_decide_eq_false h
      (conv => whnf)
      exact congrArg AV.bool (eqF_ok h0 fun i hi => hk.2 i (by omega))
def sameB (b c : BooksT) : Bool := decide (b.keep = c.keep) && (decide (b.next = c.next) && (eqI b.users c.users && (eqF sameR rec0 b.recipes c.recipes && eqF sameE ent0 b.log c.log)))
theorem sameB_refl (b : BooksT) : sameB b b = true := by
  unfold sameB eqI
  rw [eqF_refl (p := fun a b => decide (a = b)) (d := (0 : Int)) (fun _ => decide_eq_true rfl), eqF_refl sameR_refl, eqF_refl sameE_refl, decide_eq_true rfl, decide_eq_true rfl]; rfl
theorem sameB_iff {b c : BooksT} : sameB b c = true ↔ b.keep = c.keep ∧ b.next = c.next ∧ eqI b.users c.users = true ∧ eqF sameR rec0 b.recipes c.recipes = true ∧ eqF sameE ent0 b.log c.log = true := by
  simp only [sameB, Bool.and_eq_true, decide_eq_true_eq]
theorem pc_BSame (b c : BooksT) (o : Okay b) (o' : Okay c) : PC Tryz.prog 52 [bks b, bks c] (.bool (sameB b c)) := by
  have c1 := pc_EqU8 b.users c.users (lt40 o.u) (lt40 o'.u)
  have c2 := pc_EqRec 99 sameR b.recipes c.recipes (lt40 o.r) fun i => pc_Same1 _ _ (lt40 (o.a i)) (lt40 (o'.a i))
  have c3 := pc_EqEnt 101 sameE b.log c.log (lt40 o.l) fun i => pc_Same2 _ _ (lt40 (o.p i)) (lt40 (o'.p i))
  refine pc_of_bodyF hm Tryz.func52 (by kernel_rfl) ?_
  conv => whnf
  (repeat' (first | (refine ansS (fun hh => ?_) (fun hh => ?_) <;> (first | simp only [ansX] at hh | skip) <;> (first | (exfalso; omega) | (exfalso; simp [*] at hh; done) | (exfalso; revert hh; decide) | exact absurd (by assumption) hh | (conv => whnf))) | ((first | refine ⟨by kernel_rfl, ?_⟩ | refine ansB (by omega) (by omega) ?_ | refine ansB (by decide) (by decide) ?_ | refine And.intro (a := _ ≤ _) (by omega) ?_ | refine And.intro (a := _ ≠ _) (by omega) ?_ | ((try (refine Or.inl ?_; (conv => whnf))); (try (refine ⟨false, ?_⟩; (conv => whnf))); refine ⟨_, by first | exact c1 | exact c2 | exact c3, ?_⟩) | fail); (conv => whnf))))
  all_goals first
    | (refine congrArg AV.bool (Eq.symm (Bool.eq_false_iff.2 fun q => ?_)); have q := sameB_iff.1 q; first | omega | exact Bool.noConfusion (q.2.2.1.symm.trans (by assumption)) | exact Bool.noConfusion (q.2.2.2.1.symm.trans (by assumption)))
    | (refine congrArg AV.bool ?_; rw [Bool.eq_iff_iff, sameB_iff]; exact ⟨fun q => ⟨by omega, by omega, by assumption, by assumption, q⟩, fun q => q.2.2.2.2⟩)
    | set_option pp.maxSteps 300 in trace_state
theorem pc_r10Same (b c : BooksT) (o : Okay b) (o' : Okay c) : PC Tryz.prog 66 [bks b, bks c] (.bool (sameB b c)) := by
  have no : ¬(b.keep = c.keep ∧ b.next = c.next ∧ eqI b.users c.users = true ∧ eqF sameR rec0 b.recipes c.recipes = true ∧ eqF sameE ent0 b.log c.log = true) → AV.bool false = AV.bool (sameB b c) := fun q =>
    congrArg AV.bool (Eq.symm (Bool.eq_false_iff.2 fun e => q (sameB_iff.1 e)))
  have hu := o.u
  have hr := o.r
  have hl := o.l
  have lenF : ∀ {α : Type} {p : α → α → Bool} {d : α} {l m : List α}, eqF p d l m = true → (l.length : Int) = m.length := fun h => by
    simp only [eqF, Bool.and_eq_true, decide_eq_true_eq] at h; exact h.1
  refine pc_of_bodyF hm Tryz.func66 (by kernel_rfl) ?_
  conv => whnf
  (repeat' (first | (refine ansS (fun hh => ?_) (fun hh => ?_) <;> (first | simp only [ansX] at hh | skip) <;> (first | (exfalso; omega) | (exfalso; simp [*] at hh; done) | (exfalso; revert hh; decide) | exact absurd (by assumption) hh | (conv => whnf))) | ((first | refine ⟨by kernel_rfl, ?_⟩ | refine ansB (by omega) (by omega) ?_ | refine ansB (by decide) (by decide) ?_ | refine And.intro (a := _ ≤ _) (by omega) ?_ | refine And.intro (a := _ ≠ _) (by omega) ?_ | fail); (conv => whnf))))
  iterate 5 (refine no fun q => ?_; first | omega | (have := lenF q.2.2.1; omega) | (have := lenF q.2.2.2.1; omega) | (have := lenF q.2.2.2.2; omega))
  have k1 : b.keep = c.keep := by omega
  have k2 : b.next = c.next := by omega
  have k3 : (b.users.length : Int) = c.users.length := by omega
  have k4 : (b.recipes.length : Int) = c.recipes.length := by omega
  have k5 : (b.log.length : Int) = c.log.length := by omega
  refine Or.inr ⟨Nat, [5], [], [], fun k => [i64 k], fun _ => [], fun _ => [], fun k => b.users.length - k, fun k => k ≤ b.users.length ∧ ∀ i, i < k → (fun a b => decide (a = b)) (b.users.getD i 0) (c.users.getD i 0) = true, ?_⟩
  (conv => whnf)
  refine ⟨⟨0, ?_⟩, ?_⟩
  · (conv => whnf)
    exact ⟨⟨⟨Nat.zero_le _, fun i hi => absurd hi (Nat.not_lt_zero i)⟩, rfl, rfl, rfl⟩, by kernel_rfl, by kernel_rfl⟩
  intro k hk
  (conv => whnf)
  refine ⟨fun h => ?_, fun h => ?_⟩
  · have h := of_decide_eq_true h
    have hkk : k < b.users.length := by omega
    (repeat' (first | (refine ansS (fun hh => ?_) (fun hh => ?_) <;> (first | simp only [ansX] at hh | skip) <;> (first | (exfalso; omega) | (exfalso; simp [*] at hh; done) | (exfalso; revert hh; decide) | exact absurd (by assumption) hh | (conv => whnf))) | ((first | refine ⟨by kernel_rfl, ?_⟩ | refine ansB (by omega) (by omega) ?_ | refine ansB (by decide) (by decide) ?_ | refine And.intro (a := _ ≤ _) (by omega) ?_ | refine And.intro (a := _ ≠ _) (by omega) ?_ | fail); (conv => whnf))))
    · exact no fun q => Bool.noConfusion ((eqF_bad (p := fun a b => decide (a = b)) (d := (0 : Int)) hkk (decide_eq_false (by assumption))).trans q.2.2.1)
    have ok : (fun a b => decide (a = b)) (b.users.getD k 0) (c.users.getD k 0) = true := decide_eq_true (by assumption)
    · refine ⟨k + 1, ?_⟩
      (conv => whnf)
      refine ⟨⟨⟨?_, ?_, ?_⟩, ?_, rfl, rfl⟩, by kernel_rfl, by kernel_rfl⟩
      · show b.users.length - (k + 1) < b.users.length - k; omega
      · omega
      · intro i hi
        by_cases e : i = k
        · subst e; exact ok
        · exact hk.2 i (by omega)
      · rw [w64 _ (by omega) (by omega)]; rfl
  have h := of_decide_eq_false h
  have u1 : eqI b.users c.users = true := (eqF_ok k3 fun i hi => hk.2 i (by omega)).symm
  clear hk h
  (conv => whnf)
  refine Or.inr ⟨Nat, [6], [], [], fun k => [i64 k], fun _ => [], fun _ => [], fun k => b.recipes.length - k, fun k => k ≤ b.recipes.length ∧ ∀ i, i < k → sameR (b.recipes.getD i rec0) (c.recipes.getD i rec0) = true, ?_⟩
  (conv => whnf)
  refine ⟨⟨0, ?_⟩, ?_⟩
  · (conv => whnf)
    exact ⟨⟨⟨Nat.zero_le _, fun i hi => absurd hi (Nat.not_lt_zero i)⟩, rfl, rfl, rfl⟩, by kernel_rfl, by kernel_rfl⟩
  intro k hk
  (conv => whnf)
  refine ⟨fun h => ?_, fun h => ?_⟩
  · have h := of_decide_eq_true h
    have hkk : k < b.recipes.length := by omega
    have a1 := lt40 (o.a k)
    have a2 := lt40 (o'.a k)
    have bad : ¬sameR (b.recipes.getD k rec0) (c.recipes.getD k rec0) = true → AV.bool false = AV.bool (sameB b c) := fun r => no fun q => Bool.noConfusion ((eqF_bad hkk (Bool.eq_false_iff.2 r)).trans q.2.2.2.1)
    have tk : Int.toNat (k : Int) = k := rfl
    (repeat' (first | (refine ansS (fun hh => ?_) (fun hh => ?_) <;> (first | simp only [ansX] at hh | skip) <;> (first | (exfalso; omega) | (exfalso; simp [*] at hh; done) | (exfalso; revert hh; decide) | exact absurd (by assumption) hh | (conv => whnf))) | ((first | refine ⟨by kernel_rfl, ?_⟩ | refine ansB (by omega) (by omega) ?_ | refine ansB (by decide) (by decide) ?_ | refine And.intro (a := _ ≤ _) (by omega) ?_ | refine And.intro (a := _ ≠ _) (by omega) ?_ | ((try (refine Or.inl ?_; (conv => whnf))); (try (refine ⟨false, ?_⟩; (conv => whnf))); refine ⟨_, by exact pc_sameInts _ _ a1 a2, ?_⟩) | fail); (conv => whnf))))
    all_goals (try simp only [tk] at *)
    all_goals first
      | (refine bad fun q => ?_
         have q := sameR_iff.1 q
         unfold sameG at q
         (try simp only [reduceCtorEq, or_false, and_true, Bool.true_eq_false] at *)
         first | omega | exact Bool.noConfusion (q.2.2.2.symm.trans (by assumption : eqI _ _ = false)))
      | (have ok : sameR (b.recipes.getD k rec0) (c.recipes.getD k rec0) = true := sameR_iff.2 ⟨by assumption, by unfold sameG; first | omega | simp_all, by assumption, by assumption⟩
         refine ⟨k + 1, ?_⟩
         (conv => whnf)
         refine ⟨⟨⟨?_, ?_, ?_⟩, ?_, rfl, rfl⟩, by kernel_rfl, by kernel_rfl⟩
         · show b.recipes.length - (k + 1) < b.recipes.length - k; omega
         · omega
         · intro i hi
           by_cases e : i = k
           · subst e; exact ok
           · exact hk.2 i (by omega)
         · rw [w64 _ (by omega) (by omega)]; rfl)
      | set_option pp.maxSteps 300 in trace_state
  have h := of_decide_eq_false h
  have u2 : eqF sameR rec0 b.recipes c.recipes = true := (eqF_ok k4 fun i hi => hk.2 i (by omega)).symm
  clear hk h
  (conv => whnf)
  refine Or.inr ⟨Nat, [9], [], [], fun k => [i64 k], fun _ => [], fun _ => [], fun k => b.log.length - k, fun k => k ≤ b.log.length ∧ ∀ i, i < k → sameE (b.log.getD i ent0) (c.log.getD i ent0) = true, ?_⟩
  (conv => whnf)
  refine ⟨⟨0, ?_⟩, ?_⟩
  · (conv => whnf)
    exact ⟨⟨⟨Nat.zero_le _, fun i hi => absurd hi (Nat.not_lt_zero i)⟩, rfl, rfl, rfl⟩, by kernel_rfl, by kernel_rfl⟩
  intro k hk
  (conv => whnf)
  refine ⟨fun h => ?_, fun h => ?_⟩
  · have h := of_decide_eq_true h
    have hkk : k < b.log.length := by omega
    have a1 := lt40 (o.p k)
    have a2 := lt40 (o'.p k)
    (repeat' (first | (refine ansS (fun hh => ?_) (fun hh => ?_) <;> (first | simp only [ansX] at hh | skip) <;> (first | (exfalso; omega) | (exfalso; simp [*] at hh; done) | (exfalso; revert hh; decide) | exact absurd (by assumption) hh | (conv => whnf))) | ((first | refine ⟨by kernel_rfl, ?_⟩ | refine ansB (by omega) (by omega) ?_ | refine ansB (by decide) (by decide) ?_ | refine And.intro (a := _ ≤ _) (by omega) ?_ | refine And.intro (a := _ ≠ _) (by omega) ?_ | ((try (refine Or.inl ?_; (conv => whnf))); (try (refine ⟨false, ?_⟩; (conv => whnf))); refine ⟨_, by exact pc_SameEntry _ _ a1 a2, ?_⟩) | fail); (conv => whnf))))
    · refine no fun q => Bool.noConfusion ((eqF_bad hkk (by assumption : sameE (b.log.getD k ent0) (c.log.getD k ent0) = false)).trans q.2.2.2.2)
    · have ok : sameE (b.log.getD k ent0) (c.log.getD k ent0) = true := by assumption
      refine ⟨k + 1, ?_⟩
      (conv => whnf)
      refine ⟨⟨⟨?_, ?_, ?_⟩, ?_, rfl, rfl⟩, by kernel_rfl, by kernel_rfl⟩
      · show b.log.length - (k + 1) < b.log.length - k; omega
      · omega
      · intro i hi
        by_cases e : i = k
        · subst e; exact ok
        · exact hk.2 i (by omega)
      · rw [w64 _ (by omega) (by omega)]; rfl
  have h := of_decide_eq_false h
  have u3 : eqF sameE ent0 b.log c.log = true := (eqF_ok k5 fun i hi => hk.2 i (by omega)).symm
  (conv => whnf)
  rw [sameB_iff.2 ⟨k1, k2, u1, u2, u3⟩]
end Go.Proofs.Tryz.My
