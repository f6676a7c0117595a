/- A helper text: contracts of functions of the program, and plain lemmas. -/
import Derived.Test.YtdpnpdjnaimgaaaGreatEvSix
import Derived.Test.YtdpnpdjnaimgaaaGreatMzWbA
import Derived.Test.YtdpnpdjnaimgaaaGreatMzBqA
import Derived.Test.YtdpnpdjnaimgaaaGreatMzBt1
set_option maxRecDepth 100000
set_option maxHeartbeats 0
set_option linter.unusedVariables false
set_option linter.unusedSimpArgs false
namespace Go.Proofs.Tryz.My
open Go Go.Ev
theorem pc_EqSeen (l m : List SeenT) (hl : l.length < 2 ^ 40) : PC Tryz.prog 122 [seens l, seens m] (.bool (eqF sameS seen0 l m)) := by
  refine pc_of_bodyF hm Tryz.func122 (by kernel_rfl) ?_
  conv => whnf
  refine ⟨fun h0 => ?_, fun h0 => ?_⟩
  · have h0 : ¬(l.length : Int) = m.length := by simpa using h0
    (conv => whnf)
    exact congrArg AV.bool (eqF_len h0)
  have h0 : (l.length : Int) = m.length := by simpa using h0
  (conv => whnf)
  refine Or.inr ⟨Nat, [13], [], [], fun k => [i64 k], fun _ => [], fun _ => [], fun k => l.length - k, fun k => k ≤ l.length ∧ ∀ i, i < k → sameS (l.getD i seen0) (m.getD i seen0) = true, ?_⟩
  (conv => whnf)
  refine ⟨⟨0, ?_⟩, ?_⟩
  · (conv => whnf)
    exact ⟨⟨⟨Nat.zero_le _, fun i hi => absurd hi (Nat.not_lt_zero i)⟩, rfl, rfl, rfl⟩, by kernel_rfl, by kernel_rfl⟩
  · intro k hk
    (conv => whnf)
    refine ⟨fun h => ?_, fun h => ?_⟩
    · have h := of_decide_eq_true h
      have hkk : k < l.length := by omega
      (conv => whnf)
      iterate 3 (first | (refine ⟨by kernel_rfl, ?_⟩; (conv => whnf)) | (refine ⟨⟨by omega, by omega⟩, ?_⟩; (conv => whnf)))
      iterate 2 (first | (refine ⟨by kernel_rfl, ?_⟩; (conv => whnf)) | skip)
      have e0 : l.getD (Int.toNat (k : Int)) seen0 = l.getD k seen0 := rfl
      have e1 : m.getD (Int.toNat (k : Int)) seen0 = m.getD k seen0 := rfl
      rw [e0, e1]
      refine ansS (fun hh => ?_) (fun hh => ?_)
      · (conv => whnf)
        exact congrArg AV.bool (eqF_bad (p := sameS) (d := seen0) hkk (by simp [sameS] at hh ⊢; grind))
      · refine ⟨k + 1, ?_⟩
        (conv => whnf)
        refine ⟨⟨⟨?_, ?_, ?_⟩, ?_, rfl, rfl⟩, by kernel_rfl, by kernel_rfl⟩
        · show l.length - (k + 1) < l.length - k; omega
        · omega
        · intro i hi
          by_cases e : i = k
          · subst e; simp [sameS] at hh ⊢; grind
          · exact hk.2 i (by omega)
        · rw [w64 _ (by omega) (by omega)]; rfl
    · have h := of_decide_eq_false h
      (conv => whnf)
      exact congrArg AV.bool (eqF_ok h0 fun i hi => hk.2 i (by omega))
theorem pc_EqTh (l m : List ThingT) (hl : l.length < 2 ^ 40) : PC Tryz.prog 123 [thgs l, thgs m] (.bool (eqF sameTh thing0 l m)) := by
  refine pc_of_bodyF hm Tryz.func123 (by kernel_rfl) ?_
  conv => whnf
  refine ⟨fun h0 => ?_, fun h0 => ?_⟩
  · have h0 : ¬(l.length : Int) = m.length := by simpa using h0
    (conv => whnf)
    exact congrArg AV.bool (eqF_len h0)
  have h0 : (l.length : Int) = m.length := by simpa using h0
  (conv => whnf)
  refine Or.inr ⟨Nat, [13], [], [], fun k => [i64 k], fun _ => [], fun _ => [], fun k => l.length - k, fun k => k ≤ l.length ∧ ∀ i, i < k → sameTh (l.getD i thing0) (m.getD i thing0) = true, ?_⟩
  (conv => whnf)
  refine ⟨⟨0, ?_⟩, ?_⟩
  · (conv => whnf)
    exact ⟨⟨⟨Nat.zero_le _, fun i hi => absurd hi (Nat.not_lt_zero i)⟩, rfl, rfl, rfl⟩, by kernel_rfl, by kernel_rfl⟩
  · intro k hk
    (conv => whnf)
    refine ⟨fun h => ?_, fun h => ?_⟩
    · have h := of_decide_eq_true h
      have hkk : k < l.length := by omega
      (conv => whnf)
      iterate 3 (first | (refine ⟨by kernel_rfl, ?_⟩; (conv => whnf)) | (refine ⟨⟨by omega, by omega⟩, ?_⟩; (conv => whnf)))
      iterate 2 (first | (refine ⟨by kernel_rfl, ?_⟩; (conv => whnf)) | skip)
      have e0 : l.getD (Int.toNat (k : Int)) thing0 = l.getD k thing0 := rfl
      have e1 : m.getD (Int.toNat (k : Int)) thing0 = m.getD k thing0 := rfl
      rw [e0, e1]
      refine ansS (fun hh => ?_) (fun hh => ?_)
      · (conv => whnf)
        exact congrArg AV.bool (eqF_bad (p := sameTh) (d := thing0) hkk (by simp [sameTh] at hh ⊢; grind))
      · refine ⟨k + 1, ?_⟩
        (conv => whnf)
        refine ⟨⟨⟨?_, ?_, ?_⟩, ?_, rfl, rfl⟩, by kernel_rfl, by kernel_rfl⟩
        · show l.length - (k + 1) < l.length - k; omega
        · omega
        · intro i hi
          by_cases e : i = k
          · subst e; simp [sameTh] at hh ⊢; grind
          · exact hk.2 i (by omega)
        · rw [w64 _ (by omega) (by omega)]; rfl
    · have h := of_decide_eq_false h
      (conv => whnf)
      exact congrArg AV.bool (eqF_ok h0 fun i hi => hk.2 i (by omega))
theorem pc_psameS (l m : List SeenT) (hl : l.length < 2 ^ 40) : PC Tryz.prog 74 [seens l, seens m] (.bool (eqF sameS seen0 l m)) := by
  have c := pc_EqSeen l m hl
  refine pc_of_bodyF hm Tryz.func74 (by kernel_rfl) ?_
  conv => whnf
  (repeat' (first | (refine ansS (fun hh => ?_) (fun hh => ?_) <;> (first | simp only [ansX] at hh | skip) <;> (first | (exfalso; omega) | (exfalso; simp [*] at hh; done) | (exfalso; revert hh; decide) | exact absurd (by assumption) hh | (conv => whnf))) | ((first | refine ⟨by kernel_rfl, ?_⟩ | refine ansB (by omega) (by omega) ?_ | refine ansB (by decide) (by decide) ?_ | refine And.intro (a := _ ≤ _) (by omega) ?_ | refine And.intro (a := _ ≠ _) (by omega) ?_ | ((try (refine Or.inl ?_; (conv => whnf))); (try (refine ⟨false, ?_⟩; (conv => whnf))); refine ⟨_, by exact c, ?_⟩) | fail); (conv => whnf))))
  all_goals (first | rfl | set_option pp.maxSteps 300 in trace_state)
theorem pc_psameT (l m : List ThingT) (hl : l.length < 2 ^ 40) : PC Tryz.prog 75 [thgs l, thgs m] (.bool (eqF sameTh thing0 l m)) := by
  have c := pc_EqTh l m hl
  refine pc_of_bodyF hm Tryz.func75 (by kernel_rfl) ?_
  conv => whnf
  (repeat' (first | (refine ansS (fun hh => ?_) (fun hh => ?_) <;> (first | simp only [ansX] at hh | skip) <;> (first | (exfalso; omega) | (exfalso; simp [*] at hh; done) | (exfalso; revert hh; decide) | exact absurd (by assumption) hh | (conv => whnf))) | ((first | refine ⟨by kernel_rfl, ?_⟩ | refine ansB (by omega) (by omega) ?_ | refine ansB (by decide) (by decide) ?_ | refine And.intro (a := _ ≤ _) (by omega) ?_ | refine And.intro (a := _ ≠ _) (by omega) ?_ | ((try (refine Or.inl ?_; (conv => whnf))); (try (refine ⟨false, ?_⟩; (conv => whnf))); refine ⟨_, by exact c, ?_⟩) | fail); (conv => whnf))))
  all_goals (first | rfl | set_option pp.maxSteps 300 in trace_state)
theorem sameTk_iff {a b : TrackT} : sameTk a b = true ↔ sameBelt a.belt b.belt ∧ (a.count = b.count ∧ a.next = b.next) ∧ eqF sameS seen0 a.parts b.parts = true := by
  unfold sameTk
  rw [Bool.and_eq_true, decide_eq_true_eq, and_assoc]
theorem sameD_iff {a b : DriftT} : sameD a b = true ↔ (a.hits = b.hits ∧ a.rounds = b.rounds) ∧ a.alarm = b.alarm := by
  simp [sameD]
theorem sameW_iff {a b : WorldT} : sameW a b = true ↔ sameLine a.line b.line ∧ sameTk a.track b.track = true ∧ sameB a.books b.books = true ∧ sameD a.drift b.drift = true ∧ eqF sameTh thing0 a.things b.things = true := by
  unfold sameW
  simp only [Bool.and_eq_true, decide_eq_true_eq]
theorem pc_Same9 (a b : TrackT) (hl : a.parts.length < 2 ^ 40) : PC Tryz.prog 65 [trk a, trk b] (.bool (sameTk a b)) := by
  by_cases hb : sameBelt a.belt b.belt ∧ (a.count = b.count ∧ a.next = b.next)
  · have es : sameTk a b = eqF sameS seen0 a.parts b.parts := by
      unfold sameTk
      rw [decide_eq_true hb, Bool.true_and]
    rw [es]
    obtain ⟨⟨b1, b2, b3, b4⟩, b5, b6⟩ := hb
    clear es
    refine pc_of_bodyF hm Tryz.func65 (by kernel_rfl) ?_
    conv => whnf
    (repeat' (first | (refine ansS (fun hh => ?_) (fun hh => ?_) <;> (first | simp only [ansX] at hh | skip) <;> (first | (exfalso; omega) | (exfalso; simp [*] at hh; done) | (exfalso; revert hh; decide) | exact absurd (by assumption) hh | (conv => whnf))) | ((first | refine ⟨by kernel_rfl, ?_⟩ | refine ansB (by omega) (by omega) ?_ | refine ansB (by decide) (by decide) ?_ | refine And.intro (a := _ ≤ _) (by omega) ?_ | refine And.intro (a := _ ≠ _) (by omega) ?_ | fail); (conv => whnf))))
    · exact congrArg AV.bool (eqF_len (by omega))
    have h0 : (a.parts.length : Int) = b.parts.length := by omega
    refine Or.inr ⟨Nat, [5], [], [], fun k => [i64 k], fun _ => [], fun _ => [], fun k => a.parts.length - k, fun k => k ≤ a.parts.length ∧ ∀ i, i < k → sameS (a.parts.getD i seen0) (b.parts.getD i seen0) = true, ?_⟩
    (conv => whnf)
    refine ⟨⟨0, ?_⟩, ?_⟩
    · (conv => whnf)
      exact ⟨⟨⟨Nat.zero_le _, fun i hi => absurd hi (Nat.not_lt_zero i)⟩, rfl, rfl, rfl⟩, by kernel_rfl, by kernel_rfl⟩
    · intro k hk
      (conv => whnf)
      refine ⟨fun h => ?_, fun h => ?_⟩
      · have h := of_decide_eq_true h
        have hkk : k < a.parts.length := by omega
        (conv => whnf)
        iterate 3 (first | (refine ⟨by kernel_rfl, ?_⟩; (conv => whnf)) | (refine ⟨⟨by omega, by omega⟩, ?_⟩; (conv => whnf)))
        iterate 2 (first | (refine ⟨by kernel_rfl, ?_⟩; (conv => whnf)) | skip)
        have e0 : a.parts.getD (Int.toNat (k : Int)) seen0 = a.parts.getD k seen0 := rfl
        have e1 : b.parts.getD (Int.toNat (k : Int)) seen0 = b.parts.getD k seen0 := rfl
        rw [e0, e1]
        refine ansS (fun hh => ?_) (fun hh => ?_)
        · (conv => whnf)
          exact congrArg AV.bool (eqF_bad (p := sameS) (d := seen0) hkk (by simp [sameS] at hh ⊢; grind))
        · refine ⟨k + 1, ?_⟩
          (conv => whnf)
          refine ⟨⟨⟨?_, ?_, ?_⟩, ?_, rfl, rfl⟩, by kernel_rfl, by kernel_rfl⟩
          · show a.parts.length - (k + 1) < a.parts.length - k; omega
          · omega
          · intro i hi
            by_cases e : i = k
            · subst e; simp [sameS] at hh ⊢; grind
            · exact hk.2 i (by omega)
          · rw [w64 _ (by omega) (by omega)]; rfl
      · have h := of_decide_eq_false h
        (conv => whnf)
        exact congrArg AV.bool (eqF_ok h0 fun i hi => hk.2 i (by omega))
  · have es : sameTk a b = false := Bool.eq_false_iff.2 fun q => by
      have q := sameTk_iff.1 q
      exact hb ⟨q.1, q.2.1⟩
    rw [es]
    have hb : ¬((a.belt.step = b.belt.step ∧ a.belt.slip = b.belt.slip ∧ a.belt.gate = b.belt.gate ∧ a.belt.len = b.belt.len) ∧ (a.count = b.count ∧ a.next = b.next)) := hb
    refine pc_of_bodyF hm Tryz.func65 (by kernel_rfl) ?_
    conv => whnf
    (repeat' (first | (refine ansS (fun hh => ?_) (fun hh => ?_) <;> (first | simp only [ansX] at hh | skip) <;> (first | (exfalso; omega) | (exfalso; simp [*] at hh; done) | (exfalso; revert hh; decide) | exact absurd (by assumption) hh | (conv => whnf))) | ((first | refine ⟨by kernel_rfl, ?_⟩ | refine ansB (by omega) (by omega) ?_ | refine ansB (by decide) (by decide) ?_ | refine And.intro (a := _ ≤ _) (by omega) ?_ | refine And.intro (a := _ ≠ _) (by omega) ?_ | fail); (conv => whnf))))
    all_goals first | rfl | (exfalso; simp_all; done) | set_option pp.maxSteps 300 in trace_state
end Go.Proofs.Tryz.My
set_option maxRecDepth 100000
set_option maxHeartbeats 0
set_option linter.unusedVariables false
set_option linter.unusedSimpArgs false
namespace Go.Proofs.Tryz.My
open Go Go.Ev
theorem pc_pfrom2 (lo hi n : Int) : PC Tryz.prog 60 [i64 lo, i64 hi, i64 n] (.bool (decide (lo ≤ n) && decide (n ≤ hi))) := pc_pfrom lo hi n
theorem pc_within112 (n lo hi : Int) : PC Tryz.prog 63 [i64 n, i64 lo, i64 hi] (.bool (decide (lo ≤ n) && decide (n ≤ hi))) := pc_within11 n lo hi
theorem pc_CheckLine (l : LineT) : PC Tryz.prog 18 [lin l] (i64 (lineE l)) := by
  have c1 := pc_CheckBelt l.belt
  have c2 := pc_CheckTest l
  unfold lineE
  by_cases h1 : beltB l.belt = true
  · rw [if_pos h1] at c1 ⊢
    by_cases h2 : (1 ≤ l.lag ∧ l.lag ≤ 100) ∧ (1 ≤ l.keep ∧ l.keep ≤ 32)
    · rw [if_pos h2]
      refine pc_of_bodyF hm Tryz.func18 (by kernel_rfl) ?_
      conv => whnf
      (repeat' (first | (refine ansS (fun hh => ?_) (fun hh => ?_) <;> (first | simp only [ansX] at hh | skip) <;> (first | (exfalso; omega) | (exfalso; simp [*] at hh; done) | (exfalso; revert hh; decide) | exact absurd (by assumption) hh | (conv => whnf))) | ((first | refine ⟨by kernel_rfl, ?_⟩ | refine ansB (by omega) (by omega) ?_ | refine ansB (by decide) (by decide) ?_ | refine And.intro (a := _ ≤ _) (by omega) ?_ | refine And.intro (a := _ ≠ _) (by omega) ?_ | ((try (refine Or.inl ?_; (conv => whnf))); (try (refine ⟨false, ?_⟩; (conv => whnf))); refine ⟨_, by first | exact c1 | exact c2 | exact pc_pfrom2 _ _ _, ?_⟩) | fail); (conv => whnf))))
      all_goals (first | rfl | set_option pp.maxSteps 300 in trace_state)
    · rw [if_neg h2]
      refine pc_of_bodyF hm Tryz.func18 (by kernel_rfl) ?_
      conv => whnf
      (repeat' (first | (refine ansS (fun hh => ?_) (fun hh => ?_) <;> (first | simp only [ansX] at hh | skip) <;> (first | (exfalso; omega) | (exfalso; simp [*] at hh; done) | (exfalso; revert hh; decide) | exact absurd (by assumption) hh | (conv => whnf))) | ((first | refine ⟨by kernel_rfl, ?_⟩ | refine ansB (by omega) (by omega) ?_ | refine ansB (by decide) (by decide) ?_ | refine And.intro (a := _ ≤ _) (by omega) ?_ | refine And.intro (a := _ ≠ _) (by omega) ?_ | ((try (refine Or.inl ?_; (conv => whnf))); (try (refine ⟨false, ?_⟩; (conv => whnf))); refine ⟨_, by first | exact c1 | exact c2 | exact pc_pfrom2 _ _ _, ?_⟩) | fail); (conv => whnf))))
      all_goals (exfalso; omega)
  · rw [if_neg h1] at c1 ⊢
    refine pc_of_bodyF hm Tryz.func18 (by kernel_rfl) ?_
    conv => whnf
    (repeat' (first | (refine ansS (fun hh => ?_) (fun hh => ?_) <;> (first | simp only [ansX] at hh | skip) <;> (first | (exfalso; omega) | (exfalso; simp [*] at hh; done) | (exfalso; revert hh; decide) | exact absurd (by assumption) hh | (conv => whnf))) | ((first | refine ⟨by kernel_rfl, ?_⟩ | refine ansB (by omega) (by omega) ?_ | refine ansB (by decide) (by decide) ?_ | refine And.intro (a := _ ≤ _) (by omega) ?_ | refine And.intro (a := _ ≠ _) (by omega) ?_ | ((try (refine Or.inl ?_; (conv => whnf))); (try (refine ⟨false, ?_⟩; (conv => whnf))); refine ⟨_, by first | exact c1 | exact c2, ?_⟩) | fail); (conv => whnf))))
def IB4 (b : BeltT) : Prop := I64 b.step
def IL4 (l : LineT) : Prop := I64 l.belt.step ∧ I64 l.al.1 ∧ I64 l.al.2
theorem pc_CheckLine11 (l : LineT) (hI : IL4 l) : PC Tryz.prog 19 [lin l] (i64 (lineE l)) := by
  have c1 := pc_r9CheckBelt l.belt hI.1
  have c2 := pc_CheckTest8 l hI.2.1 hI.2.2
  unfold lineE
  by_cases h1 : beltB l.belt = true
  · rw [if_pos h1] at c1 ⊢
    by_cases h2 : (1 ≤ l.lag ∧ l.lag ≤ 100) ∧ (1 ≤ l.keep ∧ l.keep ≤ 32)
    · rw [if_pos h2]
      refine pc_of_bodyF hm Tryz.func19 (by kernel_rfl) ?_
      conv => whnf
      (repeat' (first | (refine ansS (fun hh => ?_) (fun hh => ?_) <;> (first | simp only [ansX] at hh | skip) <;> (first | (exfalso; omega) | (exfalso; simp [*] at hh; done) | (exfalso; revert hh; decide) | exact absurd (by assumption) hh | (conv => whnf))) | ((first | refine ⟨by kernel_rfl, ?_⟩ | refine ansB (by omega) (by omega) ?_ | refine ansB (by decide) (by decide) ?_ | refine And.intro (a := _ ≤ _) (by omega) ?_ | refine And.intro (a := _ ≠ _) (by omega) ?_ | ((try (refine Or.inl ?_; (conv => whnf))); (try (refine ⟨false, ?_⟩; (conv => whnf))); refine ⟨_, by first | exact c1 | exact c2 | exact pc_within112 _ _ _, ?_⟩) | fail); (conv => whnf))))
      all_goals (first | rfl | set_option pp.maxSteps 300 in trace_state)
    · rw [if_neg h2]
      refine pc_of_bodyF hm Tryz.func19 (by kernel_rfl) ?_
      conv => whnf
      (repeat' (first | (refine ansS (fun hh => ?_) (fun hh => ?_) <;> (first | simp only [ansX] at hh | skip) <;> (first | (exfalso; omega) | (exfalso; simp [*] at hh; done) | (exfalso; revert hh; decide) | exact absurd (by assumption) hh | (conv => whnf))) | ((first | refine ⟨by kernel_rfl, ?_⟩ | refine ansB (by omega) (by omega) ?_ | refine ansB (by decide) (by decide) ?_ | refine And.intro (a := _ ≤ _) (by omega) ?_ | refine And.intro (a := _ ≠ _) (by omega) ?_ | ((try (refine Or.inl ?_; (conv => whnf))); (try (refine ⟨false, ?_⟩; (conv => whnf))); refine ⟨_, by first | exact c1 | exact c2 | exact pc_within112 _ _ _, ?_⟩) | fail); (conv => whnf))))
      all_goals (exfalso; omega)
  · rw [if_neg h1] at c1 ⊢
    refine pc_of_bodyF hm Tryz.func19 (by kernel_rfl) ?_
    conv => whnf
    (repeat' (first | (refine ansS (fun hh => ?_) (fun hh => ?_) <;> (first | simp only [ansX] at hh | skip) <;> (first | (exfalso; omega) | (exfalso; simp [*] at hh; done) | (exfalso; revert hh; decide) | exact absurd (by assumption) hh | (conv => whnf))) | ((first | refine ⟨by kernel_rfl, ?_⟩ | refine ansB (by omega) (by omega) ?_ | refine ansB (by decide) (by decide) ?_ | refine And.intro (a := _ ≤ _) (by omega) ?_ | refine And.intro (a := _ ≠ _) (by omega) ?_ | ((try (refine Or.inl ?_; (conv => whnf))); (try (refine ⟨false, ?_⟩; (conv => whnf))); refine ⟨_, by first | exact c1 | exact c2, ?_⟩) | fail); (conv => whnf))))
abbrev newTk (b : BeltT) : AV := .agg [i64 b.step, i64 b.slip, i64 b.gate, i64 b.len, i64 0, i64 0, .nils]
abbrev newWl (l : LineT) : AV := .agg [i64 l.belt.step, i64 l.belt.slip, i64 l.belt.gate, i64 l.belt.len, i64 l.lag, i64 l.keep, i64 l.p, i64 l.q, i64 l.al.1, i64 l.al.2,
  i64 l.belt.step, i64 l.belt.slip, i64 l.belt.gate, i64 l.belt.len, i64 0, i64 0, .nils, i64 l.keep, .nils, .nils, i64 0, .nils, i64 0, i64 0, .ff, .nils]
abbrev line0 : LineT := ⟨⟨0, 0, 0, 0⟩, 0, 0, 0, 0, (0, 0)⟩
abbrev noW : AV := newWl line0
theorem pc_NewTrack (b : BeltT) (h : beltB b = true) : PC Tryz.prog 54 [bel b] (.tup [newTk b, i64 0]) := by
  have c1 := pc_CheckBelt b
  rw [if_pos h] at c1
  refine pc_of_bodyF hm Tryz.func54 (by kernel_rfl) ?_
  conv => whnf
  (repeat' (first | (refine ansS (fun hh => ?_) (fun hh => ?_) <;> (first | simp only [ansX] at hh | skip) <;> (first | (exfalso; omega) | (exfalso; simp [*] at hh; done) | (exfalso; revert hh; decide) | exact absurd (by assumption) hh | (conv => whnf))) | ((first | refine ⟨by kernel_rfl, ?_⟩ | refine ansB (by omega) (by omega) ?_ | refine ansB (by decide) (by decide) ?_ | refine And.intro (a := _ ≤ _) (by omega) ?_ | refine And.intro (a := _ ≠ _) (by omega) ?_ | ((try (refine Or.inl ?_; (conv => whnf))); (try (refine ⟨false, ?_⟩; (conv => whnf))); refine ⟨_, by exact c1, ?_⟩) | fail); (conv => whnf))))
  all_goals (first | rfl | set_option pp.maxSteps 300 in trace_state)
theorem pc_NewTrack9 (b : BeltT) (h : beltB b = true) (hI : I64 b.step) : PC Tryz.prog 57 [bel b] (.tup [newTk b, i64 0]) := by
  have c1 := pc_ValidBelt b hI
  rw [h] at c1
  refine pc_of_bodyF hm Tryz.func57 (by kernel_rfl) ?_
  conv => whnf
  (repeat' (first | (refine ansS (fun hh => ?_) (fun hh => ?_) <;> (first | simp only [ansX] at hh | skip) <;> (first | (exfalso; omega) | (exfalso; simp [*] at hh; done) | (exfalso; revert hh; decide) | exact absurd (by assumption) hh | (conv => whnf))) | ((first | refine ⟨by kernel_rfl, ?_⟩ | refine ansB (by omega) (by omega) ?_ | refine ansB (by decide) (by decide) ?_ | refine And.intro (a := _ ≤ _) (by omega) ?_ | refine And.intro (a := _ ≠ _) (by omega) ?_ | ((try (refine Or.inl ?_; (conv => whnf))); (try (refine ⟨false, ?_⟩; (conv => whnf))); refine ⟨_, by exact c1, ?_⟩) | fail); (conv => whnf))))
  all_goals (first | rfl | set_option pp.maxSteps 300 in trace_state)
theorem newE_ok {k : Int} (h : 1 ≤ k ∧ k ≤ 32) : newK k = k ∧ newE k = 0 := by
  have e : withB k 1 32 = true := by
    unfold withB
    rw [decide_eq_true h.1, decide_eq_true h.2]; rfl
  unfold newK newE
  rw [if_pos e, if_pos e]
  exact ⟨rfl, rfl⟩
theorem pc_NewW (l : LineT) (h : lineE l = 0) : PC Tryz.prog 16 [lin l] (.tup [newWl l, i64 0]) := by
  have c1 := pc_CheckLine l
  rw [h] at c1
  obtain ⟨h1, h2, h3⟩ := lineE_zero h
  have c2 := pc_NewTrack l.belt h1
  have c3 := pc_New l.keep
  have e := newE_ok h2.2
  rw [e.1, e.2] at c3
  refine pc_of_bodyF hm Tryz.func16 (by kernel_rfl) ?_
  conv => whnf
  (repeat' (first | (refine ansS (fun hh => ?_) (fun hh => ?_) <;> (first | simp only [ansX] at hh | skip) <;> (first | (exfalso; omega) | (exfalso; simp [*] at hh; done) | (exfalso; revert hh; decide) | exact absurd (by assumption) hh | (conv => whnf))) | ((first | refine ⟨by kernel_rfl, ?_⟩ | refine ansB (by omega) (by omega) ?_ | refine ansB (by decide) (by decide) ?_ | refine And.intro (a := _ ≤ _) (by omega) ?_ | refine And.intro (a := _ ≠ _) (by omega) ?_ | ((try (refine Or.inl ?_; (conv => whnf))); (try (refine ⟨false, ?_⟩; (conv => whnf))); refine ⟨_, by first | exact c1 | exact c2 | exact c3 | exact pc_Start, ?_⟩) | fail); (conv => whnf))))
  all_goals (first | rfl | set_option pp.maxSteps 300 in trace_state)
theorem pc_NewW_bad (l : LineT) (h : ¬lineE l = 0) : PC Tryz.prog 16 [lin l] (.tup [noW, i64 (lineE l)]) := by
  have c1 := pc_CheckLine l
  generalize lineE l = e at *
  refine pc_of_bodyF hm Tryz.func16 (by kernel_rfl) ?_
  conv => whnf
  (repeat' (first | (refine ansS (fun hh => ?_) (fun hh => ?_) <;> (first | simp only [ansX] at hh | skip) <;> (first | (exfalso; omega) | (exfalso; simp [*] at hh; done) | (exfalso; revert hh; decide) | exact absurd (by assumption) hh | (conv => whnf))) | ((first | refine ⟨by kernel_rfl, ?_⟩ | refine ansB (by omega) (by omega) ?_ | refine ansB (by decide) (by decide) ?_ | refine And.intro (a := _ ≤ _) (by omega) ?_ | refine And.intro (a := _ ≠ _) (by omega) ?_ | ((try (refine Or.inl ?_; (conv => whnf))); (try (refine ⟨false, ?_⟩; (conv => whnf))); refine ⟨_, by exact c1, ?_⟩) | fail); (conv => whnf))))
  all_goals (first | rfl | set_option pp.maxSteps 300 in trace_state)
theorem pc_NewW11 (l : LineT) (hI : IL4 l) (h : lineE l = 0) : PC Tryz.prog 17 [lin l] (.tup [newWl l, i64 0]) := by
  have c1 := pc_CheckLine11 l hI
  rw [h] at c1
  obtain ⟨h1, h2, h3⟩ := lineE_zero h
  have c2 := pc_NewTrack9 l.belt h1 hI.1
  have c3 := pc_r10New l.keep
  have e := newE_ok h2.2
  rw [e.1, e.2] at c3
  refine pc_of_bodyF hm Tryz.func17 (by kernel_rfl) ?_
  conv => whnf
  (repeat' (first | (refine ansS (fun hh => ?_) (fun hh => ?_) <;> (first | simp only [ansX] at hh | skip) <;> (first | (exfalso; omega) | (exfalso; simp [*] at hh; done) | (exfalso; revert hh; decide) | exact absurd (by assumption) hh | (conv => whnf))) | ((first | refine ⟨by kernel_rfl, ?_⟩ | refine ansB (by omega) (by omega) ?_ | refine ansB (by decide) (by decide) ?_ | refine And.intro (a := _ ≤ _) (by omega) ?_ | refine And.intro (a := _ ≠ _) (by omega) ?_ | ((try (refine Or.inl ?_; (conv => whnf))); (try (refine ⟨false, ?_⟩; (conv => whnf))); refine ⟨_, by first | exact c1 | exact c2 | exact c3, ?_⟩) | fail); (conv => whnf))))
  all_goals (first | rfl | set_option pp.maxSteps 300 in trace_state)
theorem pc_NewW11_bad (l : LineT) (hI : IL4 l) (h : ¬lineE l = 0) : PC Tryz.prog 17 [lin l] (.tup [noW, i64 (lineE l)]) := by
  have c1 := pc_CheckLine11 l hI
  generalize lineE l = e at *
  refine pc_of_bodyF hm Tryz.func17 (by kernel_rfl) ?_
  conv => whnf
  (repeat' (first | (refine ansS (fun hh => ?_) (fun hh => ?_) <;> (first | simp only [ansX] at hh | skip) <;> (first | (exfalso; omega) | (exfalso; simp [*] at hh; done) | (exfalso; revert hh; decide) | exact absurd (by assumption) hh | (conv => whnf))) | ((first | refine ⟨by kernel_rfl, ?_⟩ | refine ansB (by omega) (by omega) ?_ | refine ansB (by decide) (by decide) ?_ | refine And.intro (a := _ ≤ _) (by omega) ?_ | refine And.intro (a := _ ≠ _) (by omega) ?_ | ((try (refine Or.inl ?_; (conv => whnf))); (try (refine ⟨false, ?_⟩; (conv => whnf))); refine ⟨_, by exact c1, ?_⟩) | fail); (conv => whnf))))
  all_goals (first | rfl | set_option pp.maxSteps 300 in trace_state)
structure OkayW (w : WorldT) : Prop where
  b : Okay w.books
  t : w.track.parts.length < 2 ^ 20
  h : w.things.length < 2 ^ 20
theorem pc_pSame (a b : WorldT) (o : OkayW a) (o' : OkayW b) : PC Tryz.prog 23 [wld a, wld b] (.bool (sameW a b)) := by
  have c1 := pc_psameS a.track.parts b.track.parts (lt40 o.t)
  have c2 := pc_psameT a.things b.things (lt40 o.h)
  have c3 := pc_BSame a.books b.books o.b o'.b
  have no : ¬(sameLine a.line b.line ∧ sameTk a.track b.track = true ∧ sameB a.books b.books = true ∧ sameD a.drift b.drift = true ∧ eqF sameTh thing0 a.things b.things = true) → AV.bool false = AV.bool (sameW a b) := fun q =>
    congrArg AV.bool (Eq.symm (Bool.eq_false_iff.2 fun e => q (sameW_iff.1 e)))
  simp only [sameTk_iff, sameD_iff, sameLine, sameBelt] at no
  refine pc_of_bodyF hm Tryz.func23 (by kernel_rfl) ?_
  conv => whnf
  (repeat' (first | (refine ansS (fun hh => ?_) (fun hh => ?_) <;> (first | simp only [ansX] at hh | skip) <;> (first | (exfalso; omega) | (exfalso; simp [*] at hh; done) | (exfalso; revert hh; decide) | exact absurd (by assumption) hh | (conv => whnf))) | ((first | refine ⟨by kernel_rfl, ?_⟩ | refine ansB (by omega) (by omega) ?_ | refine ansB (by decide) (by decide) ?_ | refine And.intro (a := _ ≤ _) (by omega) ?_ | refine And.intro (a := _ ≠ _) (by omega) ?_ | ((try (refine Or.inl ?_; (conv => whnf))); (try (refine ⟨false, ?_⟩; (conv => whnf))); refine ⟨_, by first | exact c1 | exact c2 | exact c3, ?_⟩) | fail); (conv => whnf))))
  all_goals first
    | (refine no fun q => ?_; simp_all; done)
    | (refine congrArg AV.bool ?_; rw [Bool.eq_iff_iff, sameW_iff]; simp only [sameTk_iff, sameD_iff, sameLine, sameBelt]; simp_all; done)
    | set_option pp.maxSteps 300 in trace_state
end Go.Proofs.Tryz.My
set_option maxRecDepth 100000
set_option maxHeartbeats 0
set_option linter.unusedVariables false
set_option linter.unusedSimpArgs false
namespace Go.Proofs.Tryz.My
open Go Go.Ev
theorem mul_room {n a : Int} (h1 : 0 ≤ n) (h2 : n ≤ 1099511627776) (h3 : 0 ≤ a) (h4 : a ≤ 2000) : 0 ≤ n * a ∧ n * a ≤ 2199023255552000 := by
  refine ⟨Int.mul_nonneg h1 h3, ?_⟩
  have e1 : n * a ≤ 1099511627776 * a := Int.mul_le_mul_of_nonneg_right h2 h3
  omega
structure Room (w : WorldT) (c : Int) : Prop where
  n : IntKind.i64.wrap (w.track.count - c) = w.track.count - c
  l : IntKind.i64.wrap (w.line.belt.step - w.line.belt.slip) = w.line.belt.step - w.line.belt.slip
  m : IntKind.i64.wrap (w.line.belt.step + w.line.belt.slip) = w.line.belt.step + w.line.belt.slip
  nl : IntKind.i64.wrap (IntKind.i64.wrap (w.track.count - c) * IntKind.i64.wrap (w.line.belt.step - w.line.belt.slip)) = (w.track.count - c) * (w.line.belt.step - w.line.belt.slip)
  nm : IntKind.i64.wrap (IntKind.i64.wrap (w.track.count - c) * IntKind.i64.wrap (w.line.belt.step + w.line.belt.slip)) = (w.track.count - c) * (w.line.belt.step + w.line.belt.slip)
  b : IntKind.i64.wrap (w.books.next - 1) = w.books.next - 1
theorem room_of {w : WorldT} (hl : beltB w.line.belt = true) (ht : 0 ≤ w.track.count ∧ w.track.count ≤ 1099511627776) (hb : 0 ≤ w.books.next ∧ w.books.next ≤ 1099511627776) {c : Int} (h1 : 0 ≤ c) (h2 : c ≤ w.track.count) : Room w c := by
  have bl := belt_iff.1 hl
  have m1 := mul_room (n := w.track.count - c) (a := w.line.belt.step - w.line.belt.slip) (by omega) (by omega) (by omega) (by omega)
  have m2 := mul_room (n := w.track.count - c) (a := w.line.belt.step + w.line.belt.slip) (by omega) (by omega) (by omega) (by omega)
  have e1 : IntKind.i64.wrap (w.track.count - c) = w.track.count - c := w64 _ (by omega) (by omega)
  have e2 : IntKind.i64.wrap (w.line.belt.step - w.line.belt.slip) = w.line.belt.step - w.line.belt.slip := w64 _ (by omega) (by omega)
  have e3 : IntKind.i64.wrap (w.line.belt.step + w.line.belt.slip) = w.line.belt.step + w.line.belt.slip := w64 _ (by omega) (by omega)
  exact ⟨e1, e2, e3, by rw [e1, e2]; exact w64 _ (by omega) (by omega), by rw [e1, e3]; exact w64 _ (by omega) (by omega), w64 _ (by omega) (by omega)⟩
theorem wldE_of {w : WorldT} (hl : lineE w.line = 0) : wldE w = if wldB w = true then 0 else 8 := by unfold wldE; rw [if_pos hl]
theorem chk_nx {b : BooksT} (h : chkB b = true) : 0 ≤ b.next ∧ b.next ≤ 1099511627776 := (chk_good.1 h).nx
theorem wld_parts {w : WorldT} : wldB w = true ↔ (ownW w = true ∧ trkB w.track = true ∧ chkB w.books = true) ∧ ∀ i, i < w.things.length → okT w i = true := by
  unfold wldB
  simp only [Bool.and_eq_true, all_rangeN]
  exact ⟨fun ⟨a, b, c, d⟩ => ⟨⟨a, b, c⟩, d⟩, fun ⟨⟨a, b, c⟩, d⟩ => ⟨a, b, c, d⟩⟩
theorem pc_pCheck (w : WorldT) (o : OkayW w) : PC Tryz.prog 21 [wld w] (i64 (wldE w)) := by
  have c1 := pc_CheckLine w.line
  by_cases hl : lineE w.line = 0
  rotate_left
  · have e : wldE w = lineE w.line := by unfold wldE; rw [if_neg hl]
    rw [e]
    generalize lineE w.line = x at *
    refine pc_of_bodyF hm Tryz.func21 (by kernel_rfl) ?_
    conv => whnf
    (repeat' (first | (refine ansS (fun hh => ?_) (fun hh => ?_) <;> (first | simp only [ansX] at hh | skip) <;> (first | (exfalso; omega) | (exfalso; simp [*] at hh; done) | (exfalso; revert hh; decide) | exact absurd (by assumption) hh | (conv => whnf))) | ((first | refine ⟨by kernel_rfl, ?_⟩ | refine ansB (by omega) (by omega) ?_ | refine ansB (by decide) (by decide) ?_ | refine And.intro (a := _ ≤ _) (by omega) ?_ | refine And.intro (a := _ ≠ _) (by omega) ?_ | ((try (refine Or.inl ?_; (conv => whnf))); (try (refine ⟨false, ?_⟩; (conv => whnf))); refine ⟨_, by exact c1, ?_⟩) | fail); (conv => whnf))))
    all_goals (first | rfl | set_option pp.maxSteps 300 in trace_state)
  rw [hl] at c1
  rw [wldE_of hl]
  have lz := lineE_zero hl
  have bl := belt_iff.1 lz.1
  have c2 := pc_drift w.drift
  have c3 := pc_CheckTrack w.track (lt40 o.t)
  have c4 := pc_BCheck w.books o.b
  have ht := o.h
  have hp := o.t
  by_cases hw : ownW w = true ∧ trkB w.track = true ∧ chkB w.books = true
  · obtain ⟨h1, h2, h3⟩ := hw
    have ow := ownW_iff.1 h1
    obtain ⟨sb, kp, ln, dr⟩ := ow
    have eb := sameBelt_eq sb
    obtain ⟨s1, s2, s3, s4⟩ := sb
    rw [dr] at c2
    have te : trkE w.track = 0 := trkE_zero.2 ⟨by rw [eb]; exact lz.1, h2⟩
    rw [te] at c3
    rw [if_pos h3] at c4
    have tg := trk_good.1 te
    have nx := chk_nx h3
    have fin : ∀ i, i < w.things.length → okT w i = false → (if wldB w = true then (0 : Int) else 8) = 8 := fun i hi h => if_neg fun q => by
      rw [(wld_parts.1 q).2 i hi] at h; cases h
    have ok : (∀ i, i < w.things.length → okT w i = true) → (if wldB w = true then (0 : Int) else 8) = 0 := fun h => if_pos (wld_parts.2 ⟨⟨h1, h2, h3⟩, h⟩)
    generalize (if wldB w = true then (0 : Int) else 8) = res at *
    refine pc_of_bodyF hm Tryz.func21 (by kernel_rfl) ?_
    conv => whnf
    (repeat' (first | (refine ansS (fun hh => ?_) (fun hh => ?_) <;> (first | simp only [ansX] at hh | skip) <;> (first | (exfalso; omega) | (exfalso; simp [*] at hh; done) | (exfalso; revert hh; decide) | exact absurd (by assumption) hh | (conv => whnf))) | ((first | refine ⟨by kernel_rfl, ?_⟩ | refine ansB (by omega) (by omega) ?_ | refine ansB (by decide) (by decide) ?_ | refine And.intro (a := _ ≤ _) (by omega) ?_ | refine And.intro (a := _ ≠ _) (by omega) ?_ | ((try (refine Or.inl ?_; (conv => whnf))); (try (refine ⟨false, ?_⟩; (conv => whnf))); refine ⟨_, by first | exact c1 | exact c2 | exact c3 | exact c4, ?_⟩) | fail); (conv => whnf))))
    all_goals (try (exfalso; simp_all; done))
    clear c1 c2 c3 c4 h1 h2 h3
    refine Or.inr ⟨Nat, [83], [], [], fun k => [i64 k], fun _ => [], fun _ => [], fun k => w.things.length - k, fun k => k ≤ w.things.length ∧ ∀ i, i < k → okT w i = true, ?_⟩
    (conv => whnf)
    refine ⟨⟨0, ?_⟩, ?_⟩
    · (conv => whnf)
      exact ⟨⟨⟨Nat.zero_le _, fun i hi => absurd hi (Nat.not_lt_zero i)⟩, rfl, rfl, rfl⟩, by kernel_rfl, by kernel_rfl⟩
    rintro k ⟨hk, hok⟩
    by_cases hkk : k < w.things.length
    · have hkp : k < w.track.parts.length := by omega
      have sn := tg.sn _ (mem_getD (d := seen0) hkp)
      have rm := room_of lz.1 tg.ct nx sn.2.1.1 sn.2.1.2.1
      have iff := okT_iff (w := w) (k := k)
      have bad := fin k hkk
      have nxt : okT w k = true → ∀ j, j < k + 1 → okT w j = true := fun e j hj => by
        by_cases z : j = k
        · subst z; exact e
        · exact hok j (by omega)
      (conv => whnf)
      refine ⟨fun h => ?_, fun h => absurd (of_decide_eq_false h) (by omega)⟩
      (conv => whnf)
      iterate 3 (first | (refine ⟨⟨by omega, by omega⟩, ?_⟩; (conv => whnf)) | (refine ⟨by kernel_rfl, ?_⟩; (conv => whnf)) | skip)
      have e0 : w.track.parts.getD (Int.toNat (k : Int)) seen0 = w.track.parts.getD k seen0 := rfl
      have e1 : w.things.getD (Int.toNat (k : Int)) thing0 = w.things.getD k thing0 := rfl
      try rw [e0]
      try rw [e1]
      obtain ⟨r1, r2, r3, r4, r5, r6⟩ := rm
      clear fin ok hok tg sn lz hl dr te eb s1 s2 s3 s4 kp
      by_cases ho : okT w k = true
      · have f := iff.1 ho
        have nx2 := nxt ho
        clear iff bad nxt ho
        (repeat' (first | (refine ansS (fun hh => ?_) (fun hh => ?_) <;> (first | simp only [ansX] at hh | skip) <;> (first | (exfalso; omega) | (exfalso; simp [*] at hh; done) | (exfalso; revert hh; decide) | exact absurd (by assumption) hh | (conv => whnf))) | ((first | refine ⟨by kernel_rfl, ?_⟩ | refine ansB (by omega) (by omega) ?_ | refine ansB (by decide) (by decide) ?_ | refine And.intro (a := _ ≤ _) (by omega) ?_ | refine And.intro (a := _ ≠ _) (by omega) ?_ | ((try (refine Or.inl ?_; (conv => whnf))); (try (refine ⟨false, ?_⟩; (conv => whnf))); refine ⟨_, by exact pc_pfrom2 _ _ _, ?_⟩) | fail); (conv => whnf))))
        all_goals first
          | (refine ⟨k + 1, ?_⟩
             (conv => whnf)
             refine ⟨⟨⟨?_, ?_, nx2⟩, ?_, rfl, rfl⟩, by kernel_rfl, by kernel_rfl⟩
             · show w.things.length - (k + 1) < w.things.length - k; omega
             · omega
             · rw [w64 _ (by omega) (by omega)]; rfl)
          | set_option pp.maxSteps 300 in trace_state
      · have ho2 : okT w k = false := by simpa using ho
        have f := mt iff.2 ho
        rw [bad ho2]
        clear iff bad nxt ho ho2
        (repeat' (first | (refine ansS (fun hh => ?_) (fun hh => ?_) <;> (first | simp only [ansX] at hh | skip) <;> (first | (exfalso; omega) | (exfalso; simp [*] at hh; done) | (exfalso; revert hh; decide) | exact absurd (by assumption) hh | (conv => whnf))) | ((first | refine ⟨by kernel_rfl, ?_⟩ | refine ansB (by omega) (by omega) ?_ | refine ansB (by decide) (by decide) ?_ | refine And.intro (a := _ ≤ _) (by omega) ?_ | refine And.intro (a := _ ≠ _) (by omega) ?_ | ((try (refine Or.inl ?_; (conv => whnf))); (try (refine ⟨false, ?_⟩; (conv => whnf))); refine ⟨_, by exact pc_pfrom2 _ _ _, ?_⟩) | fail); (conv => whnf))))
        all_goals (first | rfl | (exfalso; omega) | set_option pp.maxSteps 300 in trace_state)
    · have ek : k = w.things.length := by omega
      rw [ok fun i hi => hok i (by omega)]
      (conv => whnf)
      refine ⟨fun h => absurd (of_decide_eq_true h) (by omega), fun h => ?_⟩
      (conv => whnf)
      all_goals rfl
  · have nb : ¬wldB w = true := fun q => hw (wld_parts.1 q).1
    rw [if_neg nb]
    clear nb
    rw [ownW_iff] at hw
    unfold sameBelt at hw
    by_cases hbt : beltB w.track.belt = true
    · by_cases h2 : trkB w.track = true
      · have te : trkE w.track = 0 := trkE_zero.2 ⟨hbt, h2⟩
        rw [te] at c3
        by_cases h3 : chkB w.books = true
        · rw [if_pos h3] at c4
          refine pc_of_bodyF hm Tryz.func21 (by kernel_rfl) ?_
          conv => whnf
          (repeat' (first | (refine ansS (fun hh => ?_) (fun hh => ?_) <;> (first | simp only [ansX] at hh | skip) <;> (first | (exfalso; omega) | (exfalso; simp [*] at hh; done) | (exfalso; revert hh; decide) | exact absurd (by assumption) hh | (conv => whnf))) | ((first | refine ⟨by kernel_rfl, ?_⟩ | refine ansB (by omega) (by omega) ?_ | refine ansB (by decide) (by decide) ?_ | refine And.intro (a := _ ≤ _) (by omega) ?_ | refine And.intro (a := _ ≠ _) (by omega) ?_ | ((try (refine Or.inl ?_; (conv => whnf))); (try (refine ⟨false, ?_⟩; (conv => whnf))); refine ⟨_, by first | exact c1 | exact c2 | exact c3 | exact c4, ?_⟩) | fail); (conv => whnf))))
          all_goals first | rfl | (exfalso; simp_all; done) | set_option pp.maxSteps 300 in trace_state
        · rw [if_neg h3] at c4
          refine pc_of_bodyF hm Tryz.func21 (by kernel_rfl) ?_
          conv => whnf
          (repeat' (first | (refine ansS (fun hh => ?_) (fun hh => ?_) <;> (first | simp only [ansX] at hh | skip) <;> (first | (exfalso; omega) | (exfalso; simp [*] at hh; done) | (exfalso; revert hh; decide) | exact absurd (by assumption) hh | (conv => whnf))) | ((first | refine ⟨by kernel_rfl, ?_⟩ | refine ansB (by omega) (by omega) ?_ | refine ansB (by decide) (by decide) ?_ | refine And.intro (a := _ ≤ _) (by omega) ?_ | refine And.intro (a := _ ≠ _) (by omega) ?_ | ((try (refine Or.inl ?_; (conv => whnf))); (try (refine ⟨false, ?_⟩; (conv => whnf))); refine ⟨_, by first | exact c1 | exact c2 | exact c3 | exact c4, ?_⟩) | fail); (conv => whnf))))
          all_goals first | rfl | (exfalso; simp_all; done) | set_option pp.maxSteps 300 in trace_state
      · have te : trkE w.track = 8 := by unfold trkE; rw [if_pos hbt, if_neg h2]
        rw [te] at c3
        refine pc_of_bodyF hm Tryz.func21 (by kernel_rfl) ?_
        conv => whnf
        (repeat' (first | (refine ansS (fun hh => ?_) (fun hh => ?_) <;> (first | simp only [ansX] at hh | skip) <;> (first | (exfalso; omega) | (exfalso; simp [*] at hh; done) | (exfalso; revert hh; decide) | exact absurd (by assumption) hh | (conv => whnf))) | ((first | refine ⟨by kernel_rfl, ?_⟩ | refine ansB (by omega) (by omega) ?_ | refine ansB (by decide) (by decide) ?_ | refine And.intro (a := _ ≤ _) (by omega) ?_ | refine And.intro (a := _ ≠ _) (by omega) ?_ | ((try (refine Or.inl ?_; (conv => whnf))); (try (refine ⟨false, ?_⟩; (conv => whnf))); refine ⟨_, by first | exact c1 | exact c2 | exact c3 | exact c4, ?_⟩) | fail); (conv => whnf))))
        all_goals first | rfl | (exfalso; simp_all; done) | set_option pp.maxSteps 300 in trace_state
    · have te : trkE w.track = 90 := by unfold trkE; rw [if_neg hbt]
      rw [te] at c3
      refine pc_of_bodyF hm Tryz.func21 (by kernel_rfl) ?_
      conv => whnf
      (repeat' (first | (refine ansS (fun hh => ?_) (fun hh => ?_) <;> (first | simp only [ansX] at hh | skip) <;> (first | (exfalso; omega) | (exfalso; simp [*] at hh; done) | (exfalso; revert hh; decide) | exact absurd (by assumption) hh | (conv => whnf))) | ((first | refine ⟨by kernel_rfl, ?_⟩ | refine ansB (by omega) (by omega) ?_ | refine ansB (by decide) (by decide) ?_ | refine And.intro (a := _ ≤ _) (by omega) ?_ | refine And.intro (a := _ ≠ _) (by omega) ?_ | ((try (refine Or.inl ?_; (conv => whnf))); (try (refine ⟨false, ?_⟩; (conv => whnf))); refine ⟨_, by first | exact c1 | exact c2 | exact c3 | exact c4, ?_⟩) | fail); (conv => whnf))))
      all_goals first | rfl | (exfalso; simp_all; done) | set_option pp.maxSteps 300 in trace_state
end Go.Proofs.Tryz.My
