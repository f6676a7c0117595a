/- A helper text: contracts of functions of the program, and plain lemmas. -/
import Derived.Test.YtnoahgjfeablgaaGreatEvSix
import Derived.Test.YtnoahgjfeablgaaGreatMzBp8
set_option maxRecDepth 100000
set_option maxHeartbeats 0
set_option linter.unusedVariables false
set_option linter.unusedSimpArgs false
namespace Go.Proofs.Tryz.My
open Go Go.Ev
theorem pc_findT (l : List EntT) (hl : l.length < 2 ^ 40) (q : Int) (h : l.any (isSeq q) = true) : PC Tryz.prog 42 [ents l, i64 q] (.tup [ent (l.getD (l.findIdx (isSeq q)) ent0), .bool true]) := by
  refine pc_of_bodyF hm Tryz.func42 (by kernel_rfl) ?_
  conv => whnf
  refine Or.inr ⟨Nat, [9], [], [], fun k => [i64 k], fun _ => [], fun _ => [], fun k => l.length - k, fun k => k ≤ l.length ∧ ∀ m, m < k → isSeq q (l.getD m ent0) = false, ?_⟩
  (conv => whnf)
  refine ⟨⟨0, ?_⟩, ?_⟩
  · (conv => whnf)
    exact ⟨⟨⟨Nat.zero_le _, fun i hi => absurd hi (Nat.not_lt_zero i)⟩, rfl, rfl, rfl⟩, by kernel_rfl, by kernel_rfl⟩
  intro k hk
  (conv => whnf)
  refine ⟨fun h1 => ?_, fun h1 => ?_⟩
  · have h1 := of_decide_eq_true h1
    have hkk : k < l.length := by omega
    (conv => whnf)
    refine ⟨⟨by omega, by omega⟩, ?_⟩
    (conv => whnf)
    rw [show Int.toNat (k : Int) = k from rfl]
    refine ⟨fun q1 => ?_, fun q1 => ?_⟩
    · have e : l.findIdx (isSeq q) = k := by
        have z := ixE_hit hkk q1 hk.2
        unfold ixE at z
        rw [if_pos h] at z
        omega
      rw [e]
      (conv => whnf)
      refine ⟨⟨by omega, by omega⟩, ?_⟩
      (conv => whnf)
      rfl
    · refine ⟨k + 1, ?_⟩
      (conv => whnf)
      refine ⟨⟨⟨?_, ?_, ?_⟩, ?_, rfl, rfl⟩, by kernel_rfl, by kernel_rfl⟩
      · show l.length - (k + 1) < l.length - k; omega
      · omega
      · intro m h2
        by_cases e : m = k
        · subst e; exact q1
        · exact hk.2 m (by omega)
      · rw [w64 _ (by omega) (by omega)]; rfl
  · have h1 := of_decide_eq_false h1
    exfalso
    have z := ixE_none (p := isSeq q) fun m h2 => hk.2 m (by omega)
    unfold ixE at z
    rw [if_pos h] at z
    omega
theorem pc_findF (l : List EntT) (hl : l.length < 2 ^ 40) (q : Int) (h : ¬l.any (isSeq q) = true) : PC Tryz.prog 42 [ents l, i64 q] (.tup [entZ, .bool false]) := by
  refine pc_of_bodyF hm Tryz.func42 (by kernel_rfl) ?_
  conv => whnf
  refine Or.inr ⟨Nat, [9], [], [], fun k => [i64 k], fun _ => [], fun _ => [], fun k => l.length - k, fun k => k ≤ l.length, ?_⟩
  (conv => whnf)
  refine ⟨⟨0, ?_⟩, ?_⟩
  · (conv => whnf)
    exact ⟨⟨Nat.zero_le _, rfl, rfl, rfl⟩, by kernel_rfl, by kernel_rfl⟩
  intro k hk
  (conv => whnf)
  refine ⟨fun h1 => ?_, fun h1 => ?_⟩
  · have h1 := of_decide_eq_true h1
    have hkk : k < l.length := by omega
    (conv => whnf)
    refine ⟨⟨by omega, by omega⟩, ?_⟩
    (conv => whnf)
    rw [show Int.toNat (k : Int) = k from rfl]
    refine ⟨fun q1 => ?_, fun q1 => ?_⟩
    · exact absurd (any_of hkk (p := isSeq q) q1) h
    · refine ⟨k + 1, ?_⟩
      (conv => whnf)
      refine ⟨⟨⟨?_, ?_⟩, ?_, rfl, rfl⟩, by kernel_rfl, by kernel_rfl⟩
      · show l.length - (k + 1) < l.length - k; omega
      · show k + 1 ≤ l.length; omega
      · rw [w64 _ (by omega) (by omega)]; rfl
  · (conv => whnf)
end Go.Proofs.Tryz.My
