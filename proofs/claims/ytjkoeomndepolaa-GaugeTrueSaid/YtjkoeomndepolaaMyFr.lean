/- A helper text: contracts of functions of the program, and plain lemmas. -/
import Derived.Test.YtjkoeomndepolaaMyEx1
set_option maxRecDepth 100000
set_option maxHeartbeats 0
set_option linter.unusedVariables false
set_option linter.unusedSimpArgs false
namespace Go.Proofs.Try.My
open Go Go.Ev

def outB (lo hi n : Int) : Bool := decide (n < lo) || decide (hi < n)
theorem pc_from1 (n lo hi : Int) : PC Try.prog 164 [i64 n, .pt [i64 lo] 0, .pt [i64 hi] 0] (.bool (outB lo hi n)) := by
  refine pc_of_body hm Try.func164 (by kernel_rfl) ?_
  conv => whnf
  refine ⟨fun h => ?_, fun h => ?_⟩ <;> ((conv => whnf); simp_all [-decide_eq_true_eq, -decide_eq_false_iff_not, outB])

theorem pc_IndexFunc_from (l : List Int) (lo hi : Int) (hl : l.length < 2 ^ 40) : PC Try.prog 113 [ints l, .fn (.func 164) [] [.pt [i64 lo] 0, .pt [i64 hi] 0]] (i64 (ixF (outB lo hi) l)) := by
  refine pc_of_body hm Try.func113 (by kernel_rfl) ?_
  conv => whnf
  refine Or.inr ⟨Nat, [8], [], [], fun k => [i64 k], fun _ => [], fun _ => [], fun k => l.length - k, fun k => k ≤ l.length ∧ ∀ i, i < k → outB lo hi (l.getD i 0) = false, ?_⟩
  (conv => whnf)
  refine ⟨⟨0, ?_⟩, ?_⟩
  · (conv => whnf)
    exact ⟨⟨by simp, rfl, rfl, rfl⟩, by kernel_rfl, by kernel_rfl⟩
  · intro k hk
    (conv => whnf)
    refine ⟨fun h => ?_, fun h => ?_⟩
    · have h := of_decide_eq_true h
      (conv => whnf)
      refine ⟨⟨by omega, by omega⟩, ?_⟩
      (conv => whnf)
      (first | (refine Or.inl ?_; (conv => whnf); refine ⟨_, pc_from1 _ _ _, ?_⟩) | refine ⟨_, pc_from1 _ _ _, ?_⟩)
      (conv => whnf)
      refine ⟨fun h2 => ?_, fun h2 => ?_⟩
      · (conv => whnf)
        exact congrArg i64 (ixF_hit _ 0 l k (by omega) h2 hk.2).symm
      · refine ⟨k + 1, ?_⟩
        (conv => whnf)
        refine ⟨⟨⟨?_, ?_, ?_⟩, ?_, rfl, rfl⟩, by kernel_rfl, by kernel_rfl⟩
        · show l.length - (k + 1) < l.length - k; omega
        · omega
        · intro i hi
          by_cases e : i = k
          · subst e; exact h2
          · exact hk.2 i (by omega)
        · rw [w64 _ (by omega) (by omega)]; rfl
    · have h := of_decide_eq_false h
      (conv => whnf)
      exact congrArg i64 (ixF_none _ 0 l fun i hi => hk.2 i (by omega)).symm

theorem pc_ContainsFunc_from (l : List Int) (lo hi : Int) (hl : l.length < 2 ^ 40) : PC Try.prog 71 [ints l, .fn (.func 164) [] [.pt [i64 lo] 0, .pt [i64 hi] 0]] (.bool (l.any (outB lo hi))) := by
  refine pc_of_body hm Try.func71 (by kernel_rfl) ?_
  conv => whnf
  (first | (refine Or.inl ?_; (conv => whnf); refine ⟨_, pc_IndexFunc_from l lo hi hl, ?_⟩) | refine ⟨_, pc_IndexFunc_from l lo hi hl, ?_⟩)
  (conv => whnf)
  rw [ixF_any]

theorem pc_from (lo hi : Int) (l : List Int) (hl : l.length < 2 ^ 40) : PC Try.prog 151 [i64 lo, i64 hi, ints l] (.bool (!l.any (outB lo hi))) := by
  refine pc_of_body hm Try.func151 (by kernel_rfl) ?_
  conv => whnf
  (first | (refine Or.inl ?_; (conv => whnf); refine ⟨_, pc_ContainsFunc_from l lo hi hl, ?_⟩) | refine ⟨_, pc_ContainsFunc_from l lo hi hl, ?_⟩)
  (conv => whnf)
theorem pc_fromL (lo hi : Int) (l : List Int) (hl : l.length < 2 ^ 40) : PC Try.prog 151 [i64 lo, i64 hi, .slc 1 (l.map eI)] (.bool (!l.any (outB lo hi))) :=
  PC.last (args := [i64 lo, i64 hi]) (pc_from lo hi l hl) (.slc 1 0 eI l)

def withB (n lo hi : Int) : Bool := decide (lo ≤ n) && decide (n ≤ hi)
theorem pc_within (n lo hi : Int) : PC Try.prog 99 [i64 n, i64 lo, i64 hi] (.bool (withB n lo hi)) := by
  refine pc_of_body hm Try.func99 (by kernel_rfl) ?_
  conv => whnf
  refine ⟨fun h => ?_, fun h => ?_⟩ <;> ((conv => whnf); simp_all [-decide_eq_true_eq, -decide_eq_false_iff_not, withB])

end Go.Proofs.Try.My
