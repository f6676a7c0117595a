/- A helper text: contracts of functions of the program, and plain lemmas. -/
import Derived.Test.YtiimhccemdcnpaaMyRf2
import Derived.Test.YtiimhccemdcnpaaMyExB
set_option maxRecDepth 100000
set_option maxHeartbeats 0
set_option linter.unusedVariables false
set_option linter.unusedSimpArgs false
namespace Go.Proofs.Try.My
open Go Go.Ev

/-- A fraction, and whether it fits. -/
abbrev okF (r : (Int × Int) × Int) : AV := .tup [fr r.1, .bool (decide (r.2 = 0))]
theorem low_eq {sg : Int} {N D : Nat} (hD : 0 < D) {r : (Int × Int) × Int} (hr : r = makeF (if sg < 0 then -(N : Int) else (N : Int)) (D : Int)) : lowF sg N D = (r.1, decide (r.2 = 0)) := by
  rw [hr, makeF_pos (by omega)]
  unfold lowF
  have e1 : (if sg < 0 then -(N : Int) else (N : Int)).natAbs = N := by split <;> omega
  rw [e1, Int.natAbs_natCast]
  unfold lowN madeF
  have hg : 0 < Nat.gcd N D := Nat.gcd_pos_of_pos_right _ hD
  by_cases hc : N / Nat.gcd N D ≤ 4611686018427387903 ∧ D / Nat.gcd N D ≤ 4611686018427387903
  · simp only [hc, and_self, if_true]
    by_cases hs : sg < 0
    · by_cases hn : N = 0
      · subst hn; simp [hs]
      · have : -(N : Int) < 0 := by omega
        simp [hs, this]
        intro h; omega
    · have : ¬ (N : Int) < 0 := by omega
      simp [hs, this]
  · simp only [hc, if_false]
    simp
theorem sgn_cases (n : Int) : (n < 0 ∧ sgR n = -1) ∨ (n = 0 ∧ sgR n = 0) ∨ (0 < n ∧ sgR n = 1) := by
  unfold sgR
  by_cases h1 : n < 0
  · simp [h1]
  · by_cases h2 : 0 < n
    · simp [h1, h2]
    · right; left; simp [h1, h2]; omega
theorem natMul (n : Int) (k : Int) (hk : 0 ≤ k) : ((n.natAbs * k.natAbs : Nat) : Int) = if n < 0 then -(n * k) else n * k := by
  rw [Int.natCast_mul, show ((k.natAbs : Nat) : Int) = k by omega]
  split
  · rw [show ((n.natAbs : Nat) : Int) = -n by omega, Int.neg_mul]
  · rw [show ((n.natAbs : Nat) : Int) = n by omega]
end Go.Proofs.Try.My
