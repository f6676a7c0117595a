/- A helper text: contracts of functions of the program, and plain lemmas. -/
import Derived.Test.YtiimhccemdcnpaaMyRf1
set_option maxRecDepth 100000
set_option maxHeartbeats 0
set_option linter.unusedVariables false
set_option linter.unusedSimpArgs false
namespace Go.Proofs.Try.My
open Go Go.Ev

def lowN (sg : Int) (n d : Nat) : (Int × Int) × Bool := if n ≤ 4611686018427387903 ∧ d ≤ 4611686018427387903 then ((if sg < 0 then -(n : Int) else (n : Int), (d : Int)), true) else ((0, 0), false)
def lowF (sg : Int) (N D : Nat) : (Int × Int) × Bool := lowN sg (N / Nat.gcd N D) (D / Nat.gcd N D)
theorem sgn_mul (a b : Int) : sgR a * sgR b = if a = 0 ∨ b = 0 then 0 else if (decide (a < 0) != decide (b < 0)) = true then -1 else 1 := by
  unfold sgR
  by_cases h1 : a < 0 <;> by_cases h2 : b < 0 <;> by_cases h3 : 0 < a <;> by_cases h4 : 0 < b <;> simp [h1, h2, h3, h4] <;> omega
theorem make_low (num den : Int) (hd : den ≠ 0) : makeF num den = (if (lowF (sgR num * sgR den) num.natAbs den.natAbs).2 then (lowF (sgR num * sgR den) num.natAbs den.natAbs).1 else (0, 0), if (lowF (sgR num * sgR den) num.natAbs den.natAbs).2 then 0 else 4) := by
  unfold makeF lowF
  rw [if_neg hd, sgn_mul]
  by_cases h0 : num = 0
  · subst h0
    simp [madeF, lowN]
    split <;> simp
  · unfold madeF lowN
    have : ¬ (num = 0 ∨ den = 0) := by omega
    rw [if_neg this]
    generalize (decide (num < 0) != decide (den < 0)) = b
    split <;> cases b <;> simp
theorem sgn_i (n : Int) : -1 ≤ sgR n ∧ sgR n ≤ 1 := by unfold sgR; split <;> (try split) <;> omega
end Go.Proofs.Try.My
