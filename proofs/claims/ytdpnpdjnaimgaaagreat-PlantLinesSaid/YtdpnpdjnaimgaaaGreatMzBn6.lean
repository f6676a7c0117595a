/- A helper text: contracts of functions of the program, and plain lemmas. -/
import Derived.Test.YtdpnpdjnaimgaaaGreatMzBnA
set_option maxRecDepth 100000
set_option maxHeartbeats 0
set_option linter.unusedVariables false
set_option linter.unusedSimpArgs false
namespace Go.Proofs.Tryz.My
open Go Go.Ev
def FixR (r s : RecT) : Prop := s.author = r.author ∧ s.gauge = r.gauge ∧ r.state ≤ s.state ∧ (r.appr.length ≤ s.appr.length ∧ s.appr.length ≤ r.appr.length + 1) ∧ ∀ u, u ∈ r.appr → u ∈ s.appr
theorem FixR.refl (r : RecT) : FixR r r := ⟨rfl, rfl, Int.le_refl _, ⟨Nat.le_refl _, Nat.le_succ _⟩, fun _ h => h⟩
structure Fixed (b c : BooksT) : Prop where
  ul : b.users.length ≤ c.users.length
  rl : b.recipes.length ≤ c.recipes.length
  us : ∀ i, i < b.users.length → c.users.getD i 0 = b.users.getD i 0
  rs : ∀ i, i < b.recipes.length → FixR (b.recipes.getD i rec0) (c.recipes.getD i rec0)
end Go.Proofs.Tryz.My
