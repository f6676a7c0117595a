/- A helper text: contracts of functions of the program, and plain lemmas. -/
import Derived.Test.YtnoahgjfeablgaaGreatMzMr0
import Derived.Test.YtnoahgjfeablgaaGreatMzGcA
import Derived.Test.YtnoahgjfeablgaaGreatMzDd0
set_option maxRecDepth 100000
set_option maxHeartbeats 0
set_option linter.unusedVariables false
set_option linter.unusedSimpArgs false
namespace Go.Proofs.Tryz.My
open Go Go.Ev
def byQ (moves : List Int) (noise : Int) (i : Nat) : Int := if i < moves.length then Int.tmod (moves.getD i 0) (4 * noise + 1) else 0
def clipQ (v : Int) : Int := if (if v > 0 then v else 0) < 1020 then (if v > 0 then v else 0) else 1020
def valQ (p moves : List Int) (noise : Int) (i : Nat) : Int := clipQ (4 * p.getD i 0 + byQ moves noise i)
def alwL (p moves : List Int) (noise : Int) : List Int := (List.range p.length).map (valQ p moves noise)
def sclL (p : List Int) : List Int := p.map (fun v => 4 * v)
def fstN (q : List Int) (thr a : Int) : Int × Int × Bool :=
  match brk q thr a 1 with
  | none => (0, 1, false)
  | some k => ((placeN q thr a 1 k).1, (placeN q thr a 1 k).2, true)
def bigL (q : List Int) : Prop := ∀ i, i < q.length → 0 ≤ q.getD i 0 ∧ q.getD i 0 ≤ 1020
def holB (s : SpT) (n d : Int) : Bool := decide ((makeF n d).2 = 0) && (spanB s && validB (makeF n d).1 && hasB s (makeF n d).1)
theorem mul_size {a b A B : Int} (h1 : -A ≤ a) (h2 : a ≤ A) (h3 : 0 ≤ b) (h4 : b ≤ B) : -(A * B) ≤ a * b ∧ a * b ≤ A * B := by
  have k1 : a * b ≤ A * b := Int.mul_le_mul_of_nonneg_right h2 h3
  have k2 : (-A) * b ≤ a * b := Int.mul_le_mul_of_nonneg_right h1 h3
  have k3 : A * b ≤ A * B := Int.mul_le_mul_of_nonneg_left h4 (by omega)
  have k4 : (-A) * b = -(A * b) := by grind
  omega
end Go.Proofs.Tryz.My
