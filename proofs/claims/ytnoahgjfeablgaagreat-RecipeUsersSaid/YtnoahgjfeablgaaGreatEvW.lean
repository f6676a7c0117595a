/- A row's closed facts, where the program's mark is long. A helper text: it speaks of no program. -/
import Derived.ProofKit
import Derived.KernelRfl
set_option linter.unusedVariables false
set_option linter.unusedSimpArgs false
namespace Go.Ev
open Go
theorem strip_cut (rest : List (List Char)) : stripLifts liftWords ("cut".toList :: rest) = ([], "cut".toList :: rest) := by
  have h : ∀ ws : List String, (ws.all fun w => !("cut".toList == w.toList)) = true → stripLifts ws ("cut".toList :: rest) = ([], "cut".toList :: rest) := by
    intro ws
    induction ws with
    | nil => intro _; rfl
    | cons w ws ih =>
      intro hw
      simp only [List.all_cons, Bool.and_eq_true, Bool.not_eq_true'] at hw
      simp only [stripLifts, hw.1, Bool.false_eq_true, if_false]
      exact ih hw.2
  exact h liftWords (by decide +kernel)
theorem mayEnter_gen (P : Program) (l : List Char) (hl : P.initOrder.toList = l) (b0 : (behindMainWord (wordsSigns l)).head? = some "cut".toList) (h1 : P.laysLater = false) (h2 : P.bearsReflect = false) (h3 : P.doorFits [] = true) : P.mayEnter = true := by
  unfold Program.mayEnter
  rw [hl]
  generalize behindMainWord (wordsSigns l) = m at b0 ⊢
  match m, b0 with
  | c :: rest, h =>
    have : c = "cut".toList := by simpa using h
    subst this
    simp only [strip_cut, h1, h2, h3]
    simp
theorem make_unf (P : Program) : P.make = (match behindMainWord (wordsSigns P.initOrder.toList) with
  | c :: rest => if c == "gc".toList || c == "spec".toList then some .whole else if c == "cut".toList || (c == "finals".toList && rest.head? == some "cut".toList) then some .cut else if c == "carried".toList then some .carried else if P.headLifts.isEmpty then none else some (.lifted P.headLifts)
  | [] => none) := rfl
theorem make_gen (P : Program) (l : List Char) (hl : P.initOrder.toList = l) (b0 : (behindMainWord (wordsSigns l)).head? = some "cut".toList) : P.make = some .cut := by
  rw [make_unf, hl]
  generalize behindMainWord (wordsSigns l) = m at b0 ⊢
  match m, b0 with
  | c :: rest, h =>
    have : c = "cut".toList := by simpa using h
    subst this
    have h1 : ("cut".toList == "gc".toList || "cut".toList == "spec".toList) = false := by decide +kernel
    have h2 : ("cut".toList == "cut".toList) = true := by decide +kernel
    simp only [h1, h2, Bool.true_or, if_true, Bool.false_eq_true, if_false]
theorem liftsFinal_gen (P : Program) (l : List Char) (hl : P.initOrder.toList = l) (b0 : (behindMainWord (wordsSigns l)).head? = some "cut".toList) : P.liftsFinal = false := by
  unfold Program.liftsFinal Program.headLifts
  rw [hl]
  generalize behindMainWord (wordsSigns l) = m at b0 ⊢
  match m, b0 with
  | c :: rest, h =>
    have : c = "cut".toList := by simpa using h
    subst this
    simp only [strip_cut]
    have h1 : (some "cut".toList == some "carried".toList) = false := by decide +kernel
    simp [h1]
def restOf (P : Program) (f : FuncId) (fn : Func) (s : ChangeSpec) (c : OpenClaim) (m1 : P.make = some .cut) (m2 : P.mayEnter = true) (m3 : P.liftsFinal = false) : { b : Bool // b = true → joinedFacts P f fn s c = true } :=
  ⟨_, by
    unfold joinedFacts
    rw [m1, m2, m3]
    exact id⟩
end Go.Ev
