/- Calls that the model stands in for: sums and differences of words with carry. A helper text: it speaks of no program. -/
import Derived.Test.YtpcipgblegdeeaaEvY
import Derived.Laws.Externs
set_option linter.unusedVariables false
set_option linter.unusedSimpArgs false
namespace Go.Ev
theorem RepI.int_inv {F : Nat → Prop} {w : World} {k : IntKind} {n : Int} {v : Value} (h : RepI F w (.int k n) v) : v = .int k n := by cases h; rfl
theorem three_ints {F : Nat → Prop} {w : World} {vs : Array Value} {x y c : Nat} (hsz : vs.size = 3) (h : ∀ i, i < 3 → RepI F w ([u64 x, u64 y, u64 c].getD i .any) (vs.getD i undef)) : vs = #[.int .u64 x, .int .u64 y, .int .u64 c] := by
  have h0 : vs.getD 0 undef = .int .u64 x := (h 0 (by omega)).int_inv
  have h1 : vs.getD 1 undef = .int .u64 y := (h 1 (by omega)).int_inv
  have h2 : vs.getD 2 undef = .int .u64 c := (h 2 (by omega)).int_inv
  have e : ∀ i, (hi : i < vs.size) → vs.getD i undef = vs[i] := fun i hi => by simp [Array.getD, hi]
  rw [e _ (by omega)] at h0 h1 h2
  apply Array.ext
  · simpa using hsz
  · intro i hi hj
    have : i = 0 ∨ i = 1 ∨ i = 2 := by simp at hj; omega
    rcases this with rfl | rfl | rfl
    · exact h0
    · exact h1
    · exact h2
theorem rep_two {F : Nat → Prop} {w : World} (a b : Nat) : RepI F w (.tup [u64 a, u64 b]) (.tuple #[.int .u64 a, .int .u64 b]) := by
  refine .tup rfl fun i hi => ?_
  have : i = 0 ∨ i = 1 := by simp at hi; omega
  rcases this with rfl | rfl
  · exact .int _ _
  · exact .int _ _
theorem pc_add64 {P : Program} {f : FuncId} {fn : Func} (hf : P.funcs[f]? = some fn) (hname : (fn.name == "runtime.NumGoroutine") = false) (hb : fn.body.isNone = true) (hn : Extern.findNext fn = none) (he : Extern.find fn = some add64Entry)
    (x y c : Nat) (hc : c ≤ 1) : PC P f [u64 x, u64 y, u64 c] (.tup [u64 ((x + y + c) % 18446744073709551616), u64 ((x + y + c) / 18446744073709551616)]) := by
  intro F w vs _ hsz h
  have hv := three_ints hsz h
  subst hv
  have := run_callFunc_extern hf hname hb hn he #[.int .u64 x, .int .u64 y, .int .u64 c] w
  rw [run_add64 x y c (by omega) (by omega) (by omega) (by omega)] at this
  refine .inr ⟨_, this, ?_⟩
  have e1 : ((x : Int) + y + c) % 18446744073709551616 = (((x + y + c) % 18446744073709551616 : Nat) : Int) := by omega
  have e2 : ((x : Int) + y + c) / 18446744073709551616 = (((x + y + c) / 18446744073709551616 : Nat) : Int) := by omega
  rw [e1, e2]
  exact rep_two _ _
/-- The model's row for the difference. -/
def subEntry : Array Value → Sem Value := (Extern.MathBitsCarry.rows.getD 1 ("", fun _ => pure undef)).2
theorem pc_sub64 {P : Program} {f : FuncId} {fn : Func} (hf : P.funcs[f]? = some fn) (hname : (fn.name == "runtime.NumGoroutine") = false) (hb : fn.body.isNone = true) (hn : Extern.findNext fn = none) (he : Extern.find fn = some subEntry)
    (x y c : Nat) (hc : c ≤ 1) : PC P f [u64 x, u64 y, u64 c] (.tup [u64 ((x + 18446744073709551616 - y - c) % 18446744073709551616), u64 (if x < y + c then 1 else 0)]) := by
  intro F w vs _ hsz h
  have hv := three_ints hsz h
  subst hv
  have := run_callFunc_extern hf hname hb hn he #[.int .u64 x, .int .u64 y, .int .u64 c] w
  refine .inr ⟨.tuple #[.int .u64 (((x + 18446744073709551616 - y - c) % 18446744073709551616 : Nat) : Int), .int .u64 ((if x < y + c then 1 else 0 : Nat) : Int)], this.trans ?_, rep_two _ _⟩
  have : c = 0 ∨ c = 1 := by omega
  rcases this with rfl | rfl <;> rfl
end Go.Ev
