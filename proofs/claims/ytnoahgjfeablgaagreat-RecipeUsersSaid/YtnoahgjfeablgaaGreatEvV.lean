/- From a contract to a row. A helper text: it speaks of no program. -/
import Derived.Test.YtnoahgjfeablgaaGreatEvSix
import Derived.WideShapes
import Derived.ChangeSlices
set_option linter.unusedVariables false
set_option linter.unusedSimpArgs false
namespace Go.Ev
open Go.RowKit
theorem PC.calls {P : Program} {f : FuncId} {fn : Func} {c : Code} {args : List AV} {res : AV} (h : PC P f args res) (hf : P.funcs[f]? = some fn) (hname : (fn.name == "runtime.NumGoroutine") = false) (hb : fn.body = some c)
    {w : World} {vs : Array Value} (hsz : vs.size = args.length) (hargs : ∀ i, i < args.length → RepI (fun b => b < w.heap.size) w (args.getD i .any) (vs.getD i undef)) :
    Calls P f vs w fun e w' => ∃ v, e = .returned v ∧ Below w.heap.size w w' ∧ RepI (fun b => b < w.heap.size ∨ w.heap.size ≤ b) w' res v := by
  rcases h _ w vs (fun b hb => hb) hsz hargs with ⟨_, h⟩ | ⟨v, h, _⟩
  · exact h
  · rw [Go.MuLone.run_callFunc_enter hf hname hb] at h
    cases h
theorem PC.callsTrue {P : Program} {f : FuncId} {fn : Func} {c : Code} {args : List AV} (h : PC P f args (.bool true)) (hf : P.funcs[f]? = some fn) (hname : (fn.name == "runtime.NumGoroutine") = false) (hb : fn.body = some c)
    {w : World} {vs : Array Value} (hsz : vs.size = args.length) (hargs : ∀ i, i < args.length → RepI (fun b => b < w.heap.size) w (args.getD i .any) (vs.getD i undef)) :
    Calls P f vs w fun e w' => e = .returned (.bool true) ∧ Below w.heap.size w w' :=
  (h.calls hf hname hb hsz hargs).mono fun _ _ ⟨_, h1, h2, h3⟩ => ⟨by rw [h1]; cases h3; rfl, h2⟩
theorem wf_i64 {n : Int} (h : (Lit.int .i64 n).wf = true) : I64 n := by
  simp [Lit.wf, IntKind.min, IntKind.max, IntKind.signed, IntKind.bits] at h
  exact ⟨by omega, by omega⟩
end Go.Ev
