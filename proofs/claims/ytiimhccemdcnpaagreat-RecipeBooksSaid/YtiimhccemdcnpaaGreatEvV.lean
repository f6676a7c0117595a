/- From a contract to a row. A helper text: it speaks of no program. -/
import Derived.Test.YtiimhccemdcnpaaGreatEvSix
import Derived.WideShapes
import Derived.ChangeSlices
set_option linter.unusedVariables false
set_option linter.unusedSimpArgs false
namespace Go.Ev
open Go.RowKit

theorem PC.calls {P : Program} {f : FuncId} {fn : Func} {c : Code} {args : List AV} {res : AV} (h : PC P f args res) (hf : P.funcs[f]? = some fn) (hname : (fn.name == "runtime.NumGoroutine") = false) (hb : fn.body = some c)
    {w : World} {vs : Array Value} (hsz : vs.size = args.length) (hargs : ∀ i, i < args.length → RepI (fun b => b < w.heap.size) w (args.getD i .any) (vs.getD i undef)) :
    Calls P f vs w fun e w' => ∃ v, e = .returned v ∧ Below w.heap.size w w' ∧ RepI (fun b => b < w.heap.size ∨ w.heap.size ≤ b) w' res v := by
  rcases h _ w vs (fun b hb => hb) hsz hargs with ⟨_, h⟩ | ⟨v, h, _⟩
  · exact h
  · rw [Go.MuLone.run_callFunc_enter hf hname hb] at h
    cases h

theorem PC.callsTrue {P : Program} {f : FuncId} {fn : Func} {c : Code} {args : List AV} (h : PC P f args (.bool true)) (hf : P.funcs[f]? = some fn) (hname : (fn.name == "runtime.NumGoroutine") = false) (hb : fn.body = some c)
    {w : World} {vs : Array Value} (hsz : vs.size = args.length) (hargs : ∀ i, i < args.length → RepI (fun b => b < w.heap.size) w (args.getD i .any) (vs.getD i undef)) :
    Calls P f vs w fun e w' => e = .returned (.bool true) ∧ Below w.heap.size w w' :=
  (h.calls hf hname hb hsz hargs).mono fun _ _ ⟨_, h1, h2, h3⟩ => ⟨by rw [h1]; cases h3; rfl, h2⟩

/-- A slice's place has no inner spot. -/
theorem okWide_spot {P : Program} {w : World} {r : Reach} {base : Nat} {t e : TypeId} (ht : P.underlying t = some (.slice e)) {x : Addr} {len cap : Nat} (h : Value.okWide P w r base t (.slice (some x) len cap)) : x.spot = none := by
  simp only [Value.okWide, ht, Cell.okWide] at h
  simp only [Cell.ok, ht] at h
  exact h.2.2.2.1

theorem wf_i64 {n : Int} (h : (Lit.int .i64 n).wf = true) : I64 n := by
  simp [Lit.wf, IntKind.min, IntKind.max, IntKind.signed, IntKind.bits] at h
  exact ⟨by omega, by omega⟩

/-- A slice of ints that came in. -/
theorem repI_ints {H : Type} {enc : TypeId × Value → H} {P : Program} {w : World} {r : Reach} {base fuel : Nat} {spare : Nat → Bool} {held : Bool} {t e : TypeId} {y : DataW H × List MemPlace} (ht : P.underlying t = some (.slice e)) (he : P.underlying e = some (.int .i64)) (hc : P.cellsOf e = 1)
    {a : Option Addr} {len cap : Nat} (hv : Value.okWide P w r base t (.slice a len cap)) (h : DataW.trod enc P w 0 spare held fuel t (Value.slice a len cap).cells.toList = some y) :
    ∃ l : List Int, RepI (fun b => b < w.heap.size) w (ints l) (.slice a len cap) ∧ (∀ n ∈ l, I64 n) ∧ l.length ≤ maxLen := by
  rcases Go.ChangeShapes.open_ints ht he hc h with ⟨hcs, _⟩ | ⟨x, l, c, zs, hcs, _, hl, hm, hz, _, hcell, hwz⟩
  · simp [Value.cells] at hcs
    obtain ⟨rfl, rfl, rfl⟩ := hcs
    exact ⟨[], .slnil, by simp, by simp⟩
  · simp [Value.cells] at hcs
    obtain ⟨rfl, rfl, rfl⟩ := hcs
    have hs := okWide_spot ht hv
    obtain ⟨b, o, sp⟩ := x
    simp only at hs
    subst hs
    have hlen : len ≤ zs.length := by rw [hz]; split <;> omega
    have e1 : (zs.take len).length = len := by simp; omega
    refine ⟨zs.take len, ?_, fun n hn => wf_i64 (hwz n (List.mem_of_mem_take hn)), by omega⟩
    have key : RepI (fun b => b < w.heap.size) w (ints (zs.take len)) (.slice (some ⟨b, o, none⟩) (zs.take len).length cap) := by
      refine .sl (fun i _ => .int .i64 (zs.getD i 0)) (by omega) (fun i j hi hj => ?_) fun i j hi hj => ?_
      · have := hcell i (by omega)
        rw [addr_add] at this
        have hj0 : j = 0 := by omega
        subst hj0
        rw [Nat.mul_one, Nat.add_zero]
        exact ⟨World.block_lt_of_cell? w ⟨b, o + i, none⟩ this, this⟩
      · have hj0 : j = 0 := by omega
        subst hj0
        have e2 : (zs.take len).getD i 0 = zs.getD i 0 := by
          simp [List.getD, List.getElem?_take, show i < len by omega]
        show RepI _ w (.int .i64 ((zs.take len).getD i 0)) _
        rw [e2]
        exact .int _ _
    rw [e1] at key
    exact key

end Go.Ev
