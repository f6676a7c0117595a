/- Structs and slices of structs that came in. A helper text: it speaks of no program. -/
import Derived.Test.YtnoahgjfeablgaaGreatEvV
set_option linter.unusedVariables false
set_option linter.unusedSimpArgs false
namespace Go.Ev
def Dec (P : Program) (e : TypeId) {α : Type} (en : α → List AV) (Q : α → Prop) : Prop :=
  ∀ {H : Type} {enc : TypeId × Value → H} {w : World} {base : Nat} {spare : Nat → Bool} {held : Bool} {fuel : Nat} {cs : List Value} {x : DataW H × List MemPlace}, DataW.trod enc P w base spare held fuel e cs = some x →
    ∃ y : α, Q y ∧ cs.length = P.cellsOf e ∧ ∀ j, j < cs.length → ∀ (F : Nat → Prop) (w' : World), RepI F w' ((en y).getD j .any) (cs.getD j undef)
theorem dec_int {P : Program} {e : TypeId} (he : P.underlying e = some (.int .i64)) (hc : P.cellsOf e = 1) : Dec P e eI I64 := by
  intro H enc w base spare held fuel cs x h
  obtain ⟨m, rfl, rfl, hw⟩ := DataW.trod_int he h
  refine ⟨m, wf_i64 hw, by simp [hc], fun j hj F w' => ?_⟩
  have : j = 0 := by simpa using hj
  subst this
  exact .int _ _
theorem dec_two {P : Program} {t : TypeId} {fs : Array Field} {f g : Field} {α β : Type} {en : α → List AV} {en' : β → List AV} {Q : α → Prop} {Q' : β → Prop} (ht : P.underlying t = some (.struct fs)) (h0 : fs[0]? = some f) (h1 : fs[1]? = some g)
    (o0 : f.offset = 0) (o1 : g.offset = P.cellsOf f.type) (hc : P.cellsOf t = P.cellsOf f.type + P.cellsOf g.type) (hf : Dec P f.type en Q) (hg : Dec P g.type en' Q') (hl : ∀ a, (en a).length = P.cellsOf f.type) :
    Dec P t (fun y : α × β => en y.1 ++ en' y.2) (fun y => Q y.1 ∧ Q' y.2) := by
  intro H enc w base spare held fuel cs x h
  obtain ⟨xs, n, rfl, rfl, hlen, hsz, hel⟩ := DataW.trod_struct ht h
  have e0 := hel 0 f h0
  have e1 := hel 1 g h1
  have s0 : 0 < fs.size := by
    rcases Nat.lt_or_ge 0 fs.size with h | h
    · exact h
    · rw [Array.getElem?_eq_none h] at h0; cases h0
  have s1 : 1 < fs.size := by
    rcases Nat.lt_or_ge 1 fs.size with h | h
    · exact h
    · rw [Array.getElem?_eq_none h] at h1; cases h1
  rw [List.getElem?_eq_getElem (by omega)] at e0 e1
  obtain ⟨y, q, l0, r0⟩ := hf e0
  obtain ⟨z, q', l1, r1⟩ := hg e1
  refine ⟨(y, z), ⟨q, q'⟩, hlen, fun j hj F w' => ?_⟩
  rw [o0, List.drop_zero] at r0 l0
  rw [o1] at r1 l1
  by_cases hj1 : j < P.cellsOf f.type
  · have := r0 j (by rw [l0]; exact hj1) F w'
    have e2 : (cs.take (P.cellsOf f.type)).getD j undef = cs.getD j undef := by simp [List.getD, List.getElem?_take, hj1]
    have e3 : (en y ++ en' z).getD j .any = (en y).getD j .any := by simp [List.getD, List.getElem?_append, hl, hj1]
    show RepI F w' ((en y ++ en' z).getD j .any) _
    rw [e3, ← e2]
    exact this
  · have := r1 (j - P.cellsOf f.type) (by rw [l1]; omega) F w'
    have e2 : ((cs.drop (P.cellsOf f.type)).take (P.cellsOf g.type)).getD (j - P.cellsOf f.type) undef = cs.getD j undef := by
      simp only [List.getD, List.getElem?_take, List.getElem?_drop]
      rw [if_pos (by omega)]
      congr 2
      omega
    have e3 : (en y ++ en' z).getD j .any = (en' z).getD (j - P.cellsOf f.type) .any := by simp [List.getD, List.getElem?_append, hl, hj1]
    show RepI F w' ((en y ++ en' z).getD j .any) _
    rw [e3, ← e2]
    exact this
theorem repI_struct {H : Type} {enc : TypeId × Value → H} {P : Program} {w : World} {r : Reach} {base : Nat} {spare : Nat → Bool} {held : Bool} {t : TypeId} {fs : Array Field} {v : Value} {d : DataW H} {ps : List MemPlace} (ht : P.underlying t = some (.struct fs))
    {α : Type} {en : α → List AV} {Q : α → Prop} (hd : Dec P t en Q) (hl : ∀ y, (en y).length = P.cellsOf t) (hv : Value.okWide P w r base t v) (h : DataW.Trod enc P w 0 spare held t v d ps) :
    ∃ y : α, Q y ∧ ∀ (F : Nat → Prop) (w' : World), RepI F w' (.agg (en y)) v := by
  unfold Value.okWide at hv
  rw [ht] at hv
  obtain ⟨cs, rfl, hcs, _⟩ := hv
  obtain ⟨fuel, h⟩ := h
  obtain ⟨y, q, h1, h2⟩ := hd h
  have e : (Value.agg cs).cells.toList = cs.toList := rfl
  rw [e] at h1 h2
  refine ⟨y, q, fun F w' => .agg (by rw [hl]; simpa using hcs.symm) fun i hi => ?_⟩
  have := h2 i (by rw [hl] at hi; omega) F w'
  have e2 : cs.toList.getD i undef = cs.getD i undef := by simp [List.getD, Array.getD_eq_getD_getElem?]
  rw [e2] at this
  exact this
end Go.Ev
