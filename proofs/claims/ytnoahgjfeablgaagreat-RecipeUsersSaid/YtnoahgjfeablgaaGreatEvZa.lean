/- Structs of any number of fields, and numbers of other kinds. A helper text: it speaks of no program. -/
import Derived.Test.YtnoahgjfeablgaaGreatEvZ
set_option linter.unusedVariables false
set_option linter.unusedSimpArgs false
namespace Go.Ev
def DecN (P : Program) (t : TypeId) (c : Nat) {α : Type} (en : α → List AV) (Q : α → Prop) : Prop :=
  ∀ {H : Type} {enc : TypeId × Value → H} {w : World} {base : Nat} {spare : Nat → Bool} {held : Bool} {fuel : Nat} {cs : List Value} {x : DataW H × List MemPlace}, DataW.trod enc P w base spare held fuel t cs = some x →
    ∃ y : α, Q y ∧ ∀ j, j < c → ∀ (F : Nat → Prop) (w' : World), RepI F w' ((en y).getD j .any) (cs.getD j undef)
theorem trod_field {H : Type} {enc : TypeId × Value → H} {P : Program} {w : World} {base : Nat} {spare : Nat → Bool} {held : Bool} {fuel : Nat} {cs : List Value} {x : DataW H × List MemPlace} {t : TypeId} {fs : Array Field} {f : Field} {k : Nat}
    (ht : P.underlying t = some (.struct fs)) (hk : fs[k]? = some f) (h : DataW.trod enc P w base spare held fuel t cs = some x) :
    ∃ n y, cs.length = P.cellsOf t ∧ DataW.trod enc P w base spare held n f.type ((cs.drop f.offset).take (P.cellsOf f.type)) = some y := by
  obtain ⟨xs, n, rfl, rfl, hlen, hsz, hel⟩ := DataW.trod_struct ht h
  have e := hel k f hk
  have s : k < fs.size := by
    rcases Nat.lt_or_ge k fs.size with h | h
    · exact h
    · rw [Array.getElem?_eq_none h] at hk; cases hk
  rw [List.getElem?_eq_getElem (by omega)] at e
  exact ⟨_, _, hlen, e⟩
theorem dec_one {P : Program} {t : TypeId} {fs : Array Field} {f : Field} {α : Type} {en : α → List AV} {Q : α → Prop} (ht : P.underlying t = some (.struct fs)) (hk : fs[0]? = some f) (ho : f.offset = 0) (hf : Dec P f.type en Q) : DecN P t (P.cellsOf f.type) en Q := by
  intro H enc w base spare held fuel cs x h
  obtain ⟨n, y, hlen, e⟩ := trod_field ht hk h
  obtain ⟨y, q, l0, r0⟩ := hf e
  refine ⟨y, q, fun j hj F w' => ?_⟩
  rw [ho, List.drop_zero] at r0 l0
  have := r0 j (by omega) F w'
  have e2 : (cs.take (P.cellsOf f.type)).getD j undef = cs.getD j undef := by simp [List.getD, List.getElem?_take, hj]
  rw [← e2]
  exact this
theorem dec_more {P : Program} {t : TypeId} {fs : Array Field} {f : Field} {k c : Nat} {α β : Type} {en : α → List AV} {en' : β → List AV} {Q : α → Prop} {Q' : β → Prop} (ht : P.underlying t = some (.struct fs)) (hk : fs[k]? = some f) (ho : f.offset = c)
    (ha : DecN P t c en Q) (hf : Dec P f.type en' Q') (hl : ∀ a, (en a).length = c) : DecN P t (c + P.cellsOf f.type) (fun y : α × β => en y.1 ++ en' y.2) (fun y => Q y.1 ∧ Q' y.2) := by
  intro H enc w base spare held fuel cs x h
  obtain ⟨n, y, hlen, e⟩ := trod_field ht hk h
  obtain ⟨z, q', l1, r1⟩ := hf e
  obtain ⟨y, q, r0⟩ := ha h
  refine ⟨(y, z), ⟨q, q'⟩, fun j hj F w' => ?_⟩
  rw [ho] at r1 l1
  by_cases hj1 : j < c
  · have e3 : (en y ++ en' z).getD j .any = (en y).getD j .any := by simp [List.getD, List.getElem?_append, hl, hj1]
    show RepI F w' ((en y ++ en' z).getD j .any) _
    rw [e3]
    exact r0 j hj1 F w'
  · have := r1 (j - c) (by rw [l1]; omega) F w'
    have e2 : ((cs.drop c).take (P.cellsOf f.type)).getD (j - c) undef = cs.getD j undef := by
      simp only [List.getD, List.getElem?_take, List.getElem?_drop]
      rw [if_pos (by omega)]
      congr 2
      omega
    have e3 : (en y ++ en' z).getD j .any = (en' z).getD (j - c) .any := by simp [List.getD, List.getElem?_append, hl, hj1]
    show RepI F w' ((en y ++ en' z).getD j .any) _
    rw [e3, ← e2]
    exact this
theorem dec_all {P : Program} {t : TypeId} {fs : Array Field} {c : Nat} {f : Field} {α : Type} {en : α → List AV} {Q : α → Prop} (ht : P.underlying t = some (.struct fs)) (hk : fs[0]? = some f) (hc : P.cellsOf t = c) (ha : DecN P t c en Q) : Dec P t en Q := by
  intro H enc w base spare held fuel cs x h
  obtain ⟨n, y, hlen, e⟩ := trod_field ht hk h
  obtain ⟨y, q, r0⟩ := ha h
  exact ⟨y, q, hlen, fun j hj F w' => r0 j (by omega) F w'⟩
theorem dec_num {P : Program} {e : TypeId} {k : IntKind} (he : P.underlying e = some (.int k)) (hc : P.cellsOf e = 1) : Dec P e (fun n => [.int k n]) (fun n => (Lit.int k n).wf = true) := by
  intro H enc w base spare held fuel cs x h
  obtain ⟨m, rfl, rfl, hw⟩ := DataW.trod_int he h
  refine ⟨m, hw, by simp [hc], fun j hj F w' => ?_⟩
  have : j = 0 := by simpa using hj
  subst this
  exact .int _ _
end Go.Ev
