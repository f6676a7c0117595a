/- slices.Insert at []int, as a call that takes over rows and hands back one. A helper text: it speaks of no program. -/
import Derived.Test.YtnoahgjfeablgaaGreatEvSeven
import Derived.Shelf.Spec.SlicesInsert
import Derived.Shelf.Spec.SlicesInsertGrow
import Derived.Conc.MuLone
set_option linter.unusedVariables false
set_option linter.unusedSimpArgs false
namespace Go.Ev
theorem setVals_cons {us : Array Value} {o : Nat} {v : Value} {vs : List Value} (h : o + (vs.length + 1) ≤ us.size) : setVals (us.setIfInBounds o v) (o + 1) vs = setVals us o (v :: vs) := by
  apply Array.ext'
  have := list_seg_step us.toList o v vs (by simp; omega)
  simp only [setVals, Array.toList_setIfInBounds, List.length_cons]
  simpa [Nat.add_assoc, Nat.add_comm, Nat.add_left_comm] using this
theorem setCells_facts {b : Nat} {ty : TypeId} : ∀ (vs : List Value) (o : Nat) (w : World) (us : Array Value), w.heap[b]? = some (.cells us ty (0, 0)) → o + vs.length ≤ us.size →
    (w.setCells b o vs).heap[b]? = some (.cells (setVals us o vs) ty (0, 0)) ∧ (∀ k, k ≠ b → (w.setCells b o vs).heap[k]? = w.heap[k]?) ∧ (w.setCells b o vs).heap.size = w.heap.size ∧
      (w.setCells b o vs).os = w.os ∧ (w.setCells b o vs).tape = w.tape ∧ (w.setCells b o vs).output = w.output
  | [], o, w, us, h, hl => by
    have : setVals us o [] = us := by apply Array.ext'; simp [setVals]
    rw [this]
    exact ⟨h, fun _ _ => rfl, rfl, rfl, rfl, rfl⟩
  | v :: vs, o, w, us, h, hl => by
    simp only [List.length_cons] at hl
    have h1 : (w.setCell ⟨b, o, none⟩ v).heap[b]? = some (.cells (us.setIfInBounds o v) ty (0, 0)) := by
      simp [World.setCell, Array.getElem?_modify, h]
    have h2 : ∀ k, k ≠ b → (w.setCell ⟨b, o, none⟩ v).heap[k]? = w.heap[k]? := fun k hk => by
      simp [World.setCell, Array.getElem?_modify, Ne.symm hk]
    obtain ⟨g1, g2, g3, g4, g5, g6⟩ := setCells_facts vs (o + 1) (w.setCell ⟨b, o, none⟩ v) (us.setIfInBounds o v) h1 (by simp; omega)
    refine ⟨?_, fun k hk => (g2 k hk).trans (h2 k hk), g3.trans (by simp [World.setCell]), g4, g5, g6⟩
    rw [← setVals_cons (by omega)]
    exact g1
section
variable {P : Program} {β : Nat → Option Hd} {F : Nat → Prop} {w w' : World}
theorem pw_one {ins : List Row} (ho : Owned β F w ins) (hF : ∀ b, F b → b < w.heap.size) {n : Nat} (hn : β n = none) {hd : Hd} {r : Row} {outs : List Row} (hout : ∀ k, outs.getD k .none = if k = n then r else .none) (hbel : BelowO (fun b => w.heap.size ≤ b ∨ inB β b) w w')
    (hr : ∀ β', β' n = some hd → RowRep β' F w' n r) (hb : ∀ c, hasB (some hd) c → c < w'.heap.size ∧ (w.heap.size ≤ c ∨ inB β c) ∧ ¬ F c) :
    ∃ v β' F', Ending.returned (.slice (hd.b.map fun b => ⟨b, 0, none⟩) hd.len hd.cap) = .returned v ∧ BelowO (fun b => w.heap.size ≤ b ∨ inB β b) w w' ∧ (∀ k hd, β k = some hd → β' k = some hd) ∧ (∀ b, F b → F' b) ∧
      (∀ b, F' b → b < w'.heap.size ∧ (F b ∨ w.heap.size ≤ b ∨ inB β b)) ∧ Rep β' F' w' (.own n) v ∧ (∀ k, RowRep β' F' w' k (outs.getD k .none)) ∧
      (∀ i j b, outs.getD i .none ≠ .none → outs.getD j .none ≠ .none → occ β' i b → occ β' j b → i = j) ∧ (∀ i b, outs.getD i .none ≠ .none → occ β' i b → ¬ F' b) ∧
      (∀ i b, occ β' i b → b < w'.heap.size ∧ (w.heap.size ≤ b ∨ inB β b)) := by
  let β' : Nat → Option Hd := fun j => if j = n then some hd else β j
  have h1 : β' n = some hd := by simp [β']
  have h2 : ∀ j, j ≠ n → β' j = β j := fun j hj => by simp [β', hj]
  have live : ∀ i, outs.getD i .none ≠ .none → i = n := fun i hi => by
    rw [hout] at hi
    by_cases e : i = n
    · exact e
    · rw [if_neg e] at hi; exact absurd rfl hi
  refine ⟨_, β', F, rfl, hbel, fun k hd2 hk => (h2 k (fun e => by subst e; rw [hn] at hk; cases hk)).trans hk, fun _ h => h, fun b hb2 => ⟨Nat.lt_of_lt_of_le (hF b hb2) hbel.size, .inl hb2⟩, .own h1, fun k => ?_, fun i j b hi hj _ _ => (live i hi).trans (live j hj).symm, fun i b hi hbi => ?_, fun i b hbi => ?_⟩
  · rw [hout]
    split
    · rename_i e; subst e; exact hr β' h1
    · trivial
  · obtain rfl := live i hi
    rw [occ, h1] at hbi
    exact (hb b hbi).2.2
  · by_cases e : i = n
    · subst e; rw [occ, h1] at hbi; exact ⟨(hb b hbi).1, (hb b hbi).2.1⟩
    · rw [occ, h2 i e] at hbi
      exact ⟨Nat.lt_of_lt_of_le (ho.bB i b hbi) hbel.size, .inr ⟨i, hbi⟩⟩
end
end Go.Ev
