/- Each operation does what its abstract twin says. A helper text: it speaks of no program. -/
import Derived.Test.YtanhmmiifbhcpaaEvC
import Derived.Laws.StructEq
import Derived.ChangeKeysEq
set_option linter.unusedVariables false
set_option linter.unusedSimpArgs false
namespace Go.Ev

/-! ### What a known abstract value says of the value -/
section
variable {β : Nat → Option Hd} {F : Nat → Prop} {w : World} {v : Value}
theorem Rep.tt_inv (h : Rep β F w .tt v) : v = .bool true := by cases h with | imm h => cases h; rfl
theorem Rep.ff_inv (h : Rep β F w .ff v) : v = .bool false := by cases h with | imm h => cases h; rfl
theorem Rep.bool_inv {b} (h : Rep β F w (.bool b) v) : v = .bool b := by cases h with | imm h => cases h; rfl
theorem Rep.int_inv {k n} (h : Rep β F w (.int k n) v) : v = .int k n := by cases h with | imm h => cases h; rfl
theorem Rep.nilp_inv (h : Rep β F w .nilp v) : v = .pointer none := by cases h with | imm h => cases h; rfl
theorem Rep.nils_inv (h : Rep β F w .nils v) : v = .slice none 0 0 := by cases h with | imm h => cases h; rfl
theorem Rep.toB_inv {x : AV} {b : Bool} (h : Rep β F w x v) (hb : x.toB = some b) : v = .bool b := by
  cases x <;> simp [AV.toB] at hb
  · rw [hb]; exact h.tt_inv
  · rw [hb]; exact h.ff_inv
  · rw [← hb]; exact h.bool_inv
theorem Rep.agg_inv {xs} (h : Rep β F w (.agg xs) v) : ∃ vs : Array Value, v = .agg vs ∧ xs.length = vs.size ∧ ∀ i, i < xs.length → Rep β F w (xs.getD i .any) (vs.getD i undef) := by
  cases h with
  | imm h => cases h with | agg hl h => exact ⟨_, rfl, hl, fun i hi => .imm (h i hi)⟩
  | agg hl h => exact ⟨_, rfl, hl, h⟩
theorem Rep.tup_inv {xs} (h : Rep β F w (.tup xs) v) : ∃ vs : Array Value, v = .tuple vs ∧ xs.length = vs.size ∧ ∀ i, i < xs.length → Rep β F w (xs.getD i .any) (vs.getD i undef) := by
  cases h with
  | imm h => cases h with | tup hl h => exact ⟨_, rfl, hl, fun i hi => .imm (h i hi)⟩
  | tup hl h => exact ⟨_, rfl, hl, h⟩
theorem Rep.fn_inv {f xs ys} (h : Rep β F w (.fn f xs ys) v) : ∃ vs us : Array Value, v = .func f vs us ∧ xs.length = vs.size ∧ ys.length = us.size ∧
    (∀ i, i < xs.length → Rep β F w (xs.getD i .any) (vs.getD i undef)) ∧ ∀ i, i < ys.length → Rep β F w (ys.getD i .any) (us.getD i undef) := by
  cases h with
  | imm h => cases h with | fn hl h hm k => exact ⟨_, _, rfl, hl, hm, fun i hi => .imm (h i hi), fun i hi => .imm (k i hi)⟩
  | fn hl h hm k => exact ⟨_, _, rfl, hl, hm, h, k⟩
theorem Rep.ptr_inv {id sz i off} (h : Rep β F w (.ptr id sz i off) v) : ∃ hd b, β id = some hd ∧ hd.b = some b ∧ v = .pointer (some ⟨b, i * sz + off, none⟩) := by
  cases h with
  | imm h => cases h
  | ptr hb hh => exact ⟨_, _, hb, hh, rfl⟩
theorem Rep.own_inv {id} (h : Rep β F w (.own id) v) : ∃ hd, β id = some hd ∧ v = .slice (hd.b.map fun b => ⟨b, 0, none⟩) hd.len hd.cap := by
  cases h with
  | imm h => cases h
  | own hb => exact ⟨_, hb, rfl⟩
theorem Rep.pt_inv {cs off} (h : Rep β F w (.pt cs off) v) : ∃ (b o : Nat) (g : Nat → Value), v = .pointer (some ⟨b, o + off, none⟩) ∧ (∀ j, j < cs.length → F b ∧ w.cell? ⟨b, o + j, none⟩ = some (g j)) ∧ ∀ j, j < cs.length → RepI F w (cs.getD j .any) (g j) := by
  cases h with | imm h => cases h with | pt g hb h => exact ⟨_, _, g, rfl, hb, h⟩
theorem Rep.sl_inv {α : Type} {sz : Nat} {d : α} {enc : α → List AV} {l : List α} (h : Rep β F w (.sl sz d enc l) v) : (l = [] ∧ v = .slice none 0 0) ∨ ∃ (b o cap : Nat) (g : Nat → Nat → Value), v = .slice (some ⟨b, o, none⟩) l.length cap ∧ l.length ≤ cap ∧
    (∀ i j, i < l.length → j < sz → F b ∧ w.cell? ⟨b, o + i * sz + j, none⟩ = some (g i j)) ∧ ∀ i j, i < l.length → j < sz → RepI F w ((enc (l.getD i d)).getD j .any) (g i j) := by
  cases h with
  | imm h =>
    cases h with
    | slnil => exact .inl ⟨rfl, rfl⟩
    | sl g hc hb h => exact .inr ⟨_, _, _, g, rfl, hc, hb, h⟩
theorem Rep.slc_inv {sz : Nat} {css : List (List AV)} (h : Rep β F w (.slc sz css) v) : (css = [] ∧ v = .slice none 0 0) ∨ ∃ (b o cap : Nat) (g : Nat → Nat → Value), v = .slice (some ⟨b, o, none⟩) css.length cap ∧ css.length ≤ cap ∧
    (∀ i j, i < css.length → j < sz → F b ∧ w.cell? ⟨b, o + i * sz + j, none⟩ = some (g i j)) ∧ ∀ i j, i < css.length → j < sz → RepI F w ((css.getD i []).getD j .any) (g i j) := by
  cases h with
  | imm h =>
    cases h with
    | slcnil => exact .inl ⟨rfl, rfl⟩
    | slc g hc hb h => exact .inr ⟨_, _, _, g, rfl, hc, hb, h⟩
end

/-! ### The cells of a value -/
theorem Rep.one_cell {β F w} {x : AV} {v : Value} (h : Rep β F w x v) (hx : x.one = true) : v.oneCell' = true ∧ v.cells = #[v] := by
  cases h with
  | imm h => cases h <;> first | (simp [AV.one] at hx; done) | exact ⟨rfl, rfl⟩
  | _ => first | (simp [AV.one] at hx; done) | exact ⟨rfl, rfl⟩

theorem allOne_getD : ∀ {l : List AV}, allOne l = true → ∀ i, i < l.length → (l.getD i .any).one = true
  | a :: l, h, 0, _ => by simp [allOne] at h; exact h.1
  | a :: l, h, i + 1, hi => by
    simp [allOne] at h
    have := allOne_getD h.2 i (by simpa using hi)
    simpa using this

/-- The cells of a value whose shape is known: as many, one for one, each a single cell. -/
theorem cells?_rep {β F w} {x : AV} {v : Value} {l : List AV} (h : Rep β F w x v) (hx : x.cells? = some l) :
    v.cells.size = l.length ∧ (∀ i, i < l.length → Rep β F w (l.getD i .any) (v.cells.getD i undef)) ∧ ∀ u ∈ v.cells.toList, u.oneCell' = true := by
  have single : x.one = true → l = [x] → v.cells.size = l.length ∧ (∀ i, i < l.length → Rep β F w (l.getD i .any) (v.cells.getD i undef)) ∧ ∀ u ∈ v.cells.toList, u.oneCell' = true := by
    rintro h1 rfl
    obtain ⟨h2, h3⟩ := h.one_cell h1
    rw [h3]
    refine ⟨rfl, fun i hi => ?_, fun u hu => ?_⟩
    · have : i = 0 := by simp at hi; omega
      subst this
      exact h
    · simp at hu; rw [hu]; exact h2
  cases x with
  | agg xs =>
    simp only [AV.cells?] at hx
    cases ho : allOne xs with
    | false => simp [ho] at hx
    | true =>
      simp only [ho, Option.some.injEq] at hx
      subst hx
      obtain ⟨vs, rfl, hl, hr⟩ := h.agg_inv
      refine ⟨hl.symm, hr, fun u hu => ?_⟩
      obtain ⟨i, hi, rfl⟩ := List.getElem_of_mem hu
      have hi' : i < xs.length := by rw [hl]; simpa [Value.cells] using hi
      have := ((hr i hi').one_cell (allOne_getD ho i hi')).1
      have e : vs.getD i undef = (Value.agg vs).cells.toList[i] := by
        simp only [Value.cells, Array.getElem_toList]
        simp [Array.getD_eq_getD_getElem?, hl ▸ hi']
      rw [← e]; exact this
  | any => simp [AV.cells?] at hx
  | tup => simp [AV.cells?] at hx
  | _ => exact single rfl (by simpa [AV.cells?] using hx.symm)

theorem getD_setCells {cs l : List AV} {off : Nat} (h : off + l.length ≤ cs.length) (i : Nat) :
    (setCells cs off l).getD i .any = if off ≤ i ∧ i < off + l.length then l.getD (i - off) .any else cs.getD i .any := by
  have hlen : (cs.take off).length = off := by simp; omega
  simp only [setCells, List.getD, List.append_assoc]
  by_cases h1 : i < off
  · rw [List.getElem?_append_left (by omega), List.getElem?_take_of_lt h1]
    simp [show ¬ (off ≤ i ∧ i < off + l.length) by omega]
  · rw [List.getElem?_append_right (by omega), hlen]
    by_cases h2 : i < off + l.length
    · rw [List.getElem?_append_left (by omega)]
      simp [show off ≤ i ∧ i < off + l.length by omega]
    · rw [List.getElem?_append_right (by omega), List.getElem?_drop]
      simp [show ¬ (off ≤ i ∧ i < off + l.length) by omega, show off + l.length + (i - off - l.length) = i by omega]
theorem length_setCells {cs l : List AV} {off : Nat} (h : off + l.length ≤ cs.length) : (setCells cs off l).length = cs.length := by
  simp [setCells]; omega

/-- The same on values. -/
def setVals (cs : Array Value) (off : Nat) (l : List Value) : Array Value := (cs.toList.take off ++ l ++ cs.toList.drop (off + l.length)).toArray
theorem getD_setVals {cs : Array Value} {l : List Value} {off : Nat} (h : off + l.length ≤ cs.size) (i : Nat) :
    (setVals cs off l).getD i undef = if off ≤ i ∧ i < off + l.length then l.getD (i - off) undef else cs.getD i undef := by
  have hs : cs.toList.length = cs.size := by simp
  have hlen : (cs.toList.take off).length = off := by simp; omega
  simp only [setVals, Array.getD_eq_getD_getElem?, List.getElem?_toArray, List.getD, List.append_assoc]
  by_cases h1 : i < off
  · rw [List.getElem?_append_left (by omega), List.getElem?_take_of_lt h1]
    simp [show ¬ (off ≤ i ∧ i < off + l.length) by omega]
  · rw [List.getElem?_append_right (by omega), hlen]
    by_cases h2 : i < off + l.length
    · rw [List.getElem?_append_left (by omega)]
      simp [show off ≤ i ∧ i < off + l.length by omega]
    · rw [List.getElem?_append_right (by omega), List.getElem?_drop]
      simp [show ¬ (off ≤ i ∧ i < off + l.length) by omega, show off + l.length + (i - off - l.length) = i by omega]
theorem size_setVals {cs : Array Value} {l : List Value} {off : Nat} (h : off + l.length ≤ cs.size) : (setVals cs off l).size = cs.size := by
  simp [setVals]; omega

/-- A row of cells stands for a list of abstract ones. -/
def Reps (R : AV → Value → Prop) (xs : List AV) (vs : Array Value) : Prop := xs.length = vs.size ∧ ∀ i, i < xs.length → R (xs.getD i .any) (vs.getD i undef)
theorem Reps.set {R : AV → Value → Prop} {xs l : List AV} {vs ls : Array Value} {off : Nat} (h : Reps R xs vs) (hl : Reps R l ls) (ho : off + l.length ≤ xs.length) : Reps R (setCells xs off l) (setVals vs off ls.toList) := by
  have e : ls.toList.length = l.length := by rw [hl.1]; simp
  have ho' : off + ls.toList.length ≤ vs.size := by rw [e, ← h.1]; exact ho
  refine ⟨by rw [length_setCells ho, size_setVals ho']; exact h.1, fun i hi => ?_⟩
  rw [length_setCells ho] at hi
  rw [getD_setCells ho, getD_setVals ho', e]
  split
  · rename_i hc
    have := hl.2 (i - off) (by omega)
    have e2 : ls.toList.getD (i - off) undef = ls.getD (i - off) undef := by simp [List.getD, Array.getD_eq_getD_getElem?]
    rw [e2]; exact this
  · exact h.2 i hi

/-- 'fill' writes what its abstract twin writes. -/
theorem foldl_setVals : ∀ (l : List Value) (cs : Array Value) (off k : Nat), off + k + l.length ≤ cs.size →
    (l.zipIdx k).foldl (fun (cs : Array Value) (x : Value × Nat) => cs.setIfInBounds (off + x.2) x.1) cs = setVals cs (off + k) l
  | [], cs, off, k, _ => by
    apply Array.ext'
    simp [setVals]
  | v :: l, cs, off, k, h => by
    simp only [List.length_cons] at h
    simp only [List.zipIdx_cons, List.foldl_cons]
    rw [foldl_setVals l _ off (k + 1) (by simp; omega)]
    apply Array.ext'
    have := list_seg_step cs.toList (off + k) v l (by simp; omega)
    simp only [setVals, Array.toList_setIfInBounds, List.length_cons]
    rw [show off + (k + 1) = off + k + 1 by omega]
    simpa [Nat.add_assoc, Nat.add_comm, Nat.add_left_comm] using this

theorem fill_rep {β F w} {place : Nat → Option (Nat × Nat)} : ∀ {parts : List (Nat × AV)} {ps : List (Nat × Value)} {xs : List AV} {vs : Array Value} {cs : List AV},
    List.length parts = ps.length → (∀ i, i < parts.length → (parts.getD i (0, .any)).1 = (ps.getD i (0, undef)).1 ∧ Rep β F w (parts.getD i (0, .any)).2 (ps.getD i (0, undef)).2) →
    Reps (Rep β F w) xs vs → fillAV place xs parts = some cs → ∃ us, Instr.fill place vs ps = some us ∧ Reps (Rep β F w) cs us
  | [], [], xs, vs, cs, _, _, h, hf => by simp [fillAV] at hf; subst hf; exact ⟨vs, rfl, h⟩
  | (i, x) :: parts, (i', v) :: ps, xs, vs, cs, hl, hp, h, hf => by
    obtain ⟨e, hx⟩ := hp 0 (by simp)
    simp only [List.getD_cons_zero] at e hx
    subst e
    simp only [fillAV] at hf
    cases hpl : place i with
    | none => simp [hpl] at hf
    | some os =>
      obtain ⟨off, size⟩ := os
      simp only [hpl] at hf
      cases hc : x.cells? with
      | none => simp [hc] at hf
      | some l =>
        simp only [hc] at hf
        cases hb : Nat.beq l.length size with
        | false => simp [hb] at hf
        | true =>
          simp only [hb] at hf
          cases hb2 : Nat.ble (off + size) xs.length with
          | false => simp [hb2] at hf
          | true =>
            simp only [hb2] at hf
            have e1 : l.length = size := Nat.eq_of_beq_eq_true hb
            have e2 : off + size ≤ xs.length := Nat.le_of_ble_eq_true hb2
            obtain ⟨c1, c2, c3⟩ := cells?_rep hx hc
            have hset := h.set (l := l) (ls := v.cells) (off := off) ⟨c1.symm, c2⟩ (by omega)
            obtain ⟨us, hu1, hu2⟩ := fill_rep (parts := parts) (ps := ps) (by simpa using hl) (fun j hj => by have := hp (j + 1) (by simpa using hj); simpa using this) hset hf
            refine ⟨us, ?_, hu2⟩
            have hlv : v.cells.toList.length = v.cells.size := by simp
            have hfold := foldl_setVals v.cells.toList vs off 0 (by rw [hlv, c1, e1, ← h.1]; omega)
            simp only [Instr.fill, hpl]
            have c4 : ¬ (v.cells.size ≠ size) := by omega
            have c5 : ¬ (vs.size < off + v.cells.size) := by rw [← h.1]; omega
            have hz : v.cells.zipIdx.foldl (fun cs (c, j) => cs.setIfInBounds (off + j) c) vs = setVals vs off v.cells.toList := by
              rw [← Array.foldl_toList]
              simpa using hfold
            simp only [c4, c5, hz, if_false, decide_false, Bool.or_false, Bool.false_or, gt_iff_lt]
            simpa [c4, c5] using hu1

end Go.Ev
