/- Each operation does what its abstract twin says (fourth part): memory. A helper text: it speaks of no program. -/
import Derived.Test.YtanhmmiifbhcpaaEvF
set_option linter.unusedVariables false
set_option linter.unusedSimpArgs false
namespace Go.Ev
section
variable {P : Program} {B : Nat → Prop} {w0 : World} {F0 : Env P} {S : St} {β : Nat → Option Hd} {F : Nat → Prop} {a : Act} {w : World}

theorem evUn_rep {op : UnOp} {x : AV} {v : Value} {K : AV → Prop} (hx : Rep β F w x v) (h : evUn op x K) : ∃ r u, (Op.unary op v).run P w = .ok u w ∧ Rep β F w r u ∧ K r := by
  cases op <;> cases x <;> simp only [evUn] at h
  case not.tt => rw [hx.tt_inv]; exact ⟨_, _, rfl, .imm .ff, h⟩
  case not.ff => rw [hx.ff_inv]; exact ⟨_, _, rfl, .imm .tt, h⟩
  case not.bool b => rw [hx.bool_inv]; exact ⟨_, _, rfl, .imm (.bool _), h⟩
  case neg.int k n => rw [hx.int_inv]; exact ⟨_, _, rfl, .imm (.int _ _), h⟩
  case xor.int k n => rw [hx.int_inv]; exact ⟨_, _, rfl, .imm (.int _ _), h⟩
  all_goals exact h.elim

theorem addr_add (b o j : Nat) : (⟨b, o, none⟩ : Addr).add j = ⟨b, o + j, none⟩ := by
  unfold Addr.add; split <;> simp_all

theorem getD_take_drop (cs : List AV) (off n i : Nat) (hi : i < n) : ((cs.drop off).take n).getD i .any = cs.getD (off + i) .any := by
  simp [List.getD, List.getElem?_take, hi]

theorem ld_sound {t : TypeId} {i : TypeInfo} {d : TypeDesc} (hi : P.info? t = some i) (hu : P.underlying t = some d) {cs : List AV} {b o off : Nat} {g : Nat → Value}
    (hc : ∀ j, j < cs.length → w.cell? ⟨b, o + j, none⟩ = some (g j)) (hr : ∀ j, j < cs.length → Rep β F w (cs.getD j .any) (g j)) {x : AV} (h : ldOut (isAggD d) i.size cs off = some x) :
    ∃ v, (Instr.loadAt t (.pointer (some ⟨b, o + off, none⟩))).run P w = .ok v w ∧ Rep β F w x v := by
  unfold ldOut at h
  cases hd : isAggD d with
  | true =>
    simp only [hd] at h
    cases hb : Nat.ble (off + i.size) cs.length with
    | false => simp [hb] at h
    | true =>
      simp only [hb, Option.some.injEq] at h
      subst h
      have hle := Nat.le_of_ble_eq_true hb
      have hl := run_loadCells (P := P) w ⟨b, o + off, none⟩ i.size (fun j => g (off + j)) (fun j hj => by rw [addr_add, Nat.add_assoc]; exact hc _ (by omega))
      refine ⟨.agg ((List.range i.size).map fun j => g (off + j)).toArray, ?_, .agg ?_ ?_⟩
      · cases d <;> simp [isAggD] at hd <;> simp [Instr.loadAt, Instr.sureAddr, loadVar, isAgg, run_underlying hu, sizeOf, typeInfo, hi, hl]
      · simp; omega
      · intro j hj
        simp only [List.length_take, List.length_drop] at hj
        rw [getD_take_drop _ _ _ _ (by omega)]
        have e : (((List.range i.size).map fun j => g (off + j)).toArray).getD j undef = g (off + j) := by
          simp [Array.getD_eq_getD_getElem?, show j < i.size by omega]
        rw [e]
        exact hr _ (by omega)
  | false =>
    simp only [hd] at h
    cases hb : Nat.blt off cs.length with
    | false => simp [hb] at h
    | true =>
      simp only [hb, Option.some.injEq] at h
      subst h
      have hlt : off < cs.length := by simpa [Nat.blt_eq] using hb
      have hcell := hc off hlt
      refine ⟨g off, ?_, hr off hlt⟩
      cases d <;> simp [isAggD] at hd <;> simp [Instr.loadAt, Instr.sureAddr, loadVar, isAgg, run_underlying hu, hcell]

theorem wp_op {o : Oper} {next : Act → World → Prop} {Q : Exit → Act → World → Prop} {s : Sem Value} (ho : execOp a.eval o = (do pure (.value (← s)))) {v : Value} {w' : World} (hs : s.run P w = .ok v w') (hn : next (a.put o.dst v) w') : o.wp P a w next Q := by
  refine wp_val (v := v) (w' := w') ?_ hn
  rw [ho]
  simp [hs]

theorem row_cells (hR : Rel B w0 F0 S β F a w) {id : Nat} {ty : TypeId} {cs : List AV} (hr : S.row id = .cells ty cs) {hd : Hd} {b : Nat} (hb : β id = some hd) (hh : hd.b = some b) :
    ∃ vs, w.heap[b]? = some (.cells vs ty (0, 0)) ∧ vs.size = cs.length ∧ ∀ i, i < cs.length → Rep β F w (cs.getD i .any) (vs.getD i undef) := by
  have := hR.rows id
  rw [hr] at this
  obtain ⟨hd', b', vs, e1, e2, e3, e4, e5⟩ := this
  rw [hb] at e1; cases e1
  rw [hh] at e2; cases e2
  exact ⟨vs, e3, e4, e5⟩
theorem row_vec (hR : Rel B w0 F0 S β F a w) {id : Nat} {ty : TypeId} {α : Type} {sz : Nat} {d : α} {enc : α → List AV} {l : List α} (hr : S.row id = .vec ty sz d enc l) {hd : Hd} (hb : β id = some hd) :
    hd.len = l.length ∧ ((l = [] ∧ hd.b = none ∧ hd.cap = 0) ∨ ∃ b vs, hd.b = some b ∧ w.heap[b]? = some (.cells vs ty (0, 0)) ∧
      l.length ≤ hd.cap ∧ hd.cap ≤ maxLen ∧ vs.size = hd.cap * sz ∧ ∀ i j, i < l.length → j < sz → RepI F w ((enc (l.getD i d)).getD j .any) (vs.getD (i * sz + j) undef)) := by
  have := hR.rows id
  rw [hr] at this
  obtain ⟨hd', e1, e2, e3⟩ := this
  rw [hb] at e1; cases e1
  exact ⟨e2, e3⟩

theorem load_snd (hR : Rel B w0 F0 S β F a w) {o : Oper} {t : TypeId} {x : Operand} (ho : o.op = .load t x) {K : Out → List Nat → Prop} (h : evOp P o.dst (.load t x) S.get S.row K) {Q : Exit → Act → World → Prop} :
    o.wp P a w (After B w0 F0 S β o.dst K) Q := by
  simp only [evOp] at h
  split at h
  · rename_i i d hi hu
    have hx := hR.get x
    have ho' : execOp a.eval o = (do pure (.value (← Instr.loadAt t (a.eval x)))) := by simp [execOp, ho]
    split at h
    · rename_i cs off hg
      rw [hg] at hx
      obtain ⟨b, ob, g, hv, hc, hr⟩ := hx.pt_inv
      split at h
      · rename_i v hl
        obtain ⟨u, h1, h2⟩ := ld_sound (P := P) hi hu (fun j hj => (hc j hj).2) (fun j hj => Rep.imm (β := β) (hr j hj)) hl
        rw [hv] at ho'
        exact wp_op ho' h1 (After.still hR h2 h)
      · exact h.elim
    · rename_i id sz j off hg
      rw [hg] at hx
      obtain ⟨hd, b, hb, hh, hv⟩ := hx.ptr_inv
      split at h
      · rename_i ty cs hr
        obtain ⟨vs, e1, e2, e3⟩ := row_cells hR hr hb hh
        split at h
        · rename_i v hl
          obtain ⟨u, h1, h2⟩ := ld_sound (P := P) (o := 0) (b := b) (g := fun j => vs.getD j undef) hi hu (fun j hj => by rw [Nat.zero_add]; exact cell_at e1 (by omega)) e3 hl
          rw [hv] at ho'
          rw [Nat.zero_add] at h1
          exact wp_op ho' h1 (After.still hR h2 h)
        · exact h.elim
      · rename_i ty α sz' d' enc l hr
        split at h
        · rename_i hsz
          split at h
          · rename_i hlen
            split at h
            · rename_i v hl
              obtain ⟨hj, hK⟩ := h
              have e0 := Nat.eq_of_beq_eq_true hsz
              have e00 := Nat.eq_of_beq_eq_true hlen
              obtain ⟨_, hv2⟩ := row_vec hR hr hb
              rcases hv2 with ⟨h1, h2, _⟩ | ⟨b', vs, e1, e2, e3, e4, e5, e6⟩
              · rw [h1] at hj; simp at hj
              · rw [hh] at e1; cases e1
                obtain ⟨u, h1, h2⟩ := ld_sound (P := P) (β := β) (F := F) (w := w) (o := j * sz) (b := b) (g := fun k => vs.getD (j * sz + k) undef) hi hu
                  (fun k hk => cell_at e2 (by
                    rw [e5, ← e0]
                    have := mul_lt_aux (Nat.lt_of_lt_of_le hj e3) (show k < sz by omega)
                    omega))
                  (fun k hk => .imm (by have := e6 j k hj (by omega); rw [← e0] at this; exact this)) hl
                rw [hv] at ho'
                exact wp_op ho' h1 (After.still hR h2 hK)
            · exact h.elim
          · exact h.elim
        · exact h.elim
      · exact h.elim
    · exact h.elim
  · exact h.elim

theorem rep_ptr_new {β' : Nat → Option Hd} {d : Nat} {len cap : Nat} {F : Nat → Prop} {w' : World} {n : Nat} (h : β' d = some ⟨some n, len, cap⟩) : Rep β' F w' (.ptr d 0 0 0) (.pointer (some ⟨n, 0, none⟩)) := by
  have := Rep.ptr (F := F) (w := w') (sz := 0) (i := 0) (off := 0) h rfl
  simpa using this

theorem alloc_snd (hR : Rel B w0 F0 S β F a w) {o : Oper} {t : TypeId} (ho : o.op = .alloc t) (hfree : ∀ d, o.dst = some d → β d = none) {K : Out → List Nat → Prop} (h : evOp P o.dst (.alloc t) S.get S.row K) {Q : Exit → Act → World → Prop} :
    o.wp P a w (After B w0 F0 S β o.dst K) Q := by
  simp only [evOp] at h
  split at h
  · rename_i d cs hd hz
    unfold zeroAV at hz
    cases hi : P.info? t with
    | none => simp [hi] at hz
    | some i =>
      cases hv : i.zero with
      | none => simp [hi, hv] at hz
      | some z =>
        simp only [hi, hv, Option.some.injEq] at hz
        have ho' : execOp a.eval o = (do pure (.value (← Instr.alloc t true (.tuple #[])))) := by simp [execOp, ho]
        have hrun : (Instr.alloc t true (.tuple #[])).run P w = .ok (.pointer (some ⟨w.heap.size, 0, none⟩)) (w.alloc (.cells z.cells t)) := by
          simp [Instr.alloc, zeroValue, typeInfo, hi, hv, newVar, newRow]
        obtain ⟨β', h1, h2⟩ := hR.alloc (hfree d hd) (dst := o.dst) (x := .ptr d 0 0 0) (v := .pointer (some ⟨w.heap.size, 0, none⟩)) (r := .cells t cs) (vs := z.cells) (ty := t) 0 0
          (fun β' hb _ => rep_ptr_new hb)
          (fun β' hb _ hk => ⟨_, w.heap.size, z.cells, hb, rfl, heap_alloc_self w _, by rw [← hz]; simp, fun j hj => by
            rw [← hz]
            have hj' : j < z.cells.size := by rw [← hz] at hj; simpa using hj
            have e : (z.cells.toList.map AV.ofConst).getD j .any = AV.ofConst (z.cells.getD j undef) := by
              simp [List.getD, Array.getD_eq_getD_getElem?, hj']
            rw [e]; exact .imm (.ofConst _)⟩) (fun _ _ _ _ h => by cases h)
        exact wp_op ho' hrun ⟨_, _, h, β', F, fun j hj => h1 j (fun e => hj (by rw [e]; exact hd)), h2⟩
  · exact h.elim

theorem box_snd (hR : Rel B w0 F0 S β F a w) {o : Oper} {t : TypeId} {x : Operand} (ho : o.op = .box t x) (hfree : ∀ d, o.dst = some d → β d = none) {K : Out → List Nat → Prop} (h : evOp P o.dst (.box t x) S.get S.row K) {Q : Exit → Act → World → Prop} :
    o.wp P a w (After B w0 F0 S β o.dst K) Q := by
  simp only [evOp] at h
  split at h
  · rename_i d cs hd hz
    obtain ⟨c1, c2, c3⟩ := cells?_rep (hR.get x) hz
    have ho' : execOp a.eval o = (do pure (.value (← Instr.box t (a.eval x)))) := by simp [execOp, ho]
    have hrun : (Instr.box t (a.eval x)).run P w = .ok (.pointer (some ⟨w.heap.size, 0, none⟩)) (w.alloc (.cells (a.eval x).cells t)) := by
      simp [Instr.box, newVar, newRow]
    obtain ⟨β', h1, h2⟩ := hR.alloc (hfree d hd) (dst := o.dst) (x := .ptr d 0 0 0) (v := .pointer (some ⟨w.heap.size, 0, none⟩)) (r := .cells t cs) (vs := (a.eval x).cells) (ty := t) 0 0
      (fun β' hb _ => rep_ptr_new hb)
      (fun β' hb hg hk => ⟨_, w.heap.size, (a.eval x).cells, hb, rfl, heap_alloc_self w _, c1, fun j hj => (c2 j hj).grow hg (fun _ h => h) hk⟩) (fun _ _ _ _ h => by cases h)
    exact wp_op ho' hrun ⟨_, _, h, β', F, fun j hj => h1 j (fun e => hj (by rw [e]; exact hd)), h2⟩
  · exact h.elim

end
end Go.Ev
