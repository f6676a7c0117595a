/- Each operation does what its abstract twin says (seventh part): slices, built-in functions, calls. A helper text: it speaks of no program. -/
import Derived.Test.YtanhmmiifbhcpaaEvI
import Derived.IntWalk
set_option linter.unusedVariables false
set_option linter.unusedSimpArgs false
namespace Go.Ev
section
variable {P : Program} {B : Nat → Prop} {w0 : World} {F0 : Env P} {S : St} {β : Nat → Option Hd} {F : Nat → Prop} {a : Act} {w : World}

theorem slice_snd (hR : Rel B w0 F0 S β F a w) {o : Oper} {t : TypeId} {x : Operand} {lo hi mx : Option Operand} (ho : o.op = .slice t x lo hi mx) {K : Out → List Nat → Prop} (h : evOp P o.dst (.slice t x lo hi mx) S.get S.row K) {Q : Exit → Act → World → Prop} :
    o.wp P a w (After B w0 F0 S β o.dst K) Q := by
  simp only [evOp] at h
  split at h
  · exact h.elim
  split at h
  case h_2 => exact h.elim
  rename_i e hu
  split at h
  case h_2 => exact h.elim
  rename_i inf hi'
  split at h
  case h_2 => exact h.elim
  rename_i α sz d enc l hg
  split at h
  case h_2 => exact h.elim
  rename_i hsz
  have hsz' := Nat.eq_of_beq_eq_true hsz
  split at h
  case h_2 => exact h.elim
  rename_i ka p kb q hlo hhi
  obtain ⟨⟨h0, h1, h2⟩, hK⟩ := (obl_iff _ _ _).1 h
  have hx := hR.get x
  rw [hg] at hx
  have ho' : execOp a.eval o = (do pure (.value (← Instr.sliceAt t (a.eval x) (lo.map a.eval) (hi.map a.eval) none))) := by simp [execOp, ho]
  -- the bounds
  have hlov : lo = none ∧ p = 0 ∨ ∃ k, lo.map a.eval = some (.int k p) := by
    cases lo with
    | none => simp [bnd] at hlo; exact .inl ⟨rfl, hlo.2.symm⟩
    | some y => simp only [bnd] at hlo; have := hR.get y; rw [hlo] at this; exact .inr ⟨_, by simp [this.int_inv]; rfl⟩
  have hhiv : hi = none ∧ q = l.length ∨ ∃ k, hi.map a.eval = some (.int k q) := by
    cases hi with
    | none => simp [bnd] at hhi; exact .inl ⟨rfl, hhi.2.symm⟩
    | some y => simp only [bnd] at hhi; have := hR.get y; rw [hhi] at this; exact .inr ⟨_, by simp [this.int_inv]; rfl⟩
  have hb : ∀ cap : Nat, l.length ≤ cap → (Instr.sliceBounds true l.length cap (lo.map a.eval) (hi.map a.eval) none).run P w = .ok (p.toNat, q.toNat, cap) w := by
    intro cap hcap
    have c1 : 0 ≤ q := by omega
    have c2 : q ≤ (cap : Int) := by omega
    have c3 : p ≤ max q 0 := by omega
    have c4 : p ≤ (l.length : Int) := by omega
    rcases hhiv with ⟨rfl, rfl⟩ | ⟨k, hk⟩
    · rcases hlov with ⟨rfl, rfl⟩ | ⟨k', hk'⟩
      · simp [Instr.sliceBounds]
      · rw [hk']
        simp [Instr.sliceBounds, Instr.sliceBound, asIntOf, h0, c4]
    · rw [hk]
      rcases hlov with ⟨rfl, rfl⟩ | ⟨k', hk'⟩
      · simp [Instr.sliceBounds, Instr.sliceBound, asIntOf, c1, c2]
      · rw [hk']
        simp [Instr.sliceBounds, Instr.sliceBound, asIntOf, h0, c1, c2, c3]
  rcases hx.sl_inv with ⟨hl0, hv⟩ | ⟨b, ob, cap, g, hv, hc, hcell, hr⟩
  · rw [hv] at ho'
    subst hl0
    have hp : p = 0 := by simp at h2; omega
    have hq : q = 0 := by simp at h2; omega
    have hb0 := hb 0 (by simp)
    simp only [List.length_nil] at hb0
    refine wp_op ho' (v := .slice none 0 0) (w' := w) ?_ (After.still hR (.imm ?_) hK)
    · simp only [Instr.sliceAt, Instr.slice, Sem.run_bind, run_underlying hu, Result.andThen_ok, hb0, run_sizeOf w hi', Sem.run_pure]
      simp [hp, hq]
    · simp; exact .slnil
  · rw [hv] at ho'
    have hb1 := hb cap hc
    have hlen : ((l.drop p.toNat).take (q - p).toNat).length = q.toNat - p.toNat := by simp; omega
    refine wp_op ho' (v := .slice (some (if cap = p.toNat then ⟨b, ob, none⟩ else ⟨b, ob + p.toNat * inf.size, none⟩)) (q.toNat - p.toNat) (cap - p.toNat)) (w' := w) ?_ (After.still hR (.imm ?_) hK)
    · simp only [Instr.sliceAt, Instr.slice, Sem.run_bind, run_underlying hu, Result.andThen_ok, hb1, run_sizeOf w hi', Sem.run_pure, Program.cellsOf, hi', Option.map_some, Option.getD_some, addr_add]
      split <;> rfl
    · have hget : ∀ i, i < q.toNat - p.toNat → ((l.drop p.toNat).take (q - p).toNat).getD i d = l.getD (p.toNat + i) d := fun i hi => by
        simp [List.getD, List.getElem?_take, show i < (q - p).toNat by omega]
      rw [← hlen]
      split
      · rename_i hcp
        exact .sl (fun _ _ => undef) (by omega) (fun i j hi hj => by omega) (fun i j hi hj => by omega)
      · refine .sl (fun i j => g (p.toNat + i) j) (by omega) (fun i j hi hj => ?_) (fun i j hi hj => ?_)
        · rw [hlen] at hi
          have := hcell (p.toNat + i) j (by omega) hj
          rw [← hsz', show ob + p.toNat * sz + i * sz + j = ob + (p.toNat + i) * sz + j by rw [Nat.add_mul]; omega]
          exact this
        · rw [hlen] at hi
          rw [hget i hi]
          exact hr _ _ (by omega) hj

theorem makeSlice_snd (hR : Rel B w0 F0 S β F a w) {o : Oper} {t : TypeId} {x y : Operand} (ho : o.op = .makeSlice t x y) (hfree : ∀ d, o.dst = some d → β d = none) {K : Out → List Nat → Prop}
    (h : evOp P o.dst (.makeSlice t x y) S.get S.row K) {Q : Exit → Act → World → Prop} : o.wp P a w (After B w0 F0 S β o.dst K) Q := by
  simp only [evOp] at h
  split at h
  case h_2 => exact h.elim
  rename_i d e hd hu
  split at h
  case h_2 => exact h.elim
  rename_i i z hi hz
  split at h
  case h_2 => exact h.elim
  rename_i hzs
  have hzs' := Nat.eq_of_beq_eq_true hzs
  split at h
  case h_2 => exact h.elim
  rename_i k n k' c hx hy
  obtain ⟨α, yy, enc, he, hnc, h0, h1, hby, hK⟩ := h
  subst hnc
  obtain ⟨i', zv, hi', hzv, _, hzr⟩ := zeroAV_rep (β := β) (F := F) (w := w) hz
  rw [hi] at hi'; cases hi'
  have hxv := hR.get x
  have hyv := hR.get y
  rw [hx] at hxv
  rw [hy] at hyv
  have ho' : execOp a.eval o = (do pure (.value (← Instr.makeSlice t (a.eval x) (a.eval y)))) := by simp [execOp, ho]
  rw [hxv.int_inv, hyv.int_inv] at ho'
  have hw : IntKind.i64.wrap n = n := IntWalk.i64_in n (by omega)
  have hby2 : (i.bytes : Int) * n ≤ 1048576 * 1048576 := Int.mul_le_mul (show (i.bytes : Int) ≤ 1048576 by omega) h1 h0 (by omega)
  have hbig : ¬ ((281474976710656 : Int) < (i.bytes : Int) * n) := by omega
  have hneg : ¬ n < 0 := by omega
  have hroom : ¬ (roomBytes < n.toNat * i.bytes) := by
    have e : ((n.toNat * i.bytes : Nat) : Int) = (i.bytes : Int) * n := by rw [Int.natCast_mul, Int.toNat_of_nonneg h0, Int.mul_comm]
    simp only [roomBytes]; omega
  let cells : Array Value := (Array.range (n.toNat * i.size)).map (zv.cells[· % zv.cells.size]!)
  have hrun : (Instr.makeSlice t (.int k n) (.int k' n)).run P w = .ok (.slice (some ⟨w.heap.size, 0, none⟩) n.toNat n.toNat) (w.alloc (.cells cells e)) := by
    simp only [Instr.makeSlice, Sem.run_bind, run_underlying hu, Result.andThen_ok, asInt, asIntOf, Sem.run_pure, typeInfo, run_program, hi, hw]
    simp only [hneg, decide_false, Bool.false_or, Bool.or_false, gt_iff_lt, Int.lt_irrefl, show (2 : Int) ^ 48 = 281474976710656 by rfl, hbig, Bool.false_eq_true, if_false, askRoom, hroom]
    simp only [Sem.run_bind, Sem.run_pure, Result.andThen_ok, run_sizeOf w hi, Program.cellsOf, hi, Option.map_some, Option.getD_some]
    split
    · rename_i hz0
      have e0 : ∀ (f g : Nat → Value), (Array.range (n.toNat * i.size)).map f = (Array.range (n.toNat * i.size)).map g := fun f g => by rw [hz0]; simp
      simp only [Sem.run_bind, Sem.run_pure, Result.andThen_ok]
      rw [e0 _ (zv.cells[· % zv.cells.size]!)]
      simp [newRow, cells]
    · simp only [Sem.run_bind, zeroValue, typeInfo, run_program, hi, hzv, Result.andThen_ok, Sem.run_pure]
      simp [newRow, cells]
  have hzc : ∀ j, j < i.size → RepI F w (z.getD j .any) (zv.cells.getD j undef) := fun j hj => by
    obtain ⟨i2, z2, e1, e2, e3, e4⟩ := zeroAV_rep (β := β) (F := F) (w := w) hz
    rw [hi] at e1; cases e1
    rw [hzv] at e2; cases e2
    have hj' : j < zv.cells.size := by rw [← e4.1]; omega
    have e : z.getD j .any = AV.ofConst (zv.cells.getD j undef) := by
      rw [e3]; simp [List.getD, Array.getD_eq_getD_getElem?, hj']
    rw [e]; exact .ofConst _
  obtain ⟨β', g1, g2⟩ := hR.alloc (hfree d hd) (dst := o.dst) (x := .own d) (v := .slice (some ⟨w.heap.size, 0, none⟩) n.toNat n.toNat) (r := .vec e i.size yy enc (List.replicate n.toNat yy)) (vs := cells) (ty := e) n.toNat n.toNat
    (fun β' hb _ => by have := Rep.own (F := F) (w := w.alloc (.cells cells e)) hb; simpa using this)
    (fun β' hb hg hk => ⟨_, hb, by simp, .inr ⟨w.heap.size, cells, rfl, heap_alloc_self w _, by simp, by simp only [maxLen]; omega, by simp [cells], fun p q hp hq => by
        have hp' : p < n.toNat := by simpa using hp
        have e1 : (List.replicate n.toNat yy).getD p yy = yy := by simp [List.getD, hp']
        have hin := mul_lt_aux hp' hq
        have hsz : zv.cells.size = i.size := by rw [← hzr.1]; exact hzs'
        have hm : (p * i.size + q) % i.size = q := by rw [Nat.mul_comm, Nat.mul_add_mod]; exact Nat.mod_eq_of_lt hq
        have e2 : cells.getD (p * i.size + q) undef = zv.cells.getD q undef := by
          have hq' : q < zv.cells.size := by omega
          simp [cells, Array.getD_eq_getD_getElem?, hin, hsz, hm]
          rw [getElem!_pos zv.cells q hq']
          simp [hq']
        rw [e1, he, e2]
        exact (hzc q hq).mono (fun _ h => h) hk⟩⟩) (fun _ _ _ _ h => by cases h)
  exact wp_op ho' hrun ⟨_, _, hK, β', F, fun j hj => g1 j (fun e => hj (by rw [e]; exact hd)), g2⟩

/-! ### Built-in functions -/
theorem toArr {α : Type} {xs : Array α} {l : List α} (h : xs.toList = l) : xs = l.toArray := by rw [← h]

theorem wp_builtin {o : Oper} {c : Call} {b : Builtin} (ho : o.op = .call c) (hb : c.callee = .builtin b) {s : Sem Value}
    (hs : ∀ cs, builtin b c.argTypes o.type cs (c.args.map a.eval) = (do pure (.value (← s)))) {v : Value} {w' : World} (hr : s.run P w = .ok v w') {next : Act → World → Prop} {Q : Exit → Act → World → Prop} (hn : next (a.put o.dst v) w') : o.wp P a w next Q := by
  refine wp_val (v := v) (w' := w') ?_ hn
  simp only [execOp, ho, resolve, hb, Sem.run_bind, Sem.run_pure, Result.andThen_ok, invoke, hs, hr]

theorem len_snd (hR : Rel B w0 F0 S β F a w) {o : Oper} {c : Call} (ho : o.op = .call c) (hb : c.callee = .builtin .len) {K : Out → List Nat → Prop} (h : evOp P o.dst (.call c) S.get S.row K) {Q : Exit → Act → World → Prop} :
    o.wp P a w (After B w0 F0 S β o.dst K) Q := by
  simp only [evOp, hb] at h
  split at h
  case h_2 => exact h.elim
  rename_i x t hx ht
  have e1 := toArr hx
  have e2 := toArr ht
  have hs : ∀ cs, builtin .len c.argTypes o.type cs (c.args.map a.eval) = (do pure (.value (← Builtin.len_ #[t] o.type #[a.eval x]))) := fun cs => by
    rw [e1, e2]; simp [builtin]
  have hv := hR.get x
  split at h
  · rename_i e hu
    have hrun : ∀ p n cap, (Builtin.len_ #[t] o.type #[.slice p n cap]).run P w = .ok (.int .i64 n) w := fun p n cap => by
      simp [Builtin.len_, run_underlying hu, goInt]
    split at h
    · rename_i hg
      rw [hg] at hv
      rw [hv.nils_inv] at hs
      exact wp_builtin ho hb hs (hrun _ _ _) (After.still hR (.imm (.int _ _)) h)
    · rename_i α sz d enc l hg
      rw [hg] at hv
      rcases hv.sl_inv with ⟨hl, hv⟩ | ⟨b, ob, cap, g, hv, _⟩
      · rw [hv] at hs; subst hl
        exact wp_builtin ho hb hs (hrun _ _ _) (After.still hR (.imm (.int _ _)) h)
      · rw [hv] at hs
        exact wp_builtin ho hb hs (hrun _ _ _) (After.still hR (.imm (.int _ _)) h)
    · rename_i sz css hg
      rw [hg] at hv
      rcases hv.slc_inv with ⟨hl, hv⟩ | ⟨b, ob, cap, g, hv, _⟩
      · rw [hv] at hs; subst hl
        exact wp_builtin ho hb hs (hrun _ _ _) (After.still hR (.imm (.int _ _)) h)
      · rw [hv] at hs
        exact wp_builtin ho hb hs (hrun _ _ _) (After.still hR (.imm (.int _ _)) h)
    · rename_i id hg
      rw [hg] at hv
      obtain ⟨hd, hβ, hv⟩ := hv.own_inv
      rw [hv] at hs
      split at h
      · rename_i hr
        obtain ⟨hl, _⟩ := row_vec hR hr hβ
        rw [← hl] at h
        exact wp_builtin ho hb hs (hrun _ _ _) (After.still hR (.imm (.int _ _)) h)
      · rename_i hr
        have := hR.rows id
        rw [hr] at this
        obtain ⟨hd', b', vs, q1, q2, q3, q4, _⟩ := this
        rw [hβ] at q1; cases q1
        rw [← q4] at h
        exact wp_builtin ho hb hs (hrun _ _ _) (After.still hR (.imm (.int _ _)) h)
      · exact h.elim
    · exact h.elim
  · rename_i n e hu
    refine wp_builtin ho hb hs (v := .int .i64 n) (w' := w) ?_ (After.still hR (.imm (.int _ _)) h)
    simp [Builtin.len_, run_underlying hu, goInt]
  · exact h.elim

theorem max_snd (hR : Rel B w0 F0 S β F a w) {o : Oper} {c : Call} (ho : o.op = .call c) (hb : c.callee = .builtin .max) {K : Out → List Nat → Prop} (h : evOp P o.dst (.call c) S.get S.row K) {Q : Exit → Act → World → Prop} :
    o.wp P a w (After B w0 F0 S β o.dst K) Q := by
  simp only [evOp, hb] at h
  split at h
  case h_2 => exact h.elim
  rename_i x y hx
  have e1 := toArr hx
  split at h
  case h_2 => exact h.elim
  rename_i k p k' q hg1 hg2
  have hv1 := hR.get x
  have hv2 := hR.get y
  rw [hg1] at hv1
  rw [hg2] at hv2
  have hs : ∀ cs, builtin .max c.argTypes o.type cs (c.args.map a.eval) = (do pure (.value (← Builtin.max_ c.argTypes o.type #[.int k p, .int k' q]))) := fun cs => by
    rw [← hv1.int_inv, ← hv2.int_inv, e1]; simp [builtin]
  exact wp_builtin ho hb hs (v := .int k (if q > p then q else p)) (w' := w) (by simp [Builtin.max_, Builtin.max2]) (After.still hR (.imm (.int _ _)) h)

theorem min_snd (hR : Rel B w0 F0 S β F a w) {o : Oper} {c : Call} (ho : o.op = .call c) (hb : c.callee = .builtin .min) {K : Out → List Nat → Prop} (h : evOp P o.dst (.call c) S.get S.row K) {Q : Exit → Act → World → Prop} :
    o.wp P a w (After B w0 F0 S β o.dst K) Q := by
  simp only [evOp, hb] at h
  split at h
  case h_2 => exact h.elim
  rename_i x y hx
  have e1 := toArr hx
  split at h
  case h_2 => exact h.elim
  rename_i k p k' q hg1 hg2
  have hv1 := hR.get x
  have hv2 := hR.get y
  rw [hg1] at hv1
  rw [hg2] at hv2
  have hs : ∀ cs, builtin .min c.argTypes o.type cs (c.args.map a.eval) = (do pure (.value (← Builtin.min_ c.argTypes o.type #[.int k p, .int k' q]))) := fun cs => by
    rw [← hv1.int_inv, ← hv2.int_inv, e1]; simp [builtin]
  exact wp_builtin ho hb hs (v := .int k (if q < p then q else p)) (w' := w) (by simp [Builtin.min_, Builtin.min2]) (After.still hR (.imm (.int _ _)) h)

/-! ### Calls -/
theorem call_snd (hR : Rel B w0 F0 S β F a w) {o : Oper} {c : Call} {f : Operand} (ho : o.op = .call c) (hb : c.callee = .value f) {K : Out → List Nat → Prop} (h : evOp P o.dst (.call c) S.get S.row K) {Q : Exit → Act → World → Prop} :
    o.wp P a w (After B w0 F0 S β o.dst K) Q := by
  simp only [evOp, hb] at h
  split at h
  case h_2 => exact h.elim
  rename_i fid first caps hg
  have hf := hR.get f
  rw [hg] at hf
  obtain ⟨vs, us, hv, l1, l2, r1, r2⟩ := hf.fn_inv
  obtain ⟨l3, r3⟩ := get_map_rep hR c.args
  -- the arguments, as they are handed over
  have hlen : (vs ++ c.args.map a.eval ++ us).size = (first ++ c.args.toList.map S.get ++ caps).length := by simp [l1, l2]
  have hreps : ∀ i, i < (first ++ c.args.toList.map S.get ++ caps).length → Rep β F w ((first ++ c.args.toList.map S.get ++ caps).getD i .any) ((vs ++ c.args.map a.eval ++ us).getD i undef) := by
    intro i hi
    by_cases h1 : i < first.length
    · have e1 : (first ++ c.args.toList.map S.get ++ caps).getD i .any = first.getD i .any := by simp [List.getD, List.getElem?_append, h1]
      have e2 : (vs ++ c.args.map a.eval ++ us).getD i undef = vs.getD i undef := by
        have : i < vs.size := by omega
        simp [Array.getD_eq_getD_getElem?, Array.getElem?_append, this]
      rw [e1, e2]; exact r1 i h1
    · by_cases h2 : i < first.length + (c.args.toList.map S.get).length
      · have e1 : (first ++ c.args.toList.map S.get ++ caps).getD i .any = (c.args.toList.map S.get).getD (i - first.length) .any := by
          simp only [List.getD, List.append_assoc]
          rw [List.getElem?_append_right (by omega), List.getElem?_append_left (by omega)]
        have e2 : (vs ++ c.args.map a.eval ++ us).getD i undef = (c.args.map a.eval).getD (i - first.length) undef := by
          simp only [Array.getD_eq_getD_getElem?, Array.append_assoc]
          rw [Array.getElem?_append_right (by omega), Array.getElem?_append_left (by rw [← l1, ← l3]; omega), l1]
        rw [e1, e2]; exact r3 _ (by omega)
      · have e1 : (first ++ c.args.toList.map S.get ++ caps).getD i .any = caps.getD (i - first.length - (c.args.toList.map S.get).length) .any := by
          simp only [List.getD, List.append_assoc]
          rw [List.getElem?_append_right (by omega), List.getElem?_append_right (by omega)]
        have e2 : (vs ++ c.args.map a.eval ++ us).getD i undef = us.getD (i - first.length - (c.args.toList.map S.get).length) undef := by
          simp only [Array.getD_eq_getD_getElem?, Array.append_assoc]
          rw [Array.getElem?_append_right (by omega), Array.getElem?_append_right (by rw [← l1, ← l3]; omega), l1, l3]
        rw [e1, e2]
        exact r2 _ (by simp only [List.length_append] at hi; omega)
  generalize hA : first ++ c.args.toList.map S.get ++ caps = A at *
  generalize hV : vs ++ c.args.map a.eval ++ us = V at *
  have hex : execOp a.eval o = callFunc fid V := by
    simp only [execOp, ho, resolve, hb, hv, Deferred.ofValue]
    rw [← hV]
    rfl
  -- what follows the call
  have run : ∀ (Fc : Nat → Prop) (ar : List AV) (res : AV), (∀ b, Fc b → b < w.heap.size) → ar.length = A.length → (∀ i, i < ar.length → RepI Fc w (ar.getD i .any) (V.getD i undef)) → PC P fid ar res →
      (∀ v w', RowKit.Below w.heap.size w w' → RepI (fun b => Fc b ∨ w.heap.size ≤ b) w' res v → After B w0 F0 S β o.dst K (a.put o.dst v) w') → o.wp P a w (After B w0 F0 S β o.dst K) Q := by
    intro Fc ar res hFc hal har hpc hn
    rcases hpc Fc w V hFc (by omega) har with ⟨h1, h2⟩ | ⟨v, h1, h2⟩
    · unfold Oper.wp
      rw [hex, h1]
      refine h2.mono fun e w' ⟨v, he, hbel, hrep⟩ => ?_
      subst he
      exact hn v w' hbel hrep
    · unfold Oper.wp
      rw [hex, h1]
      exact hn v w (RowKit.Below.refl _ _) (h2.mono (fun _ h => .inl h) (fun _ _ _ _ h => h))
  split at h
  · rename_i hcl
    rw [fL_eq] at h
    obtain ⟨res, hpc, hK⟩ := h
    refine run F A res (fun b hb' => (hR.FB b hb').1) rfl (fun i hi => (hreps i hi).shut (closedL_getD hcl i)) hpc fun v w' hbel hrep => ?_
    obtain ⟨F', hR'⟩ := hR.called hbel (dst := o.dst) (x := res) (v := v) (fun F' g1 g2 _ => .imm (hrep.there.mono (fun b hb' => by
      rcases hb'.1 with h | h
      · exact g1 b h
      · exact g2 b h hb'.2) (fun _ _ _ _ h => h)))
    exact ⟨_, _, hK, β, F', fun _ _ => rfl, hR'⟩
  · rw [fL_eq] at h
    obtain ⟨res, hpc, hK⟩ := h
    split at hK
    · rename_i hfl
      refine run (fun b => F b ∨ liveB S β b) (A.map (closeN 4 S.row)) res (fun b hb' => ?_) (by simp) (fun i hi => ?_) hpc fun v w' hbel hrep => ?_
      · rcases hb' with h | ⟨i, _, h⟩
        · exact (hR.FB b h).1
        · exact (hR.bB i b h).2
      · rw [getD_map_av _ (closeN_any _ _)]
        exact closeN_rep hR 4 (hreps i (by simpa using hi))
      · obtain ⟨F', hR'⟩ := hR.called hbel (dst := o.dst) (x := res) (v := v) (fun F' _ _ _ => .imm (hrep.lift hfl))
        exact ⟨_, _, hK, β, F', fun _ _ => rfl, hR'⟩
    · exact hK.elim

end
end Go.Ev
