/- Each operation does what its abstract twin says (sixth part): places in structs and slices, new slices. A helper text: it speaks of no program. -/
import Derived.Test.YtanhmmiifbhcpaaEvH
set_option linter.unusedVariables false
set_option linter.unusedSimpArgs false
namespace Go.Ev
section
variable {P : Program} {B : Nat → Prop} {w0 : World} {F0 : Env P} {S : St} {β : Nat → Option Hd} {F : Nat → Prop} {a : Act} {w : World}

theorem fieldAddr_snd (hR : Rel B w0 F0 S β F a w) {o : Oper} {s : TypeId} {x : Operand} {f : Nat} (ho : o.op = .fieldAddr s x f) {K : Out → List Nat → Prop} (h : evOp P o.dst (.fieldAddr s x f) S.get S.row K) {Q : Exit → Act → World → Prop} :
    o.wp P a w (After B w0 F0 S β o.dst K) Q := by
  simp only [evOp] at h
  split at h
  case h_2 => exact h.elim
  rename_i fs hu
  split at h
  case h_2 => exact h.elim
  rename_i fd hf
  split at h
  case h_2 => exact h.elim
  rename_i i hi
  split at h
  case h_1 => exact h.elim
  rename_i hz
  have hz' : i.size ≠ 0 := fun e => by rw [e] at hz; simp at hz
  have hx := hR.get x
  have ho' : execOp a.eval o = (do pure (.value (← Instr.fieldAt s (a.eval x) f))) := by simp [execOp, ho]
  have hrun : ∀ b ob, (Instr.fieldAt s (.pointer (some ⟨b, ob, none⟩)) f).run P w = .ok (.pointer (some ⟨b, ob + fd.offset, none⟩)) w := fun b ob => by
    simp [Instr.fieldAt, run_underlying hu, hf, Instr.sureAddr, fieldPlace, sizeOf, typeInfo, hi, hz', addr_add]
  split at h
  · rename_i cs off hg
    rw [hg] at hx
    obtain ⟨b, ob, g, hv, hc, hr⟩ := hx.pt_inv
    rw [hv] at ho'
    refine wp_op ho' (hrun _ _) (After.still hR (.imm ?_) h)
    rw [Nat.add_assoc]
    exact .pt g hc hr
  · rename_i id sz j off hg
    rw [hg] at hx
    obtain ⟨hd, b, hb, hh, hv⟩ := hx.ptr_inv
    rw [hv] at ho'
    refine wp_op ho' (hrun _ _) (After.still hR ?_ h)
    rw [Nat.add_assoc]
    exact .ptr hb hh
  · exact h.elim

theorem extract_snd (hR : Rel B w0 F0 S β F a w) {o : Oper} {x : Operand} {i : Nat} (ho : o.op = .extract x i) {K : Out → List Nat → Prop} (h : evOp P o.dst (.extract x i) S.get S.row K) {Q : Exit → Act → World → Prop} :
    o.wp P a w (After B w0 F0 S β o.dst K) Q := by
  simp only [evOp] at h
  split at h
  case h_2 => exact h.elim
  rename_i l hg
  split at h
  case h_2 => exact h.elim
  rename_i hlt
  have hx := hR.get x
  rw [hg] at hx
  obtain ⟨vs, hv, hl, hr⟩ := hx.tup_inv
  have hlt' : i < l.length := by simpa [Nat.blt_eq] using hlt
  have ho' : execOp a.eval o = (do pure (.value (← Instr.extract (a.eval x) i))) := by simp [execOp, ho]
  rw [hv] at ho'
  refine wp_op ho' (v := vs.getD i undef) (w' := w) ?_ (After.still hR (hr i hlt') h)
  simp [Instr.extract, show i < vs.size by omega]

theorem convert_snd (hR : Rel B w0 F0 S β F a w) {o : Oper} {src t : TypeId} {x : Operand} (ho : o.op = .convert src t x) {K : Out → List Nat → Prop} (h : evOp P o.dst (.convert src t x) S.get S.row K) {Q : Exit → Act → World → Prop} :
    o.wp P a w (After B w0 F0 S β o.dst K) Q := by
  simp only [evOp] at h
  split at h
  case h_2 => exact h.elim
  rename_i d k kk n hs ht hg
  have hx := hR.get x
  rw [hg] at hx
  have ho' : execOp a.eval o = (do pure (.value (← convert src t (a.eval x)))) := by simp [execOp, ho]
  rw [hx.int_inv] at ho'
  exact wp_op ho' (v := .int k (k.wrap n)) (w' := w) (by simp [convert, run_underlying hs, run_underlying ht, Conv.intToInt]) (After.still hR (.imm (.int _ _)) h)

theorem get_map_rep (hR : Rel B w0 F0 S β F a w) (xs : Array Operand) : (xs.toList.map S.get).length = (xs.map a.eval).size ∧ ∀ i, i < (xs.toList.map S.get).length → Rep β F w ((xs.toList.map S.get).getD i .any) ((xs.map a.eval).getD i undef) := by
  refine ⟨by simp, fun i hi => ?_⟩
  have hi' : i < xs.size := by simpa using hi
  have e1 : (xs.toList.map S.get).getD i .any = S.get xs[i] := by simp [List.getD, hi']
  have e2 : (xs.map a.eval).getD i undef = a.eval xs[i] := by simp [Array.getD_eq_getD_getElem?, hi']
  rw [e1, e2]
  exact hR.get _

theorem makeFunc_snd (hR : Rel B w0 F0 S β F a w) {o : Oper} {f : Fn} {xs ys : Array Operand} (ho : o.op = .makeFunc f xs ys) {K : Out → List Nat → Prop} (h : evOp P o.dst (.makeFunc f xs ys) S.get S.row K) {Q : Exit → Act → World → Prop} :
    o.wp P a w (After B w0 F0 S β o.dst K) Q := by
  simp only [evOp] at h
  have ho' : execOp a.eval o = (do pure (.value (← Instr.makeFunc f (xs.map a.eval) (ys.map a.eval)))) := by simp [execOp, ho]
  obtain ⟨h1, h2⟩ := get_map_rep hR xs
  obtain ⟨h3, h4⟩ := get_map_rep hR ys
  exact wp_op ho' (v := .func f (xs.map a.eval) (ys.map a.eval)) (w' := w) (by simp [Instr.makeFunc]) (After.still hR (.fn h1 h2 h3 h4) h)

theorem nilCheck_snd (hR : Rel B w0 F0 S β F a w) {o : Oper} {x : Operand} (ho : o.op = .nilCheck x) {K : Out → List Nat → Prop} (h : evOp P o.dst (.nilCheck x) S.get S.row K) {Q : Exit → Act → World → Prop} :
    o.wp P a w (After B w0 F0 S β o.dst K) Q := by
  simp only [evOp] at h
  have hx := hR.get x
  split at h
  · rename_i c cs off hg
    rw [hg] at hx
    obtain ⟨b, ob, g, hv, _, _⟩ := hx.pt_inv
    exact wp_val (v := a.eval x) (w' := w) (by simp [execOp, ho, hv]) (After.still hR hx h)
  · rename_i id sz j off hg
    rw [hg] at hx
    obtain ⟨hd, b, hb, hh, hv⟩ := hx.ptr_inv
    exact wp_val (v := a.eval x) (w' := w) (by simp [execOp, ho, hv]) (After.still hR hx h)
  · exact h.elim

theorem index_snd (hR : Rel B w0 F0 S β F a w) {o : Oper} {t : TypeId} {x ix : Operand} (ho : o.op = .index t x ix) {K : Out → List Nat → Prop} (h : evOp P o.dst (.index t x ix) S.get S.row K) {Q : Exit → Act → World → Prop} :
    o.wp P a w (After B w0 F0 S β o.dst K) Q := by
  simp only [evOp] at h
  split at h
  case h_2 => exact h.elim
  rename_i k n hn
  have hnv := hR.get ix
  rw [hn] at hnv
  split at h
  case h_2 => exact h.elim
  rename_i s hg
  have hx := hR.get x
  rw [hg] at hx
  split at h
  case h_2 => exact h.elim
  rename_i hu
  obtain ⟨⟨h0, h1⟩, h⟩ := (obl_iff _ _ _).1 h
  have ho' : execOp a.eval o = (do pure (.value (← Instr.index t (a.eval x) (a.eval ix)))) := by simp [execOp, ho]
  have hxv : a.eval x = .string s := by
    generalize a.eval x = v at hx
    cases hx with | imm h => cases h; rfl
  rw [hnv.int_inv, hxv] at ho'
  have hlt : n.toNat < s.size := by omega
  have hb : s[n.toNat]? = some s[n.toNat] := by simp [hlt]
  refine wp_op ho' (v := .int .u8 (byteAt s n.toNat)) (w' := w) ?_ (After.still hR (.imm (.int _ _)) h)
  simp [Instr.index, run_underlying hu, asIntOf, h0, byteAt, hb]

theorem indexAddr_snd (hR : Rel B w0 F0 S β F a w) {o : Oper} {t : TypeId} {x ix : Operand} (ho : o.op = .indexAddr t x ix) {K : Out → List Nat → Prop} (h : evOp P o.dst (.indexAddr t x ix) S.get S.row K) {Q : Exit → Act → World → Prop} :
    o.wp P a w (After B w0 F0 S β o.dst K) Q := by
  simp only [evOp] at h
  split at h
  case h_2 => exact h.elim
  rename_i k n hn
  have hnv := hR.get ix
  rw [hn] at hnv
  have hx := hR.get x
  have ho' : execOp a.eval o = (do pure (.value (← Instr.indexAt t (a.eval x) (a.eval ix)))) := by simp [execOp, ho]
  rw [hnv.int_inv] at ho'
  split at h
  · rename_i e hu
    split at h
    case h_2 => exact h.elim
    rename_i inf hi
    have hrun : ∀ b ob len cap, 0 ≤ n → n < (len : Nat) → (Instr.indexAt t (.slice (some ⟨b, ob, none⟩) len cap) (.int k n)).run P w = .ok (.pointer (some ⟨b, ob + n.toNat * inf.size, none⟩)) w := fun b ob len cap h0 h1 => by
      simp [Instr.indexAt, run_underlying hu, asIntOf, h0, h1, sizeOf, typeInfo, hi, addr_add]
    split at h
    · rename_i α sz d enc l hg
      rw [hg] at hx
      split at h
      case h_2 => exact h.elim
      rename_i hsz
      have hsz' := Nat.eq_of_beq_eq_true hsz
      obtain ⟨⟨h0, h1⟩, h⟩ := (obl_iff _ _ _).1 h
      split at h
      case h_2 => exact h.elim
      rename_i hlen
      have hlen' := Nat.eq_of_beq_eq_true hlen
      rcases hx.sl_inv with ⟨hl, _⟩ | ⟨b, ob, cap, g, hv, hc, hb, hr⟩
      · rw [hl] at h1; simp at h1; omega
      · rw [hv] at ho'
        refine wp_op ho' (hrun _ _ _ _ h0 h1) (After.still hR (.imm ?_) h)
        have hn' : n.toNat < l.length := by omega
        have := RepI.pt (F := F) (w := w) (cs := enc (l.getD n.toNat d)) (off := 0) (b := b) (o := ob + n.toNat * sz) (fun j => g n.toNat j) (fun j hj => hb _ _ hn' (by omega)) (fun j hj => hr _ _ hn' (by omega))
        rw [← hsz']; exact this
    · rename_i sz css hg
      rw [hg] at hx
      split at h
      case h_2 => exact h.elim
      rename_i hsz
      have hsz' := Nat.eq_of_beq_eq_true hsz
      obtain ⟨⟨h0, h1⟩, h⟩ := (obl_iff _ _ _).1 h
      split at h
      case h_2 => exact h.elim
      rename_i hlen
      have hlen' := Nat.le_of_ble_eq_true hlen
      rcases hx.slc_inv with ⟨hl, _⟩ | ⟨b, ob, cap, g, hv, hc, hb, hr⟩
      · rw [hl] at h1; simp at h1; omega
      · rw [hv] at ho'
        refine wp_op ho' (hrun _ _ _ _ h0 h1) (After.still hR (.imm ?_) h)
        have hn' : n.toNat < css.length := by omega
        have := RepI.pt (F := F) (w := w) (cs := css.getD n.toNat []) (off := 0) (b := b) (o := ob + n.toNat * sz) (fun j => g n.toNat j) (fun j hj => hb _ _ hn' (by omega)) (fun j hj => hr _ _ hn' (by omega))
        rw [← hsz']; exact this
    · rename_i id hg
      rw [hg] at hx
      obtain ⟨hd, hb, hv⟩ := hx.own_inv
      split at h
      · rename_i α ty sz d enc l hr
        split at h
        case h_2 => exact h.elim
        rename_i hsz
        have hsz' := Nat.eq_of_beq_eq_true hsz
        obtain ⟨⟨h0, h1⟩, h⟩ := (obl_iff _ _ _).1 h
        obtain ⟨hl1, hv2⟩ := row_vec hR hr hb
        rcases hv2 with ⟨h2, _⟩ | ⟨b, vs, e1, _⟩
        · rw [h2] at h1; simp at h1; omega
        · rw [hv, e1] at ho'
          refine wp_op ho' (hrun _ _ _ _ h0 (by omega)) (After.still hR ?_ h)
          rw [Nat.zero_add, ← hsz']
          exact .ptr hb e1
      · exact h.elim
    · exact h.elim
  · rename_i len e hu
    split at h
    case h_2 => exact h.elim
    rename_i inf hi
    obtain ⟨⟨h0, h1⟩, h⟩ := (obl_iff _ _ _).1 h
    have hrun : ∀ b ob, (Instr.indexAt t (.pointer (some ⟨b, ob, none⟩)) (.int k n)).run P w = .ok (.pointer (some ⟨b, ob + n.toNat * inf.size, none⟩)) w := fun b ob => by
      simp [Instr.indexAt, run_underlying hu, asIntOf, Instr.sureAddr, h0, h1, sizeOf, typeInfo, hi, addr_add]
    split at h
    · rename_i cs off hg
      rw [hg] at hx
      obtain ⟨b, ob, g, hv, hc, hr⟩ := hx.pt_inv
      rw [hv] at ho'
      refine wp_op ho' (hrun _ _) (After.still hR (.imm ?_) h)
      rw [Nat.add_assoc]
      exact .pt g hc hr
    · rename_i id sz j off hg
      rw [hg] at hx
      obtain ⟨hd, b, hb, hh, hv⟩ := hx.ptr_inv
      rw [hv] at ho'
      refine wp_op ho' (hrun _ _) (After.still hR ?_ h)
      rw [Nat.add_assoc]
      exact .ptr hb hh
    · exact h.elim
  · exact h.elim

theorem length_flatten_replicate (z : List AV) : ∀ n, (List.replicate n z).flatten.length = n * z.length
  | 0 => by simp
  | n + 1 => by simp [List.replicate_succ, length_flatten_replicate z n, Nat.add_mul]; omega
theorem getD_flatten_replicate (z : List AV) (hz : 0 < z.length) : ∀ n i, i < n * z.length → (List.replicate n z).flatten.getD i .any = z.getD (i % z.length) .any
  | 0, i, h => by simp at h
  | n + 1, i, h => by
    rw [List.replicate_succ, List.flatten_cons]
    by_cases hi : i < z.length
    · rw [Nat.mod_eq_of_lt hi]
      simp [List.getD, List.getElem?_append_left hi]
    · have h' : i - z.length < n * z.length := by rw [Nat.add_mul] at h; omega
      have ih := getD_flatten_replicate z hz n (i - z.length) h'
      have e : i % z.length = (i - z.length) % z.length := by rw [Nat.mod_eq_sub_mod (by omega)]
      rw [e, ← ih]
      simp [List.getD, List.getElem?_append_right (Nat.le_of_not_lt hi)]

theorem zeros_rep {zv : Array Value} {z : List AV} (hz : Reps (Rep β F w) z zv) (h0 : 0 < z.length) (n : Nat) : Reps (Rep β F w) (List.replicate n z).flatten ((Array.range (n * z.length)).map (zv[· % zv.size]!)) := by
  refine ⟨by rw [length_flatten_replicate]; simp, fun i hi => ?_⟩
  rw [length_flatten_replicate] at hi
  rw [getD_flatten_replicate z h0 n i hi]
  have hm : i % z.length < z.length := Nat.mod_lt _ h0
  have e : ((Array.range (n * z.length)).map (zv[· % zv.size]!)).getD i undef = zv.getD (i % z.length) undef := by
    have hm' : i % zv.size < zv.size := by rw [← hz.1]; exact hm
    have hi2 : i < n * zv.size := by rw [← hz.1]; exact hi
    simp [Array.getD_eq_getD_getElem?, hi2, hz.1, hm', getElem!_pos]
  rw [e]
  exact hz.2 _ hm

theorem chunk_getD (cs : List AV) (sz n i j : Nat) (hi : i < n) (hj : j < sz) : ((((List.range n).map fun j => (cs.drop (j * sz)).take sz)).getD i []).getD j .any = cs.getD (i * sz + j) .any := by
  have e : ((List.range n).map fun j => (cs.drop (j * sz)).take sz).getD i [] = (cs.drop (i * sz)).take sz := by simp [List.getD, hi]
  rw [e, getD_take_drop _ _ _ _ hj]

theorem buildSlice_snd (hR : Rel B w0 F0 S β F a w) {o : Oper} {t : TypeId} {n : Nat} {ps : Array (Nat × Operand)} (ho : o.op = .buildSlice t n ps) (hfree : ∀ d, o.dst = some d → β d = none) {K : Out → List Nat → Prop}
    (h : evOp P o.dst (.buildSlice t n ps) S.get S.row K) {Q : Exit → Act → World → Prop} : o.wp P a w (After B w0 F0 S β o.dst K) Q := by
  simp only [evOp] at h
  split at h
  case h_2 => exact h.elim
  rename_i d e hd hu
  split at h
  case h_2 => exact h.elim
  rename_i i z hi hz
  split at h
  case h_2 => exact h.elim
  rename_i hzs
  have hzs' := Nat.eq_of_beq_eq_true hzs
  split at h
  case h_2 => exact h.elim
  rename_i hle
  simp only [Bool.and_eq_true, Nat.blt_eq] at hle
  have hle1 := Nat.le_of_ble_eq_true hle.1
  have hle2 := hle.2
  split at h
  case h_2 => exact h.elim
  rename_i cs hf
  obtain ⟨i', zv, hi', hzv, _, hzr⟩ := zeroAV_rep (β := β) (F := F) (w := w) hz
  rw [hi] at hi'; cases hi'
  have hzr' := zeros_rep hzr (by omega) n
  obtain ⟨p1, p2⟩ := parts_rep hR ps
  obtain ⟨us, hu1, hu2⟩ := fill_rep p1 p2 hzr' hf
  have hl := hzr.1
  have ho' : execOp a.eval o = (do pure (.value (← Instr.buildSlice t n (ps.map fun (i, x) => (i, a.eval x))))) := by simp [execOp, ho]
  have hcl : cs.length = n * i.size := by
    have : ∀ {place : Nat → Option (Nat × Nat)} {parts : List (Nat × AV)} {xs cs : List AV}, fillAV place xs parts = some cs → cs.length = xs.length := by
      intro place parts
      induction parts with
      | nil => intro xs cs h; simp [fillAV] at h; rw [h]
      | cons p parts ih =>
        intro xs cs h
        obtain ⟨k, x⟩ := p
        simp only [fillAV] at h
        split at h
        · cases h
        · split at h
          · cases h
          · split at h
            · cases h
            · rename_i h1
              split at h
              · cases h
              · rename_i h2
                have e1 := Nat.eq_of_beq_eq_true h1
                have e2 := Nat.le_of_ble_eq_true h2
                rw [ih h, length_setCells (by omega)]
    rw [this hf, length_flatten_replicate, hzs']
  have hrun : (Instr.buildSlice t n (ps.map fun (i, x) => (i, a.eval x))).run P w = .ok (.slice (some ⟨w.heap.size, 0, none⟩) n n) (w.alloc (.cells us e)) := by
    have hn0 : ¬ (2 ^ 24 < n * i.size) := by omega
    rw [hzs'] at hu1
    simp only [Instr.buildSlice, Sem.run_bind, run_underlying hu, Result.andThen_ok, run_sizeOf w hi, Program.cellsOf, hi, Option.map_some, Option.getD_some, gt_iff_lt, hn0, if_false, Sem.run_pure]
    split
    · rename_i h0
      have e0 : ∀ (f g : Nat → Value), (Array.range (n * i.size)).map f = (Array.range (n * i.size)).map g := fun f g => by rw [h0]; simp
      simp only [Sem.run_bind, Sem.run_pure, Result.andThen_ok]
      rw [e0 _ (zv.cells[· % zv.cells.size]!), hu1]
      simp [newRow]
    · simp only [Sem.run_bind, zeroValue, typeInfo, run_program, hi, hzv, Result.andThen_ok, Sem.run_pure, hu1]
      simp [newRow]
  obtain ⟨β', h1, h2⟩ := hR.alloc (hfree d hd) (dst := o.dst) (x := .own d) (v := .slice (some ⟨w.heap.size, 0, none⟩) n n) (r := .lit e i.size ((List.range n).map fun j => (cs.drop (j * i.size)).take i.size)) (vs := us) (ty := e) n n
    (fun β' hb _ => by have := Rep.own (F := F) (w := w.alloc (.cells us e)) hb; simpa using this)
    (fun β' hb hg hk => ⟨_, w.heap.size, us, hb, rfl, heap_alloc_self w _, by simp, by simp, by rw [← hu2.1, hcl]; simp, by
        simp only [List.length_map, List.length_range, maxLen]
        have : n * 1 ≤ n * i.size := Nat.mul_le_mul_left n hle2
        omega, fun p q hp hq => by
        have hp' : p < n := by simpa using hp
        rw [chunk_getD _ _ _ _ _ hp' hq]
        exact (hu2.2 _ (by rw [hcl]; exact mul_lt_aux hp' hq)).grow hg (fun _ h => h) hk⟩) (fun _ _ _ _ h => by cases h)
  exact wp_op ho' hrun ⟨_, _, h, β', F, fun j hj => h1 j (fun e => hj (by rw [e]; exact hd)), h2⟩

end
end Go.Ev
