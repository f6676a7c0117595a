/- Each operation does what its abstract twin says (fifth part): structs, stores, places. A helper text: it speaks of no program. -/
import Derived.Test.YtanhmmiifbhcpaaEvG
set_option linter.unusedVariables false
set_option linter.unusedSimpArgs false
namespace Go.Ev
section
variable {P : Program} {B : Nat → Prop} {w0 : World} {F0 : Env P} {S : St} {β : Nat → Option Hd} {F : Nat → Prop} {a : Act} {w : World}

theorem zeroAV_rep {t : TypeId} {cs : List AV} (h : zeroAV P t = some cs) : ∃ i z, P.info? t = some i ∧ i.zero = some z ∧ cs = z.cells.toList.map AV.ofConst ∧ Reps (Rep β F w) cs z.cells := by
  unfold zeroAV at h
  cases hi : P.info? t with
  | none => simp [hi] at h
  | some i =>
    cases hv : i.zero with
    | none => simp [hi, hv] at h
    | some z =>
      simp only [hi, hv, Option.some.injEq] at h
      refine ⟨i, z, rfl, hv, h.symm, by rw [← h]; simp, fun j hj => ?_⟩
      rw [← h]
      have hj' : j < z.cells.size := by rw [← h] at hj; simpa using hj
      have e : (z.cells.toList.map AV.ofConst).getD j .any = AV.ofConst (z.cells.getD j undef) := by
        simp [List.getD, Array.getD_eq_getD_getElem?, hj']
      rw [e]; exact .imm (.ofConst _)

theorem parts_rep (hR : Rel B w0 F0 S β F a w) (ps : Array (Nat × Operand)) :
    (ps.toList.map fun p => (p.1, S.get p.2)).length = (ps.map fun (i, x) => (i, a.eval x)).toList.length ∧
    ∀ i, i < (ps.toList.map fun p => (p.1, S.get p.2)).length → ((ps.toList.map fun p => (p.1, S.get p.2)).getD i (0, .any)).1 = ((ps.map fun (i, x) => (i, a.eval x)).toList.getD i (0, undef)).1 ∧
      Rep β F w ((ps.toList.map fun p => (p.1, S.get p.2)).getD i (0, .any)).2 ((ps.map fun (i, x) => (i, a.eval x)).toList.getD i (0, undef)).2 := by
  refine ⟨by simp, fun i hi => ?_⟩
  have hi' : i < ps.toList.length := by simpa using hi
  have e1 : (ps.toList.map fun p => (p.1, S.get p.2)).getD i (0, .any) = ((ps.toList[i]).1, S.get (ps.toList[i]).2) := by
    have : i < ps.size := by simpa using hi'
    simp [List.getD, this]
  have e2 : (ps.map fun (i, x) => (i, a.eval x)).toList.getD i (0, undef) = ((ps.toList[i]).1, a.eval (ps.toList[i]).2) := by
    have : i < ps.size := by simpa using hi'
    simp [List.getD, this]
  rw [e1, e2]
  exact ⟨rfl, hR.get _⟩

theorem run_mapM_places (fs : Array Field) (h : ∀ f ∈ fs.toList, (P.info? f.type).isSome = true) :
    (fs.mapM fun f => do pure (f.offset, ← sizeOf f.type) : Sem (Array (Nat × Nat))).run P w = .ok (fs.map fun f => (f.offset, P.cellsOf f.type)) w := by
  have key : ∀ (l : List Field), (∀ f ∈ l, (P.info? f.type).isSome = true) → (l.mapM fun f => do pure (f.offset, ← sizeOf f.type) : Sem (List (Nat × Nat))).run P w = .ok (l.map fun f => (f.offset, P.cellsOf f.type)) w := by
    intro l
    induction l with
    | nil => intro _; simp
    | cons f l ih =>
      intro hl
      obtain ⟨i, hi⟩ := Option.isSome_iff_exists.1 (hl f (by simp))
      simp only [List.mapM_cons, Sem.run_bind, run_sizeOf w hi, Result.andThen_ok, Sem.run_pure, ih fun g hg => hl g (by simp [hg]), List.map_cons]
  have := key fs.toList h
  rw [← Array.toList_mapM] at this
  simp only [Sem.run_map] at this
  generalize hr : (fs.mapM fun f => do pure (f.offset, ← sizeOf f.type) : Sem (Array (Nat × Nat))).run P w = r at this
  cases r with
  | ok x w1 =>
    simp only [Result.andThen_ok, Result.ok.injEq] at this
    obtain ⟨e1, rfl⟩ := this
    congr 1
    apply Array.ext'
    simpa using e1
  | halt x w1 => simp [Result.andThen] at this

theorem build_snd (hR : Rel B w0 F0 S β F a w) {o : Oper} {t : TypeId} {ps : Array (Nat × Operand)} (ho : o.op = .build t ps) {K : Out → List Nat → Prop} (h : evOp P o.dst (.build t ps) S.get S.row K) {Q : Exit → Act → World → Prop} :
    o.wp P a w (After B w0 F0 S β o.dst K) Q := by
  simp only [evOp] at h
  split at h
  · exact h.elim
  · rename_i z hz
    obtain ⟨i, zv, hi, hzv, _, hzr⟩ := zeroAV_rep (β := β) (F := F) (w := w) hz
    have ho' : execOp a.eval o = (do pure (.value (← Instr.build t (ps.map fun (i, x) => (i, a.eval x))))) := by simp [execOp, ho]
    obtain ⟨p1, p2⟩ := parts_rep hR ps
    split at h
    · rename_i fs hu
      split at h
      · rename_i hall
        split at h
        · rename_i cs hf
          have hpe : (fun i => (fs.toList.map fun f => (f.offset, P.cellsOf f.type))[i]?) = fun i => (fs.map fun f => (f.offset, P.cellsOf f.type))[i]? := funext fun i => by rw [← Array.toList_map, Array.getElem?_toList]
          rw [hpe] at hf
          obtain ⟨us, hu1, hu2⟩ := fill_rep p1 p2 hzr hf
          have hpl := run_mapM_places (P := P) (w := w) fs (List.all_eq_true.1 hall)
          refine wp_op ho' (v := .agg us) (w' := w) ?_ (After.still hR (.agg hu2.1 hu2.2) h)
          simp only [Instr.build, Sem.run_bind, zeroValue, typeInfo, run_program, hi, hzv, run_underlying hu, Result.andThen_ok, Sem.run_pure, hpl, hu1]
        · exact h.elim
      · exact h.elim
    · rename_i n e hu
      split at h
      · rename_i ie hie
        split at h
        · rename_i cs hf
          obtain ⟨us, hu1, hu2⟩ := fill_rep p1 p2 hzr hf
          refine wp_op ho' (v := .agg us) (w' := w) ?_ (After.still hR (.agg hu2.1 hu2.2) h)
          simp only [Instr.build, Sem.run_bind, zeroValue, typeInfo, run_program, hi, hzv, run_underlying hu, Result.andThen_ok, Sem.run_pure, run_sizeOf w hie, hu1]
        · exact h.elim
      · exact h.elim
    · exact h.elim

theorem setRow_facts (g : Nat) (cur new : Array Value) (t : TypeId) (fz : Nat × Nat) (hg : w.heap[g]? = some (.cells cur t fz)) :
    ((w.setRow g new).os = w.os ∧ (w.setRow g new).tape = w.tape ∧ (w.setRow g new).output = w.output ∧ (w.setRow g new).heap.size = w.heap.size) ∧ (∀ k, k ≠ g → (w.setRow g new).heap[k]? = w.heap[k]?) ∧
      (w.setRow g new).heap[g]? = some (.cells new t fz) :=
  ⟨⟨rfl, rfl, rfl, by simp⟩, fun k hk => setRow_other w g k new hk, setRow_heap w g cur new t fz hg⟩

theorem store_run {t : TypeId} {i : TypeInfo} (hi : P.info? t = some i) {b o : Nat} {cur : Array Value} {ty : TypeId} (hb : w.heap[b]? = some (.cells cur ty (0, 0))) {v : Value} (hs : v.cells.size = i.size) (ho : o + i.size ≤ cur.size)
    (h1 : ∀ u ∈ v.cells.toList, u.oneCell' = true) :
    (Instr.storeAt t (.pointer (some ⟨b, o, none⟩)) v).run P w = .ok () (w.setRow b (setVals cur o v.cells.toList)) := by
  have hst := run_storeCells_at P b o ty v.cells.toList 0 cur w hb (by simp [hs]; omega) h1
  simp only [Nat.add_zero] at hst
  simp [Instr.storeAt, Instr.sureAddr, storeVar, sizeOf, typeInfo, hi, hs]
  exact hst

theorem wp_unit {o : Oper} {next : Act → World → Prop} {Q : Exit → Act → World → Prop} {s : Sem Unit} (ho : execOp a.eval o = (do s; pure .skip)) {w' : World} (hs : s.run P w = .ok () w') (hn : next (a.put o.dst undef) w') : o.wp P a w next Q := by
  unfold Oper.wp
  rw [ho]
  simp only [Sem.run_bind, hs, Result.andThen_ok, Sem.run_pure]
  exact hn

theorem store_snd (hR : Rel B w0 F0 S β F a w) {o : Oper} {t : TypeId} {x y : Operand} (ho : o.op = .store t x y) {K : Out → List Nat → Prop} (h : evOp P o.dst (.store t x y) S.get S.row K) {Q : Exit → Act → World → Prop} :
    o.wp P a w (After B w0 F0 S β o.dst K) Q := by
  simp only [evOp] at h
  split at h
  case h_2 => exact h.elim
  rename_i i hi
  split at h
  case h_2 => exact h.elim
  rename_i l hl
  split at h
  case h_2 => exact h.elim
  rename_i hsz
  have hsz' := Nat.eq_of_beq_eq_true hsz
  obtain ⟨c1, c2, c3⟩ := cells?_rep (hR.get y) hl
  have hlv : (a.eval y).cells.toList.length = l.length := by simp [c1]
  have ho' : execOp a.eval o = (do Instr.storeAt t (a.eval x) (a.eval y); pure .skip) := by simp [execOp, ho]
  have hx := hR.get x
  split at h
  case h_2 => exact h.elim
  rename_i id sz j off hg
  rw [hg] at hx
  obtain ⟨hd, b, hb, hh, hv⟩ := hx.ptr_inv
  rw [hv] at ho'
  have hblk : blk β id = some b := by simp [blk, hb, hh]
  split at h
  · rename_i ty cs hr
    split at h
    case h_2 => exact h.elim
    rename_i hle
    have hle' := Nat.le_of_ble_eq_true hle
    obtain ⟨vs, e1, e2, e3⟩ := row_cells hR hr hb hh
    have hrun := store_run (P := P) hi e1 (v := a.eval y) (o := j * sz + off) (by omega) (by omega) c3
    obtain ⟨f1, f2, f3⟩ := setRow_facts b vs (setVals vs (j * sz + off) (a.eval y).cells.toList) ty (0, 0) e1
    refine wp_unit ho' hrun ⟨_, _, h, β, F, fun _ _ => rfl, hR.write (by rw [hr]; simp) hblk f1 f2 (fun _ => .imm (.any _)) (fun hk => ?_) (fun _ _ _ _ h => by cases h)⟩
    have hs := Reps.set (R := Rep β F (w.setRow b (setVals vs (j * sz + off) (a.eval y).cells.toList))) (xs := cs) (vs := vs) (l := l) (ls := (a.eval y).cells) (off := j * sz + off)
      ⟨e2.symm, fun k hk' => (e3 k hk').grow (fun _ _ => rfl) (fun _ h => h) hk⟩ ⟨c1.symm, fun k hk' => (c2 k hk').grow (fun _ _ => rfl) (fun _ h => h) hk⟩ hle'
    exact ⟨hd, b, _, hb, hh, f3, hs.1.symm, hs.2⟩
  · rename_i α ty sz' d enc zs hr
    split at h
    case h_2 => exact h.elim
    rename_i hsz2
    split at h
    case h_2 => exact h.elim
    rename_i hcl
    split at h
    case h_2 => exact h.elim
    rename_i hle
    split at h
    case h_2 => exact h.elim
    rename_i hlen
    obtain ⟨yy, hy1, hj, hK⟩ := h
    have e0 := Nat.eq_of_beq_eq_true hsz2
    subst e0
    have hle' := Nat.le_of_ble_eq_true hle
    have hlen' := Nat.eq_of_beq_eq_true hlen
    obtain ⟨hl1, hv2⟩ := row_vec hR hr hb
    rcases hv2 with ⟨h1, h2, _⟩ | ⟨b', vs, e1, e2, e3, e4, e5, e6⟩
    · rw [h1] at hj; simp at hj
    rw [hh] at e1; cases e1
    have hin : ∀ k, k < sz → j * sz + k < vs.size := fun k hk => by
      rw [e5]; exact mul_lt_aux (Nat.lt_of_lt_of_le hj e3) hk
    have hfit : j * sz + off + l.length ≤ vs.size := by
      rcases Nat.eq_zero_or_pos (off + l.length) with h0 | h0
      · rcases Nat.eq_zero_or_pos sz with h00 | h00
        · simp [h00]; omega
        · have := hin 0 h00; omega
      · have := hin (off + l.length - 1) (by omega); omega
    have hrun := store_run (P := P) hi e2 (v := a.eval y) (o := j * sz + off) (by omega) (by omega) c3
    obtain ⟨f1, f2, f3⟩ := setRow_facts b vs (setVals vs (j * sz + off) (a.eval y).cells.toList) ty (0, 0) e2
    refine wp_unit ho' hrun ⟨_, _, hK, β, F, fun _ _ => rfl, hR.write (by rw [hr]; simp) hblk f1 f2 (fun _ => .imm (.any _)) (fun hk => ?_) (fun _ _ _ _ h => by cases h)⟩
    refine ⟨hd, hb, by rw [hl1]; simp, .inr ⟨b, _, hh, f3, by simpa using e3, e4, by rw [size_setVals (by omega)]; exact e5, fun p q hp hq => ?_⟩⟩
    have hp' : p < zs.length := by simpa using hp
    rw [getD_setVals (by omega), hlv]
    by_cases hpj : p = j
    · subst hpj
      have eg : (zs.set p yy).getD p d = yy := by simp [List.getD, hp']
      rw [eg, hy1, getD_setCells (by omega)]
      by_cases hq2 : off ≤ q ∧ q < off + l.length
      · have c : p * sz + off ≤ p * sz + q ∧ p * sz + q < p * sz + off + l.length := by omega
        rw [if_pos hq2, if_pos c]
        have hcell := (c2 (q - off) (by omega)).shut (closedL_getD hcl _)
        have ee : (a.eval y).cells.toList.getD (p * sz + q - (p * sz + off)) undef = (a.eval y).cells.getD (q - off) undef := by
          rw [show p * sz + q - (p * sz + off) = q - off by omega]
          simp [List.getD, Array.getD_eq_getD_getElem?]
        rw [ee]
        exact hcell.mono (fun _ h => h) hk
      · have c : ¬ (p * sz + off ≤ p * sz + q ∧ p * sz + q < p * sz + off + l.length) := by omega
        rw [if_neg hq2, if_neg c]
        exact (e6 p q hp' hq).mono (fun _ h => h) hk
    · have eg : (zs.set j yy).getD p d = zs.getD p d := by simp [List.getD, List.getElem?_set, Ne.symm hpj]
      have c : ¬ (j * sz + off ≤ p * sz + q ∧ p * sz + q < j * sz + off + l.length) := by
        rcases Nat.lt_or_gt_of_ne hpj with hlt | hgt
        · have := mul_lt_aux hlt hq; omega
        · have : (j + 1) * sz ≤ p * sz := Nat.mul_le_mul_right sz hgt
          rw [Nat.add_mul] at this
          omega
      rw [eg, if_neg c]
      exact (e6 p q hp' hq).mono (fun _ h => h) hk
  · exact h.elim

end
end Go.Ev
