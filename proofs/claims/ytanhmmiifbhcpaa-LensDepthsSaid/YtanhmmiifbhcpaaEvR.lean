/- Why the executor is right. A helper text: it speaks of no program. -/
import Derived.Test.YtanhmmiifbhcpaaEvQ
import Derived.OrdersIn
set_option linter.unusedVariables false
set_option linter.unusedSimpArgs false
namespace Go.Ev
section
variable {P : Program} {B : Nat → Prop} {w0 : World} {F0 : Env P} {S : St} {β : Nat → Option Hd} {F : Nat → Prop} {a : Act} {w : World} {ops : Array Oper}

/-- Behind an operation: some state that follows. -/
def After2 (B : Nat → Prop) (w0 : World) (F0 : Env P) (dst : Option Nat) (K : St → Out → Prop) (a' : Act) (w' : World) : Prop :=
  ∃ S out, K S out ∧ ∃ β F, Rel B w0 F0 (S.put dst out) β F a' w'

theorem evOp_after2 (hR : Rel B w0 F0 S β F a w) {o : Oper} (hfree : allocs o.op = true → ∀ d, o.dst = some d → β d = none) {K : St → Out → Prop} (h : evOp P o.dst o.op S.get S.row fun out _ => K S out) {Q : Exit → Act → World → Prop} :
    o.wp P a w (After2 B w0 F0 o.dst K) Q := by
  refine Oper.wp_mono ?_ (evOp_snd hR hfree h)
  rintro a' w' ⟨out, rd, hK, β', F', _, hR'⟩
  exact ⟨S, out, hK, β', F', hR'⟩

theorem nilCmp_snd (hR : Rel B w0 F0 S β F a w) {o : Oper} {op : BinOp} {t yt : TypeId} {x y : Operand} (ho : o.op = .binOp op t x y yt) {e : TypeId} (hu : P.underlying t = some (.slice e)) {α : Type} {l : List α}
    (hy : S.get y = .nils) (hx : ∃ p n c, a.eval x = .slice p n c ∧ (p = none → l = [])) {K : St → Out → Prop} (h : nilCmp op l fun v => K S ⟨v, []⟩) {Q : Exit → Act → World → Prop} : o.wp P a w (After2 B w0 F0 o.dst K) Q := by
  obtain ⟨p, n, c, hv, hp⟩ := hx
  have hyv := hR.get y
  rw [hy] at hyv
  have hy' := hyv.nils_inv
  have heq : (Op.equal t (.slice p n c) (.slice none 0 0)).run P w = .ok p.isNone w := by
    cases p with
    | none => exact run_equal_nil_sl hu none n c 0 0
    | some q => exact run_equalIn_slice_nil' hu q n c
  have hK := eqPick_iff (h p.isNone (fun hb => hp (by cases p <;> simp_all)))
  obtain ⟨r, v, h1, h2, h3⟩ := eq_rep (β := β) (F := F) (K := fun v => K S ⟨v, []⟩) x y heq ⟨nofun, nofun, nofun, nofun⟩ (run_eqGuard_other op t x y nofun nofun) (.imm (.bool _)) (.imm (.bool _)) hK
  refine wp_op (s := do eqGuard op t x y (.slice p n c) (.slice none 0 0); binOp op t (.slice p n c) (.slice none 0 0)) (by simp [execOp, ho, hv, hy']) h1 ?_
  exact ⟨S, _, h3, β, F, hR.still h2⟩

abbrev FW (r : Option Nat) : Fence := { Fence.wide with round := r }
theorem callsIn_FW {r : Option Nat} {f : FuncId} {vs : Array Value} {R : Ending → World → Prop} (h : Calls P f vs w R) : CallsIn (FW r) 0 P f vs w R := callsIn_wide.2 h
theorem oper_in {r : Option Nat} {o : Oper} {next : Act → World → Prop} {Q : Exit → Act → World → Prop} (hd : ∀ c, o.op ≠ .defer c) (h : o.wp P a w next Q) : o.wpIn (FW r) 0 P a w next Q := by
  refine ⟨fun _ _ => trivial, ?_⟩
  rw [Oper.semAt_eq _ _ _ hd]
  unfold Oper.wp at h
  generalize (execOp a.eval o).run P w = res at h ⊢
  have nodepth : ∀ {p : Prop}, (FW r).depth.isSome = true → p := fun h => by cases h
  cases res with
  | ok x w' =>
    cases x <;> first
      | exact h
      | exact h.elim
      | exact ⟨nodepth, callsIn_FW h⟩
      | exact ⟨nodepth, fun c cs _ => let ⟨v, w', r, s⟩ := h c cs; ⟨v, w', r, stepsIn_wide.2 s⟩⟩
  | halt x w' => cases x <;> first | exact h | exact h.elim

/-- The arguments of a call, as they are handed over. -/
theorem callArgs (hR : Rel B w0 F0 S β F a w) {o : Oper} {c : Call} {f : Operand} (ho : o.op = .call c) (hb : c.callee = .value f) {fid : FuncId} {first caps : List AV} (hg : S.get f = .fn (.func fid) first caps) :
    ∃ V : Array Value, execOp a.eval o = callFunc fid V ∧ V.size = (first ++ c.args.toList.map S.get ++ caps).length ∧ ∀ i, i < (first ++ c.args.toList.map S.get ++ caps).length → Rep β F w ((first ++ c.args.toList.map S.get ++ caps).getD i .any) (V.getD i undef) := by
  have hf := hR.get f
  rw [hg] at hf
  obtain ⟨vs, us, hv, l1, l2, r1, r2⟩ := hf.fn_inv
  obtain ⟨l3, r3⟩ := get_map_rep hR c.args
  refine ⟨vs ++ c.args.map a.eval ++ us, ?_, by simp [l1, l2], fun i hi => ?_⟩
  · simp only [execOp, ho, resolve, hb, hv, Deferred.ofValue]
    rfl
  · by_cases h1 : i < first.length
    · have e1 : (first ++ c.args.toList.map S.get ++ caps).getD i .any = first.getD i .any := by simp [List.getD, List.getElem?_append, h1]
      have e2 : (vs ++ c.args.map a.eval ++ us).getD i undef = vs.getD i undef := by
        have : i < vs.size := by omega
        simp [Array.getD_eq_getD_getElem?, Array.getElem?_append, this]
      rw [e1, e2]; exact r1 i h1
    · by_cases h2 : i < first.length + (c.args.toList.map S.get).length
      · have e1 : (first ++ c.args.toList.map S.get ++ caps).getD i .any = (c.args.toList.map S.get).getD (i - first.length) .any := by
          simp only [List.getD, List.append_assoc]
          rw [List.getElem?_append_right (by omega), List.getElem?_append_left (by omega)]
        have e2 : (vs ++ c.args.map a.eval ++ us).getD i undef = (c.args.map a.eval).getD (i - first.length) undef := by
          simp only [Array.getD_eq_getD_getElem?, Array.append_assoc]
          rw [Array.getElem?_append_right (by omega), Array.getElem?_append_left (by rw [← l1, ← l3]; omega), l1]
        rw [e1, e2]; exact r3 _ (by omega)
      · have e1 : (first ++ c.args.toList.map S.get ++ caps).getD i .any = caps.getD (i - first.length - (c.args.toList.map S.get).length) .any := by
          simp only [List.getD, List.append_assoc]
          rw [List.getElem?_append_right (by omega), List.getElem?_append_right (by omega)]
        have e2 : (vs ++ c.args.map a.eval ++ us).getD i undef = us.getD (i - first.length - (c.args.toList.map S.get).length) undef := by
          simp only [Array.getD_eq_getD_getElem?, Array.append_assoc]
          rw [Array.getElem?_append_right (by omega), Array.getElem?_append_right (by rw [← l1, ← l3]; omega), l1, l3]
        rw [e1, e2]
        exact r2 _ (by simp only [List.length_append] at hi; omega)

theorem nodupB_iff : ∀ {l : List Nat}, nodupB l = true → l.Nodup
  | [], _ => .nil
  | a :: l, h => by
    have hm : ∀ {m : List Nat}, hasN a m = false → a ∉ m := by
      intro m
      induction m with
      | nil => intro _; simp
      | cons d m ih =>
        intro h
        simp only [hasN] at h
        cases hb : Nat.beq a d with
        | true => simp [hb] at h
        | false =>
          simp only [hb] at h
          have := Nat.ne_of_beq_eq_false hb
          simp [this, ih h]
    simp only [nodupB] at h
    cases hh : hasN a l with
    | true => simp [hh] at h
    | false => simp only [hh] at h; exact List.nodup_cons.2 ⟨hm hh, nodupB_iff h⟩

theorem hasN_iff {a : Nat} : ∀ {m : List Nat}, hasN a m = true ↔ a ∈ m
  | [] => by simp [hasN]
  | d :: m => by
    simp only [hasN, List.mem_cons]
    cases hb : Nat.beq a d with
    | true => have := Nat.eq_of_beq_eq_true hb; simp [this]
    | false =>
      have := Nat.ne_of_beq_eq_false hb
      simp [this, hasN_iff (m := m)]

theorem wOp_snd (hR : Rel B w0 F0 S β F a w) {o : Oper} {c : Call} {f : Operand} (ho : o.op = .call c) (hb : c.callee = .value f) {K : St → Out → Prop} (h : wOp P c f S K) {Q : Exit → Act → World → Prop} :
    o.wp P a w (After2 B w0 F0 o.dst K) Q := by
  obtain ⟨frz, news, hnews, h⟩ := h
  rw [fSt_eq] at h
  obtain ⟨S1, F1, hS1, hR1, hk1⟩ : ∃ S1 F1, S1 = S.frz frz ∧ Rel B w0 F0 S1 β F1 a w ∧ ∀ d, mayKill S d = true → F0.β d = none := by
    cases frz with
    | nil => exact ⟨_, F, rfl, hR, hR.topn⟩
    | cons i l =>
      obtain ⟨F', hR'⟩ := hR.freeze (idSet (i :: l))
      exact ⟨_, F', rfl, hR', hR.topn⟩
  rw [← hS1] at h
  obtain ⟨β2, hfree, _, hR2⟩ := hR1.kills news (fun d hd => hk1 d (List.all_eq_true.1 hnews d hd))
  generalize S1.kills news = S2 at h hR2
  split at h
  · rename_i fid first caps hg
    obtain ⟨ids, args', ins, outs, res, ⟨hpw, hargs, hins, hwb⟩, hK⟩ := h
    simp only [wB, Bool.and_eq_true] at hwb
    obtain ⟨⟨⟨⟨⟨⟨b1, b2⟩, b3⟩, b4⟩, b5⟩, b6⟩, b7⟩ := hwb
    have b2 := Nat.eq_of_beq_eq_true b2
    have b3 := Nat.eq_of_beq_eq_true b3
    obtain ⟨V, hex, hsz, hrep⟩ := callArgs hR2 ho hb hg
    rw [hargs] at hsz hrep
    rw [renL_length] at hsz hrep
    let βi : Nat → Option Hd := fun k => if k < ids.length then β2 (ids.getD k 0) else none
    have hβi : ∀ k, k < ids.length → βi k = β2 (ids.getD k 0) := fun k hk => by simp [βi, hk]
    have hβo : ∀ k, ids.length ≤ k → βi k = none := fun k hk => by simp [βi, Nat.not_lt.2 hk]
    have hrow : ∀ k, k < ids.length → S2.row (ids.getD k 0) = renRow ids (ins.getD k .none) := fun k hk => by
      have : (ids.map S2.row).getD k .none = (ins.map (renRow ids)).getD k .none := by rw [hins]
      simpa [List.getD, List.getElem?_map, hk, b2 ▸ hk] using this
    have hu : ∀ k, k < ids.length → underRow ids.length (ins.getD k .none) = true ∧ ins.getD k .none ≠ .none := fun k hk => by
      have hm : ins.getD k .none ∈ ins := by simp [List.getD, b2 ▸ hk]
      have := List.all_eq_true.1 b5 _ hm
      simp only [Bool.and_eq_true] at this
      exact ⟨this.1, fun e => by rw [e] at this; simp [Row.live] at this⟩
    have hlive : ∀ k, k < ids.length → S2.row (ids.getD k 0) ≠ .none := fun k hk e => by
      rw [hrow k hk, renRow_none] at e; exact (hu k hk).2 e
    have hnone : ∀ k, ids.length ≤ k → ins.getD k .none = .none := fun k hk => by simp [List.getD, List.getElem?_eq_none (b2 ▸ hk)]
    have hblk : ∀ k b, blk βi k = some b → k < ids.length ∧ blk β2 (ids.getD k 0) = some b := fun k b hk => by
      by_cases hlt : k < ids.length
      · exact ⟨hlt, by simpa [blk, hβi k hlt] using hk⟩
      · simp [blk, hβo k (Nat.le_of_not_lt hlt)] at hk
    have hnd := nodupB_iff b1
    have idinj : ∀ i j, i < ids.length → j < ids.length → ids.getD i 0 = ids.getD j 0 → i = j := fun i j hi hj e => by
      have e' : ids[i] = ids[j] := by simpa [List.getD, hi, hj] using e
      have hp := List.pairwise_iff_getElem.1 (List.nodup_append.1 hnd).1
      rcases Nat.lt_trichotomy i j with hlt | rfl | hgt
      · exact absurd e' (hp i j hi hj hlt)
      · rfl
      · exact absurd e'.symm (hp j i hj hi hgt)
    have hown : Owned βi F1 w ins := {
      rows := fun k => by
        by_cases hlt : k < ids.length
        · have := hR2.rows (ids.getD k 0)
          rw [hrow k hlt] at this
          exact rowRep_unren hβi hlt (hu k hlt).1 this
        · rw [hnone k (Nat.le_of_not_lt hlt)]; trivial
      inj := fun i j b _ _ hbi hbj => by
        obtain ⟨l1, k1⟩ := hblk i b hbi
        obtain ⟨l2, k2⟩ := hblk j b hbj
        exact idinj i j l1 l2 (hR2.inj _ _ b (hlive i l1) (hlive j l2) k1 k2)
      bF := fun i b _ hbi => by
        obtain ⟨l1, k1⟩ := hblk i b hbi
        exact hR2.bF _ b (hlive i l1) k1
      bB := fun i b hbi => (hR2.bB _ b (hblk i b hbi).2).2
      dead := fun i hi => by
        by_cases hlt : i < ids.length
        · exact absurd hi (hu i hlt).2
        · exact hβo i (Nat.le_of_not_lt hlt) }
    obtain ⟨h1, h2⟩ := hpw F1 w V βi (fun b hb => (hR2.FB b hb).1) hsz (fun i hi => (hrep i hi).unren hβi (underL_getD b4 i) (by rw [renL_getD])) hown
    unfold Oper.wp
    rw [hex, h1]
    refine h2.mono ?_
    rintro e w' ⟨v, β', F', rfl, g1, g2, g3, g4, g5, g6, g7, g8, g9⟩
    obtain ⟨β'', F'', hR3⟩ := hR2.calledW (dst := o.dst) hnd hfree (fun k hk => ⟨hβi k hk, hlive k hk⟩) hβo g1 g2 g3 g4 g5 b6 g6 (fun k => by
      by_cases hk : k < outs.length
      · exact List.all_eq_true.1 b7 _ (by simp [List.getD, hk])
      · simp [List.getD, List.getElem?_eq_none (Nat.le_of_not_lt hk), underRow]) b3 g7 g8 g9
    exact ⟨_, _, hK, β'', F'', hR3⟩
  · exact h.elim

theorem uOp1_nodefer {o : Oper} {K : St → Out → Prop} (h : uOp1 P o S K) : ∀ c, o.op ≠ .defer c := by
  intro c e
  unfold uOp1 at h
  rw [e] at h
  exact h

/-- Behind a round: the iterator's own is as it was. -/
theorem Rel.yielded (hR : Rel B w0 F0 S β F a w) {id l : Nat} {xs : List (List AV)} {k : Nat} (hrow : S.row id = .ctr l xs k false) {O : Nat → Prop} (hOs : ∀ b, O b → b < w.heap.size) (hlive : ∀ i b, S.row i ≠ .none → blk β i = some b → O b) (hFO : ∀ b, F b → F0.F b ∨ O b)
    (hm : ∀ D, markOf D ∈ a.defers → O D) (huniq : ∀ id' l' xs' k' e', S.row id' = .ctr l' xs' k' e' → id' = id) (hl : l = F0.l) (hx : xs = F0.xs) (hB : ∀ b, B b) (hr : F0.r = none) {w' : World} (hos : w'.os = w.os ∧ w'.tape = w.tape ∧ w'.output = w.output) (hsize : w.heap.size ≤ w'.heap.size)
    (hO : ∀ b, O b → w'.heap[b]? = w.heap[b]?) (hk0 : Keeps F0.F w w') {e : Bool} (hJ : F0.J (k + 1) e O w') : Rel B w0 F0 ⟨S.t, S.h.set id (.ctr l xs (k + 1) e), S.n⟩ β F a w' := by
  have hk : Keeps F w w' := fun b o u hb hcell => by
    rcases hFO b hb with h | h
    · exact hk0 b o u h hcell
    · rw [World.cell?_of_block (w := w) (hO b h)]; exact hcell
  have rowE : ∀ j, (St.row ⟨S.t, S.h.set id (.ctr l xs (k + 1) e), S.n⟩ j) = if id = j ∧ id < S.h.length then .ctr l xs (k + 1) e else S.row j := fun j => getD_set_row _ _ _ _
  have lv : ∀ j, (St.row ⟨S.t, S.h.set id (.ctr l xs (k + 1) e), S.n⟩ j) ≠ .none → S.row j ≠ .none := fun j hj => by
    rw [rowE] at hj
    split at hj
    · rename_i hc; rw [← hc.1, hrow]; simp
    · exact hj
  exact {
    len := hR.len
    slots := fun i hi => (hR.slots i hi).grow (fun _ _ => rfl) (fun _ h => h) hk
    marks := by
      obtain ⟨Ds, ⟨h1, h0⟩, h2, h3⟩ := hR.marks
      refine ⟨Ds, ⟨h1, h0⟩, h2, fun D hD => ⟨?_, (h3 D hD).2⟩⟩
      have hD' : markOf D ∈ a.defers := by rw [h1]; exact List.mem_map_of_mem hD
      rw [hO D (hm D hD')]
      exact (h3 D hD).1
    rows := fun j => by
      rw [rowE]
      split
      · rename_i hc
        have := hR.rows id
        rw [hrow] at this
        rw [← hc.1]
        exact this
      · by_cases hn : S.row j = .none
        · rw [hn]; trivial
        · exact (hR.rows j).grow (fun _ _ => rfl) (fun _ h => h) hk fun b hb => hO b (hlive j b hn hb)
    inj := fun i j b hi hj => hR.inj i j b (lv i hi) (lv j hj)
    bF := fun i b hi => hR.bF i b (lv i hi)
    bB := fun i b h => ⟨hB b, Nat.lt_of_lt_of_le (hR.bB i b h).2 hsize⟩
    FB := fun b h => ⟨Nat.lt_of_lt_of_le (hR.FB b h).1 hsize, .inr (hB b)⟩
    below := hR.below.trans ⟨hos.1, hos.2.1, hos.2.2, hsize, fun k hkB => absurd (hB k) hkB⟩
    BW := fun b h => hB b
    top := hR.top
    topn := hR.topn
    nn := hR.nn
    inc := hR.inc
    keep := fun b o u hb hcell => hk b o u (hR.inc b hb) (hR.keep b o u hb hcell)
    sol := fun hn => absurd (F0.ni _ _ _ _ hJ) hn
    yl := fun id' l' xs' k' e' h => by
      have un : ∀ id' l' xs' k' e', (St.row ⟨S.t, S.h.set id (.ctr l xs (k + 1) e), S.n⟩ id') = .ctr l' xs' k' e' → id' = id := fun id' l' xs' k' e' h => by
        rw [rowE] at h
        split at h
        · rename_i hc; exact hc.1.symm
        · exact huniq _ _ _ _ _ h
      obtain rfl := un _ _ _ _ _ h
      rw [rowE, if_pos ⟨rfl, row_lt (by rw [hrow]; simp)⟩] at h
      cases h
      exact ⟨hl, hx, ⟨hB, hr⟩, O, hJ, fun b hb => Nat.lt_of_lt_of_le (hOs b hb) hsize, fun i b hi hb => hlive i b (lv i hi) hb, hFO, hm, un⟩ }

/-- A yield. -/
theorem yield_snd (hR : Rel B w0 F0 S β F a w) {o : Oper} {c : Call} {f : Operand} (ho : o.op = .call c) (hb : c.callee = .value f) {l : Nat} (hg : S.get f = .fn (.yield l) [] []) {xs : List (List AV)} {k : Nat} (hrow : S.row S.t.length = .ctr l xs k false)
    (hx : xs[k]? = some (c.args.toList.map S.get)) (hfl : flatL (c.args.toList.map S.get) = true) {K : St → Out → Prop} (h1 : K S ⟨.tt, [(S.t.length, .ctr l xs (k + 1) false)]⟩) (h2 : K S ⟨.ff, [(S.t.length, .ctr l xs (k + 1) true)]⟩) {Q : Exit → Act → World → Prop} :
    o.wpIn (FW F0.r) 0 P a w (After2 B w0 F0 o.dst K) Q := by
  obtain ⟨hl, hxs, ⟨hB, hr⟩, O, g1, g2, g3, g4, g5, g6⟩ := hR.yl _ _ _ _ _ hrow
  have hf := hR.get f
  rw [hg] at hf
  obtain ⟨vs, us, hv, l1, l2, _, _⟩ := hf.fn_inv
  obtain rfl : vs = #[] := Array.eq_empty_of_size_eq_zero l1.symm
  obtain rfl : us = #[] := Array.eq_empty_of_size_eq_zero l2.symm
  obtain ⟨l3, r3⟩ := get_map_rep hR c.args
  have hex : execOp a.eval o = Instr.yield l (c.args.map a.eval) := by
    simp only [execOp, ho, resolve, hb, hv, Deferred.ofValue]
    simp [invoke]
  have hcl : ∀ i, ((c.args.toList.map S.get).getD i .any).flat = true := flatL_getD hfl
  have flatClosed : ∀ {x : AV} {v : Value}, Rep β F w x v → x.flat = true → RepI (fun _ => False) w x v := by
    intro x v h
    induction h with
    | imm h => intro hx; exact h.lift hx
    | ptr => intro hx; simp [AV.flat] at hx
    | own => intro hx; simp [AV.flat] at hx
    | agg hl _ ih => intro hx; exact .agg hl fun i hi => ih i hi (flatL_getD (by simpa [AV.flat] using hx) i)
    | tup hl _ ih => intro hx; exact .tup hl fun i hi => ih i hi (flatL_getD (by simpa [AV.flat] using hx) i)
    | fn hl _ hm _ ih ik =>
      intro hx
      simp [AV.flat] at hx
      exact .fn hl (fun i hi => ih i hi (flatL_getD hx.1 i)) hm (fun i hi => ik i hi (flatL_getD hx.2 i))
  obtain ⟨fn, tmps, assign, body, hy, hround⟩ := F0.rd k O w (c.args.map a.eval) _ g1 (hxs ▸ hx) g2 l3.symm (fun i hi => flatClosed (r3 i hi) (hcl i))
  rw [← hl] at hy hround
  refine ⟨fun _ _ => trivial, ?_⟩
  rw [Oper.semAt_eq _ _ _ (fun d e => by rw [ho] at e; cases e), hex, hy]
  refine ⟨fun h => (by cases h), ?_⟩
  rw [hr]
  refine RoundIn.mono hround ?_
  rintro e W' ⟨q1, q2, q3, q4, q5, q6, q7⟩
  have step : ∀ (e' : Bool) (x : AV) (v : Value), F0.J (k + 1) e' O W' → RepI F W' x v → K S ⟨x, [(S.t.length, .ctr l xs (k + 1) e')]⟩ → After2 B w0 F0 o.dst K (a.put o.dst v) W' := fun e' x v hJ hv hK => by
    have := hR.yielded hrow g2 g3 g4 g5 g6 hl hxs hB hr ⟨q1, q2, q3⟩ q4 q5 q6 hJ
    exact ⟨S, _, hK, β, F, this.still (dst := o.dst) (.imm hv)⟩
  rcases q7 with ⟨rfl, hJ⟩ | ⟨rfl, hJ⟩
  · exact step false .tt _ hJ .tt h1
  · exact step true .ff _ hJ .ff h2

theorem uOp1_snd (hR : Rel B w0 F0 S β F a w) {o : Oper} (hfree : allocs o.op = true → ∀ d, o.dst = some d → β d = none) {K : St → Out → Prop} (h : uOp1 P o S K) {Q : Exit → Act → World → Prop} :
    o.wpIn (FW F0.r) 0 P a w (After2 B w0 F0 o.dst K) Q := by
  have hnd := uOp1_nodefer h
  unfold uOp1 at h
  split at h
  · rename_i f xs ys ho
    refine oper_in hnd ?_
    split at h
    · have ho' : execOp a.eval o = (do pure (.value (← Instr.makeFunc f (xs.map a.eval) (ys.map a.eval)))) := by simp [execOp, ho]
      obtain ⟨h1, h2⟩ := get_map_rep hR xs
      obtain ⟨h3, h4⟩ := get_map_rep hR ys
      exact wp_op ho' (v := .func f (xs.map a.eval) (ys.map a.eval)) (w' := w) (by simp [Instr.makeFunc]) ⟨S, _, h, β, F, hR.still (.fn h1 h2 h3 h4)⟩
    · rename_i i l hids
      rw [fSt_eq] at h
      obtain ⟨F', hR'⟩ := hR.freeze (idSet (i :: l))
      have ho' : execOp a.eval o = (do pure (.value (← Instr.makeFunc f (xs.map a.eval) (ys.map a.eval)))) := by simp [execOp, ho]
      obtain ⟨h1, h2⟩ := get_map_rep hR' xs
      obtain ⟨h3, h4⟩ := get_map_rep hR' ys
      exact wp_op ho' (v := .func f (xs.map a.eval) (ys.map a.eval)) (w' := w) (by simp [Instr.makeFunc]) ⟨_, _, h, β, F', hR'.still (.fn h1 h2 h3 h4)⟩
  · rename_i op t x y yt ho
    refine oper_in hnd ?_
    split at h
    · rename_i hy
      split at h
      · rename_i α sz d enc l hx
        split at h
        · rename_i e hu
          refine nilCmp_snd hR ho hu hy ?_ h
          have := hR.get x
          rw [hx] at this
          rcases this.sl_inv with ⟨h1, h2⟩ | ⟨b, ob, cap, g, h1, _⟩
          · exact ⟨_, _, _, h2, fun _ => h1⟩
          · exact ⟨_, _, _, h1, fun e => by cases e⟩
        · exact h.elim
      · rename_i id hx
        split at h
        · rename_i α ty sz d enc l hr
          split at h
          · rename_i e hu
            refine nilCmp_snd hR ho hu hy ?_ h
            have := hR.get x
            rw [hx] at this
            obtain ⟨hd, hβ, hv⟩ := this.own_inv
            obtain ⟨_, q⟩ := row_vec hR hr hβ
            refine ⟨_, _, _, hv, fun e => ?_⟩
            rcases q with ⟨q, _⟩ | ⟨b, vs, q, _⟩
            · exact q
            · rw [q] at e; cases e
          · exact h.elim
        · exact h.elim
      · rw [← ho] at h
        exact evOp_after2 hR hfree h
    · rw [← ho] at h
      exact evOp_after2 hR hfree h
  · rename_i c ho
    split at h
    · rename_i f hc
      split at h
      · rename_i fid first caps hg
        refine oper_in hnd ?_
        rcases h with h | h
        · split at h
          · rw [← ho] at h
            exact evOp_after2 hR hfree h
          · obtain ⟨frz, h⟩ := h
            split at h
            · rw [← ho] at h
              exact evOp_after2 hR hfree h
            · rw [fSt_eq, ← ho] at h
              obtain ⟨F', hR'⟩ := hR.freeze (idSet (_ : List Nat))
              exact evOp_after2 hR' hfree h
        · exact wOp_snd hR ho hc h
      · rename_i l hg
        split at h
        · rename_i l' xs k hrow
          obtain ⟨⟨rfl, hx, hfl⟩, h1, h2⟩ := h
          exact yield_snd hR ho hc hg hrow hx hfl h1 h2
        · exact h.elim
      · exact h.elim
    · rw [← ho] at h
      exact oper_in hnd (evOp_after2 hR hfree h)
  · exact oper_in hnd (evOp_after2 hR hfree h)

theorem uOp_snd (hR : Rel B w0 F0 S β F a w) {o : Oper} {K : St → Out → Prop} (h : uOp P o S K) {Q : Exit → Act → World → Prop} : o.wpIn (FW F0.r) 0 P a w (After2 B w0 F0 o.dst K) Q := by
  unfold uOp at h
  split at h
  · rename_i ha
    split at h
    · rename_i d hd
      split at h
      · rename_i hlt
        rw [fSt_eq] at h
        obtain ⟨β', h1, h2, hR'⟩ := hR.kill d (hR.topn d hlt)
        exact uOp1_snd hR' (fun _ d' hd' => by rw [hd] at hd'; cases hd'; exact h1) h
      · exact h.elim
    · rename_i hd
      exact uOp1_snd hR (fun _ d' hd' => by rw [hd] at hd'; cases hd') h
  · rename_i ha
    exact uOp1_snd hR (fun ha' => by rw [ha] at ha'; cases ha') h

theorem splitOut_fine {src : Bool} {out : Out} {K : Out → Prop} (h : splitOut src out K) : ∃ v, Fine out.v v ∧ K ⟨v, out.rows⟩ := by
  unfold splitOut at h
  split at h
  · split at h
    · rename_i b hb
      rw [hb]
      cases b
      · exact ⟨.ff, .ff, h.2 rfl⟩
      · exact ⟨.tt, .tt, h.1 rfl⟩
    · exact ⟨_, .same _, h⟩
  · exact ⟨_, .same _, h⟩

/-- A region in the order of the text. -/
theorem uRun_snd {K : St → Prop} {Q : Exit → Act → World → Prop} (hQ : ∀ S β F a w, Rel B w0 F0 S β F a w → K S → Q .normal a w) : ∀ (l : List Oper) (k : Nat) {S : St} {β : Nat → Option Hd} {F : Nat → Prop} {a : Act} {w : World}, (∀ j, l[j]? = ops[k + j]?) →
    Rel B w0 F0 S β F a w → uRun P ops.toList l k S K → wpOpsIn (FW F0.r) 0 P ops Q (List.range' k l.length) a w
  | [], k, S, β, F, a, w, _, hR, h => hQ _ _ _ _ _ hR h
  | o :: l, k, S, β, F, a, w, hl, hR, h => by
    have h0 : ops[k]? = some o := by simpa using (hl 0).symm
    have hl' : ∀ j, l[j]? = ops[k + 1 + j]? := fun j => by have := hl (j + 1); simpa [Nat.add_assoc, Nat.add_comm 1 j] using this
    simp only [List.length_cons, List.range'_succ]
    simp only [wpOpsIn, h0]
    simp only [uRun, Array.toArray_toList] at h
    split at h
    · rename_i hg
      rw [gw_wanted hR hg]
      simp only [if_true]
      refine Oper.wpIn_mono ?_ (uOp_snd hR h)
      rintro a' w' ⟨S', out, hK, β', F', hR'⟩
      obtain ⟨v, hf, hK⟩ := splitOut_fine hK
      rw [fPut_eq] at hK
      exact uRun_snd hQ l (k + 1) hl' (Rel.fine (x := out.v) (rows := out.rows) hR' hf) hK
    · rename_i hg
      rw [gw_wanted hR hg]
      simp only [Bool.false_eq_true, if_false]
      rw [fPut_eq] at h
      exact ⟨fun _ _ => trivial, uRun_snd hQ l (k + 1) hl' (hR.still (.imm RepI.undef)) h⟩
    · exact h.elim

theorem lexRun_chain {K : St → Prop} : ∀ (l : List Oper) (k : Nat) {S : St} {fps : List (List Nat × List Nat)}, lexRun P ops.toList l k S fps K → ∃ fps' Sf, Chain P ops k l S fps' Sf ∧ rowsB ops.toList (fps ++ fps') = true ∧ K Sf ∧ fps'.length = l.length
  | [], k, S, fps, h => ⟨[], S, .nil k S, by simpa using h.1, h.2, rfl⟩
  | o :: l, k, S, fps, h => by
    simp only [lexRun, Array.toArray_toList] at h
    split at h
    · rename_i hg
      obtain ⟨out, rd, hK, hloc⟩ := evOp_local h
      obtain ⟨v, hf, hK⟩ := splitOut_fine hK
      rw [fPut_eq] at hK
      obtain ⟨fps', Sf, h1, h2, h3, h4⟩ := lexRun_chain l (k + 1) hK
      exact ⟨(rd, out.rows.map (·.1)) :: fps', Sf, .run (out := ⟨v, out.rows⟩) hg ⟨out.v, hf, fun S' h1 h2 => hloc S'.get S'.row h1 h2⟩ h1, by simpa using h2, h3, by simp [h4]⟩
    · rename_i hg
      rw [fPut_eq] at h
      obtain ⟨fps', Sf, h1, h2, h3, h4⟩ := lexRun_chain l (k + 1) h
      exact ⟨([], []) :: fps', Sf, .skip hg h1, by simpa using h2, h3, by simp [h4]⟩
    · exact h.elim

/-- The world turns where the call has nothing. -/
theorem Rel.otherK (hR : Rel B w0 F0 S β F a w) {w' : World} (hos : w'.os = w.os ∧ w'.tape = w.tape ∧ w'.output = w.output) (hsize : w.heap.size ≤ w'.heap.size) {O : Nat → Prop} (hO : ∀ b, b < w.heap.size → ¬ O b → w'.heap[b]? = w.heap[b]?) (hOB : ∀ b, O b → B b) (hO0 : ∀ b, O b → w0.heap.size ≤ b)
    (hlive : ∀ i b, S.row i ≠ .none → blk β i = some b → ¬ O b) (hk : Keeps F w w') (hm : ∀ D, markOf D ∈ a.defers → ¬ O D) (hc : ∀ id l xs k e, S.row id ≠ .ctr l xs k e) : Rel B w0 F0 S β F a w' := by
  exact {
    len := hR.len
    slots := fun i hi => (hR.slots i hi).grow (fun _ _ => rfl) (fun _ h => h) hk
    marks := by
      obtain ⟨Ds, ⟨h1, h0⟩, h2, h3⟩ := hR.marks
      refine ⟨Ds, ⟨h1, h0⟩, h2, fun D hD => ⟨?_, (h3 D hD).2⟩⟩
      have hD' : markOf D ∈ a.defers := by rw [h1]; exact List.mem_map_of_mem hD
      rw [hO D (Array.getElem?_eq_some_iff.1 (h3 D hD).1).1 (hm D hD')]
      exact (h3 D hD).1
    rows := fun i => by
      by_cases hn : S.row i = .none
      · rw [hn]; trivial
      · exact (hR.rows i).grow (fun _ _ => rfl) (fun _ h => h) hk fun b hb => hO b (hR.bB i b hb).2 (hlive i b hn hb)
    inj := hR.inj
    bF := hR.bF
    bB := fun i b h => ⟨(hR.bB i b h).1, Nat.lt_of_lt_of_le (hR.bB i b h).2 hsize⟩
    FB := fun b h => ⟨Nat.lt_of_lt_of_le (hR.FB b h).1 hsize, (hR.FB b h).2⟩
    below := hR.below.trans ⟨hos.1, hos.2.1, hos.2.2, hsize, fun k hkB => by
      by_cases hlt : k < w.heap.size
      · exact hO k hlt fun h => hkB (hOB k h)
      · exact absurd (hR.BW k (Nat.le_of_not_lt hlt)) hkB⟩
    BW := fun b h => hR.BW b (Nat.le_trans hsize h)
    top := hR.top
    topn := hR.topn
    nn := hR.nn
    inc := hR.inc
    keep := fun b o u hb hcell => hk b o u (hR.inc b hb) (hR.keep b o u hb hcell)
    sol := fun hn k o ho hnc => by
      have h1 := hR.sol hn k o ho hnc
      rw [hO k (Array.getElem?_eq_some_iff.1 h1).1 fun h => ?_]
      · exact h1
      · have := hO0 k h; have := (Array.getElem?_eq_some_iff.1 ho).1; omega
    yl := fun id l xs k e h => absurd h (hc id l xs k e) }

theorem Rel.other (hR : Rel B w0 F0 S β F a w) {w' : World} (hos : w'.os = w.os ∧ w'.tape = w.tape ∧ w'.output = w.output) (hsize : w.heap.size ≤ w'.heap.size) {O : Nat → Prop} (hO : ∀ b, b < w.heap.size → ¬ O b → w'.heap[b]? = w.heap[b]?) (hOB : ∀ b, O b → B b) (hO0 : ∀ b, O b → w0.heap.size ≤ b)
    (hlive : ∀ i b, S.row i ≠ .none → blk β i = some b → ¬ O b) (hF : ∀ b, F b → ¬ O b) (hm : ∀ D, markOf D ∈ a.defers → ¬ O D) (hc : ∀ id l xs k e, S.row id ≠ .ctr l xs k e) : Rel B w0 F0 S β F a w' :=
  hR.otherK hos hsize hO hOB hO0 hlive (fun b o u hb hcell => by rw [World.cell?_of_block (w := w) (hO b (hR.FB b hb).1 (hF b hb))]; exact hcell) hm hc

theorem Rel.drew (hR : Rel B w0 F0 S β F a w) (n : Nat) : Rel B w0 F0 S β F a { w with drawn := w.drawn + n } where
  len := hR.len
  slots := fun i hi => Rep.grow (β := β) (β' := β) (F := F) (F' := F) (w := w) (w' := { w with drawn := w.drawn + n }) (fun _ _ => rfl) (fun _ h => h) (fun _ _ _ _ h => h) (hR.slots i hi)
  marks := hR.marks
  rows := fun i => RowRep.grow (β := β) (β' := β) (F := F) (F' := F) (w := w) (w' := { w with drawn := w.drawn + n }) (fun _ _ => rfl) (fun _ h => h) (fun _ _ _ _ h => h) (fun _ _ => rfl) (hR.rows i)
  inj := hR.inj
  bF := hR.bF
  bB := hR.bB
  FB := hR.FB
  below := hR.below.trans ⟨rfl, rfl, rfl, Nat.le_refl _, fun _ _ => rfl⟩
  BW := hR.BW
  top := hR.top
  topn := hR.topn
  nn := hR.nn
  inc := hR.inc
  keep := hR.keep
  sol := hR.sol
  yl := fun id l xs k e h => by
    obtain ⟨h1, h2, hz, O, h3, h4, h5, h6, h7, h8⟩ := hR.yl id l xs k e h
    have hsz : ({ w with drawn := w.drawn + n } : World).heap.size = w.heap.size := rfl
    refine ⟨h1, h2, hz, _, F0.st k e O w { w with drawn := w.drawn + n } h3 (fun _ _ _ => rfl) rfl rfl rfl (Nat.le_refl _), fun b hb => ?_, fun i b hi hb => .inl (h5 i b hi hb), fun b hb => (h6 b hb).imp (fun h => h) .inl, fun D hD => .inl (h7 D hD), h8⟩
    rcases hb with hb | hb
    · exact h4 b hb
    · exact hb.2

theorem rowsB_spec {fps : List (List Nat × List Nat)} (h : rowsB ops.toList fps = true) (i j : Nat) (oj : Oper) (hi : i < ops.size) (hj : ops[j]? = some oj) (hij : i < j) (hno : ∀ e ∈ oj.after, Region.binds .any e = true → e.on ≠ i) :
    (∀ x ∈ (fps.getD i ([], [])).2, x ∉ (fps.getD j ([], [])).1 ∧ x ∉ (fps.getD j ([], [])).2) ∧ ∀ x ∈ (fps.getD i ([], [])).1, x ∉ (fps.getD j ([], [])).2 := by
  have hj' : j < ops.size := (Array.getElem?_eq_some_iff.1 hj).1
  simp only [rowsB, List.all_eq_true, List.mem_range, Array.length_toList] at h
  have h1 := h j hj' i hi
  have hb : Nat.ble j i = false := by
    cases hc : Nat.ble j i with
    | false => rfl
    | true => have := Nat.le_of_ble_eq_true hc; omega
  rw [hb] at h1
  simp only [Array.getElem?_toList, hj, Bool.or_eq_true, Bool.and_eq_true] at h1
  rcases h1 with h1 | ⟨h1, h2⟩
  · obtain ⟨e, he, hbe⟩ := Array.any_eq_true'.1 h1
    simp only [Bool.and_eq_true, beq_iff_eq] at hbe
    exact absurd hbe.2 (hno e he hbe.1)
  · refine ⟨fun x hx => ?_, fun x hx => ?_⟩
    · have := List.all_eq_true.1 h1 x hx
      simp at this
      exact this
    · have := List.all_eq_true.1 h2 x hx
      simpa using this

/-- A region in whatever order. -/
theorem lexRun_snd (hm : P.follows .mixedOrders = true) {id : Nat} {K : St → Prop} {Q : Exit → Act → World → Prop} (hQ : ∀ S β F a w, Rel B w0 F0 S β F a w → K S → Q .normal a w) (hR : Rel B w0 F0 S β F a w) (hd : (drawB ops && (allocD ops.toList).all (mayKill S) && S.n.calm) = true)
    (h : lexRun P ops.toList ops.toList 0 (S.kills (allocD ops.toList)) [] K) : (Code.region id ops true).wp P Q a w := by
  simp only [drawB, Bool.and_eq_true] at hd
  obtain ⟨⟨⟨hlex, hdst⟩, hal0⟩, _⟩ := hd
  obtain ⟨fps, Sf, hch, hrows, hK, hlen⟩ := lexRun_chain ops.toList 0 h
  simp only [List.nil_append] at hrows
  obtain ⟨β', hfree, _, hR'⟩ := hR.kills (allocD ops.toList) (fun d hd => hR.topn d (List.all_eq_true.1 hal0 d hd))
  refine wp_region_any hm (wpAny_of_anyA (fp := fun i => fps.getD i ([], [])) (Q := K) ?_ hQ _ _ _ β' F _ _ ?_ (hR'.drew 1) ?_)
  · intro i j oi oj d hi hj hij hdi hdj hal
    have hi' := (Array.getElem?_eq_some_iff.1 hi).1
    have hj' := (Array.getElem?_eq_some_iff.1 hj).1
    simp only [List.all_eq_true, List.mem_range] at hdst
    have h1 := hdst i hi'
    simp only [hi, hal, Bool.not_true, Bool.false_or, List.all_eq_true, List.mem_range] at h1
    have h2 := h1 j hj'
    have hne : Nat.beq i j = false := by
      cases hc : Nat.beq i j with
      | false => rfl
      | true => exact absurd (Nat.eq_of_beq_eq_true hc) hij
    simp only [hne, Bool.false_or, hj, hdi, hdj, Nat.beq_refl, Bool.not_true, Bool.false_eq_true] at h2
  · intro i o d ho _ hal hdd
    refine hfree d ?_
    simp only [allocD, List.mem_filterMap]
    exact ⟨o, by simpa using Array.mem_of_getElem? ho, by simp [hal, hdd]⟩
  · have := anyA_lex (P := P) (fp := fun i => fps.getD i ([], [])) (Q := K) (ops := ops) (fun i j oi oj hi hj hij hno => rowsB_spec hrows i j oj (Array.getElem?_eq_some_iff.1 hi).1 hj hij hno)
      ops.toList 0 (Array.replicate ops.size false) _ fps Sf (fun j => by simp) (fun j hj => absurd hj (Nat.not_lt_zero j)) (fun j hj => by simp) (by simpa using hlex) hch hK
    simpa using this

end
end Go.Ev
