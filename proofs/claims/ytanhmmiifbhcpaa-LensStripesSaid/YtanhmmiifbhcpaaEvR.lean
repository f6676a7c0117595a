/- Why the executor is right. A helper text: it speaks of no program. -/
import Derived.Test.YtanhmmiifbhcpaaEvQ
namespace Go.Ev
section
variable {P : Program} {B : Nat → Prop} {w0 : World} {F0 : Nat → Prop} {S : St} {β : Nat → Option Hd} {F : Nat → Prop} {a : Act} {w : World} {ops : Array Oper}

/-- Behind an operation: some state that follows. -/
def After2 (B : Nat → Prop) (w0 : World) (F0 : Nat → Prop) (dst : Option Nat) (K : St → Out → Prop) (a' : Act) (w' : World) : Prop :=
  ∃ S out, K S out ∧ ∃ β F, Rel B w0 F0 (S.put dst out) β F a' w'

theorem evOp_after2 (hR : Rel B w0 F0 S β F a w) {o : Oper} (hfree : allocs o.op = true → ∀ d, o.dst = some d → β d = none) {K : St → Out → Prop} (h : evOp P o.dst o.op S.get S.row fun out _ => K S out) {Q : Exit → Act → World → Prop} :
    o.wp P a w (After2 B w0 F0 o.dst K) Q := by
  refine Oper.wp_mono ?_ (evOp_snd hR hfree h)
  rintro a' w' ⟨out, rd, hK, β', F', _, hR'⟩
  exact ⟨S, out, hK, β', F', hR'⟩

theorem nilCmp_snd (hR : Rel B w0 F0 S β F a w) {o : Oper} {op : BinOp} {t yt : TypeId} {x y : Operand} (ho : o.op = .binOp op t x y yt) {e : TypeId} (hu : P.underlying t = some (.slice e)) {α : Type} {l : List α}
    (hy : S.get y = .nils) (hx : ∃ p n c, a.eval x = .slice p n c ∧ (p = none → l = [])) {K : St → Out → Prop} (h : nilCmp op l fun v => K S ⟨v, []⟩) {Q : Exit → Act → World → Prop} : o.wp P a w (After2 B w0 F0 o.dst K) Q := by
  obtain ⟨p, n, c, hv, hp⟩ := hx
  have hyv := hR.get y
  rw [hy] at hyv
  have hy' := hyv.nils_inv
  have heq : (Op.equal t (.slice p n c) (.slice none 0 0)).run P w = .ok p.isNone w := by
    cases p with
    | none => exact run_equal_nil_sl hu none n c 0 0
    | some q => exact run_equalIn_slice_nil' hu q n c
  have hK := eqPick_iff (h p.isNone (fun hb => hp (by cases p <;> simp_all)))
  obtain ⟨r, v, h1, h2, h3⟩ := eq_rep (β := β) (F := F) (K := fun v => K S ⟨v, []⟩) x y heq ⟨nofun, nofun, nofun, nofun⟩ (run_eqGuard_other op t x y nofun nofun) (.imm (.bool _)) (.imm (.bool _)) hK
  refine wp_op (s := do eqGuard op t x y (.slice p n c) (.slice none 0 0); binOp op t (.slice p n c) (.slice none 0 0)) (by simp [execOp, ho, hv, hy']) h1 ?_
  exact ⟨S, _, h3, β, F, hR.still h2⟩

theorem uOp1_snd (hR : Rel B w0 F0 S β F a w) {o : Oper} (hfree : allocs o.op = true → ∀ d, o.dst = some d → β d = none) {K : St → Out → Prop} (h : uOp1 P o S K) {Q : Exit → Act → World → Prop} :
    o.wp P a w (After2 B w0 F0 o.dst K) Q := by
  unfold uOp1 at h
  split at h
  · rename_i f xs ys ho
    split at h
    · have ho' : execOp a.eval o = (do pure (.value (← Instr.makeFunc f (xs.map a.eval) (ys.map a.eval)))) := by simp [execOp, ho]
      obtain ⟨h1, h2⟩ := get_map_rep hR xs
      obtain ⟨h3, h4⟩ := get_map_rep hR ys
      exact wp_op ho' (v := .func f (xs.map a.eval) (ys.map a.eval)) (w' := w) (by simp [Instr.makeFunc]) ⟨S, _, h, β, F, hR.still (.fn h1 h2 h3 h4)⟩
    · rename_i i l hids
      rw [fSt_eq] at h
      obtain ⟨F', hR'⟩ := hR.freeze (idSet (i :: l))
      have ho' : execOp a.eval o = (do pure (.value (← Instr.makeFunc f (xs.map a.eval) (ys.map a.eval)))) := by simp [execOp, ho]
      obtain ⟨h1, h2⟩ := get_map_rep hR' xs
      obtain ⟨h3, h4⟩ := get_map_rep hR' ys
      exact wp_op ho' (v := .func f (xs.map a.eval) (ys.map a.eval)) (w' := w) (by simp [Instr.makeFunc]) ⟨_, _, h, β, F', hR'.still (.fn h1 h2 h3 h4)⟩
  · rename_i op t x y yt ho
    split at h
    · rename_i hy
      split at h
      · rename_i α sz d enc l hx
        split at h
        · rename_i e hu
          refine nilCmp_snd hR ho hu hy ?_ h
          have := hR.get x
          rw [hx] at this
          rcases this.sl_inv with ⟨h1, h2⟩ | ⟨b, ob, cap, g, h1, _⟩
          · exact ⟨_, _, _, h2, fun _ => h1⟩
          · exact ⟨_, _, _, h1, fun e => by cases e⟩
        · exact h.elim
      · rename_i id hx
        split at h
        · rename_i α ty sz d enc l hr
          split at h
          · rename_i e hu
            refine nilCmp_snd hR ho hu hy ?_ h
            have := hR.get x
            rw [hx] at this
            obtain ⟨hd, hβ, hv⟩ := this.own_inv
            obtain ⟨_, q⟩ := row_vec hR hr hβ
            refine ⟨_, _, _, hv, fun e => ?_⟩
            rcases q with ⟨q, _⟩ | ⟨b, vs, q, _⟩
            · exact q
            · rw [q] at e; cases e
          · exact h.elim
        · exact h.elim
      · rw [← ho] at h
        exact evOp_after2 hR hfree h
    · rw [← ho] at h
      exact evOp_after2 hR hfree h
  · rename_i c ho
    split at h
    · rename_i f hc
      split at h
      · split at h
        · rw [← ho] at h
          exact evOp_after2 hR hfree h
        · obtain ⟨frz, h⟩ := h
          split at h
          · rw [← ho] at h
            exact evOp_after2 hR hfree h
          · rw [fSt_eq, ← ho] at h
            obtain ⟨F', hR'⟩ := hR.freeze (idSet (_ : List Nat))
            exact evOp_after2 hR' hfree h
      · exact h.elim
    · rw [← ho] at h
      exact evOp_after2 hR hfree h
  · exact evOp_after2 hR hfree h

theorem uOp_snd (hR : Rel B w0 F0 S β F a w) {o : Oper} {K : St → Out → Prop} (h : uOp P o S K) {Q : Exit → Act → World → Prop} : o.wp P a w (After2 B w0 F0 o.dst K) Q := by
  unfold uOp at h
  split at h
  · rename_i ha
    split at h
    · rename_i d hd
      rw [fSt_eq] at h
      obtain ⟨β', h1, h2, hR'⟩ := hR.kill d
      exact uOp1_snd hR' (fun _ d' hd' => by rw [hd] at hd'; cases hd'; exact h1) h
    · rename_i hd
      exact uOp1_snd hR (fun _ d' hd' => by rw [hd] at hd'; cases hd') h
  · rename_i ha
    exact uOp1_snd hR (fun ha' => by rw [ha] at ha'; cases ha') h

theorem splitOut_fine {src : Bool} {out : Out} {K : Out → Prop} (h : splitOut src out K) : ∃ v, Fine out.v v ∧ K ⟨v, out.rows⟩ := by
  unfold splitOut at h
  split at h
  · split at h
    · rename_i b hb
      rw [hb]
      cases b
      · exact ⟨.ff, .ff, h.2 rfl⟩
      · exact ⟨.tt, .tt, h.1 rfl⟩
    · exact ⟨_, .same _, h⟩
  · exact ⟨_, .same _, h⟩

/-- A region in the order of the text. -/
theorem uRun_snd {K : St → Prop} {Q : Exit → Act → World → Prop} (hQ : ∀ S β F a w, Rel B w0 F0 S β F a w → K S → Q .normal a w) : ∀ (l : List Oper) (k : Nat) {S : St} {β : Nat → Option Hd} {F : Nat → Prop} {a : Act} {w : World}, (∀ j, l[j]? = ops[k + j]?) →
    Rel B w0 F0 S β F a w → uRun P ops.toList l k S K → wpOps P ops Q (List.range' k l.length) a w
  | [], k, S, β, F, a, w, _, hR, h => hQ _ _ _ _ _ hR h
  | o :: l, k, S, β, F, a, w, hl, hR, h => by
    have h0 : ops[k]? = some o := by simpa using (hl 0).symm
    have hl' : ∀ j, l[j]? = ops[k + 1 + j]? := fun j => by have := hl (j + 1); simpa [Nat.add_assoc, Nat.add_comm 1 j] using this
    simp only [List.length_cons, List.range'_succ]
    rw [wpOps_cons]
    unfold wpOp
    simp only [h0]
    simp only [uRun, Array.toArray_toList] at h
    split at h
    · rename_i hg
      rw [gw_wanted hR hg]
      simp only [if_true]
      refine .inl (Oper.wp_mono ?_ (uOp_snd hR h))
      rintro a' w' ⟨S', out, hK, β', F', hR'⟩
      obtain ⟨v, hf, hK⟩ := splitOut_fine hK
      rw [fPut_eq] at hK
      exact uRun_snd hQ l (k + 1) hl' (Rel.fine (x := out.v) (rows := out.rows) hR' hf) hK
    · rename_i hg
      rw [gw_wanted hR hg]
      simp only [Bool.false_eq_true, if_false]
      rw [fPut_eq] at h
      exact uRun_snd hQ l (k + 1) hl' (hR.still (.imm RepI.undef)) h
    · exact h.elim

theorem lexRun_chain {K : St → Prop} : ∀ (l : List Oper) (k : Nat) {S : St} {fps : List (List Nat × List Nat)}, lexRun P ops.toList l k S fps K → ∃ fps' Sf, Chain P ops k l S fps' Sf ∧ rowsB ops.toList (fps ++ fps') = true ∧ K Sf ∧ fps'.length = l.length
  | [], k, S, fps, h => ⟨[], S, .nil k S, by simpa using h.1, h.2, rfl⟩
  | o :: l, k, S, fps, h => by
    simp only [lexRun, Array.toArray_toList] at h
    split at h
    · rename_i hg
      obtain ⟨out, rd, hK, hloc⟩ := evOp_local h
      obtain ⟨v, hf, hK⟩ := splitOut_fine hK
      rw [fPut_eq] at hK
      obtain ⟨fps', Sf, h1, h2, h3, h4⟩ := lexRun_chain l (k + 1) hK
      exact ⟨(rd, out.rows.map (·.1)) :: fps', Sf, .run (out := ⟨v, out.rows⟩) hg ⟨out.v, hf, fun S' h1 h2 => hloc S'.get S'.row h1 h2⟩ h1, by simpa using h2, h3, by simp [h4]⟩
    · rename_i hg
      rw [fPut_eq] at h
      obtain ⟨fps', Sf, h1, h2, h3, h4⟩ := lexRun_chain l (k + 1) h
      exact ⟨([], []) :: fps', Sf, .skip hg h1, by simpa using h2, h3, by simp [h4]⟩
    · exact h.elim

theorem Rel.drew (hR : Rel B w0 F0 S β F a w) (n : Nat) : Rel B w0 F0 S β F a { w with drawn := w.drawn + n } where
  len := hR.len
  slots := fun i hi => Rep.grow (β := β) (β' := β) (F := F) (F' := F) (w := w) (w' := { w with drawn := w.drawn + n }) (fun _ _ => rfl) (fun _ h => h) (fun _ _ _ _ h => h) (hR.slots i hi)
  defers := hR.defers
  rows := fun i => RowRep.grow (β := β) (β' := β) (F := F) (F' := F) (w := w) (w' := { w with drawn := w.drawn + n }) (fun _ _ => rfl) (fun _ h => h) (fun _ _ _ _ h => h) (fun _ _ => rfl) (hR.rows i)
  inj := hR.inj
  bF := hR.bF
  bB := hR.bB
  FB := hR.FB
  below := hR.below.trans ⟨rfl, rfl, rfl, Nat.le_refl _, fun _ _ => rfl, fun _ _ h _ => h⟩
  BW := hR.BW

theorem rowsB_spec {fps : List (List Nat × List Nat)} (h : rowsB ops.toList fps = true) (i j : Nat) (oj : Oper) (hi : i < ops.size) (hj : ops[j]? = some oj) (hij : i < j) (hno : ∀ e ∈ oj.after, Region.binds .any e = true → e.on ≠ i) :
    (∀ x ∈ (fps.getD i ([], [])).2, x ∉ (fps.getD j ([], [])).1 ∧ x ∉ (fps.getD j ([], [])).2) ∧ ∀ x ∈ (fps.getD i ([], [])).1, x ∉ (fps.getD j ([], [])).2 := by
  have hj' : j < ops.size := (Array.getElem?_eq_some_iff.1 hj).1
  simp only [rowsB, List.all_eq_true, List.mem_range, Array.length_toList] at h
  have h1 := h j hj' i hi
  have hb : Nat.ble j i = false := by
    cases hc : Nat.ble j i with
    | false => rfl
    | true => have := Nat.le_of_ble_eq_true hc; omega
  rw [hb] at h1
  simp only [Array.getElem?_toList, hj, Bool.or_eq_true, Bool.and_eq_true] at h1
  rcases h1 with h1 | ⟨h1, h2⟩
  · obtain ⟨e, he, hbe⟩ := Array.any_eq_true'.1 h1
    simp only [Bool.and_eq_true, beq_iff_eq] at hbe
    exact absurd hbe.2 (hno e he hbe.1)
  · refine ⟨fun x hx => ?_, fun x hx => ?_⟩
    · have := List.all_eq_true.1 h1 x hx
      simp at this
      exact this
    · have := List.all_eq_true.1 h2 x hx
      simpa using this

/-- A region in whatever order. -/
theorem lexRun_snd (hm : P.follows .mixedOrders = true) {id : Nat} {K : St → Prop} {Q : Exit → Act → World → Prop} (hQ : ∀ S β F a w, Rel B w0 F0 S β F a w → K S → Q .normal a w) (hR : Rel B w0 F0 S β F a w) (hd : drawB ops = true)
    (h : lexRun P ops.toList ops.toList 0 (S.kills (allocD ops.toList)) [] K) : (Code.region id ops true).wp P Q a w := by
  simp only [drawB, Bool.and_eq_true] at hd
  obtain ⟨hlex, hdst⟩ := hd
  obtain ⟨fps, Sf, hch, hrows, hK, hlen⟩ := lexRun_chain ops.toList 0 h
  simp only [List.nil_append] at hrows
  obtain ⟨β', hfree, _, hR'⟩ := hR.kills (allocD ops.toList)
  refine wp_region_any hm (wpAny_of_anyA (fp := fun i => fps.getD i ([], [])) (Q := K) ?_ hQ _ _ _ β' F _ _ ?_ (hR'.drew 1) ?_)
  · intro i j oi oj d hi hj hij hdi hdj hal
    have hi' := (Array.getElem?_eq_some_iff.1 hi).1
    have hj' := (Array.getElem?_eq_some_iff.1 hj).1
    simp only [List.all_eq_true, List.mem_range] at hdst
    have h1 := hdst i hi'
    simp only [hi, hal, Bool.not_true, Bool.false_or, List.all_eq_true, List.mem_range] at h1
    have h2 := h1 j hj'
    have hne : Nat.beq i j = false := by
      cases hc : Nat.beq i j with
      | false => rfl
      | true => exact absurd (Nat.eq_of_beq_eq_true hc) hij
    simp only [hne, Bool.false_or, hj, hdi, hdj, Nat.beq_refl, Bool.not_true, Bool.false_eq_true] at h2
  · intro i o d ho _ hal hdd
    refine hfree d ?_
    simp only [allocD, List.mem_filterMap]
    exact ⟨o, by simpa using Array.mem_of_getElem? ho, by simp [hal, hdd]⟩
  · have := anyA_lex (P := P) (fp := fun i => fps.getD i ([], [])) (Q := K) (ops := ops) (fun i j oi oj hi hj hij hno => rowsB_spec hrows i j oj (Array.getElem?_eq_some_iff.1 hi).1 hj hij hno)
      ops.toList 0 (Array.replicate ops.size false) _ fps Sf (fun j => by simp) (fun j hj => absurd hj (Nat.not_lt_zero j)) (fun j hj => by simp) (by simpa using hlex) hch hK
    simpa using this

end
end Go.Ev
