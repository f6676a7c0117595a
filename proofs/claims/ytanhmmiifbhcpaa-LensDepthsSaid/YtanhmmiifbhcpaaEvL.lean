/- Each operation does what its abstract twin says (last part): append; and all of them together. A helper text: it speaks of no program. -/
import Derived.Test.YtanhmmiifbhcpaaEvK
set_option linter.unusedVariables false
set_option linter.unusedSimpArgs false
namespace Go.Ev
section
variable {P : Program} {B : Nat → Prop} {w0 : World} {F0 : Env P} {S : St} {β : Nat → Option Hd} {F : Nat → Prop} {a : Act} {w : World}

theorem run_append_none {t ty e : TypeId} {i : TypeInfo} (ht : P.underlying t = some (.slice e)) (hi : P.info? e = some i) (base : Option Addr) (n cap : Nat) (hn : n ≤ cap) :
    (Builtin.append_ #[t, t] ty #[.slice base n cap, .slice none 0 0]).run P w = .ok (.slice base n cap) w := by
  cases base <;> simp [Builtin.append_, run_underlying ht, sizeOf, typeInfo, hi, Builtin.lenOf, hn, Builtin.firstCells, storeCells]
theorem run_append_zero {t ty e : TypeId} {i : TypeInfo} (ht : P.underlying t = some (.slice e)) (hi : P.info? e = some i) (x : Addr) (c : Nat) :
    (Builtin.append_ #[t, t] ty #[.slice none 0 0, .slice (some x) 0 c]).run P w = .ok (.slice none 0 0) w := by
  simp [Builtin.append_, run_underlying ht, sizeOf, typeInfo, hi, Builtin.lenOf, Builtin.firstCells, loadCells, loadCellsFrom]

theorem one_of_rep {x : AV} {v : Value} (h : RepI F w x v) (hx : x.one = true) : v.oneCell' = true := (Rep.one_cell (β := fun _ => none) (.imm h) hx).1

theorem getD_append_left {α : Type} {l m : List α} {i : Nat} {d : α} (h : i < l.length) : (l ++ m).getD i d = l.getD i d := by simp [List.getD, List.getElem?_append_left h]
theorem getD_append_right {α : Type} {l m : List α} {i : Nat} {d : α} (h : l.length ≤ i) : (l ++ m).getD i d = m.getD (i - l.length) d := by simp [List.getD, List.getElem?_append_right h]

/-- The cells of a row behind an append. -/
theorem append_cells {α : Type} {sz : Nat} {d : α} {enc : α → List AV} {l l' : List α} {go gn : Nat → Nat → Value} {rest : List Value} {w' : World}
    (ho : ∀ i j, i < l.length → j < sz → RepI F w' ((enc (l.getD i d)).getD j .any) (go i j)) (hn : ∀ i j, i < l'.length → j < sz → RepI F w' ((enc (l'.getD i d)).getD j .any) (gn i j))
    {vs : Array Value} (hvs : vs.toList = flatVals go l.length sz ++ flatVals gn l'.length sz ++ rest) :
    ∀ i j, i < (l ++ l').length → j < sz → RepI F w' ((enc ((l ++ l').getD i d)).getD j .any) (vs.getD (i * sz + j) undef) := by
  intro i j hi hj
  have hget : ∀ k v, (flatVals go l.length sz ++ flatVals gn l'.length sz ++ rest)[k]? = some v → vs.getD k undef = v := fun k v h => by
    rw [← hvs] at h
    have : vs[k]? = some v := by simpa using h
    simp [Array.getD_eq_getD_getElem?, this]
  by_cases h : i < l.length
  · rw [getD_append_left h, hget _ (go i j) ?_]
    · exact ho i j h hj
    · have := mul_lt_aux h hj
      rw [List.append_assoc, List.getElem?_append_left (by rw [flatVals_length]; exact this)]
      exact flatVals_at h hj
  · have hle := Nat.le_of_not_lt h
    have hi' : i - l.length < l'.length := by simp at hi; omega
    rw [getD_append_right hle, hget _ (gn (i - l.length) j) ?_]
    · exact hn _ _ hi' hj
    · have e : i * sz + j - l.length * sz = (i - l.length) * sz + j := by rw [Nat.sub_mul]; have := Nat.mul_le_mul_right sz hle; omega
      have h2 : l.length * sz ≤ i * sz := Nat.mul_le_mul_right sz hle
      have h3 := mul_lt_aux hi' hj
      rw [List.append_assoc, List.getElem?_append_right (by rw [flatVals_length]; omega), flatVals_length, e, List.getElem?_append_left (by rw [flatVals_length]; exact h3)]
      exact flatVals_at hi' hj

theorem flatVals_one {α : Type} {sz : Nat} {d : α} {enc : α → List AV} {l : List α} {g : Nat → Nat → Value} (hcl : ∀ y ∈ l, (enc y).length = sz ∧ closedL (enc y) = true ∧ allOne (enc y) = true)
    (hr : ∀ i j, i < l.length → j < sz → RepI F w ((enc (l.getD i d)).getD j .any) (g i j)) : ∀ u ∈ flatVals g l.length sz, u.oneCell' = true := by
  intro u hu
  obtain ⟨k, hk, rfl⟩ := List.mem_map.1 hu
  have hlt : k < l.length * sz := List.mem_range.1 hk
  have hsz : 0 < sz := Nat.pos_of_ne_zero fun e => by simp [e] at hlt
  have h1 : k / sz < l.length := (Nat.div_lt_iff_lt_mul hsz).2 hlt
  have h2 : k % sz < sz := Nat.mod_lt _ hsz
  have hm : l.getD (k / sz) d ∈ l := by simp [List.getD, h1]
  obtain ⟨c1, c2, c3⟩ := hcl _ hm
  exact one_of_rep (hr _ _ h1 h2) (allOne_getD c3 _ (by omega))

theorem size_zeroCells' (z : Array Value) (n : Nat) : (Builtin.zeroCells z n).size = n * z.size := by simp [Builtin.zeroCells]

theorem append_snd (hR : Rel B w0 F0 S β F a w) {o : Oper} {c : Call} (ho : o.op = .call c) (hb : c.callee = .builtin .append) (hfree : ∀ d, o.dst = some d → β d = none) {K : Out → List Nat → Prop}
    (h : evOp P o.dst (.call c) S.get S.row K) {Q : Exit → Act → World → Prop} : o.wp P a w (After B w0 F0 S β o.dst K) Q := by
  simp only [evOp, hb] at h
  split at h
  case h_2 => exact h.elim
  rename_i s x t t' hsx htt
  have e1 := toArr hsx
  have e2 := toArr htt
  split at h
  case h_2 => exact h.elim
  rename_i d e hd hu ht'
  have ht := Nat.eq_of_beq_eq_true ht'
  subst ht
  split at h
  case h_2 => exact h.elim
  rename_i i z hi hz
  split at h
  case h_2 => exact h.elim
  rename_i hzs
  have hzs' := Nat.eq_of_beq_eq_true hzs
  split at h
  case h_2 => exact h.elim
  rename_i hpos
  have hpos' : 0 < i.size := by simpa [Nat.blt_eq] using hpos
  split at h
  case h_2 => exact h.elim
  rename_i hbase
  obtain ⟨D, l', hDsz, hsl, hsl', hbytes, hlen, hcl, hK⟩ := h
  obtain ⟨i', zv, hi', hzv, _, hzr⟩ := zeroAV_rep (β := β) (F := F) (w := w) hz
  rw [hi] at hi'; cases hi'
  have hzsz : zv.cells.size = i.size := by rw [← hzr.1]; exact hzs'
  have hs : ∀ cs, builtin .append c.argTypes o.type cs (c.args.map a.eval) = (do pure (.value (← Builtin.append_ #[t, t] o.type #[a.eval s, a.eval x]))) := fun cs => by
    rw [e1, e2]; simp [builtin]
  have hcl1 : ∀ y ∈ D.l, (D.enc y).length = D.sz ∧ closedL (D.enc y) = true ∧ allOne (D.enc y) = true := fun y hy => hcl y (List.mem_append_left _ hy)
  have hcl2 : ∀ y ∈ l', (D.enc y).length = D.sz ∧ closedL (D.enc y) = true ∧ allOne (D.enc y) = true := fun y hy => hcl y (List.mem_append_right _ hy)
  have hsv := hR.get s
  have hxv := hR.get x
  have hsrc := src_rep hR hxv hsl' hcl2
  have fd := hfree d hd
  -- how it ends, given the run
  have fin : ∀ (hd' : Hd) (w' : World), (Builtin.append_ #[t, t] o.type #[a.eval s, a.eval x]).run P w = .ok (.slice (hd'.b.map fun b => ⟨b, 0, none⟩) hd'.len hd'.cap) w' → w.heap.size ≤ w'.heap.size →
      (w'.os = w.os ∧ w'.tape = w.tape ∧ w'.output = w.output) → (∀ k, k < w.heap.size → (∀ c ∈ ownId (S.get s), S.row c ≠ .none → blk β c ≠ some k) → w'.heap[k]? = w.heap[k]?) →
      (∀ b, hd'.b = some b → b < w'.heap.size ∧ ((∃ c ∈ ownId (S.get s), S.row c ≠ .none ∧ blk β c = some b) ∨ w.heap.size ≤ b)) →
      (∀ β', β' d = some hd' → (∀ j, β j ≠ none → β' j = β j) → Keeps F w w' → RowRep β' F w' d (.vec e D.sz D.d D.enc (D.l ++ l'))) → o.wp P a w (After B w0 F0 S β o.dst K) Q := by
    intro hd' w' hrun g1 g2 g3 g4 g5
    obtain ⟨β', F', q1, q2⟩ := hR.retie fd (cons := ownId (S.get s)) (dst := o.dst) (hd' := hd') g1 g2 g3 g4 g5 (fun _ _ _ _ h => by cases h)
    exact wp_builtin ho hb hs hrun ⟨_, _, hK, β', F', fun j hj => q1 j (fun e => hj (by rw [e]; exact hd)), q2⟩
  have hmx : (D.l ++ l').length ≤ maxLen := by simp only [List.length_append, maxLen]; omega
  -- a new block
  have fresh : ∀ (go gn : Nat → Nat → Value) (cap : Nat), D.l.length + l'.length ≤ cap → cap ≤ maxLen →
      (∀ i j, i < D.l.length → j < D.sz → RepI F w ((D.enc (D.l.getD i D.d)).getD j .any) (go i j)) → (∀ i j, i < l'.length → j < D.sz → RepI F w ((D.enc (l'.getD i D.d)).getD j .any) (gn i j)) →
      (Builtin.append_ #[t, t] o.type #[a.eval s, a.eval x]).run P w = .ok (.slice (some ⟨w.heap.size, 0, none⟩) (D.l.length + l'.length) cap)
        (w.drew.alloc (.cells ((flatVals go D.l.length D.sz).toArray ++ (flatVals gn l'.length D.sz).toArray ++ Builtin.zeroCells zv.cells (cap - (D.l.length + l'.length))) e)) →
      o.wp P a w (After B w0 F0 S β o.dst K) Q := by
    intro go gn cap hc hcm hgo hgn hrun
    refine fin ⟨some w.heap.size, D.l.length + l'.length, cap⟩ _ hrun (by simp) ⟨rfl, rfl, rfl⟩ (fun k hk _ => RowKit.Below.heap_alloc w.drew _ k hk) (fun b hb => ?_) (fun β' hβ' _ hk => ?_)
    · simp only [Option.some.injEq] at hb
      subst hb
      exact ⟨by simp, .inr (Nat.le_refl _)⟩
    · refine ⟨_, hβ', by simp, .inr ⟨w.heap.size, _, rfl, heap_alloc_new w.drew _, by simpa using hc, hcm, ?_, ?_⟩⟩
      · simp only [Array.size_append, List.size_toArray, flatVals_length, size_zeroCells', hzsz, ← hDsz, ← Nat.add_mul]
        congr 1; omega
      · exact append_cells (go := go) (gn := gn) (fun i j h1 h2 => (hgo i j h1 h2).mono (fun _ h => h) hk) (fun i j h1 h2 => (hgn i j h1 h2).mono (fun _ h => h) hk)
          (rest := (Builtin.zeroCells zv.cells (cap - (D.l.length + l'.length))).toList) (by simp)
  -- the base
  have nilbase : a.eval s = .slice none 0 0 → D.l = [] → o.wp P a w (After B w0 F0 S β o.dst K) Q := by
    intro hv0 hl0
    have same : l' = [] → (Builtin.append_ #[t, t] o.type #[a.eval s, a.eval x]).run P w = .ok (.slice none 0 0) w → o.wp P a w (After B w0 F0 S β o.dst K) Q := by
      intro hl' hrun
      refine fin ⟨none, 0, 0⟩ w hrun (Nat.le_refl _) ⟨rfl, rfl, rfl⟩ (fun _ _ _ => rfl) (fun b hb => by cases hb) (fun β' hβ' _ _ => ⟨_, hβ', by simp [hl0, hl'], .inl ⟨by simp [hl0, hl'], rfl, rfl⟩⟩)
    rcases hsrc with ⟨hl', hvx⟩ | ⟨b, ob, cap, g, hvx, hcell, hrep⟩
    · refine same hl' ?_
      rw [hv0, hvx]; exact run_append_none hu hi none 0 0 (Nat.le_refl _)
    · by_cases hm : l'.length = 0
      · refine same (List.eq_nil_of_length_eq_zero hm) ?_
        rw [hv0, hvx]
        simp only [hm]
        exact run_append_zero hu hi _ _
      · have hr := run_append_nil (P := P) w t o.type e i zv hu hi hzv ⟨b, ob, none⟩ l'.length cap (flatVals g l'.length D.sz) (by rw [flatVals_length, hDsz]) (flatVals_cell hcell) (by omega) (by omega)
          (by simp only [hl0, List.length_nil, Nat.zero_add] at hbytes; omega)
        refine fresh (fun _ _ => undef) g (grownCap w l'.length 0 e) ?_ ?_ (fun i j h1 => by simp [hl0] at h1) hrep ?_
        · simp only [hl0, List.length_nil, Nat.zero_add]; exact grownCap_ge w l'.length 0 e
        · exact grownCap_le_maxLen w l'.length 0 e (by simp only [maxLen]; omega)
        · rw [hv0, hvx, hr]
          simp [hl0, flatVals]
  have base : ∀ (id b cap : Nat) (cur : Array Value) (go : Nat → Nat → Value), S.get s = .own id → S.row id ≠ .none → blk β id = some b → a.eval s = .slice (some ⟨b, 0, none⟩) D.l.length cap → w.heap[b]? = some (.cells cur e (0, 0)) →
      D.l.length ≤ cap → cap ≤ maxLen → cur.size = cap * D.sz → (∀ i j, i < D.l.length → j < D.sz → w.cell? ⟨b, 0 + i * D.sz + j, none⟩ = some (go i j)) →
      (∀ i j, i < D.l.length → j < D.sz → RepI F w ((D.enc (D.l.getD i D.d)).getD j .any) (go i j)) → o.wp P a w (After B w0 F0 S β o.dst K) Q := by
    intro id b cap cur go hown hlive hblk hv0 hb0 hnc hcm hcs hcell0 hrep0
    have hbB := hR.bB id b hblk
    have hfold : flatVals go D.l.length D.sz = cur.toList.take (D.l.length * D.sz) := by
      apply List.ext_getElem?
      intro k
      by_cases hk : k < D.l.length * D.sz
      · have hsz : 0 < D.sz := by omega
        have h1 : k / D.sz < D.l.length := (Nat.div_lt_iff_lt_mul hsz).2 hk
        have h2 : k % D.sz < D.sz := Nat.mod_lt _ hsz
        have he : k = k / D.sz * D.sz + k % D.sz := by rw [Nat.mul_comm]; exact (Nat.div_add_mod k D.sz).symm
        have h3 := flatVals_at (g := go) h1 h2
        rw [← he] at h3
        have h4 := hcell0 _ _ h1 h2
        rw [Nat.zero_add, ← he] at h4
        have hlt : k < cur.size := by
          have : D.l.length * D.sz ≤ cap * D.sz := Nat.mul_le_mul_right _ hnc
          omega
        have h5 := cell_at hb0 hlt
        rw [h5] at h4
        rw [h3, List.getElem?_take_of_lt hk, ← h4]
        simp [hlt]
      · rw [List.getElem?_eq_none (by rw [flatVals_length]; omega), List.getElem?_eq_none (by rw [List.length_take]; omega)]
    by_cases hroom : D.l.length + l'.length ≤ cap
    · rcases hsrc with ⟨hl', hvx⟩ | ⟨bx, ob, capx, g, hvx, hcell, hrep⟩
      · refine fin ⟨some b, D.l.length, cap⟩ w ?_ (Nat.le_refl _) ⟨rfl, rfl, rfl⟩ (fun _ _ _ => rfl) (fun b' hb' => ?_) (fun β' hβ' _ _ => ?_)
        · rw [hv0, hvx]; exact run_append_none hu hi _ _ _ hnc
        · simp only [Option.some.injEq] at hb'
          subst hb'
          exact ⟨hbB.2, .inl ⟨id, by rw [hown]; simp [ownId], hlive, hblk⟩⟩
        · have hl0 : l' = [] := hl'
          refine ⟨_, hβ', by simp [hl0], .inr ⟨b, cur, rfl, hb0, by simpa [hl0] using hnc, hcm, hcs, fun p q hp hq => ?_⟩⟩
          have hp' : p < D.l.length := by simpa [hl0] using hp
          have h4 := hcell0 _ _ hp' hq
          rw [Nat.zero_add, cell_at hb0 (by rw [hcs]; exact mul_lt_aux (by omega) hq)] at h4
          simp only [Option.some.injEq] at h4
          rw [hl0, List.append_nil, h4]
          exact hrep0 p q hp' hq
      · have hfit : D.l.length * i.size + (flatVals g l'.length D.sz).length ≤ cur.size := by
          rw [flatVals_length, hcs, ← hDsz, ← Nat.add_mul]; exact Nat.mul_le_mul_right _ hroom
        have hr := run_append_room (P := P) w t o.type e i hu hi b D.l.length cap cur hb0 ⟨bx, ob, none⟩ l'.length capx (flatVals g l'.length D.sz) (by rw [flatVals_length, hDsz]) (flatVals_cell hcell)
          (flatVals_one hcl2 hrep) hroom hfit
        obtain ⟨f1, f2, f3⟩ := setRow_facts b cur (cur.toList.take (D.l.length * i.size) ++ flatVals g l'.length D.sz ++ cur.toList.drop (D.l.length * i.size + (flatVals g l'.length D.sz).length)).toArray e (0, 0) hb0
        refine fin ⟨some b, D.l.length + l'.length, cap⟩ _ (by rw [hv0, hvx]; exact hr) (by rw [f1.2.2.2]; exact Nat.le_refl _) ⟨f1.1, f1.2.1, f1.2.2.1⟩ (fun k hk hn => f2 k fun e => ?_) (fun b' hb' => ?_) (fun β' hβ' _ hk => ?_)
        · subst e; exact hn id (by rw [hown]; simp [ownId]) hlive hblk
        · simp only [Option.some.injEq] at hb'
          subst hb'
          exact ⟨by rw [f1.2.2.2]; exact hbB.2, .inl ⟨id, by rw [hown]; simp [ownId], hlive, hblk⟩⟩
        · refine ⟨_, hβ', by simp, .inr ⟨b, _, rfl, f3, by simpa using hroom, hcm, ?_, ?_⟩⟩
          · simp only [List.size_toArray, List.length_append, List.length_take, List.length_drop, Array.length_toList]
            rw [← hcs]; omega
          · refine append_cells (go := go) (gn := g) (fun i j h1 h2 => (hrep0 i j h1 h2).mono (fun _ h => h) hk) (fun i j h1 h2 => (hrep i j h1 h2).mono (fun _ h => h) hk)
              (rest := cur.toList.drop (D.l.length * i.size + (flatVals g l'.length D.sz).length)) ?_
            rw [hfold, hDsz]
    · rcases hsrc with ⟨hl', hvx⟩ | ⟨bx, ob, capx, g, hvx, hcell, hrep⟩
      · have hl0 : l' = [] := hl'
        simp [hl0] at hroom; omega
      · have hfs : flatVals go D.l.length D.sz = flatVals go D.l.length i.size := by rw [hDsz]
        have hr := run_append_grow (P := P) w t o.type e i zv hu hi hzv ⟨b, 0, none⟩ D.l.length cap (flatVals go D.l.length D.sz) (by rw [flatVals_length, hDsz]) (flatVals_cell hcell0) ⟨bx, ob, none⟩ l'.length capx (flatVals g l'.length D.sz)
          (by rw [flatVals_length, hDsz]) (flatVals_cell hcell) (by omega) (by omega) (growslice_fits (by omega) (by omega))
        refine fresh go g (grownCap w (D.l.length + l'.length) cap e) (grownCap_ge w _ _ e) (grownCap_le_maxLen w _ _ e (by simp only [maxLen]; omega)) hrep0 hrep ?_
        rw [hv0, hvx, hr]
  cases hg : S.get s <;> rw [hg] at hsl hbase <;> simp only [IsSl, baseOk] at hsl hbase
  case nils =>
    rw [hg] at hsv
    exact nilbase hsv.nils_inv hsl
  case own id =>
    rw [hg] at hsv
    obtain ⟨hd0, hβ, hv0⟩ := hsv.own_inv
    have hty : ∀ {ty}, (S.row id).tyIs e = true → (∀ {α} {sz d enc} {l : List α}, S.row id = .vec ty sz d enc l → ty = e) ∧ (∀ {sz css}, S.row id = .lit ty sz css → ty = e) := by
      intro ty hty
      refine ⟨fun h => ?_, fun h => ?_⟩ <;> (rw [h] at hty; exact Nat.eq_of_beq_eq_true hty)
    split at hsl
    · rename_i ty sz dd enc l hr
      obtain rfl := (hty hbase).1 hr
      obtain ⟨q2, q3⟩ := row_vec hR hr hβ
      subst hsl
      rcases q3 with ⟨h1, h2, h3⟩ | ⟨b, vs, h1, h2, h3, h4, h5, h6⟩
      · refine nilbase ?_ h1
        rw [hv0, h2, q2, h3, h1]; rfl
      · exact base id b hd0.cap vs (fun i j => vs.getD (i * _ + j) undef) hg (by rw [hr]; simp) (by simp [blk, hβ, h1]) (by rw [hv0, h1, q2]; rfl) h2 h3 h4 h5
          (fun i j hi hj => by rw [Nat.zero_add]; exact cell_at h2 (by rw [h5]; exact mul_lt_aux (Nat.lt_of_lt_of_le hi h3) hj)) h6
    · rename_i ty sz css hr
      obtain rfl := (hty hbase).2 hr
      obtain ⟨q1, q2⟩ := hsl
      have := hR.rows id
      rw [hr] at this
      obtain ⟨hd', b, vs, p1, p2, p3, p4, p5, p6, p7, p8⟩ := this
      rw [hβ] at p1; cases p1
      have hlen : css.length = D.l.length := by rw [q2]; simp
      refine base id b hd0.cap vs (fun i j => vs.getD (i * D.sz + j) undef) hg (by rw [hr]; simp) (by simp [blk, hβ, p2]) (by rw [hv0, p2, p4, hlen]; rfl) p3 (by omega) (by omega) (by rw [p6, p5, q1])
        (fun i j hi hj => by rw [Nat.zero_add]; exact cell_at p3 (by rw [p6, q1]; exact mul_lt_aux (by omega) hj)) (fun i j hi hj => ?_)
      have hgi : css.getD i [] = D.enc (D.l.getD i D.d) := by rw [q2]; simp [List.getD, hi]
      have hm : D.l.getD i D.d ∈ D.l := by simp [List.getD, hi]
      rw [← hgi]
      have := p8 i j (by omega) (by rw [q1]; exact hj)
      rw [q1] at this
      refine this.shut (closedL_getD ?_ j)
      rw [hgi]; exact (hcl1 _ hm).2.1
    · exact hsl.elim
  all_goals simp at hbase

end
end Go.Ev
