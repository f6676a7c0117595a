/- Each operation does what its abstract twin says (eighth part): append. A helper text: it speaks of no program. -/
import Derived.Test.YtanhmmiifbhcpaaEvJ
set_option linter.unusedVariables false
set_option linter.unusedSimpArgs false
namespace Go.Ev
section
variable {P : Program} {B : Nat → Prop} {w0 : World} {F0 : Env P} {S : St} {β : Nat → Option Hd} {F : Nat → Prop} {a : Act} {w : World}

theorem getD_setRows_none (h : List Row) (cons : List Nat) (j : Nat) : (setRows h (cons.map fun i => (i, .none))).getD j .none = if j ∈ cons then .none else h.getD j .none := by
  induction cons generalizing h with
  | nil => simp [setRows]
  | cons i l ih =>
    simp only [List.map_cons, setRows, ih, getD_set_row, List.mem_cons]
    by_cases h1 : j ∈ l
    · simp [h1]
    · by_cases h2 : j = i
      · subst h2
        by_cases h3 : j < h.length
        · simp [h1, h3]
        · simp [h1, h3, List.getElem?_eq_none (Nat.le_of_not_lt h3)]
      · simp [h1, h2, Ne.symm h2]
theorem setRows_append (h : List Row) (l m : List (Nat × Row)) : setRows h (l ++ m) = setRows (setRows h l) m := by
  induction l generalizing h with
  | nil => rfl
  | cons x l ih => obtain ⟨i, r⟩ := x; exact ih _
theorem length_setRows (h : List Row) (l : List (Nat × Row)) : (setRows h l).length = h.length := by
  induction l generalizing h with
  | nil => rfl
  | cons x l ih => obtain ⟨i, r⟩ := x; simp [setRows, ih]

/-- Some rows are given up, and one is new: in the block of one that is given up, in a new block, or in none. -/
theorem Rel.retie (hR : Rel B w0 F0 S β F a w) {d : Nat} (hd : β d = none) {cons : List Nat} {dst : Option Nat} {hd' : Hd} {r : Row} {w' : World}
    (hsz : w.heap.size ≤ w'.heap.size) (hos : w'.os = w.os ∧ w'.tape = w.tape ∧ w'.output = w.output)
    (hother : ∀ k, k < w.heap.size → (∀ c ∈ cons, S.row c ≠ .none → blk β c ≠ some k) → w'.heap[k]? = w.heap[k]?)
    (hb : ∀ b, hd'.b = some b → b < w'.heap.size ∧ ((∃ c ∈ cons, S.row c ≠ .none ∧ blk β c = some b) ∨ w.heap.size ≤ b))
    (hr : ∀ β', β' d = some hd' → (∀ j, β j ≠ none → β' j = β j) → Keeps F w w' → RowRep β' F w' d r) (hnc : ∀ l xs k e, r ≠ .ctr l xs k e) :
    ∃ β' F', (∀ j, j ≠ d → β' j = β j) ∧ Rel B w0 F0 (S.put dst ⟨.own d, cons.map (fun i => (i, .none)) ++ [(d, r)]⟩) β' F' (a.put dst (.slice (hd'.b.map fun b => ⟨b, 0, none⟩) hd'.len hd'.cap)) w' := by
  let β' : Nat → Option Hd := fun j => if j = d then some hd' else β j
  have h1 : β' d = some hd' := by simp [β']
  have h2 : ∀ j, j ≠ d → β' j = β j := fun j hj => by simp [β', hj]
  have h3 : ∀ j, β j ≠ none → β' j = β j := fun j hj => h2 j (fun e => hj (e ▸ hd))
  have b1 : blk β' d = hd'.b := by simp [blk, h1]
  have b2 : ∀ j, j ≠ d → blk β' j = blk β j := fun j hj => by simp [blk, h2 j hj]
  have hk : Keeps F w w' := fun k o u hF hc => by
    rw [World.cell?_of_block (w := w) (hother k (hR.FB k hF).1 fun c _ hc hb => hR.bF c k hc hb hF)]; exact hc
  have hrow : ∀ j, (setRows S.h (cons.map (fun i => (i, .none)) ++ [(d, r)])).getD j .none = if d = j ∧ d < S.h.length then r else if j ∈ cons then .none else S.row j := fun j => by
    rw [setRows_append]
    simp only [setRows, getD_set_row, getD_setRows_none, length_setRows]
    rfl
  have live : ∀ j, j ≠ d → (setRows S.h (cons.map (fun i => (i, .none)) ++ [(d, r)])).getD j .none ≠ .none → j ∉ cons ∧ S.row j ≠ .none := fun j hj hl => by
    rw [hrow, if_neg (fun h => hj h.1.symm)] at hl
    split at hl
    · exact absurd rfl hl
    · rename_i hc; exact ⟨hc, hl⟩
  refine ⟨β', F, h2, hR.step h3 (fun _ h => h) (fun b hb => ⟨Nat.lt_of_lt_of_le (hR.FB b hb).1 hsz, (hR.FB b hb).2⟩) hk hos hsz (.own h1) ?_ ?_ ?_ ?_ (fun k hk hn => hother k hk fun c _ hc => hn c hc) ?_ (fun b hb => .inl hb) ?_⟩
  · intro j
    rw [hrow]
    split
    · rename_i h; obtain ⟨rfl, _⟩ := h; exact hr β' h1 h3 hk
    · split
      · trivial
      · rename_i hnd hnc
        by_cases hn : S.row j = .none
        · rw [hn]; trivial
        · refine (hR.rows j).grow h3 (fun _ h => h) hk fun b hbj => hother b (hR.bB j b hbj).2 fun c hc hcl hcb => ?_
          exact hnc (hR.inj j c b hn hcl hbj hcb ▸ hc)
  · intro i j b hi hj hbi hbj
    by_cases e : i = d
    · by_cases e' : j = d
      · exact e.trans e'.symm
      · exfalso
        subst e
        rw [b1] at hbi; rw [b2 j e'] at hbj
        obtain ⟨hjc, hjl⟩ := live j e' hj
        rcases (hb b hbi).2 with ⟨c, hc, hcl, hcb⟩ | h
        · exact hjc (hR.inj c j b hcl hjl hcb hbj ▸ hc)
        · have := (hR.bB j b hbj).2; omega
    · by_cases e' : j = d
      · exfalso
        subst e'
        rw [b1] at hbj; rw [b2 i e] at hbi
        obtain ⟨hic, hil⟩ := live i e hi
        rcases (hb b hbj).2 with ⟨c, hc, hcl, hcb⟩ | h
        · exact hic (hR.inj c i b hcl hil hcb hbi ▸ hc)
        · have := (hR.bB i b hbi).2; omega
      · rw [b2 i e] at hbi; rw [b2 j e'] at hbj
        exact hR.inj i j b (live i e hi).2 (live j e' hj).2 hbi hbj
  · intro i b hi hbi hF
    by_cases e : i = d
    · subst e
      rw [b1] at hbi
      rcases (hb b hbi).2 with ⟨c, hc, hcl, hcb⟩ | h
      · exact hR.bF c b hcl hcb hF
      · have := (hR.FB b hF).1; omega
    · rw [b2 i e] at hbi
      exact hR.bF i b (live i e hi).2 hbi hF
  · intro i b hbi
    by_cases e : i = d
    · subst e
      rw [b1] at hbi
      refine ⟨?_, (hb b hbi).1⟩
      rcases (hb b hbi).2 with ⟨c, hc, hcl, hcb⟩ | h
      · exact (hR.bB c b hcb).1
      · exact hR.BW b h
    · rw [b2 i e] at hbi
      have := hR.bB i b hbi
      exact ⟨this.1, Nat.lt_of_lt_of_le this.2 hsz⟩
  · intro i b hi hbi
    by_cases e : i = d
    · subst e
      rw [b1] at hbi
      rcases (hb b hbi).2 with ⟨c, _, hcl, hcb⟩ | h
      · exact .inl ⟨c, hcl, hcb⟩
      · exact .inr h
    · rw [b2 i e] at hbi
      exact .inl ⟨i, (live i e hi).2, hbi⟩
  · intro id l xs k e h
    rw [hrow] at h
    split at h
    · exact absurd h (hnc l xs k e)
    · split at h
      · cases h
      · exact h

/-- What a slice that is read holds. -/
theorem src_rep (hR : Rel B w0 F0 S β F a w) {x : AV} {v : Value} (hx : Rep β F w x v) {D : SlD} (hD : IsSl S.row x D) (hcl : ∀ y ∈ D.l, (D.enc y).length = D.sz ∧ closedL (D.enc y) = true ∧ allOne (D.enc y) = true) :
    (D.l = [] ∧ v = .slice none 0 0) ∨ ∃ (b o cap : Nat) (g : Nat → Nat → Value), v = .slice (some ⟨b, o, none⟩) D.l.length cap ∧
      (∀ i j, i < D.l.length → j < D.sz → w.cell? ⟨b, o + i * D.sz + j, none⟩ = some (g i j)) ∧ ∀ i j, i < D.l.length → j < D.sz → RepI F w ((D.enc (D.l.getD i D.d)).getD j .any) (g i j) := by
  cases x <;> simp only [IsSl] at hD
  case nils => exact .inl ⟨hD, hx.nils_inv⟩
  case sl α sz d enc l =>
    subst hD
    rcases hx.sl_inv with h | ⟨b, o, cap, g, h1, h2, h3, h4⟩
    · exact .inl h
    · exact .inr ⟨b, o, cap, g, h1, fun i j hi hj => (h3 i j hi hj).2, h4⟩
  case slc sz css =>
    obtain ⟨h1, h2⟩ := hD
    subst h1
    have hg : ∀ i, i < D.l.length → css.getD i [] = D.enc (D.l.getD i D.d) := fun i hi => by rw [h2]; simp [List.getD, hi]
    have hlen : css.length = D.l.length := by rw [h2]; simp
    rcases hx.slc_inv with ⟨h, hv⟩ | ⟨b, o, cap, g, h1, _, h3, h4⟩
    · refine .inl ⟨?_, hv⟩
      rw [h] at hlen; exact List.eq_nil_of_length_eq_zero hlen.symm
    · rw [hlen] at h1 h3 h4
      exact .inr ⟨b, o, cap, g, h1, fun i j hi hj => (h3 i j hi hj).2, fun i j hi hj => by rw [← hg i hi]; exact h4 i j hi hj⟩
  case own id =>
    obtain ⟨hd, hβ, hv⟩ := hx.own_inv
    split at hD
    · rename_i hr
      subst hD
      obtain ⟨hl, h⟩ := row_vec hR hr hβ
      rcases h with ⟨h1, h2, h3⟩ | ⟨b, vs, h1, h2, h3, h4, h5, h6⟩
      · refine .inl ⟨h1, ?_⟩
        rw [hv, h2, hl, h3, h1]; rfl
      · refine .inr ⟨b, 0, hd.cap, fun i j => vs.getD (i * _ + j) undef, by rw [hv, h1, hl]; rfl, fun i j hi hj => ?_, h6⟩
        rw [Nat.zero_add]
        exact cell_at h2 (by rw [h5]; exact mul_lt_aux (Nat.lt_of_lt_of_le hi h3) hj)
    · rename_i hr
      obtain ⟨e1, e2⟩ := hD
      subst e1
      have := hR.rows id
      rw [hr] at this
      obtain ⟨hd', b, vs, q1, q2, q3, q4, q5, q6, q7, q8⟩ := this
      rw [hβ] at q1; cases q1
      rename_i ty css
      have hlen : css.length = D.l.length := by rw [e2]; simp
      refine .inr ⟨b, 0, hd.cap, fun i j => vs.getD (i * D.sz + j) undef, by rw [hv, q2, q4, hlen]; rfl, fun i j hi hj => ?_, fun i j hi hj => ?_⟩
      · rw [Nat.zero_add]
        exact cell_at q3 (by rw [q6]; exact mul_lt_aux (by omega) hj)
      · have hg : css.getD i [] = D.enc (D.l.getD i D.d) := by rw [e2]; simp [List.getD, hi]
        have hm : D.l.getD i D.d ∈ D.l := by simp [List.getD, hi]
        rw [← hg]
        refine (q8 i j (by omega) hj).shut (closedL_getD ?_ j)
        rw [hg]; exact (hcl _ hm).2.1
    · exact hD.elim

/-- The cells of a slice that is read, one behind the other. -/
def flatVals (g : Nat → Nat → Value) (n sz : Nat) : List Value := (List.range (n * sz)).map fun k => g (k / sz) (k % sz)
theorem flatVals_length (g : Nat → Nat → Value) (n sz : Nat) : (flatVals g n sz).length = n * sz := by simp [flatVals]
theorem flatVals_at {g : Nat → Nat → Value} {n sz i j : Nat} (hi : i < n) (hj : j < sz) : (flatVals g n sz)[i * sz + j]? = some (g i j) := by
  have h := mul_lt_aux hi hj
  have h1 : (i * sz + j) / sz = i := by
    rw [Nat.mul_comm, Nat.mul_add_div (by omega), Nat.div_eq_of_lt hj, Nat.add_zero]
  have h2 : (i * sz + j) % sz = j := by rw [Nat.mul_comm, Nat.mul_add_mod]; exact Nat.mod_eq_of_lt hj
  simp [flatVals, h, h1, h2]
theorem flatVals_cell {g : Nat → Nat → Value} {n sz b o : Nat} (h : ∀ i j, i < n → j < sz → w.cell? ⟨b, o + i * sz + j, none⟩ = some (g i j)) : ∀ j u, (flatVals g n sz)[j]? = some u → w.cell? ((⟨b, o, none⟩ : Addr).add j) = some u := by
  intro j u hu
  have hlt : j < n * sz := by
    rcases Nat.lt_or_ge j (n * sz) with h | h
    · exact h
    · rw [List.getElem?_eq_none (by rw [flatVals_length]; exact h)] at hu; cases hu
  have hsz : 0 < sz := Nat.pos_of_ne_zero fun e => by simp [e] at hlt
  have hj2 : j % sz < sz := Nat.mod_lt _ hsz
  have hj1 : j / sz < n := (Nat.div_lt_iff_lt_mul hsz).2 hlt
  have he : j = j / sz * sz + j % sz := by rw [Nat.mul_comm]; exact (Nat.div_add_mod j sz).symm
  have h3 := flatVals_at (g := g) hj1 hj2
  rw [← he] at h3
  rw [h3] at hu
  cases hu
  rw [addr_add]
  have := h _ _ hj1 hj2
  rw [show o + j / sz * sz + j % sz = o + j by omega] at this
  exact this

end
end Go.Ev
