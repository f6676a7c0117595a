/- A helper text: contracts of functions of the program, and plain lemmas. -/
import Derived.Test.YtnoahgjfeablgaaGreatMzBnB
set_option maxRecDepth 100000
set_option maxHeartbeats 0
set_option linter.unusedVariables false
set_option linter.unusedSimpArgs false
namespace Go.Proofs.Tryz.My
open Go Go.Ev
theorem find_at {l : List EntT} {k : Nat} {q : Int} (hk : k < l.length) (h : (l.getD k ent0).seq = q) (hno : ∀ m, m < k → ¬(l.getD m ent0).seq = q) : l.any (isSeq q) = true ∧ l.findIdx (isSeq q) = k := by
  have hi : isSeq q (l.getD k ent0) = true := decide_eq_true h
  have ha := any_of hk hi
  have z := ixE_hit hk hi fun m hm => decide_eq_false (hno m hm)
  unfold ixE at z
  rw [if_pos ha] at z
  exact ⟨ha, by omega⟩
theorem seq_lt {l : List EntT} (h : List.Pairwise (fun s t : EntT => s.seq < t.seq) l) {i j : Nat} (hij : i < j) (hj : j < l.length) : (l.getD i ent0).seq < (l.getD j ent0).seq := by
  rw [getD_at (show i < l.length by omega), getD_at hj]
  exact List.pairwise_iff_getElem.1 h i j (by omega) hj hij
def HeldAt (b d : BooksT) (a : ActT) (k : Nat) : Prop :=
  (∃ q : Bool, d.log.any (isSeq (b.log.getD k ent0).seq) = true ∧ d.log.getD (d.log.findIdx (isSeq (b.log.getD k ent0).seq)) ent0 = setD (b.log.getD k ent0) q ∧ (q = (b.log.getD k ent0).disputed ∨ (¬knd a < 6 ∧ a.number = (b.log.getD k ent0).seq))) ∨
  (d.log.any (isSeq (b.log.getD k ent0).seq) = false ∧ (b.log.getD k ent0).disputed = false ∧ (∀ m, m < k → (b.log.getD m ent0).disputed = true) ∧ knd a = 5 ∧ (b.log.length : Int) = b.keep ∧ d.log.length = b.log.length)
theorem held_same {b d : BooksT} {a : ActT} (g : GoodB b) (h : d.log = b.log) {k : Nat} (hk : k < b.log.length) : HeldAt b d a k := by
  obtain ⟨f1, f2⟩ := find_at hk rfl fun m hm e => by have := seq_lt g.sq hm hk; omega
  refine .inl ⟨(b.log.getD k ent0).disputed, by rw [h]; exact f1, ?_, .inl rfl⟩
  rw [h, f2]
  rfl
theorem drop_get {l : List EntT} {i k : Nat} (hi : i < l.length) (hk : k < l.length) (hne : ¬k = i) : ∃ j, j < (dropE l i).length ∧ (dropE l i).getD j ent0 = l.getD k ent0 ∧ (j = if k < i then k else k - 1) := by
  refine ⟨if k < i then k else k - 1, ?_, ?_, rfl⟩
  · rw [dropE_len hi]; split <;> omega
  · have hl : (l.take i).length = i := by rw [List.length_take]; omega
    unfold dropE
    simp only [List.getD]
    by_cases h : k < i
    · rw [if_pos h, List.getElem?_append_left (by omega), List.getElem?_take_of_lt h]
    · rw [if_neg h, List.getElem?_append_right (by omega), hl, List.getElem?_drop]
      congr 2; omega
theorem any_app {p : EntT → Bool} {l : List EntT} {x : EntT} : (l ++ [x]).any p = (l.any p || p x) := by simp
theorem held_rcd {b : BooksT} {a : ActT} (g : GoodB b) (h : rcdE b a.number a.profile = 0) (k5 : knd a = 5) {k : Nat} (hk : k < b.log.length) : HeldAt b (rcdB b a.number a.profile) a k := by
  obtain ⟨hc, hp, ha, hm, hf, hn⟩ := rcdE_zero h
  have hs := (g.lg (b.log.getD k ent0) (by rw [getD_at hk]; exact List.getElem_mem hk)).1
  have sub := rcdL_sub b
  have inc : List.Pairwise (fun s t : EntT => s.seq < t.seq) (rcdL b) := g.sq.sublist sub
  -- an entry of the old log that stays
  have stay : ∀ j, j < (rcdL b).length → (rcdL b).getD j ent0 = b.log.getD k ent0 → HeldAt b (rcdB b a.number a.profile) a k := fun j hj e => by
    have e2 : (rcdL b ++ [rcdX b a.number a.profile]).getD j ent0 = b.log.getD k ent0 := by
      rw [← e]
      simp only [List.getD]
      rw [List.getElem?_append_left hj]
    obtain ⟨f1, f2⟩ := find_at (l := rcdL b ++ [rcdX b a.number a.profile]) (k := j) (q := (b.log.getD k ent0).seq) (by rw [List.length_append]; omega) (by rw [e2]) fun m hm z => by
      have e3 : (rcdL b ++ [rcdX b a.number a.profile]).getD m ent0 = (rcdL b).getD m ent0 := by
        simp only [List.getD]
        rw [List.getElem?_append_left (by omega)]
      rw [e3] at z
      have := seq_lt inc hm hj
      rw [e] at this
      omega
    refine .inl ⟨(b.log.getD k ent0).disputed, f1, ?_, .inl rfl⟩
    show (rcdL b ++ [rcdX b a.number a.profile]).getD ((rcdL b ++ [rcdX b a.number a.profile]).findIdx _) ent0 = _
    rw [f2, e2]
    rfl
  by_cases hfl : (b.log.length : Int) = b.keep
  · have hany := hf hfl
    have hi := fi_lt hany
    have eL : rcdL b = dropE b.log (b.log.findIdx isFree) := by unfold rcdL; rw [if_pos hfl]
    by_cases hki : k = b.log.findIdx isFree
    · have hfree : isFree (b.log.getD k ent0) = true := by rw [hki]; exact fi_is hany
      refine .inr ⟨?_, by simpa [isFree] using hfree, fun m hm0 => ?_, k5, hfl, ?_⟩
      · show (rcdL b ++ [rcdX b a.number a.profile]).any _ = false
        rw [any_app, Bool.or_eq_false_iff]
        refine ⟨?_, decide_eq_false (by show ¬b.next = _; omega)⟩
        rw [List.any_eq_false]
        intro x hx z
        have z : x.seq = (b.log.getD k ent0).seq := of_decide_eq_true z
        rw [eL] at hx
        unfold dropE at hx
        rw [List.mem_append] at hx
        rcases hx with hx | hx
        · obtain ⟨j, hj, e⟩ := List.getElem_of_mem hx
          rw [List.getElem_take] at e
          rw [List.length_take] at hj
          have := seq_lt g.sq (show j < k by omega) hk
          rw [getD_at (show j < b.log.length by omega), e] at this
          omega
        · obtain ⟨j, hj, e⟩ := List.getElem_of_mem hx
          rw [List.getElem_drop] at e
          rw [List.length_drop] at hj
          have := seq_lt g.sq (show k < b.log.findIdx isFree + 1 + j by omega) (by omega)
          rw [getD_at (show b.log.findIdx isFree + 1 + j < b.log.length by omega), e] at this
          omega
      · have := fi_no (p := isFree) (l := b.log) (m := m) (by omega)
        simpa [isFree] using this
      · show (rcdL b ++ [rcdX b a.number a.profile]).length = _
        rw [eL, List.length_append, dropE_len hi]
        simp only [List.length_cons, List.length_nil]
        omega
    · obtain ⟨j, hj, e, _⟩ := drop_get hi hk hki
      exact stay j (by rw [eL]; exact hj) (by rw [eL]; exact e)
  · have eL : rcdL b = b.log := by unfold rcdL; rw [if_neg hfl]
    exact stay k (by rw [eL]; exact hk) (by rw [eL])
theorem held_mrk {b : BooksT} {a : ActT} (g : GoodB b) (k6 : ¬knd a < 6) (is : Bool) (ha : b.log.any (isSeq a.number) = true) {k : Nat} (hk : k < b.log.length) : HeldAt b (mrkB b a.number is) a k := by
  obtain ⟨f1, f2⟩ := find_at hk rfl fun m hm e => by have := seq_lt g.sq hm hk; omega
  have ix := mrk_ix b a.number (b.log.getD k ent0).seq is
  unfold mrkI at ix
  rw [f2, f1] at ix
  have hi : mrkI b a.number < b.log.length := fi_lt ha
  by_cases e : mrkI b a.number = k
  · have hseq : isSeq a.number (b.log.getD k ent0) = true := by rw [← e]; exact fi_is ha
    refine .inl ⟨is, ix.2, ?_, .inr ⟨k6, (of_decide_eq_true hseq).symm⟩⟩
    rw [ix.1]
    show (b.log.set (mrkI b a.number) (setD (b.log.getD (mrkI b a.number) ent0) is)).getD k ent0 = _
    rw [e, getD_set_at hk]
  · refine .inl ⟨(b.log.getD k ent0).disputed, ix.2, ?_, .inl rfl⟩
    rw [ix.1]
    show (b.log.set (mrkI b a.number) (setD (b.log.getD (mrkI b a.number) ent0) is)).getD k ent0 = _
    rw [List.getD, List.getElem?_set_ne e]
    rfl
theorem do_held {b : BooksT} {a : ActT} (g : GoodB b) (hkd : ¬(knd a = 0 ∨ knd a = 1 ∨ knd a = 2 ∨ knd a = 3 ∨ knd a = 4 ∨ knd a = 5 ∨ knd a = 6) → ¬knd a < 6) (h : doE b a = 0) {k : Nat} (hk : k < b.log.length) : HeldAt b (doB b a) a k := by
  unfold doE at h
  unfold doB
  by_cases k0 : knd a = 0
  · rw [if_pos k0] at h ⊢
    exact held_same g rfl hk
  rw [if_neg k0] at h ⊢
  by_cases k1 : knd a = 1
  · rw [if_pos k1] at h ⊢
    exact held_same g rfl hk
  rw [if_neg k1] at h ⊢
  by_cases k2 : knd a = 2
  · rw [if_pos k2] at h ⊢
    exact held_same g rfl hk
  rw [if_neg k2] at h ⊢
  by_cases k3 : knd a = 3
  · rw [if_pos k3] at h ⊢
    exact held_same g (calm_len b).2.2.2.2 hk
  rw [if_neg k3] at h ⊢
  by_cases k4 : knd a = 4
  · rw [if_pos k4] at h ⊢
    exact held_same g rfl hk
  rw [if_neg k4] at h ⊢
  by_cases k5 : knd a = 5
  · rw [if_pos k5] at h ⊢
    exact held_rcd g h k5 hk
  rw [if_neg k5] at h ⊢
  by_cases k6 : knd a = 6
  · rw [if_pos k6] at h ⊢
    exact held_mrk g (by omega) true (mrkE_zero h).2.1 hk
  rw [if_neg k6] at h ⊢
  have k7 : ¬knd a < 6 := hkd (by omega)
  exact held_mrk g k7 false (mrkE_zero h).2.1 hk
end Go.Proofs.Tryz.My
