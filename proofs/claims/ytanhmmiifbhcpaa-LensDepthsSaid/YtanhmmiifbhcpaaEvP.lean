/- The executor, and why it is right (second part). A helper text: it speaks of no program. -/
import Derived.Test.YtanhmmiifbhcpaaEvO
import Derived.Deep.LoopGhost
set_option linter.unusedVariables false
set_option linter.unusedSimpArgs false
namespace Go.Ev
section
variable {P : Program} {B : Nat → Prop} {w0 : World} {F0 : Env P} {S : St} {β : Nat → Option Hd} {F : Nat → Prop} {a : Act} {w : World} {ops : Array Oper}

/-! ### A slice variable gets the number of its slot -/
structure VT : Type 1 where
  α : Type
  ty : TypeId
  sz : Nat
  d : α
  enc : α → List AV
def canon1 (t : Nat) (V : VT) (S : St) : St :=
  match S.t.getD t .any with
  | .own id => match Nat.beq id t with
    | true => S
    | false => match mayKill S id && mayKill S t with
      | false => S
      | true => ⟨(((S.kill t).kill id).t).set t (.own t), (((S.kill t).kill id).h).set t (killRow id ((S.kill t).row id)), S.n⟩
  | .nils => match mayKill S t with
    | false => S
    | true => ⟨(S.kill t).t.set t (.own t), (S.kill t).h.set t (.vec V.ty V.sz V.d V.enc []), S.n⟩
  | _ => S
def canonV : List (Nat × VT) → St → St
  | [], S => S
  | (t, V) :: l, S => canonV l (canon1 t V S)

theorem RowRep.kill {β β' : Nat → Option Hd} {id t : Nat} (hβ : ∀ j, j ≠ id → β j ≠ none → β' j = β j) (hid : β' t = β id) {r : Row} (h : RowRep β F w id r) : RowRep β' F w t (killRow id r) := by
  have up : ∀ {x v}, Rep β F w x v → Rep β' F w (killAV id x) v := fun {x v} h => by
    have h1 : Rep (fun j => if j = id then none else β j) F w (killAV id x) v := killAV_rep (fun j hj => by simp [hj]) h
    exact h1.grow (fun j hj => by
      by_cases e : j = id
      · simp [e] at hj
      · simp only [e, if_false] at hj ⊢; exact hβ j e hj) (fun _ h => h) (Keeps.refl _ _)
  cases r with
  | none => trivial
  | ctr l xs k e => obtain ⟨hd, e1, e2⟩ := h; exact ⟨hd, hid.trans e1, e2⟩
  | cells ty cs =>
    obtain ⟨hd, b, vs, e1, e2, e3, e4, e5⟩ := h
    exact ⟨hd, b, vs, hid.trans e1, e2, e3, by simpa using e4, fun i hi => by rw [getD_map_av _ (killAV_any id)]; exact up (e5 i (by simpa using hi))⟩
  | lit ty sz css =>
    obtain ⟨hd, b, vs, e1, e2, e3, e4, e5, e6, e7, e8⟩ := h
    have hg : ∀ i, (css.map fun cs => cs.map (killAV id)).getD i [] = (css.getD i []).map (killAV id) := by
      intro i; simp only [List.getD, List.getElem?_map]; cases css[i]? <;> simp
    exact ⟨hd, b, vs, hid.trans e1, e2, e3, by simpa using e4, by simpa using e5, by simpa using e6, by simpa using e7, fun i k hi hk => by
      rw [hg, getD_map_av _ (killAV_any id)]; exact up (e8 i k (by simpa using hi) hk)⟩
  | vec ty sz e enc l =>
    obtain ⟨hd, e1, e2⟩ := h
    exact ⟨hd, hid.trans e1, e2⟩

theorem getD_set_av (l : List AV) (t : Nat) (x : AV) (i : Nat) : (l.set t x).getD i .any = if t = i ∧ i < l.length then x else l.getD i .any := by
  have := getD_setDst l (some t) x i
  simpa [setDst] using this

theorem Rel.rename (hR : Rel B w0 F0 S β F a w) {t id : Nat} (ht : β t = none) (hid : id ≠ t) (hs : S.t.getD t .any = .own id) (hd0 : F0.β id = none) :
    ∃ β', Rel B w0 F0 ⟨((S.kill id).t).set t (.own t), ((S.kill id).h).set t (killRow id (S.row id)), S.n⟩ β' F a w := by
  obtain ⟨hd, hβ, hv⟩ : ∃ hd, β id = some hd ∧ a.tmps.getD t undef = .slice (hd.b.map fun b => ⟨b, 0, none⟩) hd.len hd.cap := by
    have := hR.get (.tmp t)
    have e : S.get (.tmp t) = .own id := hs
    rw [e] at this
    have he : a.eval (.tmp t) = a.tmps.getD t undef := rfl
    rw [he] at this
    exact this.own_inv
  let β' : Nat → Option Hd := fun j => if j = t then some hd else if j = id then none else β j
  have b1 : β' t = some hd := by simp [β']
  have b2 : ∀ j, j ≠ t → j ≠ id → β' j = β j := fun j h1 h2 => by simp [β', h1, h2]
  have b3 : β' id = none := by simp [β', hid]
  have hkeep : ∀ j, j ≠ id → β j ≠ none → β' j = β j := fun j h1 h2 => b2 j (fun e => h2 (e ▸ ht)) h1
  have up : ∀ {x v}, Rep β F w x v → Rep β' F w (killAV id x) v := fun {x v} h => by
    have h1 : Rep (fun j => if j = id then none else β j) F w (killAV id x) v := killAV_rep (fun j hj => by simp [hj]) h
    exact h1.grow (fun j hj => by
      by_cases e : j = id
      · simp [e] at hj
      · simp only [e, if_false] at hj ⊢; exact hkeep j e hj) (fun _ h => h) (Keeps.refl _ _)
  let S' : St := ⟨((S.kill id).t).set t (.own t), ((S.kill id).h).set t (killRow id (S.row id)), S.n⟩
  have hrow : ∀ j, S'.row j = if t = j ∧ j < (S.kill id).h.length then killRow id (S.row id) else if j = id then .none else killRow id (S.row j) := fun j => by
    show (((S.kill id).h).set t (killRow id (S.row id))).getD j .none = _
    rw [getD_set_row]
    by_cases h : t = j
    · subst h
      by_cases h2 : t < (S.kill id).h.length
      · simp [h2]
      · simp only [h2, and_false, if_false]
        have := row_kill S id t
        exact this
    · simp only [h, false_and, if_false]
      exact row_kill S id j
  have bl : ∀ j b, blk β' j = some b → (j = t ∧ hd.b = some b) ∨ (j ≠ t ∧ j ≠ id ∧ blk β j = some b) := fun j b h => by
    by_cases e : j = t
    · subst e; exact .inl ⟨rfl, by simpa [blk, b1] using h⟩
    · by_cases e2 : j = id
      · subst e2; simp [blk, b3] at h
      · exact .inr ⟨e, e2, by simpa [blk, b2 j e e2] using h⟩
  have lv : ∀ j, S'.row j ≠ .none → (j = t ∧ S.row id ≠ .none) ∨ (j ≠ id ∧ S.row j ≠ .none) := fun j h => by
    rw [hrow] at h
    split at h
    · rename_i hc; exact .inl ⟨hc.1.symm, killRow_none h⟩
    · split at h
      · exact absurd rfl h
      · rename_i hn; exact .inr ⟨hn, killRow_none h⟩
  have tnone : ∀ {r}, RowRep β F w t r → r = .none := fun {r} h => by
    cases r with
    | none => rfl
    | ctr l xs k e' => obtain ⟨_, e, _⟩ := h; rw [ht] at e; cases e
    | cells ty cs => obtain ⟨_, _, _, e, _⟩ := h; rw [ht] at e; cases e
    | lit ty sz css => obtain ⟨_, _, _, e, _⟩ := h; rw [ht] at e; cases e
    | vec ty sz d enc l => obtain ⟨_, e, _⟩ := h; rw [ht] at e; cases e
  have ht0 : S.row t = .none := tnone (hR.rows t)
  have lv' : ∀ j b, S'.row j ≠ .none → blk β' j = some b → (j = t ∧ S.row id ≠ .none ∧ blk β id = some b) ∨ (j ≠ t ∧ j ≠ id ∧ S.row j ≠ .none ∧ blk β j = some b) := fun j b h1 h2 => by
    rcases bl j b h2 with ⟨e, h3⟩ | ⟨e1, e2, h3⟩
    · refine .inl ⟨e, ?_, by simp [blk, hβ, h3]⟩
      rcases lv j h1 with ⟨_, h⟩ | ⟨_, h⟩
      · exact h
      · rw [e] at h; exact absurd ht0 h
    · rcases lv j h1 with ⟨e, _⟩ | ⟨_, h⟩
      · exact absurd e e1
      · exact .inr ⟨e1, e2, h, h3⟩
  refine ⟨β', { len := by simp [St.kill, hR.len], slots := fun i hi => ?_, marks := hR.marks, rows := fun j => ?_, inj := fun i j b hi hj hbi hbj => ?_, bF := fun i b hi hbi => ?_, bB := fun i b hbi => ?_, FB := hR.FB, below := hR.below, BW := hR.BW, top := fun j hd h => (hkeep j (fun e => by rw [e, hd0] at h; cases h) (by rw [hR.top j hd h]; simp)).trans (hR.top j hd h), topn := fun j hj => hR.topn j (by simpa [St.kill, mayKill] using hj), nn := hR.nn, inc := hR.inc, keep := hR.keep, sol := hR.sol, yl := hR.ylOf (fun j => if j = t then id else j) (fun j l xs k e h => ?_) (fun i j hi hj e => ?_) (fun i b hi hb => by rcases lv' i b hi hb with ⟨_, l1, k1⟩ | ⟨_, _, l1, k1⟩; exact ⟨id, l1, k1⟩; exact ⟨i, l1, k1⟩) (fun b hb => .inl hb) }⟩
  · simp only [List.length_set] at hi
    rw [getD_set_av]
    split
    · rename_i hc
      rw [← hc.1, hv]
      exact .own b1
    · simp only [St.kill, List.length_map] at hi ⊢
      rw [getD_map_av _ (killAV_any id)]
      exact up (hR.slots i hi)
  · show RowRep β' F w j (S'.row j)
    rw [hrow]
    split
    · rename_i hc
      rw [← hc.1]
      exact RowRep.kill hkeep (b1.trans hβ.symm) (hR.rows id)
    · split
      · trivial
      · rename_i h1 h2
        by_cases e : j = t
        · subst e; rw [ht0]; trivial
        · have hj := hR.rows j
          have key : RowRep (fun i => if i = id then none else β i) F w j (killRow id (S.row j)) := by
            cases hr : S.row j with
            | none => trivial
            | ctr l xs k e =>
              rw [hr] at hj
              obtain ⟨hd', e1, e2⟩ := hj
              exact ⟨hd', by simp [h2, e1], e2⟩
            | cells ty cs =>
              rw [hr] at hj
              obtain ⟨hd', b, vs, e1, e2, e3, e4, e5⟩ := hj
              exact ⟨hd', b, vs, by simp [h2, e1], e2, e3, by simpa using e4, fun i hi => by rw [getD_map_av _ (killAV_any id)]; exact killAV_rep (fun k hk => by simp [hk]) (e5 i (by simpa using hi))⟩
            | lit ty sz css =>
              rw [hr] at hj
              obtain ⟨hd', b, vs, e1, e2, e3, e4, e5, e6, e7, e8⟩ := hj
              have hg : ∀ i, (css.map fun cs => cs.map (killAV id)).getD i [] = (css.getD i []).map (killAV id) := by
                intro i; simp only [List.getD, List.getElem?_map]; cases css[i]? <;> simp
              exact ⟨hd', b, vs, by simp [h2, e1], e2, e3, by simpa using e4, by simpa using e5, by simpa using e6, by simpa using e7, fun i k hi hk => by
                rw [hg, getD_map_av _ (killAV_any id)]; exact killAV_rep (fun k hk => by simp [hk]) (e8 i k (by simpa using hi) hk)⟩
            | vec ty sz e enc l =>
              rw [hr] at hj
              obtain ⟨hd', e1, e2⟩ := hj
              exact ⟨hd', by simp [h2, e1], e2⟩
          exact key.grow (fun i hi => by
            by_cases ei : i = id
            · simp [ei] at hi
            · simp only [ei, if_false] at hi ⊢; exact hkeep i ei hi) (fun _ h => h) (Keeps.refl _ _) (fun _ _ => rfl)
  · rcases lv' i b hi hbi with ⟨e1, l1, k1⟩ | ⟨e1, e1', l1, k1⟩ <;> rcases lv' j b hj hbj with ⟨e2, l2, k2⟩ | ⟨e2, e2', l2, k2⟩
    · rw [e1, e2]
    · exact absurd (hR.inj id j b l1 l2 k1 k2).symm e2'
    · exact absurd (hR.inj i id b l1 l2 k1 k2) e1'
    · exact hR.inj i j b l1 l2 k1 k2
  · rcases lv' i b hi hbi with ⟨_, l1, k1⟩ | ⟨_, _, l1, k1⟩
    · exact hR.bF id b l1 k1
    · exact hR.bF i b l1 k1
  · rcases bl i b hbi with ⟨_, h⟩ | ⟨_, _, h⟩
    · exact hR.bB id b (by simp [blk, hβ, h])
    · exact hR.bB i b h
  · replace h : S'.row j = .ctr l xs k e := h
    rw [hrow] at h
    have inv : ∀ {r}, killRow id r = .ctr l xs k e → r = .ctr l xs k e := fun {r} h => by cases r <;> simp [killRow] at h; simp [h]
    split at h
    · rename_i hc; rw [if_pos hc.1.symm]; exact inv h
    · split at h
      · cases h
      · rename_i h1 h2
        by_cases e : j = t
        · subst e; rw [ht0] at h; simp [killRow] at h
        · rw [if_neg e]; exact inv h
  · have hi' : S'.row i ≠ .none := hi
    have hj' : S'.row j ≠ .none := hj
    have key : ∀ j, S'.row j ≠ .none → j = t ∨ j ≠ id := fun j h => by
      rcases lv j h with ⟨e, _⟩ | ⟨e, _⟩
      · exact .inl e
      · exact .inr e
    by_cases e1 : i = t
    · by_cases e2 : j = t
      · rw [e1, e2]
      · rw [if_pos e1, if_neg e2] at e
        rcases key j hj' with h | h
        · exact absurd h e2
        · exact absurd e.symm h
    · by_cases e2 : j = t
      · rw [if_neg e1, if_pos e2] at e
        rcases key i hi' with h | h
        · exact absurd h e1
        · exact absurd e h
      · rw [if_neg e1, if_neg e2] at e; exact e

theorem Rel.nilVec (hR : Rel B w0 F0 S β F a w) {t : Nat} (ht : β t = none) (hs : S.t.getD t .any = .nils) (V : VT) : ∃ β', Rel B w0 F0 ⟨S.t.set t (.own t), S.h.set t (.vec V.ty V.sz V.d V.enc []), S.n⟩ β' F a w := by
  have hv : a.tmps.getD t undef = .slice none 0 0 := by
    have := hR.get (.tmp t)
    have e : S.get (.tmp t) = .nils := hs
    rw [e] at this
    exact this.nils_inv
  let β' : Nat → Option Hd := fun j => if j = t then some ⟨none, 0, 0⟩ else β j
  have b1 : β' t = some ⟨none, 0, 0⟩ := by simp [β']
  have b2 : ∀ j, j ≠ t → β' j = β j := fun j h1 => by simp [β', h1]
  have b3 : ∀ j, β j ≠ none → β' j = β j := fun j hj => b2 j fun e => hj (e ▸ ht)
  have bl : ∀ j b, blk β' j = some b → j ≠ t ∧ blk β j = some b := fun j b h => by
    by_cases e : j = t
    · subst e; simp [blk, b1] at h
    · exact ⟨e, by simpa [blk, b2 j e] using h⟩
  have lv : ∀ j, j ≠ t → (S.h.set t (.vec V.ty V.sz V.d V.enc [])).getD j .none = S.row j := fun j hj => by
    rw [getD_set_row, if_neg fun h => hj h.1.symm]; rfl
  refine ⟨β', { len := by simp [hR.len], slots := fun i hi => ?_, marks := hR.marks, rows := fun j => ?_, inj := fun i j b hi hj hbi hbj => ?_, bF := fun i b hi hbi => ?_, bB := fun i b hbi => hR.bB i b (bl i b hbi).2, FB := hR.FB, below := hR.below, BW := hR.BW, top := fun j hd h => (b3 j (by rw [hR.top j hd h]; simp)).trans (hR.top j hd h), topn := fun j hj => hR.topn j (by simpa [mayKill] using hj), nn := hR.nn, inc := hR.inc, keep := hR.keep, sol := hR.sol, yl := hR.ylOf (fun i => i) (fun j l xs k e h => ?_) (fun _ _ _ _ h => h) (fun i b hi hb => by obtain ⟨e1, k1⟩ := bl i b hb; exact ⟨i, by rw [← lv i e1]; exact hi, k1⟩) (fun b hb => .inl hb) }⟩
  · simp only [List.length_set] at hi
    rw [getD_set_av]
    split
    · rename_i hc
      rw [← hc.1, hv]
      have := Rep.own (F := F) (w := w) b1
      simpa using this
    · exact (hR.slots i hi).grow b3 (fun _ h => h) (Keeps.refl _ _)
  · show RowRep β' F w j ((S.h.set t (.vec V.ty V.sz V.d V.enc [])).getD j .none)
    rw [getD_set_row]
    split
    · rename_i hc
      rw [← hc.1]
      exact ⟨_, b1, rfl, .inl ⟨rfl, rfl, rfl⟩⟩
    · exact (hR.rows j).grow b3 (fun _ h => h) (Keeps.refl _ _) (fun _ _ => rfl)
  · obtain ⟨e1, k1⟩ := bl i b hbi
    obtain ⟨e2, k2⟩ := bl j b hbj
    have hi' : S.row i ≠ .none := by rw [← lv i e1]; exact hi
    have hj' : S.row j ≠ .none := by rw [← lv j e2]; exact hj
    exact hR.inj i j b hi' hj' k1 k2
  · obtain ⟨e1, k1⟩ := bl i b hbi
    have hi' : S.row i ≠ .none := by rw [← lv i e1]; exact hi
    exact hR.bF i b hi' k1
  · have h : (S.h.set t (.vec V.ty V.sz V.d V.enc [])).getD j .none = .ctr l xs k e := h
    rw [getD_set_row] at h
    split at h
    · cases h
    · exact h

theorem Rel.canon1 (hR : Rel B w0 F0 S β F a w) (t : Nat) (V : VT) : ∃ β', Rel B w0 F0 (Ev.canon1 t V S) β' F a w := by
  unfold Ev.canon1
  split
  · rename_i id hs
    split
    · exact ⟨β, hR⟩
    · rename_i hb
      have hne : id ≠ t := fun e => by rw [e] at hb; simp at hb
      split
      · exact ⟨β, hR⟩
      · rename_i hlt
        simp only [Bool.and_eq_true] at hlt
        obtain ⟨β1, h1, h2, hR1⟩ := hR.kill t (hR.topn t hlt.2)
        have hs1 : (S.kill t).t.getD t .any = .own id := by
          simp only [St.kill]
          rw [getD_map_av _ (killAV_any t), hs]
          show (match Nat.beq id t with | true => AV.any | false => AV.own id) = AV.own id
          rw [hb]
        exact hR1.rename h1 hne hs1 (hR.topn id hlt.1)
  · rename_i hs
    split
    · exact ⟨β, hR⟩
    · rename_i hlt
      obtain ⟨β1, h1, h2, hR1⟩ := hR.kill t (hR.topn t hlt)
      have hs1 : (S.kill t).t.getD t .any = .nils := by
        simp only [St.kill]
        rw [getD_map_av _ (killAV_any t), hs]
        rfl
      exact hR1.nilVec h1 hs1 V
  · exact ⟨β, hR⟩
theorem Rel.canonV : ∀ (l : List (Nat × VT)) {S : St} {β : Nat → Option Hd}, Rel B w0 F0 S β F a w → ∃ β', Rel B w0 F0 (Ev.canonV l S) β' F a w
  | [], S, β, hR => ⟨β, hR⟩
  | (t, V) :: l, S, β, hR => by
    obtain ⟨β1, hR1⟩ := hR.canon1 t V
    exact Rel.canonV l hR1

end
end Go.Ev
