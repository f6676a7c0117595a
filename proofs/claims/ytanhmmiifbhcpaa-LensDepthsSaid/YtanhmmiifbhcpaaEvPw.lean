/- Calls that write: rows that are handed over and handed back. A helper text: it speaks of no program. -/
import Derived.Test.YtanhmmiifbhcpaaEvP
set_option linter.unusedVariables false
set_option linter.unusedSimpArgs false
namespace Go.Ev

/-! ### Renaming -/
mutual
def AV.ren (ids : List Nat) : AV → AV
  | .ptr k sz i off => .ptr (ids.getD k 0) sz i off
  | .own k => .own (ids.getD k 0)
  | .agg l => .agg (renL ids l)
  | .tup l => .tup (renL ids l)
  | .fn f a b => .fn f (renL ids a) (renL ids b)
  | x => x
def renL (ids : List Nat) : List AV → List AV
  | [] => []
  | a :: l => a.ren ids :: renL ids l
end
def renRow (ids : List Nat) : Row → Row
  | .cells ty cs => .cells ty (renL ids cs)
  | .lit ty sz css => .lit ty sz (css.map (renL ids))
  | r => r
mutual
/-- It names no row from 'n' on. -/
def AV.under (n : Nat) : AV → Bool
  | .ptr k _ _ _ => Nat.blt k n
  | .own k => Nat.blt k n
  | .agg l => underL n l
  | .tup l => underL n l
  | .fn _ a b => underL n a && underL n b
  | _ => true
def underL (n : Nat) : List AV → Bool
  | [] => true
  | a :: l => a.under n && underL n l
end
def underRow (n : Nat) : Row → Bool
  | .cells _ cs => underL n cs
  | .lit _ _ css => css.all (underL n)
  | .ctr _ _ _ _ => false
  | _ => true

theorem renL_length (ids : List Nat) : ∀ l, (renL ids l).length = l.length
  | [] => rfl
  | a :: l => by simp [renL, renL_length ids l]
theorem renL_getD (ids : List Nat) : ∀ l i, (renL ids l).getD i .any = (l.getD i .any).ren ids
  | [], i => by simp [renL, AV.ren]
  | a :: l, 0 => rfl
  | a :: l, i + 1 => by
    have := renL_getD ids l i
    simpa [renL] using this
theorem underL_getD {n : Nat} : ∀ {l : List AV}, underL n l = true → ∀ i, (l.getD i .any).under n = true
  | [], _, i => by simp [AV.under]
  | a :: l, h, 0 => by simp [underL] at h; exact h.1
  | a :: l, h, i + 1 => by
    simp [underL] at h
    have := underL_getD h.2 i
    simpa using this
theorem renL_map (ids : List Nat) : ∀ l, renL ids l = l.map (AV.ren ids)
  | [] => rfl
  | a :: l => by simp [renL, renL_map ids l]

section
variable {F : Nat → Prop} {w : World}
theorem ext_getD {xs ys : List AV} (hl : xs.length = ys.length) (h : ∀ i, i < xs.length → xs.getD i .any = ys.getD i .any) : xs = ys := by
  refine List.ext_getElem hl fun i h1 h2 => ?_
  have := h i h1
  simpa [List.getD, h1, h2] using this
theorem RepI.ren_eq {x : AV} {v : Value} (h : RepI F w x v) (ids : List Nat) : x.ren ids = x := by
  induction h with
  | agg hl _ ih => simp only [AV.ren]; rw [ext_getD (renL_length _ _) fun i hi => by rw [renL_getD]; exact ih i (by rwa [renL_length] at hi)]
  | tup hl _ ih => simp only [AV.ren]; rw [ext_getD (renL_length _ _) fun i hi => by rw [renL_getD]; exact ih i (by rwa [renL_length] at hi)]
  | fn hl _ hm _ ih ik =>
    simp only [AV.ren]
    rw [ext_getD (renL_length ids _) fun i hi => by rw [renL_getD]; exact ih i (by rwa [renL_length] at hi), ext_getD (renL_length ids _) fun i hi => by rw [renL_getD]; exact ik i (by rwa [renL_length] at hi)]
  | _ => rfl

/-- Back from the numbers of the one to those of the other. -/
theorem Rep.unren {β β' : Nat → Option Hd} {ids : List Nat} {n : Nat} (hβ : ∀ k, k < n → β' k = β (ids.getD k 0)) {y : AV} {v : Value} (h : Rep β F w y v) : ∀ {x : AV}, x.under n = true → x.ren ids = y → Rep β' F w x v := by
  have imm : ∀ {y v}, RepI F w y v → ∀ {x : AV}, x.ren ids = y → RepI F w x v := by
    intro y v h
    induction h with
    | agg hl _ ih =>
      intro x hx
      cases x <;> simp only [AV.ren, reduceCtorEq, AV.agg.injEq] at hx
      subst hx
      rw [renL_length] at hl ih
      exact .agg hl fun i hi => ih i hi (by rw [renL_getD])
    | tup hl _ ih =>
      intro x hx
      cases x <;> simp only [AV.ren, reduceCtorEq, AV.tup.injEq] at hx
      subst hx
      rw [renL_length] at hl ih
      exact .tup hl fun i hi => ih i hi (by rw [renL_getD])
    | fn hl _ hm _ ih ik =>
      intro x hx
      cases x <;> simp only [AV.ren, reduceCtorEq, AV.fn.injEq] at hx
      obtain ⟨e0, e1, e2⟩ := hx
      subst e0; subst e1; subst e2
      rw [renL_length] at hl hm ih ik
      exact .fn hl (fun i hi => ih i hi (by rw [renL_getD])) hm (fun i hi => ik i hi (by rw [renL_getD]))
    | any v => intro x hx; cases x <;> simp only [AV.ren, reduceCtorEq] at hx; exact .any _
    | tt => intro x hx; cases x <;> simp only [AV.ren, reduceCtorEq] at hx; exact .tt
    | ff => intro x hx; cases x <;> simp only [AV.ren, reduceCtorEq] at hx; exact .ff
    | bool b => intro x hx; cases x <;> simp only [AV.ren, reduceCtorEq] at hx; rw [hx]; exact .bool b
    | int k m => intro x hx; cases x <;> simp only [AV.ren, reduceCtorEq] at hx; rw [hx]; exact .int k m
    | str s => intro x hx; cases x <;> simp only [AV.ren, reduceCtorEq] at hx; rw [hx]; exact .str s
    | nilp => intro x hx; cases x <;> simp only [AV.ren, reduceCtorEq] at hx; exact .nilp
    | nils => intro x hx; cases x <;> simp only [AV.ren, reduceCtorEq] at hx; exact .nils
    | nilf => intro x hx; cases x <;> simp only [AV.ren, reduceCtorEq] at hx; exact .nilf
    | slnil => intro x hx; cases x <;> simp only [AV.ren, reduceCtorEq] at hx; rw [hx]; exact .slnil
    | sl g hc hb h _ => intro x hx; cases x <;> simp only [AV.ren, reduceCtorEq] at hx; rw [hx]; exact .sl g hc hb h
    | slcnil => intro x hx; cases x <;> simp only [AV.ren, reduceCtorEq] at hx; rw [hx]; exact .slcnil
    | slc g hc hb h _ => intro x hx; cases x <;> simp only [AV.ren, reduceCtorEq] at hx; rw [hx]; exact .slc g hc hb h
    | pt g hb h _ => intro x hx; cases x <;> simp only [AV.ren, reduceCtorEq] at hx; rw [hx]; exact .pt g hb h
  induction h with
  | imm h => intro x _ hx; exact .imm (imm h hx)
  | @ptr id sz i off b hd hb hh =>
    intro x hu hx
    cases x <;> simp only [AV.ren, reduceCtorEq, AV.ptr.injEq] at hx
    obtain ⟨rfl, rfl, rfl, rfl⟩ := hx
    simp only [AV.under, Nat.blt_eq] at hu
    exact .ptr ((hβ _ hu).trans hb) hh
  | @own id hd hb =>
    intro x hu hx
    cases x <;> simp only [AV.ren, reduceCtorEq, AV.own.injEq] at hx
    subst hx
    simp only [AV.under, Nat.blt_eq] at hu
    exact .own ((hβ _ hu).trans hb)
  | agg hl _ ih =>
    intro x hu hx
    cases x <;> simp only [AV.ren, reduceCtorEq, AV.agg.injEq] at hx
    subst hx
    rw [renL_length] at hl ih
    simp only [AV.under] at hu
    exact .agg hl fun i hi => ih i hi (underL_getD hu i) (by rw [renL_getD])
  | tup hl _ ih =>
    intro x hu hx
    cases x <;> simp only [AV.ren, reduceCtorEq, AV.tup.injEq] at hx
    subst hx
    rw [renL_length] at hl ih
    simp only [AV.under] at hu
    exact .tup hl fun i hi => ih i hi (underL_getD hu i) (by rw [renL_getD])
  | fn hl _ hm _ ih ik =>
    intro x hu hx
    cases x <;> simp only [AV.ren, reduceCtorEq, AV.fn.injEq] at hx
    obtain ⟨e0, e1, e2⟩ := hx
    subst e0; subst e1; subst e2
    rw [renL_length] at hl hm ih ik
    simp only [AV.under, Bool.and_eq_true] at hu
    exact .fn hl (fun i hi => ih i hi (underL_getD hu.1 i) (by rw [renL_getD])) hm (fun i hi => ik i hi (underL_getD hu.2 i) (by rw [renL_getD]))

/-- There. -/
theorem Rep.ren {β β' : Nat → Option Hd} {ids : List Nat} {n : Nat} (hβ : ∀ k, k < n → ∀ hd, β k = some hd → β' (ids.getD k 0) = some hd) {x : AV} {v : Value} (h : Rep β F w x v) : x.under n = true → Rep β' F w (x.ren ids) v := by
  induction h with
  | imm h => intro _; rw [h.ren_eq]; exact .imm h
  | ptr hb hh => intro hu; simp only [AV.under, Nat.blt_eq] at hu; exact .ptr (hβ _ hu _ hb) hh
  | own hb => intro hu; simp only [AV.under, Nat.blt_eq] at hu; exact .own (hβ _ hu _ hb)
  | agg hl _ ih => intro hu; simp only [AV.under] at hu; exact .agg (by rw [renL_length]; exact hl) fun i hi => by rw [renL_getD]; exact ih i (by rwa [renL_length] at hi) (underL_getD hu i)
  | tup hl _ ih => intro hu; simp only [AV.under] at hu; exact .tup (by rw [renL_length]; exact hl) fun i hi => by rw [renL_getD]; exact ih i (by rwa [renL_length] at hi) (underL_getD hu i)
  | fn hl _ hm _ ih ik =>
    intro hu
    simp only [AV.under, Bool.and_eq_true] at hu
    exact .fn (by rw [renL_length]; exact hl) (fun i hi => by rw [renL_getD]; exact ih i (by rwa [renL_length] at hi) (underL_getD hu.1 i)) (by rw [renL_length]; exact hm) (fun i hi => by rw [renL_getD]; exact ik i (by rwa [renL_length] at hi) (underL_getD hu.2 i))

theorem css_ren_getD (ids : List Nat) (css : List (List AV)) (i : Nat) : (css.map (renL ids)).getD i [] = renL ids (css.getD i []) := by
  simp only [List.getD, List.getElem?_map]
  cases css[i]? <;> rfl
theorem rowRep_unren {β β' : Nat → Option Hd} {ids : List Nat} {n k : Nat} (hβ : ∀ k, k < n → β' k = β (ids.getD k 0)) (hk : k < n) {r : Row} (hu : underRow n r = true) (h : RowRep β F w (ids.getD k 0) (renRow ids r)) : RowRep β' F w k r := by
  cases r with
  | none => trivial
  | ctr l xs k e => simp [underRow] at hu
  | cells ty cs =>
    obtain ⟨hd, b, vs, e1, e2, e3, e4, e5⟩ := h
    rw [renL_length] at e4 e5
    refine ⟨hd, b, vs, (hβ k hk).trans e1, e2, e3, e4, fun i hi => (e5 i hi).unren hβ (underL_getD hu i) (by rw [renL_getD])⟩
  | lit ty sz css =>
    obtain ⟨hd, b, vs, e1, e2, e3, e4, e5, e6, e7, e8⟩ := h
    rw [List.length_map] at e4 e5 e6 e7 e8
    refine ⟨hd, b, vs, (hβ k hk).trans e1, e2, e3, e4, e5, e6, e7, fun i j hi hj => (e8 i j hi hj).unren hβ (underL_getD ?_ j) (by rw [css_ren_getD, renL_getD])⟩
    have hm : css.getD i [] ∈ css := by simp [List.getD, hi]
    exact List.all_eq_true.1 hu _ hm
  | vec ty sz d enc l =>
    obtain ⟨hd, e1, e2⟩ := h
    exact ⟨hd, (hβ k hk).trans e1, e2⟩
theorem rowRep_ren {β β' : Nat → Option Hd} {ids : List Nat} {n k : Nat} (hβ : ∀ k, k < n → ∀ hd, β k = some hd → β' (ids.getD k 0) = some hd) (hk : k < n) {r : Row} (h : RowRep β F w k r) (hu : underRow n r = true) : RowRep β' F w (ids.getD k 0) (renRow ids r) := by
  cases r with
  | none => trivial
  | ctr l xs k e => simp [underRow] at hu
  | cells ty cs =>
    obtain ⟨hd, b, vs, e1, e2, e3, e4, e5⟩ := h
    exact ⟨hd, b, vs, hβ _ hk _ e1, e2, e3, by rw [renL_length]; exact e4, fun i hi => by rw [renL_getD]; exact (e5 i (by rwa [renL_length] at hi)).ren hβ (underL_getD hu i)⟩
  | lit ty sz css =>
    obtain ⟨hd, b, vs, e1, e2, e3, e4, e5, e6, e7, e8⟩ := h
    refine ⟨hd, b, vs, hβ _ hk _ e1, e2, e3, by rw [List.length_map]; exact e4, by rw [List.length_map]; exact e5, by rw [List.length_map]; exact e6, by rw [List.length_map]; exact e7, fun i j hi hj => ?_⟩
    rw [css_ren_getD, renL_getD]
    rw [List.length_map] at hi
    have hm : css.getD i [] ∈ css := by simp [List.getD, hi]
    exact (e8 i j hi hj).ren hβ (underL_getD (List.all_eq_true.1 hu _ hm) j)
  | vec ty sz d enc l =>
    obtain ⟨hd, e1, e2⟩ := h
    exact ⟨hd, hβ _ hk _ e1, e2⟩
end

theorem renRow_none {ids : List Nat} {r : Row} : renRow ids r = .none ↔ r = .none := by cases r <;> simp [renRow]

/-- Rows that are handed over, or handed back. -/
structure Owned (β : Nat → Option Hd) (F : Nat → Prop) (w : World) (rs : List Row) : Prop where
  rows : ∀ k, RowRep β F w k (rs.getD k .none)
  inj : ∀ i j b, rs.getD i .none ≠ .none → rs.getD j .none ≠ .none → blk β i = some b → blk β j = some b → i = j
  bF : ∀ i b, rs.getD i .none ≠ .none → blk β i = some b → ¬ F b
  bB : ∀ i b, blk β i = some b → b < w.heap.size
  dead : ∀ i, rs.getD i .none = .none → β i = none

/-- The blocks of rows that are handed over. -/
def inB (β : Nat → Option Hd) (b : Nat) : Prop := ∃ k, blk β k = some b

/-- A call of 'f' that takes over the rows 'ins' and hands back the rows 'outs': of these, as many as came in bear the numbers that they bore. -/
def PW (P : Program) (f : FuncId) (args : List AV) (ins : List Row) (res : AV) (outs : List Row) : Prop :=
  ∀ (F : Nat → Prop) (w : World) (vs : Array Value) (β : Nat → Option Hd), (∀ b, F b → b < w.heap.size) → vs.size = args.length → (∀ i, i < args.length → Rep β F w (args.getD i .any) (vs.getD i undef)) → Owned β F w ins →
    (callFunc f vs).run P w = .ok (.enter f vs) w ∧ Calls P f vs w fun e w' => ∃ v β' F', e = .returned v ∧ BelowO (fun b => w.heap.size ≤ b ∨ inB β b) w w' ∧ (∀ k hd, β k = some hd → β' k = some hd) ∧ (∀ b, F b → F' b) ∧
      (∀ b, F' b → b < w'.heap.size ∧ (F b ∨ w.heap.size ≤ b ∨ inB β b)) ∧ Rep β' F' w' res v ∧ (∀ k, RowRep β' F' w' k (outs.getD k .none)) ∧
      (∀ i j b, outs.getD i .none ≠ .none → outs.getD j .none ≠ .none → blk β' i = some b → blk β' j = some b → i = j) ∧ (∀ i b, outs.getD i .none ≠ .none → blk β' i = some b → ¬ F' b) ∧
      (∀ i b, blk β' i = some b → b < w'.heap.size ∧ (w.heap.size ≤ b ∨ inB β b))

section
variable {P : Program} {B : Nat → Prop} {w0 : World} {F0 : Env P} {S : St} {β : Nat → Option Hd} {F : Nat → Prop} {a : Act} {w : World}

theorem getD_setRows_zip (h : List Row) : ∀ (ids : List Nat) (rs : List Row), ids.Nodup → ids.length = rs.length → ∀ j,
    (∃ k, k < ids.length ∧ ids.getD k 0 = j ∧ (setRows h (ids.zip rs)).getD j .none = if j < h.length then rs.getD k .none else .none) ∨ (j ∉ ids ∧ (setRows h (ids.zip rs)).getD j .none = h.getD j .none)
  | [], [], _, _, j => .inr ⟨by simp, rfl⟩
  | i :: ids, r :: rs, hn, hl, j => by
    obtain ⟨hn1, hn2⟩ := List.nodup_cons.1 hn
    simp only [List.zip_cons_cons, setRows]
    rcases getD_setRows_zip (h.set i r) ids rs hn2 (by simpa using hl) j with ⟨k, h1, h2, h3⟩ | ⟨h1, h2⟩
    · exact .inl ⟨k + 1, by simpa using h1, by simpa using h2, by rw [h3, List.length_set]; simp⟩
    · by_cases e : j = i
      · subst e
        refine .inl ⟨0, by simp, by simp, ?_⟩
        rw [h2, getD_set_row]
        by_cases hlt : j < h.length
        · simp [hlt]
        · simp [hlt, List.getElem?_eq_none (Nat.le_of_not_lt hlt)]
      · refine .inr ⟨by simp [e, h1], ?_⟩
        rw [h2, getD_set_row, if_neg fun hc => e hc.1.symm]

/-- Behind such a call. -/
theorem Rel.calledW (hR : Rel B w0 F0 S β F a w) {ids news : List Nat} (hn : (ids ++ news).Nodup) (hfree : ∀ d ∈ news, β d = none) {w' : World} {βi β' : Nat → Option Hd} {F' : Nat → Prop} {outs : List Row} {res : AV} {v : Value} {dst : Option Nat}
    (hβi : ∀ k, k < ids.length → βi k = β (ids.getD k 0) ∧ S.row (ids.getD k 0) ≠ .none) (hβo : ∀ k, ids.length ≤ k → βi k = none)
    (hbel : BelowO (fun b => w.heap.size ≤ b ∨ inB βi b) w w') (hβ' : ∀ k hd, βi k = some hd → β' k = some hd) (hF : ∀ b, F b → F' b) (hF' : ∀ b, F' b → b < w'.heap.size ∧ (F b ∨ w.heap.size ≤ b ∨ inB βi b))
    (hres : Rep β' F' w' res v) (hund : res.under (ids ++ news).length = true) (hrows : ∀ k, RowRep β' F' w' k (outs.getD k .none)) (hundr : ∀ k, underRow (ids ++ news).length (outs.getD k .none) = true) (hol : outs.length = (ids ++ news).length)
    (hinj : ∀ i j b, outs.getD i .none ≠ .none → outs.getD j .none ≠ .none → blk β' i = some b → blk β' j = some b → i = j) (hbF : ∀ i b, outs.getD i .none ≠ .none → blk β' i = some b → ¬ F' b)
    (hbB : ∀ i b, blk β' i = some b → b < w'.heap.size ∧ (w.heap.size ≤ b ∨ inB βi b)) :
    ∃ β'' F'', Rel B w0 F0 (S.put dst ⟨res.ren (ids ++ news), (ids ++ news).zip (outs.map (renRow (ids ++ news)))⟩) β'' F'' (a.put dst v) w' := by
  classical
  generalize hall : ids ++ news = all at *
  let β'' : Nat → Option Hd := fun j => if β j = none then (if h : ∃ k, k < all.length ∧ all.getD k 0 = j then β' (Classical.choose h) else none) else β j
  have uniq : ∀ k k', k < all.length → k' < all.length → all.getD k 0 = all.getD k' 0 → k = k' := fun k k' h h' e => by
    have e' : all[k] = all[k'] := by simpa [List.getD, h, h'] using e
    have hp := List.pairwise_iff_getElem.1 hn
    rcases Nat.lt_trichotomy k k' with hlt | rfl | hgt
    · exact absurd e' (hp k k' h h' hlt)
    · rfl
    · exact absurd e'.symm (hp k' k h' h hgt)
  have f1 : ∀ j, β j ≠ none → β'' j = β j := fun j hj => by simp [β'', hj]
  have f0 : ∀ k, k < all.length → β (all.getD k 0) = none → β'' (all.getD k 0) = β' k := fun k hk h0 => by
    have hex : ∃ k', k' < all.length ∧ all.getD k' 0 = all.getD k 0 := ⟨k, hk, rfl⟩
    simp only [β'', h0, if_true, dif_pos hex]
    exact congrArg β' (uniq _ _ (Classical.choose_spec hex).1 hk (Classical.choose_spec hex).2)
  have idk : ∀ k, k < ids.length → all.getD k 0 = ids.getD k 0 := fun k hk => by rw [← hall]; simp [List.getD, List.getElem?_append, hk]
  have live : ∀ k, k < ids.length → ∃ hd, β (ids.getD k 0) = some hd ∧ β' k = some hd := fun k hk => by
    obtain ⟨hd, h⟩ := (hR.rows (ids.getD k 0)).some (hβi k hk).2
    exact ⟨hd, h, hβ' k hd ((hβi k hk).1.trans h)⟩
  have f2 : ∀ k, k < all.length → ∀ hd, β' k = some hd → β'' (all.getD k 0) = some hd := fun k hk hd h => by
    by_cases hki : k < ids.length
    · obtain ⟨hd', h1, h2⟩ := live k hki
      rw [idk k hki, f1 _ (by rw [h1]; simp), h1, ← h2, h]
    · rw [f0 k hk, h]
      refine hfree _ ?_
      rw [← hall]
      have : k - ids.length < news.length := by rw [← hall] at hk; simp at hk; omega
      simp [List.getD, List.getElem?_append, hki, this]
  have inX : ∀ b, inB βi b → ∃ k, k < ids.length ∧ blk β (ids.getD k 0) = some b := fun b ⟨k, h⟩ => by
    by_cases hki : k < ids.length
    · exact ⟨k, hki, by have := (hβi k hki).1; simpa [blk, this] using h⟩
    · have := hβo k (Nat.le_of_not_lt hki); simp [blk, this] at h
  have memall : ∀ k, k < ids.length → ids.getD k 0 ∈ all := fun k hk => by rw [← hall]; simp [List.getD, hk]
  have notX : ∀ j b, j ∉ all → S.row j ≠ .none → blk β j = some b → ¬ inB βi b := fun j b hj hl hb hx => by
    obtain ⟨k, hk, hkb⟩ := inX b hx
    exact hj (hR.inj j _ b hl (hβi k hk).2 hb hkb ▸ memall k hk)
  have hk : Keeps F w w' := fun b o u hFb hc => by
    have hb := hbel.block b (by
      rintro (h | h)
      · have := (hR.FB b hFb).1; omega
      · obtain ⟨k, hk, hkb⟩ := inX b h
        exact hR.bF _ b (hβi k hk).2 hkb hFb)
    rw [World.cell?_of_block (w := w) hb]; exact hc
  have hg : ∀ k, (outs.map (renRow all)).getD k .none = renRow all (outs.getD k .none) := fun k => by
    simp only [List.getD, List.getElem?_map]
    cases outs[k]? <;> rfl
  have hz := getD_setRows_zip S.h all (outs.map (renRow all)) hn (by rw [List.length_map, hol])
  have same : ∀ j b, j ∉ all → S.row j ≠ .none → blk β j = some b → w'.heap[b]? = w.heap[b]? := fun j b hj hl hb => hbel.block b (by
    rintro (h | h)
    · have := (hR.bB j b hb).2; omega
    · exact notX j b hj hl hb h)
  -- the rows that live behind the call
  have lv : ∀ i b, (setRows S.h (all.zip (outs.map (renRow all)))).getD i .none ≠ .none → blk β'' i = some b →
      (∃ k, k < all.length ∧ all.getD k 0 = i ∧ outs.getD k .none ≠ .none ∧ blk β' k = some b) ∨ (i ∉ all ∧ S.row i ≠ .none ∧ blk β i = some b) := fun i b hi hb => by
    rcases hz i with ⟨k, h1, h2, h3⟩ | ⟨h1, h2⟩
    · rw [h3] at hi
      split at hi
      · rw [hg] at hi
        have ho : outs.getD k .none ≠ .none := fun e => hi (by rw [e]; rfl)
        obtain ⟨hd, hb1⟩ := (hrows k).some ho
        refine .inl ⟨k, h1, h2, ho, ?_⟩
        have := f2 k h1 hd hb1
        rw [h2] at this
        simp only [blk, this] at hb
        simpa [blk, hb1] using hb
      · exact absurd rfl hi
    · rw [h2] at hi
      obtain ⟨hd, hb1⟩ := (hR.rows i).some hi
      refine .inr ⟨h1, hi, ?_⟩
      have := f1 i (by rw [hb1]; simp)
      simpa [blk, this] using hb
  refine ⟨β'', F', hR.step f1 hF (fun b hb => ?_) hk ⟨hbel.os, hbel.tape, hbel.output⟩ hbel.size (hres.ren f2 hund) (fun j => ?_) (fun i j b hi hj hbi hbj => ?_) (fun i b hi hbi => ?_) (fun i b hbi => ?_) (fun b hb hn => hbel.block b ?_) (fun i b hi hbi => ?_) (fun b hb => ?_) (fun id l xs k e h => ?_)⟩
  · obtain ⟨h1, h2⟩ := hF' b hb
    refine ⟨h1, ?_⟩
    rcases h2 with h | h | h
    · exact (hR.FB b h).2
    · exact .inr (hR.BW b h)
    · obtain ⟨k, _, hkb⟩ := inX b h
      exact .inr (hR.bB _ b hkb).1
  · rcases hz j with ⟨k, h1, h2, h3⟩ | ⟨h1, h2⟩
    · rw [h3]
      split
      · rw [hg, ← h2]
        exact rowRep_ren f2 h1 (hrows k) (hundr k)
      · trivial
    · rw [h2]
      by_cases hn : S.row j = .none
      · have : S.h.getD j .none = .none := hn
        rw [this]; trivial
      · exact (hR.rows j).grow f1 hF hk fun b hb => same j b h1 hn hb
  · rcases lv i b hi hbi with ⟨k, l1, l2, l3, l4⟩ | ⟨l1, l2, l3⟩ <;> rcases lv j b hj hbj with ⟨k', m1, m2, m3, m4⟩ | ⟨m1, m2, m3⟩
    · rw [← l2, ← m2, hinj k k' b l3 m3 l4 m4]
    · rcases (hbB k b l4).2 with h | h
      · have := (hR.bB j b m3).2; omega
      · exact absurd h (notX j b m1 m2 m3)
    · rcases (hbB k' b m4).2 with h | h
      · have := (hR.bB i b l3).2; omega
      · exact absurd h (notX i b l1 l2 l3)
    · exact hR.inj i j b l2 m2 l3 m3
  · intro hFb
    rcases lv i b hi hbi with ⟨k, l1, l2, l3, l4⟩ | ⟨l1, l2, l3⟩
    · exact hbF k b l3 l4 hFb
    · rcases (hF' b hFb).2 with h | h | h
      · exact hR.bF i b l2 l3 h
      · have := (hR.bB i b l3).2; omega
      · exact notX i b l1 l2 l3 h
  · by_cases h0 : β i = none
    · simp only [blk, β'', h0, if_true] at hbi
      split at hbi
      · rename_i hex
        obtain ⟨h1, h2⟩ := hbB _ b hbi
        refine ⟨?_, h1⟩
        rcases h2 with h | h
        · exact hR.BW b h
        · obtain ⟨k, _, hkb⟩ := inX b h
          exact (hR.bB _ b hkb).1
      · simp at hbi
    · have := f1 i h0
      simp only [blk, this] at hbi
      have := hR.bB i b hbi
      exact ⟨this.1, Nat.lt_of_lt_of_le this.2 hbel.size⟩
  · rintro (h | h)
    · omega
    · obtain ⟨k, hk, hkb⟩ := inX b h
      exact hn _ (hβi k hk).2 hkb
  · rcases lv i b hi hbi with ⟨k, l1, l2, l3, l4⟩ | ⟨l1, l2, l3⟩
    · rcases (hbB k b l4).2 with h | h
      · exact .inr h
      · obtain ⟨k', hk', hkb⟩ := inX b h
        exact .inl ⟨_, (hβi k' hk').2, hkb⟩
    · exact .inl ⟨i, l2, l3⟩
  · rcases (hF' b hb).2 with h | h | h
    · exact .inl h
    · exact .inr (.inr h)
    · obtain ⟨k', hk', hkb⟩ := inX b h
      exact .inr (.inl ⟨_, (hβi k' hk').2, hkb⟩)
  · rcases hz id with ⟨k', h1, h2, h3⟩ | ⟨h1, h2⟩
    · rw [h3] at h
      split at h
      · rw [hg] at h
        have hu := hundr k'
        cases ho : outs.getD k' .none <;> rw [ho] at h hu <;> simp [renRow, underRow] at h hu
      · cases h
    · rw [h2] at h; exact h
end
end Go.Ev
