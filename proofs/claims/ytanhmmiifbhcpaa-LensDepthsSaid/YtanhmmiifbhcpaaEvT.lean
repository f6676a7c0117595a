/- A function's contract from its body. A helper text: it speaks of no program. -/
import Derived.Test.YtanhmmiifbhcpaaEvS
import Derived.Conc.MuLone
import Derived.RangeFuncLeaves
set_option linter.unusedVariables false
set_option linter.unusedSimpArgs false
namespace Go.Ev
section
variable {P : Program} {B : Nat → Prop} {w0 : World} {F0 : Env P} {S : St} {β : Nat → Option Hd} {F : Nat → Prop} {a : Act} {w : World}

def resM (tmps : Array Value) : ResultVar → Sem Value
  | .tmp t => pure (tmps.getD t undef)
  | .cell a t => do loadVar t (← asAddr (tmps.getD a undef))

theorem retAV_snd (hR : Rel B w0 F0 S β F a w) : ∀ (l : List ResultVar) {r : List AV}, retAV P S l = some r →
    ∃ vs, (l.mapM (resM a.tmps)).run P w = .ok vs w ∧ vs.length = r.length ∧ ∀ i, i < r.length → RepI (fun b => F b ∨ liveB S β b) w (r.getD i .any) (vs.getD i undef)
  | [], r, h => by
    simp only [retAV, Option.some.injEq] at h
    subst h
    exact ⟨[], by simp, rfl, fun i hi => absurd hi (Nat.not_lt_zero i)⟩
  | .tmp t :: l, r, h => by
    simp only [retAV] at h
    split at h
    · rename_i r' hr
      simp only [Option.some.injEq] at h
      subst h
      obtain ⟨vs, h1, h2, h3⟩ := retAV_snd hR l hr
      refine ⟨a.tmps.getD t undef :: vs, by simp [List.mapM_cons, h1, resM], by simp [h2], fun i hi => ?_⟩
      cases i with
      | zero => exact closeN_rep hR 4 (hR.get (.tmp t))
      | succ i => exact h3 i (by simpa using hi)
    · cases h
  | .cell x t :: l, r, h => by
    simp only [retAV] at h
    split at h
    · cases h
    · rename_i r' hr
      obtain ⟨vs, h1, h2, h3⟩ := retAV_snd hR l hr
      split at h
      · rename_i i d hi hd
        split at h
        · rename_i id sz j off hx
          split at h
          · rename_i ty cs hrow
            split at h
            · rename_i v hv
              simp only [Option.some.injEq] at h
              subst h
              have hx' := hR.get (.tmp x)
              rw [show S.get (.tmp x) = .ptr id sz j off from hx] at hx'
              have hrow' := hR.rows id
              rw [hrow] at hrow'
              obtain ⟨hd', b, ws, e1, e2, e3, e4, e5⟩ := hrow'
              obtain ⟨hd'', b', e6, e7, e8⟩ : ∃ hd b, β id = some hd ∧ hd.b = some b ∧ a.tmps.getD x undef = .pointer (some ⟨b, j * sz + off, none⟩) := hx'.ptr_inv
              rw [e1] at e6; cases e6
              rw [e2] at e7; cases e7
              have hcell : ∀ k, k < cs.length → w.cell? ⟨b, 0 + k, none⟩ = some (ws.getD k undef) := fun k hk => by rw [Nat.zero_add]; exact cell_at e3 (by omega)
              obtain ⟨u, hu1, hu2⟩ := ld_sound hi hd (b := b) (o := 0) (off := j * sz + off) hcell e5 hv
              refine ⟨u :: vs, ?_, by simp [h2], fun i hi => ?_⟩
              · have : (resM a.tmps (.cell x t)).run P w = .ok u w := by
                  rw [Nat.zero_add] at hu1
                  simp only [resM, e8]
                  simpa [Instr.loadAt, Instr.sureAddr, asAddr] using hu1
                simp [List.mapM_cons, h1, this]
              · cases i with
                | zero => exact closeN_rep hR 4 hu2
                | succ i => exact h3 i (by simpa using hi)
            · cases h
          · cases h
        · cases h
      · cases h

theorem AV.fin1_rep {x : AV} {v : Value} (h : RepI F w x v) : RepI F w x.fin1 v := by
  cases h <;> first | exact .bool _ | (simp only [AV.fin1]; constructor <;> assumption)

theorem AV.fin_rep {x : AV} {v : Value} (h : RepI F w x v) : RepI F w x.fin v := by
  cases h with
  | tt => exact .bool true
  | ff => exact .bool false
  | tup hl hh =>
    refine .tup (by simpa using hl) fun i hi => ?_
    simp only [List.length_map] at hi
    rw [getD_map_av _ rfl]
    exact AV.fin1_rep (hh i hi)
  | _ => (try simp only [AV.fin]); constructor <;> assumption

theorem results_snd (hR : Rel B w0 F0 S β F a w) {fn : Func} {r : List AV} (h : retAV P S fn.results.toList = some r) :
    ∃ v, (results fn a.tmps).run P w = .ok v w ∧ RepI (fun b => F b ∨ liveB S β b) w (retOf r).fin v := by
  obtain ⟨vs, h1, h2, h3⟩ := retAV_snd hR _ h
  have hm : (fn.results.mapM (resM a.tmps)).run P w = .ok vs.toArray w := by
    rw [Array.mapM_eq_mapM_toList]
    simp [h1]
  refine ⟨if h : vs.toArray.size = 1 then vs.toArray[0] else .tuple vs.toArray, ?_, AV.fin_rep ?_⟩
  · have e : results fn a.tmps = (do let vs ← fn.results.mapM (resM a.tmps); pure (if h : vs.size = 1 then vs[0] else .tuple vs)) := by
      unfold results
      congr 1
    rw [e, Sem.run_bind, hm]
    rfl
  · cases r with
    | nil =>
      have : vs = [] := by simpa using h2
      subst this
      exact .tup rfl fun i hi => absurd hi (Nat.not_lt_zero i)
    | cons x l =>
      cases l with
      | nil =>
        obtain ⟨v, rfl⟩ : ∃ v, vs = [v] := by
          match vs, h2 with
          | [v], _ => exact ⟨v, rfl⟩
        exact h3 0 (by simp)
      | cons y l =>
        have : vs.toArray.size ≠ 1 := by simp [h2]
        rw [dif_neg this]
        exact .tup (by simp [h2]) fun i hi => by
          have := h3 i hi
          simpa [Array.getD_eq_getD_getElem?, List.getD_eq_getElem?_getD] using this

theorem retRaw_snd (hR : Rel B w0 F0 S β F a w) : ∀ (l : List ResultVar) {r : List AV}, retRaw P S l = some r →
    ∃ vs, (l.mapM (resM a.tmps)).run P w = .ok vs w ∧ vs.length = r.length ∧ ∀ i, i < r.length → Rep β F w (r.getD i .any) (vs.getD i undef)
  | [], r, h => by
    simp only [retRaw, Option.some.injEq] at h
    subst h
    exact ⟨[], by simp, rfl, fun i hi => absurd hi (Nat.not_lt_zero i)⟩
  | .tmp t :: l, r, h => by
    simp only [retRaw] at h
    split at h
    · rename_i r' hr
      simp only [Option.some.injEq] at h
      subst h
      obtain ⟨vs, h1, h2, h3⟩ := retRaw_snd hR l hr
      refine ⟨a.tmps.getD t undef :: vs, by simp [List.mapM_cons, h1, resM], by simp [h2], fun i hi => ?_⟩
      cases i with
      | zero => exact hR.get (.tmp t)
      | succ i => exact h3 i (by simpa using hi)
    · cases h
  | .cell x t :: l, r, h => by
    simp only [retRaw] at h
    split at h
    · cases h
    · rename_i r' hr
      obtain ⟨vs, h1, h2, h3⟩ := retRaw_snd hR l hr
      split at h
      · rename_i i d hi hd
        split at h
        · rename_i id sz j off hx
          split at h
          · rename_i ty cs hrow
            split at h
            · rename_i v hv
              simp only [Option.some.injEq] at h
              subst h
              have hx' := hR.get (.tmp x)
              rw [show S.get (.tmp x) = .ptr id sz j off from hx] at hx'
              have hrow' := hR.rows id
              rw [hrow] at hrow'
              obtain ⟨hd', b, ws, e1, e2, e3, e4, e5⟩ := hrow'
              obtain ⟨hd'', b', e6, e7, e8⟩ : ∃ hd b, β id = some hd ∧ hd.b = some b ∧ a.tmps.getD x undef = .pointer (some ⟨b, j * sz + off, none⟩) := hx'.ptr_inv
              rw [e1] at e6; cases e6
              rw [e2] at e7; cases e7
              have hcell : ∀ k, k < cs.length → w.cell? ⟨b, 0 + k, none⟩ = some (ws.getD k undef) := fun k hk => by rw [Nat.zero_add]; exact cell_at e3 (by omega)
              obtain ⟨u, hu1, hu2⟩ := ld_sound hi hd (b := b) (o := 0) (off := j * sz + off) hcell e5 hv
              refine ⟨u :: vs, ?_, by simp [h2], fun i hi => ?_⟩
              · have : (resM a.tmps (.cell x t)).run P w = .ok u w := by
                  rw [Nat.zero_add] at hu1
                  simp only [resM, e8]
                  simpa [Instr.loadAt, Instr.sureAddr, asAddr] using hu1
                simp [List.mapM_cons, h1, this]
              · cases i with
                | zero => exact hu2
                | succ i => exact h3 i (by simpa using hi)
            · cases h
          · cases h
        · cases h
      · cases h

theorem AV.fin1_repW {x : AV} {v : Value} (h : Rep β F w x v) : Rep β F w x.fin1 v := by
  cases x <;> first | exact h | (rw [h.tt_inv]; exact .imm (.bool true)) | (rw [h.ff_inv]; exact .imm (.bool false))
theorem AV.fin_repW {x : AV} {v : Value} (h : Rep β F w x v) : Rep β F w x.fin v := by
  cases x with
  | tt => rw [h.tt_inv]; exact .imm (.bool true)
  | ff => rw [h.ff_inv]; exact .imm (.bool false)
  | tup l =>
    obtain ⟨vs, rfl, hl, hr⟩ := h.tup_inv
    refine .tup (by simpa using hl) fun i hi => ?_
    simp only [List.length_map] at hi
    rw [getD_map_av _ rfl]
    exact AV.fin1_repW (hr i hi)
  | _ => exact h

theorem resultsW_snd (hR : Rel B w0 F0 S β F a w) {fn : Func} {r : List AV} (h : retRaw P S fn.results.toList = some r) :
    ∃ v, (results fn a.tmps).run P w = .ok v w ∧ Rep β F w (retOf r).fin v := by
  obtain ⟨vs, h1, h2, h3⟩ := retRaw_snd hR _ h
  have hm : (fn.results.mapM (resM a.tmps)).run P w = .ok vs.toArray w := by
    rw [Array.mapM_eq_mapM_toList]
    simp [h1]
  refine ⟨if h : vs.toArray.size = 1 then vs.toArray[0] else .tuple vs.toArray, ?_, AV.fin_repW ?_⟩
  · have e : results fn a.tmps = (do let vs ← fn.results.mapM (resM a.tmps); pure (if h : vs.size = 1 then vs[0] else .tuple vs)) := by
      unfold results
      congr 1
    rw [e, Sem.run_bind, hm]
    rfl
  · cases r with
    | nil =>
      have : vs = [] := by simpa using h2
      subst this
      exact .tup rfl fun i hi => absurd hi (Nat.not_lt_zero i)
    | cons x l =>
      cases l with
      | nil =>
        obtain ⟨v, rfl⟩ : ∃ v, vs = [v] := by
          match vs, h2 with
          | [v], _ => exact ⟨v, rfl⟩
        exact h3 0 (by simp)
      | cons y l =>
        have : vs.toArray.size ≠ 1 := by simp [h2]
        rw [dif_neg this]
        exact .tup (by simp [h2]) fun i hi => by
          have := h3 i hi
          simpa [Array.getD_eq_getD_getElem?, List.getD_eq_getElem?_getD] using this

/-! ### On the way out: the marks of loops over iterators -/
theorem Rel.takeD {t : Array Value} {d : Deferred} {ds : List Deferred} (hR : Rel B w0 F0 S β F { tmps := t, defers := d :: ds } w) :
    ∃ D, d.target = .collected D ∧ (Instr.takeDeferred D).run P w = .ok [] (w.putObj D (.deferred none)) ∧ Rel B w0 F0 S β F { tmps := t, defers := ds } (w.putObj D (.deferred none)) := by
  obtain ⟨Ds, ⟨h1, h0⟩, h2, h3⟩ := hR.marks
  cases Ds with
  | nil => simp at h1
  | cons D Ds =>
    simp only [List.map_cons, List.cons.injEq] at h1
    obtain ⟨rfl, rfl⟩ := h1
    have hpl : F0.n = .plain := by
      by_cases h : F0.n = .plain
      · exact h
      · exact absurd (h0 h) (by simp)
    obtain ⟨hn1, hn2⟩ := List.nodup_cons.1 h2
    obtain ⟨hD, hB, hge⟩ := h3 D (by simp)
    refine ⟨D, rfl, run_takeDeferred hD, ?_⟩
    have hR1 : Rel B w0 F0 S β F { tmps := t, defers := Ds.map markOf } w :=
      { hR with
        len := hR.len
        slots := hR.slots
        marks := ⟨Ds, ⟨rfl, fun h => absurd hpl h⟩, hn2, fun D' hD' => h3 D' (by simp [hD'])⟩
        yl := fun id l xs k e h => absurd h (hR.noctr hpl id l xs k e) }
    refine hR1.otherK ⟨rfl, rfl, rfl⟩ (by simp) (O := fun b => b = D) (fun b _ hb => World.putObj_heap_other hb) (fun b e => by rw [e]; exact hB) (fun b e => by rw [e]; exact hge) (fun i b hi hb e => ?_) (keeps_putObj hD rfl) (fun D' hD' e => ?_) (hR.noctr hpl)
    · subst e
      obtain ⟨vs, ty, hc⟩ := rowRep_isCells (hR.rows i) hi hb
      rw [hD] at hc; cases hc
    · obtain ⟨D'', h4, h5⟩ := List.mem_map.1 hD'
      have : D'' = D' := by simpa [markOf] using h5
      subst this
      subst e
      exact hn1 h4

theorem leaves_of {fn : Func} {t : Array Value} {R : Ending → World → Prop} : ∀ (ds : List Deferred) {w : World}, Rel B w0 F0 S β F { tmps := t, defers := ds } w → (∀ w', Rel B w0 F0 S β F { tmps := t, defers := [] } w' → ∃ v, (results fn t).run P w' = .ok v w' ∧ R (.returned v) w') →
    LeavesInM Fence.wide 0 P fn t R ds .returning w
  | [], w, hR, h => h w hR
  | d :: ds, w, hR, h => by
    obtain ⟨D, h1, h2, h3⟩ := hR.takeD
    exact ⟨by simp, .inl ⟨D, _, h1, h2, leaves_of ds h3 h⟩⟩

theorem pc_of_body (hm : P.follows .mixedOrders = true) {f : FuncId} {fn : Func} {args : List AV} {res : AV} (hf : P.funcs[f]? = some fn) (hname : (fn.name == "runtime.NumGoroutine") = false) (h : body P fn args res) : PC P f args res := by
  intro F w vs hF hsz hargs
  unfold body at h
  split at h
  · exact h.elim
  · rename_i c hb
    refine .inl ⟨Go.MuLone.run_callFunc_enter hf hname hb vs w, callsIn_wide.1 (callsIn_of_wp_marks (n := 0) hf hb trivial ?_)⟩
    rw [fSt_eq] at h
    have hR : Rel (fun b => w.heap.size ≤ b) w (Env.plain P F (fun _ => none) none .plain (fun _ => rfl)) ⟨args ++ List.replicate (fn.ntmps - args.length) .any, List.replicate fn.ntmps .none, .plain⟩ (fun _ => none) F { tmps := vs ++ Array.replicate (fn.ntmps - vs.size) undef, defers := [] } w := {
      len := by simp [hsz]
      slots := fun i hi => by
        by_cases hlt : i < args.length
        · have := hargs i hlt
          have e1 : (args ++ List.replicate (fn.ntmps - args.length) AV.any).getD i .any = args.getD i .any := by simp [List.getD, List.getElem?_append, hlt]
          have e2 : (vs ++ Array.replicate (fn.ntmps - vs.size) undef).getD i undef = vs.getD i undef := by
            simp [Array.getD_eq_getD_getElem?, Array.getElem?_append, show i < vs.size by omega]
          rw [e1, e2]
          exact .imm this
        · have e1 : (args ++ List.replicate (fn.ntmps - args.length) AV.any).getD i .any = .any := by
            simp only [List.getD, List.getElem?_append, hlt, if_false, List.getElem?_replicate]
            split <;> rfl
          rw [e1]
          exact .imm (.any _)
      marks := ⟨[], ⟨rfl, fun _ => rfl⟩, .nil, by simp⟩
      rows := fun i => by
        have : (St.row ⟨args ++ List.replicate (fn.ntmps - args.length) .any, List.replicate fn.ntmps .none, .plain⟩ i) = .none := by
          simp only [St.row, List.getD, List.getElem?_replicate]
          split <;> rfl
        rw [this]; trivial
      inj := fun i j b _ _ h => by simp [blk] at h
      bF := fun i b _ h => by simp [blk] at h
      bB := fun i b h => by simp [blk] at h
      FB := fun b hb => ⟨hF b hb, .inl hb⟩
      below := .refl _ _
      BW := fun _ h => h
      top := fun _ _ h => by cases h
      topn := fun _ _ => rfl
      nn := rfl
      inc := fun _ h => h
      keep := Keeps.refl _ _
      sol := fun _ _ _ h _ => h
      yl := fun id l xs k e h => by
        have : (St.row ⟨args ++ List.replicate (fn.ntmps - args.length) .any, List.replicate fn.ntmps .none, .plain⟩ id) = .none := by
          simp only [St.row, List.getD, List.getElem?_replicate]
          split <;> rfl
        rw [this] at h; cases h }
    refine wpIn_mono (ex_snd hm c h hR) ?_
    have fin : ∀ {S β F' a' w'} {r : List AV}, Rel (fun b => w.heap.size ≤ b) w (Env.plain P F (fun _ => none) none .plain (fun _ => rfl)) S β F' a' w' → retAV P S fn.results.toList = some r → fAV (retOf r).fin (fun v => v = res) →
        LeavesInM Fence.wide 0 P fn a'.tmps (fun e w' => ∃ v, e = .returned v ∧ RowKit.Below w.heap.size w w' ∧ RepI (fun b => F b ∨ w.heap.size ≤ b) w' res v) a'.defers .returning w' := by
      intro S β F' a' w' r hR' hr hv
      rw [fAV_eq] at hv
      obtain ⟨t, ds⟩ := a'
      refine leaves_of ds hR' fun w'' hR'' => ?_
      obtain ⟨v, h1, h2⟩ := results_snd hR'' hr
      rw [hv] at h2
      exact ⟨v, h1, v, rfl, hR''.below.below, h2.mono (fun b hb => by
        rcases hb with hb | ⟨i, _, hb⟩
        · exact (hR''.FB b hb).2
        · exact .inr (hR''.bB i b hb).1) (fun _ _ _ _ h => h)⟩
    rintro e a' w' hq
    cases e with
    | normal =>
      obtain ⟨S', h1, β', F', hR'⟩ := hq
      simp only [] at h1
      split at h1
      · exact fin hR' ‹_› h1
      · exact h1.elim
    | ret =>
      obtain ⟨S', h1, β', F', hR'⟩ := hq
      simp only [] at h1
      split at h1
      · exact fin hR' ‹_› h1
      · exact h1.elim
    | exit i => obtain ⟨S', h1, _⟩ := hq; exact h1.elim
    | goto l => exact hq.elim
    | panic ch => exact hq.elim
    | outgrown => exact hq.elim

theorem range'_getD (s n k : Nat) (h : k < n) : (List.range' s n).getD k 0 = s + k := by
  simp [List.getD, h]

theorem pw_of_body (hm : P.follows .mixedOrders = true) {f : FuncId} {fn : Func} {args : List AV} {ins outs : List Row} {res : AV} (hf : P.funcs[f]? = some fn) (hname : (fn.name == "runtime.NumGoroutine") = false) (h : bodyW P fn args ins res outs) : PW P f args ins res outs := by
  intro F w vs β hF hsz hargs hown
  unfold bodyW at h
  split at h
  · exact h.elim
  rename_i c hb
  obtain ⟨hchk, h⟩ := h
  simp only [Bool.and_eq_true] at hchk
  obtain ⟨⟨c1, c2⟩, c3⟩ := hchk
  have c3 := Nat.le_of_ble_eq_true c3
  refine ⟨Go.MuLone.run_callFunc_enter hf hname hb vs w, callsIn_wide.1 (callsIn_of_wp_marks (n := 0) hf hb trivial ?_)⟩
  rw [fSt_eq] at h
  obtain ⟨sh, hsh⟩ : ∃ sh, List.range' fn.ntmps ins.length = sh := ⟨_, rfl⟩
  rw [hsh] at h
  have shl : sh.length = ins.length := by rw [← hsh]; simp
  have shk : ∀ k, k < ins.length → sh.getD k 0 = fn.ntmps + k := fun k hk => by rw [← hsh]; exact range'_getD _ _ _ hk
  have hins : ∀ k, k < ins.length → underRow ins.length (ins.getD k .none) = true ∧ ins.getD k .none ≠ .none := fun k hk => by
    have hmem : ins.getD k .none ∈ ins := by simp [List.getD, hk]
    have := List.all_eq_true.1 c2 _ hmem
    simp only [Bool.and_eq_true] at this
    exact ⟨this.1, fun e => by rw [e] at this; simp [Row.live] at this⟩
  let β0 : Nat → Option Hd := fun j => if fn.ntmps ≤ j then β (j - fn.ntmps) else none
  have b0 : ∀ k, β0 (fn.ntmps + k) = β k := fun k => by simp [β0]
  have b0' : ∀ j, j < fn.ntmps → β0 j = none := fun j hj => by simp [β0, Nat.not_le.2 hj]
  have b0s : ∀ i b, blk β0 i = some b → fn.ntmps ≤ i ∧ blk β (i - fn.ntmps) = some b := fun i b hb => by
    by_cases hle : fn.ntmps ≤ i
    · exact ⟨hle, by simpa [blk, β0, hle] using hb⟩
    · simp [blk, β0, hle] at hb
  have hrow : ∀ (t : List AV) id, (St.row ⟨t, List.replicate fn.ntmps .none ++ ins.map (renRow sh), .plain⟩ id) = if fn.ntmps ≤ id then renRow sh (ins.getD (id - fn.ntmps) .none) else .none := fun t id => by
    simp only [St.row, List.getD]
    by_cases hle : fn.ntmps ≤ id
    · rw [List.getElem?_append_right (by simpa using hle)]
      simp only [List.length_replicate, List.getElem?_map, hle, if_true]
      cases ins[id - fn.ntmps]? <;> simp [renRow]
    · rw [List.getElem?_append_left (by simpa using hle)]
      simp [hle, List.getElem?_replicate, Nat.lt_of_not_le hle]
  have hR : Rel (fun b => w.heap.size ≤ b ∨ inB β b) w (Env.plain P F β0 none .plain (fun _ => rfl)) ⟨renL sh args ++ List.replicate (fn.ntmps - args.length) .any, List.replicate fn.ntmps .none ++ ins.map (renRow sh), .plain⟩ β0 F { tmps := vs ++ Array.replicate (fn.ntmps - vs.size) undef, defers := [] } w := {
    len := by simp [hsz, renL_length]
    slots := fun i hi => by
      by_cases hlt : i < args.length
      · have := hargs i hlt
        have e1 : (renL sh args ++ List.replicate (fn.ntmps - args.length) AV.any).getD i .any = (args.getD i .any).ren sh := by
          rw [← renL_getD]
          simp [List.getD, List.getElem?_append, renL_length, hlt]
        have e2 : (vs ++ Array.replicate (fn.ntmps - vs.size) undef).getD i undef = vs.getD i undef := by
          simp [Array.getD_eq_getD_getElem?, Array.getElem?_append, show i < vs.size by omega]
        rw [e1, e2]
        exact this.ren (n := ins.length) (fun k hk hd h => by rw [shk k hk, b0]; exact h) (underL_getD c1 i)
      · have e1 : (renL sh args ++ List.replicate (fn.ntmps - args.length) AV.any).getD i .any = .any := by
          simp only [List.getD, List.getElem?_append, renL_length, hlt, if_false, List.getElem?_replicate]
          split <;> rfl
        rw [e1]
        exact .imm (.any _)
    marks := ⟨[], ⟨rfl, fun _ => rfl⟩, .nil, by simp⟩
    rows := fun id => by
      rw [hrow]
      split
      · rename_i hle
        by_cases hlt : id - fn.ntmps < ins.length
        · have := rowRep_ren (ids := sh) (n := ins.length) (β' := β0) (fun k hk hd h => by rw [shk k hk, b0]; exact h) hlt (hown.rows (id - fn.ntmps)) (hins _ hlt).1
          rw [shk _ hlt, show fn.ntmps + (id - fn.ntmps) = id by omega] at this
          exact this
        · have : ins.getD (id - fn.ntmps) .none = .none := by simp [List.getD, List.getElem?_eq_none (Nat.le_of_not_lt hlt)]
          rw [this]; trivial
      · trivial
    inj := fun i j b hi hj hbi hbj => by
      obtain ⟨h1, h2⟩ := b0s i b hbi
      obtain ⟨h3, h4⟩ := b0s j b hbj
      rw [hrow, if_pos h1] at hi
      rw [hrow, if_pos h3] at hj
      have := hown.inj _ _ b (fun e => hi (renRow_none.2 e)) (fun e => hj (renRow_none.2 e)) h2 h4
      omega
    bF := fun i b hi hbi => by
      obtain ⟨h1, h2⟩ := b0s i b hbi
      rw [hrow, if_pos h1] at hi
      exact hown.bF _ b (fun e => hi (renRow_none.2 e)) h2
    bB := fun i b h => ⟨.inr ⟨_, (b0s i b h).2⟩, hown.bB _ b (b0s i b h).2⟩
    FB := fun b hb => ⟨hF b hb, .inl hb⟩
    below := .refl _ _
    BW := fun _ h => .inl h
    top := fun _ _ h => h
    topn := fun j hj => by
      simp only [mayKill] at hj
      split at hj
      · rename_i hlt
        simp only [List.length_append, renL_length, List.length_replicate, Nat.blt_eq] at hlt
        exact b0' j (by omega)
      · cases hj
    nn := rfl
    inc := fun _ h => h
    keep := Keeps.refl _ _
    sol := fun _ _ _ h _ => h
    yl := fun id l xs k e h => by
      rw [hrow] at h
      split at h
      · by_cases hlt : id - fn.ntmps < ins.length
        · have hu := (hins _ hlt).1
          cases hr : ins.getD (id - fn.ntmps) .none <;> rw [hr] at h hu <;> simp [renRow, underRow] at h hu
        · have : ins.getD (id - fn.ntmps) .none = .none := by simp [List.getD, List.getElem?_eq_none (Nat.le_of_not_lt hlt)]
          rw [this] at h; cases h
      · cases h }
  refine wpIn_mono (ex_snd hm c h hR) ?_
  have fin : ∀ {S β1 F' a' w'} {l : List AV}, Rel (fun b => w.heap.size ≤ b ∨ inB β b) w (Env.plain P F β0 none .plain (fun _ => rfl)) S β1 F' a' w' → retRaw P S fn.results.toList = some l →
      (∃ news : List Nat, (nodupB (sh ++ news) && Nat.beq outs.length (sh ++ news).length && res.under outs.length && outs.all (underRow outs.length)) = true ∧ fAV (retOf l).fin fun v => v = res.ren (sh ++ news) ∧ (sh ++ news).map S.row = outs.map (renRow (sh ++ news))) →
      LeavesInM Fence.wide 0 P fn a'.tmps (fun e w' => ∃ v β' F', e = .returned v ∧ BelowO (fun b => w.heap.size ≤ b ∨ inB β b) w w' ∧ (∀ k hd, β k = some hd → β' k = some hd) ∧ (∀ b, F b → F' b) ∧
        (∀ b, F' b → b < w'.heap.size ∧ (F b ∨ w.heap.size ≤ b ∨ inB β b)) ∧ Rep β' F' w' res v ∧ (∀ k, RowRep β' F' w' k (outs.getD k .none)) ∧
        (∀ i j b, outs.getD i .none ≠ .none → outs.getD j .none ≠ .none → blk β' i = some b → blk β' j = some b → i = j) ∧ (∀ i b, outs.getD i .none ≠ .none → blk β' i = some b → ¬ F' b) ∧
        (∀ i b, blk β' i = some b → b < w'.heap.size ∧ (w.heap.size ≤ b ∨ inB β b))) a'.defers .returning w' := by
    rintro S β1 F' a' w' l hR' hl ⟨news, hck, hv⟩
    rw [fAV_eq] at hv
    obtain ⟨hv, hmap⟩ := hv
    simp only [Bool.and_eq_true] at hck
    obtain ⟨⟨⟨d1, d2⟩, d3⟩, d4⟩ := hck
    have d2 := Nat.eq_of_beq_eq_true d2
    have hnd := nodupB_iff d1
    obtain ⟨t, ds⟩ := a'
    refine leaves_of ds hR' fun w'' hR'' => ?_
    obtain ⟨v, h1, h2⟩ := resultsW_snd hR'' hl
    rw [hv] at h2
    obtain ⟨al, hal⟩ : ∃ al, sh ++ news = al := ⟨_, rfl⟩
    rw [hal] at hnd d2 h2 hmap
    have alk : ∀ k, k < ins.length → al.getD k 0 = fn.ntmps + k := fun k hk => by
      rw [← shk k hk, ← hal]
      simp [List.getD, List.getElem?_append, shl, hk]
    have insl : ins.length ≤ al.length := by rw [← hal, List.length_append, shl]; omega
    let β2 : Nat → Option Hd := fun k => if k < al.length then β1 (al.getD k 0) else none
    have e2 : ∀ k, k < outs.length → β2 k = β1 (al.getD k 0) := fun k hk => by simp [β2, ← d2, hk]
    have hb2 : ∀ k b, blk β2 k = some b → k < outs.length ∧ blk β1 (al.getD k 0) = some b := fun k b hb => by
      by_cases hlt : k < outs.length
      · exact ⟨hlt, by simpa [blk, e2 k hlt] using hb⟩
      · simp [blk, β2, ← d2, hlt] at hb
    have hrowO : ∀ k, k < outs.length → S.row (al.getD k 0) = renRow al (outs.getD k .none) := fun k hk => by
      have : (al.map S.row).getD k .none = (outs.map (renRow al)).getD k .none := by rw [hmap]
      simpa [List.getD, List.getElem?_map, hk, d2 ▸ hk] using this
    have hlive : ∀ k, outs.getD k .none ≠ .none → k < outs.length ∧ S.row (al.getD k 0) ≠ .none := fun k hk => by
      by_cases hlt : k < outs.length
      · exact ⟨hlt, by rw [hrowO k hlt]; exact fun e => hk (renRow_none.1 e)⟩
      · exact absurd (by simp [List.getD, List.getElem?_eq_none (Nat.le_of_not_lt hlt)]) hk
    refine ⟨v, h1, v, β2, F', rfl, hR''.below, fun k hd hk => ?_, hR''.inc, hR''.FB, h2.unren e2 d3 rfl, fun k => ?_, fun i j b hi hj hbi hbj => ?_, fun i b hi hbi => ?_, fun i b hbi => ?_⟩
    · have hlt : k < ins.length := by
        rcases Nat.lt_or_ge k ins.length with h | h
        · exact h
        · have := hown.dead k (by simp [List.getD, List.getElem?_eq_none h])
          rw [this] at hk; cases hk
      have := hR''.top (fn.ntmps + k) hd (by show β0 (fn.ntmps + k) = some hd; rw [b0]; exact hk)
      rw [e2 k (by omega), alk k hlt]
      exact this
    · by_cases hlt : k < outs.length
      · have := hR''.rows (al.getD k 0)
        rw [hrowO k hlt] at this
        exact rowRep_unren e2 hlt (List.all_eq_true.1 d4 _ (by simp [List.getD, hlt])) this
      · have : outs.getD k .none = .none := by simp [List.getD, List.getElem?_eq_none (Nat.le_of_not_lt hlt)]
        rw [this]; trivial
    · obtain ⟨l1, r1⟩ := hlive i hi
      obtain ⟨l2, r2⟩ := hlive j hj
      have heq := hR''.inj _ _ b r1 r2 (hb2 i b hbi).2 (hb2 j b hbj).2
      have li : i < al.length := by omega
      have lj : j < al.length := by omega
      have e' : al[i] = al[j] := by simpa [List.getD, li, lj] using heq
      have hp := List.pairwise_iff_getElem.1 hnd
      rcases Nat.lt_trichotomy i j with hlt | rfl | hgt
      · exact absurd e' (hp i j li lj hlt)
      · rfl
      · exact absurd e'.symm (hp j i lj li hgt)
    · exact hR''.bF _ b (hlive i hi).2 (hb2 i b hbi).2
    · have := hR''.bB _ b (hb2 i b hbi).2
      exact ⟨this.2, this.1⟩
  rintro e a' w' hq
  cases e with
  | normal =>
    obtain ⟨S', h1, β', F', hR'⟩ := hq
    simp only [] at h1
    split at h1
    · exact fin hR' ‹_› h1
    · exact h1.elim
  | ret =>
    obtain ⟨S', h1, β', F', hR'⟩ := hq
    simp only [] at h1
    split at h1
    · exact fin hR' ‹_› h1
    · exact h1.elim
  | exit i => obtain ⟨S', h1, _⟩ := hq; exact h1.elim
  | goto l => exact hq.elim
  | panic ch => exact hq.elim
  | outgrown => exact hq.elim

theorem sq_of_body (hm : P.follows .mixedOrders = true) {f : FuncId} {fn : Func} {caps : List AV} {xs : List (List AV)} (hf : P.funcs[f]? = some fn) (hname : (fn.name == "runtime.NumGoroutine") = false) (h : bodyS P fn caps xs) : SQ P f caps xs := by
  intro F w us l J hF hsz hreps hst hrd hJ0
  unfold bodyS at h
  split at h
  · exact h.elim
  rename_i c hb
  obtain ⟨hle, h⟩ := h
  have hle := Nat.le_of_ble_eq_true hle
  have h := h l
  rw [fSt_eq] at h
  refine ⟨fun args W => Go.MuLone.run_callFunc_enter hf hname hb args W, callsIn_of_wp_marks (n := 0) hf hb trivial ?_⟩
  let E : Env P := ⟨F, fun _ => none, none, .iter, fun _ => rfl, l, xs, J, fun _ _ _ _ _ => rfl, hst, hrd⟩
  let β0 : Nat → Option Hd := fun j => if j = fn.ntmps then some ⟨none, 0, 0⟩ else none
  have nob : ∀ i b, blk β0 i ≠ some b := fun i b hb => by
    by_cases e : i = fn.ntmps <;> simp [blk, β0, e] at hb
  have hrow : ∀ (t : List AV) id, (St.row ⟨t, List.replicate fn.ntmps .none ++ [.ctr l xs 0 false], .iter⟩ id) = if id = fn.ntmps then .ctr l xs 0 false else .none := fun t id => by
    simp only [St.row, List.getD]
    rcases Nat.lt_trichotomy id fn.ntmps with hlt | rfl | hgt
    · rw [List.getElem?_append_left (by simpa using hlt)]
      simp [Nat.ne_of_lt hlt, hlt]
    · rw [List.getElem?_append_right (by simp)]
      simp
    · rw [List.getElem?_append_right (by simp; omega)]
      have : ([Row.ctr l xs 0 false] : List Row)[id - (List.replicate fn.ntmps Row.none).length]? = none := List.getElem?_eq_none (by simp; omega)
      rw [this]
      simp [Nat.ne_of_gt hgt]
  have hR : Rel (fun _ => True) w E ⟨(AV.fn (.yield l) [] [] :: caps) ++ List.replicate (fn.ntmps - (caps.length + 1)) AV.any, List.replicate fn.ntmps .none ++ [.ctr l xs 0 false], .iter⟩ β0 F { tmps := (#[Value.func (.yield l) #[] #[]] ++ us) ++ Array.replicate (fn.ntmps - (#[Value.func (.yield l) #[] #[]] ++ us).size) undef, defers := [] } w := {
    len := by simp [hsz]; omega
    slots := fun i hi => by
      cases i with
      | zero =>
        have e2 : ((#[Value.func (.yield l) #[] #[]] ++ us) ++ Array.replicate (fn.ntmps - (#[Value.func (.yield l) #[] #[]] ++ us).size) undef).getD 0 undef = .func (.yield l) #[] #[] := by
          simp [Array.getD_eq_getD_getElem?, Array.getElem?_append]
        show Rep β0 F w (.fn (.yield l) [] []) _
        rw [e2]
        exact .imm (.fn rfl (fun i hi => absurd hi (Nat.not_lt_zero i)) rfl (fun i hi => absurd hi (Nat.not_lt_zero i)))
      | succ i =>
        by_cases hlt : i < caps.length
        · have e1 : ((AV.fn (.yield l) [] [] :: caps) ++ List.replicate (fn.ntmps - (caps.length + 1)) AV.any).getD (i + 1) .any = caps.getD i .any := by
            simp [List.getD, List.getElem?_append, hlt]
          have e2 : ((#[Value.func (.yield l) #[] #[]] ++ us) ++ Array.replicate (fn.ntmps - (#[Value.func (.yield l) #[] #[]] ++ us).size) undef).getD (i + 1) undef = us.getD i undef := by
            have h1 : i < us.size := by omega
            simp only [Array.getD_eq_getD_getElem?]
            rw [Array.getElem?_append_left (by simp; omega), Array.getElem?_append_right (by simp)]
            simp
          rw [e1, e2]
          exact .imm (hreps i hlt)
        · have e1 : ((AV.fn (.yield l) [] [] :: caps) ++ List.replicate (fn.ntmps - (caps.length + 1)) AV.any).getD (i + 1) .any = .any := by
            simp only [List.getD]
            rw [List.getElem?_append_right (by simp; omega), List.getElem?_replicate]
            split <;> rfl
          rw [e1]
          exact .imm (.any _)
    marks := ⟨[], ⟨rfl, fun _ => rfl⟩, .nil, by simp⟩
    rows := fun id => by
      rw [hrow]
      split
      · rename_i e; rw [e]; exact ⟨⟨none, 0, 0⟩, by simp [β0], rfl⟩
      · trivial
    inj := fun i j b _ _ hbi _ => absurd hbi (nob i b)
    bF := fun i b _ hbi => absurd hbi (nob i b)
    bB := fun i b h => absurd h (nob i b)
    FB := fun b hb => ⟨hF b hb, .inl hb⟩
    below := .refl _ _
    BW := fun _ _ => trivial
    top := fun _ _ h => by cases h
    topn := fun _ _ => rfl
    nn := rfl
    inc := fun _ h => h
    keep := Keeps.refl _ _
    sol := fun _ _ _ h _ => h
    yl := fun id l' xs' k e h => by
      rw [hrow] at h
      split at h
      · rename_i hid
        cases h
        refine ⟨rfl, rfl, ⟨fun _ => trivial, rfl⟩, fun _ => False, hJ0, fun _ h => h.elim, fun i b _ hb => absurd hb (nob i b), fun _ h => .inl h, fun D hD => by simp at hD, fun id' l' xs' k' e' h' => ?_⟩
        rw [hrow] at h'
        split at h'
        · rename_i e; rw [e, hid]
        · cases h'
      · cases h }
  refine wpIn_mono (ex_snd hm c h hR) ?_
  have fin : ∀ {S β1 F' a' w'} {r : List AV}, Rel (fun _ => True) w E S β1 F' a' w' → retAV P S fn.results.toList = some r → (match S.row S.t.length with
        | .ctr _ _ k e' => e' = false → k = xs.length
        | _ => False) →
      LeavesInM Fence.wide 0 P fn a'.tmps (fun e W' => (∃ v, e = .returned v) ∧ W'.os = w.os ∧ W'.tape = w.tape ∧ W'.output = w.output ∧ w.heap.size ≤ W'.heap.size ∧ ∃ O k e', J k e' O W' ∧ (e' = false → k = xs.length)) a'.defers .returning w' := by
    intro S β1 F' a' w' r hR' hr hk
    obtain ⟨t, ds⟩ := a'
    refine leaves_of ds hR' fun w'' hR'' => ?_
    obtain ⟨v, h1, h2⟩ := results_snd hR'' hr
    split at hk
    · rename_i l' xs' k e' hrw
      obtain ⟨_, _, _, O, g1, _⟩ := hR''.yl _ _ _ _ _ hrw
      exact ⟨v, h1, ⟨v, rfl⟩, hR''.below.os, hR''.below.tape, hR''.below.output, hR''.below.size, O, k, e', g1, hk⟩
    · exact hk.elim
  rintro e a' w' hq
  cases e with
  | normal =>
    obtain ⟨S', h1, β', F', hR'⟩ := hq
    simp only [] at h1
    split at h1
    · exact fin hR' ‹_› h1
    · exact h1.elim
  | ret =>
    obtain ⟨S', h1, β', F', hR'⟩ := hq
    simp only [] at h1
    split at h1
    · exact fin hR' ‹_› h1
    · exact h1.elim
  | exit i => obtain ⟨S', h1, _⟩ := hq; exact h1.elim
  | goto l => exact hq.elim
  | panic ch => exact hq.elim
  | outgrown => exact hq.elim

end
end Go.Ev
