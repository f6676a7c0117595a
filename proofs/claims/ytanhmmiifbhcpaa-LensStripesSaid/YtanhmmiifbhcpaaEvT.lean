/- A function's contract from its body. A helper text: it speaks of no program. -/
import Derived.Test.YtanhmmiifbhcpaaEvS
import Derived.Conc.MuLone
namespace Go.Ev
section
variable {P : Program} {B : Nat → Prop} {w0 : World} {F0 : Nat → Prop} {S : St} {β : Nat → Option Hd} {F : Nat → Prop} {a : Act} {w : World}

def resM (tmps : Array Value) : ResultVar → Sem Value
  | .tmp t => pure (tmps.getD t undef)
  | .cell a t => do loadVar t (← asAddr (tmps.getD a undef))

theorem retAV_snd (hR : Rel B w0 F0 S β F a w) : ∀ (l : List ResultVar) {r : List AV}, retAV P S l = some r →
    ∃ vs, (l.mapM (resM a.tmps)).run P w = .ok vs w ∧ vs.length = r.length ∧ ∀ i, i < r.length → RepI (fun b => F b ∨ liveB S β b) w (r.getD i .any) (vs.getD i undef)
  | [], r, h => by
    simp only [retAV, Option.some.injEq] at h
    subst h
    exact ⟨[], by simp, rfl, fun i hi => absurd hi (Nat.not_lt_zero i)⟩
  | .tmp t :: l, r, h => by
    simp only [retAV] at h
    split at h
    · rename_i r' hr
      simp only [Option.some.injEq] at h
      subst h
      obtain ⟨vs, h1, h2, h3⟩ := retAV_snd hR l hr
      refine ⟨a.tmps.getD t undef :: vs, by simp [List.mapM_cons, h1, resM], by simp [h2], fun i hi => ?_⟩
      cases i with
      | zero => exact closeN_rep hR 4 (hR.get (.tmp t))
      | succ i => exact h3 i (by simpa using hi)
    · cases h
  | .cell x t :: l, r, h => by
    simp only [retAV] at h
    split at h
    · cases h
    · rename_i r' hr
      obtain ⟨vs, h1, h2, h3⟩ := retAV_snd hR l hr
      split at h
      · rename_i i d hi hd
        split at h
        · rename_i id sz j off hx
          split at h
          · rename_i ty cs hrow
            split at h
            · rename_i v hv
              simp only [Option.some.injEq] at h
              subst h
              have hx' := hR.get (.tmp x)
              rw [show S.get (.tmp x) = .ptr id sz j off from hx] at hx'
              have hrow' := hR.rows id
              rw [hrow] at hrow'
              obtain ⟨hd', b, ws, e1, e2, e3, e4, e5⟩ := hrow'
              obtain ⟨hd'', b', e6, e7, e8⟩ : ∃ hd b, β id = some hd ∧ hd.b = some b ∧ a.tmps.getD x undef = .pointer (some ⟨b, j * sz + off, none⟩) := hx'.ptr_inv
              rw [e1] at e6; cases e6
              rw [e2] at e7; cases e7
              have hcell : ∀ k, k < cs.length → w.cell? ⟨b, 0 + k, none⟩ = some (ws.getD k undef) := fun k hk => by rw [Nat.zero_add]; exact cell_at e3 (by omega)
              obtain ⟨u, hu1, hu2⟩ := ld_sound hi hd (b := b) (o := 0) (off := j * sz + off) hcell e5 hv
              refine ⟨u :: vs, ?_, by simp [h2], fun i hi => ?_⟩
              · have : (resM a.tmps (.cell x t)).run P w = .ok u w := by
                  rw [Nat.zero_add] at hu1
                  simp only [resM, e8]
                  simpa [Instr.loadAt, Instr.sureAddr, asAddr] using hu1
                simp [List.mapM_cons, h1, this]
              · cases i with
                | zero => exact closeN_rep hR 4 hu2
                | succ i => exact h3 i (by simpa using hi)
            · cases h
          · cases h
        · cases h
      · cases h

theorem AV.fin1_rep {x : AV} {v : Value} (h : RepI F w x v) : RepI F w x.fin1 v := by
  cases h <;> first | exact .bool _ | (simp only [AV.fin1]; constructor <;> assumption)

theorem AV.fin_rep {x : AV} {v : Value} (h : RepI F w x v) : RepI F w x.fin v := by
  cases h with
  | tt => exact .bool true
  | ff => exact .bool false
  | tup hl hh =>
    refine .tup (by simpa using hl) fun i hi => ?_
    simp only [List.length_map] at hi
    rw [getD_map_av _ rfl]
    exact AV.fin1_rep (hh i hi)
  | _ => (try simp only [AV.fin]); constructor <;> assumption

theorem results_snd (hR : Rel B w0 F0 S β F a w) {fn : Func} {r : List AV} (h : retAV P S fn.results.toList = some r) :
    ∃ v, (results fn a.tmps).run P w = .ok v w ∧ RepI (fun b => F b ∨ liveB S β b) w (retOf r).fin v := by
  obtain ⟨vs, h1, h2, h3⟩ := retAV_snd hR _ h
  have hm : (fn.results.mapM (resM a.tmps)).run P w = .ok vs.toArray w := by
    rw [Array.mapM_eq_mapM_toList]
    simp [h1]
  refine ⟨if h : vs.toArray.size = 1 then vs.toArray[0] else .tuple vs.toArray, ?_, AV.fin_rep ?_⟩
  · have e : results fn a.tmps = (do let vs ← fn.results.mapM (resM a.tmps); pure (if h : vs.size = 1 then vs[0] else .tuple vs)) := by
      unfold results
      congr 1
    rw [e, Sem.run_bind, hm]
    rfl
  · cases r with
    | nil =>
      have : vs = [] := by simpa using h2
      subst this
      exact .tup rfl fun i hi => absurd hi (Nat.not_lt_zero i)
    | cons x l =>
      cases l with
      | nil =>
        obtain ⟨v, rfl⟩ : ∃ v, vs = [v] := by
          match vs, h2 with
          | [v], _ => exact ⟨v, rfl⟩
        exact h3 0 (by simp)
      | cons y l =>
        have : vs.toArray.size ≠ 1 := by simp [h2]
        rw [dif_neg this]
        exact .tup (by simp [h2]) fun i hi => by
          have := h3 i hi
          simpa [Array.getD_eq_getD_getElem?, List.getD_eq_getElem?_getD] using this

theorem pc_of_body (hm : P.follows .mixedOrders = true) {f : FuncId} {fn : Func} {args : List AV} {res : AV} (hf : P.funcs[f]? = some fn) (hname : (fn.name == "runtime.NumGoroutine") = false) (h : body P fn args res) : PC P f args res := by
  intro F w vs hF hsz hargs
  unfold body at h
  split at h
  · exact h.elim
  · rename_i c hb
    refine .inl ⟨Go.MuLone.run_callFunc_enter hf hname hb vs w, calls_of_wp hf hb ?_⟩
    rw [fSt_eq] at h
    have hR : Rel (fun b => w.heap.size ≤ b) w F ⟨args ++ List.replicate (fn.ntmps - args.length) .any, List.replicate fn.ntmps .none⟩ (fun _ => none) F { tmps := vs ++ Array.replicate (fn.ntmps - vs.size) undef, defers := [] } w := {
      len := by simp [hsz]
      slots := fun i hi => by
        by_cases hlt : i < args.length
        · have := hargs i hlt
          have e1 : (args ++ List.replicate (fn.ntmps - args.length) AV.any).getD i .any = args.getD i .any := by simp [List.getD, List.getElem?_append, hlt]
          have e2 : (vs ++ Array.replicate (fn.ntmps - vs.size) undef).getD i undef = vs.getD i undef := by
            simp [Array.getD_eq_getD_getElem?, Array.getElem?_append, show i < vs.size by omega]
          rw [e1, e2]
          exact .imm this
        · have e1 : (args ++ List.replicate (fn.ntmps - args.length) AV.any).getD i .any = .any := by
            simp only [List.getD, List.getElem?_append, hlt, if_false, List.getElem?_replicate]
            split <;> rfl
          rw [e1]
          exact .imm (.any _)
      defers := rfl
      rows := fun i => by
        have : (St.row ⟨args ++ List.replicate (fn.ntmps - args.length) .any, List.replicate fn.ntmps .none⟩ i) = .none := by
          simp only [St.row, List.getD, List.getElem?_replicate]
          split <;> rfl
        rw [this]; trivial
      inj := fun i j b _ _ h => by simp [blk] at h
      bF := fun i b _ h => by simp [blk] at h
      bB := fun i b h => by simp [blk] at h
      FB := fun b hb => ⟨hF b hb, .inl hb⟩
      below := .refl _ _
      BW := fun _ h => h }
    refine wp_mono (ex_snd hm c h hR) ?_
    have fin : ∀ {S β F' a' w'} {r : List AV}, Rel (fun b => w.heap.size ≤ b) w F S β F' a' w' → retAV P S fn.results.toList = some r → fAV (retOf r).fin (fun v => v = res) →
        a'.defers = [] ∧ ∃ v, (results fn a'.tmps).run P w' = .ok v w' ∧ ∃ v', Ending.returned v = .returned v' ∧ RowKit.Below w.heap.size w w' ∧ RepI (fun b => F b ∨ w.heap.size ≤ b) w' res v' := by
      intro S β F' a' w' r hR' hr hv
      rw [fAV_eq] at hv
      obtain ⟨v, h1, h2⟩ := results_snd hR' hr
      rw [hv] at h2
      exact ⟨hR'.defers, v, h1, v, rfl, hR'.below.below, h2.mono (fun b hb => by
        rcases hb with hb | ⟨i, _, hb⟩
        · exact (hR'.FB b hb).2
        · exact .inr (hR'.bB i b hb).1) (fun _ _ _ _ h => h)⟩
    rintro e a' w' hq
    cases e with
    | normal =>
      obtain ⟨S', h1, β', F', hR'⟩ := hq
      simp only [] at h1
      split at h1
      · exact fin hR' ‹_› h1
      · exact h1.elim
    | ret =>
      obtain ⟨S', h1, β', F', hR'⟩ := hq
      simp only [] at h1
      split at h1
      · exact fin hR' ‹_› h1
      · exact h1.elim
    | exit i => obtain ⟨S', h1, _⟩ := hq; exact h1.elim
    | goto l => exact hq.elim
    | panic ch => exact hq.elim
    | outgrown => exact hq.elim

end
end Go.Ev
