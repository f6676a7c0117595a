/- Why the executor is right (last part). A helper text: it speaks of no program. -/
import Derived.Test.YtanhmmiifbhcpaaEvRa
set_option linter.unusedVariables false
set_option linter.unusedSimpArgs false
namespace Go.Ev
section
variable {P : Program} {B : Nat → Prop} {w0 : World} {F0 : Env P} {S : St} {β : Nat → Option Hd} {F : Nat → Prop} {a : Act} {w : World}

def Aft (B : Nat → Prop) (w0 : World) (F0 : Env P) (Q : Ex → St → Prop) : Exit → Act → World → Prop
  | .normal, a, w => ∃ S, Q .norm S ∧ ∃ β F, Rel B w0 F0 S β F a w
  | .ret, a, w => ∃ S, Q .ret S ∧ ∃ β F, Rel B w0 F0 S β F a w
  | .exit i, a, w => ∃ S, Q (.exit i) S ∧ ∃ β F, Rel B w0 F0 S β F a w
  | _, _, _ => False

theorem Aft.norm {Q : Ex → St → Prop} (hR : Rel B w0 F0 S β F a w) (h : Q .norm S) : Aft B w0 F0 Q .normal a w := ⟨S, h, β, F, hR⟩

theorem mkHead_n (ds : List Nat) (S : St) (ws bs : List Nat) (vs : List (Nat × VT)) (vals : List AV) (brows vrows : List Row) : (mkHead ds S ws bs vs vals brows vrows).n = S.n := rfl
theorem canon1_n (t : Nat) (V : VT) (S : St) : (canon1 t V S).n = S.n := by
  unfold canon1
  split
  · split
    · rfl
    · split <;> rfl
  · split <;> rfl
  · rfl
theorem canonV_n : ∀ (l : List (Nat × VT)) (S : St), (canonV l S).n = S.n
  | [], _ => rfl
  | (t, V) :: l, S => by simp only [canonV]; rw [canonV_n l, canon1_n]

theorem atHead_snd {ds ws bs : List Nat} {S0 : St} {vs : List (Nat × VT)} {K : List AV → List Row → List Row → Prop} (hn : S0.n = F0.n) (hR : Rel B w0 F0 S β F a w) (h : atHead ds S0 ws bs vs S K) :
    ∃ vals brows vrows, K vals brows vrows ∧ ∃ β', Rel B w0 F0 (mkHead ds S0 ws bs vs vals brows vrows) β' F a w := by
  unfold atHead at h
  rw [fSt_eq, fL_eq, fRows_eq, fRows_eq] at h
  obtain ⟨β', hR'⟩ := hR.canonV vs
  exact ⟨_, _, _, h.1, β', hR'.mask (by rw [mkHead_n, hn, hR'.nn]) h.2.1 h.2.2⟩

theorem unr_snd {c : Code} (ih : ∀ {S : St} {β : Nat → Option Hd} {F : Nat → Prop} {a : Act} {w : World} {Q : Ex → St → Prop}, ex P c S Q → Rel B w0 F0 S β F a w → c.wpIn (FW F0.r) 0 P (Aft B w0 F0 Q) a w) {Q : Ex → St → Prop} :
    ∀ (n : Nat) {S : St} {β : Nat → Option Hd} {F : Nat → Prop} {a : Act} {w : World}, unr (ex P c) n S Q → Rel B w0 F0 S β F a w → (Code.loop c).wpIn (FW F0.r) 0 P (Aft B w0 F0 Q) a w := by
  intro n S β F a w h hR
  refine wpIn_loop_ghost (fun n a w => ∃ S, unr (ex P c) n S Q ∧ ∃ β F, Rel B w0 F0 S β F a w) n ⟨S, h, β, F, hR⟩ ?_
  rintro n a w ⟨S, h, β, F, hR⟩
  cases n with
  | zero => exact h.elim
  | succ n =>
    refine wpIn_mono (ih h hR) ?_
    rintro e a' w' hq
    cases e with
    | normal =>
      obtain ⟨S', h1, β', F', h2⟩ := hq
      exact ⟨n, Nat.lt_succ_self n, S', h1, β', F', h2⟩
    | ret => exact hq
    | exit i => exact hq
    | goto l => exact hq
    | panic ch => exact hq
    | outgrown => exact hq

theorem Rel.kills' : ∀ (l : List Nat) {S : St} {β : Nat → Option Hd}, (∀ d ∈ l, F0.β d = none) → Rel B w0 F0 S β F a w → ∃ β', (∀ d ∈ l, β' d = none) ∧ (∀ j, β' j = β j ∨ β' j = none) ∧ Rel B w0 F0 (S.kills l) β' F a w
  | [], _, β, _, hR => ⟨β, by simp, fun _ => .inl rfl, hR⟩
  | d :: l, S, β, hd0, hR => by
    obtain ⟨β1, h1, h2, hR1⟩ := hR.kill d (hd0 d (by simp))
    obtain ⟨β2, h3, h4, hR2⟩ := Rel.kills' l (fun x hx => hd0 x (by simp [hx])) hR1
    refine ⟨β2, fun x hx => ?_, fun j => ?_, hR2⟩
    · rcases List.mem_cons.1 hx with rfl | hx
      · rcases h4 x with h | h
        · rw [h]; exact h1
        · exact h
      · exact h3 x hx
    · rcases h4 j with h | h
      · by_cases e : j = d
        · subst e; exact .inr (h.trans h1)
        · exact .inl (h.trans (h2 j e))
      · exact .inr h

theorem Rel.marked (hR : Rel B w0 F0 S β F a w) (hpl : F0.n = .plain) {D : Nat} (hD : w.heap[D]? = some (.deferred (some []))) (hB : B D) (hge : w0.heap.size ≤ D) (hfresh : markOf D ∉ a.defers) : Rel B w0 F0 S β F { a with defers := markOf D :: a.defers } w :=
  { hR with
    len := hR.len
    slots := hR.slots
    marks := by
      obtain ⟨Ds, ⟨h1, h0⟩, h2, h3⟩ := hR.marks
      refine ⟨D :: Ds, ⟨by simp [h1], fun h => absurd hpl h⟩, List.nodup_cons.2 ⟨fun h => hfresh (by rw [h1]; exact List.mem_map_of_mem h), h2⟩, fun D' hD' => ?_⟩
      rcases List.mem_cons.1 hD' with rfl | h
      · exact ⟨hD, hB, hge⟩
      · exact h3 D' h
    yl := fun id l xs k e h => absurd h (hR.noctr hpl id l xs k e) }

theorem rangeFunc_snd {g : Operand} {ps : Array Tmp} {assign bodyC : Code}
    (ihA : ∀ {B : Nat → Prop} {w0 : World} {F0 : Env P} {S : St} {β : Nat → Option Hd} {F : Nat → Prop} {a : Act} {w : World} {Q : Ex → St → Prop}, ex P assign S Q → Rel B w0 F0 S β F a w → assign.wpIn (FW F0.r) 0 P (Aft B w0 F0 Q) a w)
    (ihB : ∀ {B : Nat → Prop} {w0 : World} {F0 : Env P} {S : St} {β : Nat → Option Hd} {F : Nat → Prop} {a : Act} {w : World} {Q : Ex → St → Prop}, ex P bodyC S Q → Rel B w0 F0 S β F a w → bodyC.wpIn (FW F0.r) 0 P (Aft B w0 F0 Q) a w)
    {Q : Ex → St → Prop} (h : ex P (.rangeFunc g ps assign bodyC) S Q) (hR : Rel B w0 F0 S β F a w) : (Code.rangeFunc g ps assign bodyC).wpIn (FW F0.r) 0 P (Aft B w0 F0 Q) a w := by
  simp only [ex] at h
  split at h
  · exact h.elim
  · exact h.elim
  rename_i hn
  split at h
  case h_2 => exact h.elim
  rename_i gf caps hg
  obtain ⟨hcl, xs, bs, BR, I, ⟨hsq, hfl⟩, h⟩ := h
  rw [fNs_eq] at h
  generalize ps.toList ++ (dstsC assign ++ dstsC bodyC) = ds at h
  obtain ⟨hkill, hentry, hround, hdone⟩ := h
  have hpl : F0.n = .plain := hR.nn ▸ hn
  have hr : F0.r = none := F0.nr (by intro ks e; rw [hpl] at e; cases e)
  have hkill' : ∀ d ∈ ds, F0.β d = none := fun d hd => hR.topn d (List.all_eq_true.1 hkill d hd)
  obtain ⟨vals, brows, vrows, ⟨hI0, rfl, rfl, rfl⟩, β0, hRA0⟩ := atHead_snd hR.nn hR hentry
  obtain ⟨β1, _, _, hRA⟩ := hRA0.kills ds hkill'
  let A : Nat → St := fun k => (mkHead ds S [] bs [] [] (BR k) []).kills ds
  have hAn : ∀ k, (A k).n = .plain := fun k => (kills_n ds _).trans hn
  have hAt : ∀ k, (A k).t = (A 0).t := fun k => kills_t_congr ds rfl
  have hAid : ∀ k, (A k).kills ds = A k := fun k => kills_idem ds _
  replace hRA : Rel B w0 F0 (A 0) β1 F a w := hRA
  -- the iterator's value
  have hf := hR.get g
  rw [hg] at hf
  obtain ⟨vs0, us, hv, l1, l2, _, r2⟩ := hf.fn_inv
  obtain rfl : vs0 = #[] := Array.eq_empty_of_size_eq_zero l1.symm
  rw [hr]
  refine wpIn_rangeFunc ?_
  intro fn hfn
  obtain ⟨rc, hrc⟩ : ∃ rc : LoopState → Option Code → Loop, rc = fun st pe => { state := st, pending := pe, fn, tmps := a.tmps, params := ps, assign, body := bodyC, defers := w.heap.size } := ⟨_, rfl⟩
  obtain ⟨W1, hW1⟩ : ∃ W1, (w.alloc (.deferred (some []))).alloc (.loop (rc .ready none)) = W1 := ⟨_, rfl⟩
  have hL1 : W1.heap[w.heap.size + 1]? = some (.loop (rc .ready none)) := by
    rw [← hW1]; have := World.alloc_heap_new (w.alloc (.deferred (some []))) (.loop (rc .ready none)); rwa [World.size_alloc] at this
  have hD1 : W1.heap[w.heap.size]? = some (.deferred (some [])) := by
    rw [← hW1]; exact (RowKit.Below.heap_alloc _ _ _ (by simp)).trans (World.alloc_heap_new w _)
  have hold1 : ∀ b, b < w.heap.size → W1.heap[b]? = w.heap[b]? := fun b hb => by
    rw [← hW1]; exact (RowKit.Below.heap_alloc _ _ _ (by simp; omega)).trans (RowKit.Below.heap_alloc _ _ _ hb)
  have hos1 : W1.os = w.os ∧ W1.tape = w.tape ∧ W1.output = w.output := by rw [← hW1]; exact ⟨rfl, rfl, rfl⟩
  have hsz1 : W1.heap.size = w.heap.size + 2 := by rw [← hW1]; simp
  have hw0 : w0.heap.size ≤ w.heap.size := hR.below.size
  have hcells : ∀ {k : Nat} {o : Obj}, w.heap[k]? = some o → k < w.heap.size := fun h => (Array.getElem?_eq_some_iff.1 h).1
  have hmk : ∀ D, markOf D ∈ a.defers → D < w.heap.size := fun D hD => by
    obtain ⟨Ds, ⟨h1, h0⟩, h2, h3⟩ := hR.marks
    rw [h1] at hD
    obtain ⟨D', hD', e⟩ := List.mem_map.1 hD
    have : D' = D := by simpa [markOf] using e
    subst this
    exact hcells (h3 D' hD').1
  -- the invariant
  let J : Nat → Bool → (Nat → Prop) → World → Prop := fun k e O W => ∃ S' β' F', Rel B w0 F0 S' β' F' a W ∧ (∀ b, F b → F' b) ∧ (∀ b, O b → w.heap.size + 2 ≤ b) ∧ (∀ i b, blk β' i = some b → ¬ O b ∧ b ≠ w.heap.size + 1 ∧ b ≠ w.heap.size) ∧
    (∀ b, F' b → ¬ O b ∧ b ≠ w.heap.size + 1 ∧ b ≠ w.heap.size) ∧ W.heap[w.heap.size]? = some (.deferred (some [])) ∧ w.heap.size + 2 ≤ W.heap.size ∧
    ((e = false ∧ S' = A k ∧ I k ∧ W.heap[w.heap.size + 1]? = some (.loop (rc .ready none))) ∨
     (e = true ∧ ∃ c, W.heap[w.heap.size + 1]? = some (.loop (rc .done (some c))) ∧ ((c = .ret ∧ Q .ret S') ∨ ∃ i, c = .exit i ∧ Q (.exit i) S')))
  have hJ0 : J 0 false (fun _ => False) W1 := by
    refine ⟨A 0, β1, F, hRA.other hos1 (by omega) (O := fun _ => False) (fun b hb _ => hold1 b hb) (fun _ h => h.elim) (fun _ h => h.elim) (fun _ _ _ _ h => h) (fun _ _ h => h) (fun _ _ h => h) (hRA.noctr hpl), fun _ h => h, fun _ h => h.elim, fun i b hb => ?_, fun b hb => ?_, hD1, by omega, .inl ⟨rfl, rfl, hI0, hL1⟩⟩
    · have := (hRA.bB i b hb).2; exact ⟨fun h => h, by omega, by omega⟩
    · have := (hRA.FB b hb).1; exact ⟨fun h => h, by omega, by omega⟩
  have hst : ∀ k e O W W', J k e O W → (∀ b, b < W.heap.size → ¬ O b → W'.heap[b]? = W.heap[b]?) → W'.os = W.os → W'.tape = W.tape → W'.output = W.output → W.heap.size ≤ W'.heap.size → J k e (fun b => O b ∨ (W.heap.size ≤ b ∧ b < W'.heap.size)) W' := by
    rintro k e O W W' ⟨S', β', F', hR', j1, j2, j3, j4, j5, j6, j7⟩ h1 h2 h3 h4 h5
    have o1 : ¬ O (w.heap.size + 1) := fun h => by have := j2 _ h; omega
    have o2 : ¬ O w.heap.size := fun h => by have := j2 _ h; omega
    refine ⟨S', β', F', hR'.other ⟨h2, h3, h4⟩ h5 h1 (fun b hb => hR.BW b (by have := j2 b hb; omega)) (fun b hb => by have := j2 b hb; omega) (fun i b _ hb => (j3 i b hb).1) (fun b hb => (j4 b hb).1) (fun D hD h => by have := j2 D h; have := hmk D hD; omega) (hR'.noctr hpl), j1, ?_, ?_, ?_, ?_, by omega, ?_⟩
    · rintro b (h | h)
      · exact j2 b h
      · omega
    · intro i b hb
      have := (hR'.bB i b hb).2
      exact ⟨fun h => h.elim (j3 i b hb).1 fun h => by omega, (j3 i b hb).2⟩
    · intro b hb
      have := (hR'.FB b hb).1
      exact ⟨fun h => h.elim (j4 b hb).1 fun h => by omega, (j4 b hb).2⟩
    · rw [h1 _ (by omega) o2]; exact j5
    · rcases j7 with ⟨e1, e2, e3, e4⟩ | ⟨e1, c, e2, e3⟩
      · exact .inl ⟨e1, e2, e3, by rw [h1 _ (by omega) o1]; exact e4⟩
      · exact .inr ⟨e1, c, by rw [h1 _ (by omega) o1]; exact e2, e3⟩
  -- one round
  have hrd : ∀ k O W vs x, J k false O W → xs[k]? = some x → (∀ b, O b → b < W.heap.size) → vs.size = x.length → (∀ i, i < x.length → RepI (fun _ => False) W (x.getD i .any) (vs.getD i undef)) →
      YieldAt Fence.wide 0 P (w.heap.size + 1) vs W fun e W' => W'.os = W.os ∧ W'.tape = W.tape ∧ W'.output = W.output ∧ W.heap.size ≤ W'.heap.size ∧ (∀ b, O b → W'.heap[b]? = W.heap[b]?) ∧ Keeps F W W' ∧
        ((e = .returned (.bool true) ∧ J (k + 1) false O W') ∨ (e = .returned (.bool false) ∧ J (k + 1) true O W')) := by
    rintro k O W vs x ⟨S', β', F1, hR1, j1, j2, j3, j4, j5, j6, j7⟩ hx hOs hvs hrep
    rcases j7 with ⟨_, rfl, hIk, hl⟩ | ⟨e1, _⟩
    case inr => cases e1
    have hxm : x ∈ xs := List.mem_of_getElem? hx
    obtain ⟨hxf, hxl⟩ := hfl x hxm
    have hy := run_yield (P := P) (args := vs) hl (by rw [hrc, hvs]; exact hxl)
    rw [hrc] at hy
    refine ⟨fn, _, assign, bodyC, hy, roundIn_of_wpIn hfn ?_⟩
    clear hy
    obtain ⟨β2, k1, k2, hR2⟩ := Rel.kills' ds hkill' hR1
    rw [hAid] at hR2
    have b2 : ∀ i b, blk β2 i = some b → blk β' i = some b := fun i b hb => by
      rcases k2 i with h | h
      · simpa [blk, h] using hb
      · simp [blk, h] at hb
    have hlrW : w.heap.size + 1 < W.heap.size := by omega
    let Br : Nat → Prop := fun b => W.heap.size ≤ b ∨ ∃ i, blk β2 i = some b
    let E : Env P := Env.plain P F1 β2 (some (w.heap.size + 1)) (.round ds) (fun h => absurd rfl (h ds))
    have hBrO : ∀ b, Br b → ¬ O b ∧ b ≠ w.heap.size + 1 ∧ b ≠ w.heap.size := fun b hb => by
      rcases hb with h | ⟨i, h⟩
      · exact ⟨fun ho => by have := hOs b ho; omega, by omega, by omega⟩
      · exact j3 i b (b2 i b h)
    have hBrB : ∀ b, Br b → B b := fun b hb => by
      rcases hb with h | ⟨i, h⟩
      · exact hR2.BW b h
      · exact (hR2.bB i b h).1
    have hset := setPs_rep (β := β2) (w := W) (F := F1) ps.toList x vs.toList (A k).t a.tmps (by simp [hvs]) (fun i hi => .imm (by
      have := (hrep i hi).mono (F' := F1) (w' := W) (fun _ h => h.elim) (fun _ _ _ h _ => h.elim)
      simpa [Array.getD_eq_getD_getElem?, List.getD_eq_getElem?_getD] using this)) hR2.len hR2.slots
    have hfold : (ps.zip vs).foldl (fun tmps (t, a) => tmps.setIfInBounds t a) a.tmps = (ps.toList.zip vs.toList).foldl (fun t (p, v) => t.setIfInBounds p v) a.tmps := by
      rw [← Array.foldl_toList, Array.toList_zip]
    rw [← hfold] at hset
    have hRr : Rel Br W E ⟨setPs (A k).t ps.toList x, (A k).h, .round ds⟩ β2 F1 { tmps := (ps.zip vs).foldl (fun tmps (t, a) => tmps.setIfInBounds t a) a.tmps, defers := [] } W := {
      len := by rw [setPs_length, hset.1]; exact hR2.len
      slots := fun i hi => hset.2 i (by simpa [setPs_length] using hi)
      marks := ⟨[], ⟨rfl, fun _ => rfl⟩, .nil, by simp⟩
      rows := hR2.rows
      inj := hR2.inj
      bF := hR2.bF
      bB := fun i b h => ⟨.inr ⟨i, h⟩, (hR2.bB i b h).2⟩
      FB := fun b h => ⟨(hR2.FB b h).1, .inl h⟩
      below := .refl _ _
      BW := fun b h => .inl h
      top := fun _ _ h => h
      topn := fun j hj => by
        simp only [mayKill] at hj
        split at hj
        · exact k1 j (hasN_iff.1 hj)
        · cases hj
      nn := rfl
      inc := fun _ h => h
      keep := Keeps.refl _ _
      sol := fun _ _ _ h _ => h
      yl := fun id l xs k' e h => absurd h (hR2.noctr hpl id l xs k' e) }
    have hex := hround k x hIk hx
    rw [fSt_eq, fSt_eq] at hex
    refine wpIn_mono (ihA hex hRr) ?_
    rintro e a1 Wa hq
    cases e with
    | ret => obtain ⟨S3, hb, _⟩ := hq; exact hb.elim
    | exit i => obtain ⟨S3, hb, _⟩ := hq; exact hb.elim
    | goto l => exact hq.elim
    | panic ch => exact hq.elim
    | outgrown => exact hq.elim
    | normal =>
    obtain ⟨S3, hb, β3, F3, hR3⟩ := hq
    simp only [] at hb
    have hla : Wa.heap[w.heap.size + 1]? = some (.loop (rc .ready none)) := by rw [hR3.below.block _ fun h => (hBrO _ h).2.1 rfl]; exact hl
    refine ⟨_, run_beginRound hla (by rw [hrc]), ?_⟩
    obtain ⟨W2, hW2⟩ : ∃ W2, Wa.putObj (w.heap.size + 1) (.loop { rc .ready none with state := .busy }) = W2 := ⟨_, rfl⟩
    rw [hW2]
    have hl2 : W2.heap[w.heap.size + 1]? = some (.loop { rc .ready none with state := .busy }) := by rw [← hW2]; exact World.putObj_heap_same (Array.getElem?_eq_some_iff.1 hla).1
    have hoth2 : ∀ b, b ≠ w.heap.size + 1 → W2.heap[b]? = Wa.heap[b]? := fun b hb => by rw [← hW2]; exact World.putObj_heap_other hb
    have hsz2 : W2.heap.size = Wa.heap.size := by rw [← hW2]; simp
    have hos2 : W2.os = Wa.os ∧ W2.tape = Wa.tape ∧ W2.output = Wa.output := by rw [← hW2]; exact ⟨rfl, rfl, rfl⟩
    have hk2 : ∀ {G : Nat → Prop}, Keeps G Wa W2 := fun {G} => by rw [← hW2]; exact keeps_putObj hla rfl
    have hsz3 := hR3.below.size
    let Br2 : Nat → Prop := fun b => W2.heap.size ≤ b ∨ (∃ i, blk β3 i = some b) ∨ markOf b ∈ a1.defers
    have hmk3 : ∀ D, markOf D ∈ a1.defers → Br D ∧ Wa.heap[D]? = some (.deferred (some [])) := fun D hD => by
      obtain ⟨Ds, ⟨h1, h0⟩, h2, h3⟩ := hR3.marks
      rw [h1] at hD
      obtain ⟨D', hD', e⟩ := List.mem_map.1 hD
      have : D' = D := by simpa [markOf] using e
      subst this
      exact ⟨(h3 D' hD').2.1, (h3 D' hD').1⟩
    have hBr2 : ∀ b, Br2 b → Br b := fun b hb => by
      rcases hb with h | ⟨i, h⟩ | h
      · exact .inl (by omega)
      · exact (hR3.bB i b h).1
      · exact (hmk3 b h).1
    let E2 : Env P := Env.plain P F3 (fun j => if hasN j ds = true then none else β3 j) (some (w.heap.size + 1)) (.round ds) (fun h => absurd rfl (h ds))
    have hRr2 : Rel Br2 W2 E2 S3 β3 F3 a1 W2 := {
      len := hR3.len
      slots := fun i hi => (hR3.slots i hi).grow (fun _ _ => rfl) (fun _ h => h) hk2
      marks := by
        obtain ⟨Ds, ⟨h1, h0⟩, h2, h3⟩ := hR3.marks
        obtain rfl := h0 (by intro h; cases h)
        exact ⟨[], ⟨h1, fun _ => rfl⟩, .nil, by simp⟩
      rows := fun j => (hR3.rows j).grow (fun _ _ => rfl) (fun _ h => h) hk2 fun b hb => hoth2 b (hBrO b (hR3.bB j b hb).1).2.1
      inj := hR3.inj
      bF := hR3.bF
      bB := fun i b h => ⟨.inr (.inl ⟨i, h⟩), by rw [hsz2]; exact (hR3.bB i b h).2⟩
      FB := fun b h => ⟨by rw [hsz2]; exact (hR3.FB b h).1, .inl h⟩
      below := .refl _ _
      BW := fun b h => .inl h
      top := fun j hd h => by
        have h : (if hasN j ds = true then none else β3 j) = some hd := h
        split at h
        · cases h
        · exact h
      topn := fun j hj => by
        have hn3 : S3.n = .round ds := hR3.nn
        simp only [mayKill, hn3] at hj
        split at hj
        · show (if hasN j ds = true then none else β3 j) = none
          rw [if_pos hj]
        · cases hj
      nn := hR3.nn
      inc := fun _ h => h
      keep := Keeps.refl _ _
      sol := fun _ _ _ h _ => h
      yl := fun id l xs k' e h => by obtain ⟨_, _, _, O', hJ', _⟩ := hR3.yl id l xs k' e h; exact hJ'.elim }
    refine wpIn_mono (ihB hb hRr2) ?_
    -- the round's end
    have fin : ∀ (S4 : St) (β4 : Nat → Option Hd) (F4 : Nat → Prop) (a2 : Act) (W3 : World) (jump : Option Code), Rel Br2 W2 E2 S4 β4 F4 a2 W3 →
        ∃ W4, (Instr.endRound (w.heap.size + 1) jump).run P W3 = .ok (.bool jump.isNone) W4 ∧ (W4.os = W.os ∧ W4.tape = W.tape ∧ W4.output = W.output) ∧ W.heap.size ≤ W4.heap.size ∧ (∀ b, O b → W4.heap[b]? = W.heap[b]?) ∧ Keeps F W W4 ∧
          Rel B w0 F0 ⟨(A k).t, S4.h, .plain⟩ β4 F4 a W4 ∧ (∀ b, F b → F4 b) ∧ (∀ i b, blk β4 i = some b → ¬ O b ∧ b ≠ w.heap.size + 1 ∧ b ≠ w.heap.size) ∧ (∀ b, F4 b → ¬ O b ∧ b ≠ w.heap.size + 1 ∧ b ≠ w.heap.size) ∧
          W4.heap[w.heap.size]? = some (.deferred (some [])) ∧ W4.heap[w.heap.size + 1]? = some (.loop (rc (if jump.isNone then .ready else .done) jump)) := by
      intro S4 β4 F4 a2 W3 jump hR4
      have nlr : ¬ Br2 (w.heap.size + 1) := fun h => (hBrO _ (hBr2 _ h)).2.1 rfl
      have hl3 : W3.heap[w.heap.size + 1]? = some (.loop { rc .ready none with state := .busy }) := by rw [hR4.below.block _ nlr]; exact hl2
      have hend := run_endRound (P := P) jump hl3
      rw [hrc] at hend
      obtain ⟨W4, hW4⟩ : ∃ W4, W3.putObj (w.heap.size + 1) (.loop (rc (if jump.isNone then .ready else .done) jump)) = W4 := ⟨_, rfl⟩
      have hoth4 : ∀ b, b ≠ w.heap.size + 1 → W4.heap[b]? = W3.heap[b]? := fun b hb => by rw [← hW4]; exact World.putObj_heap_other hb
      have hl4 : W4.heap[w.heap.size + 1]? = some (.loop (rc (if jump.isNone then .ready else .done) jump)) := by rw [← hW4]; exact World.putObj_heap_same (Array.getElem?_eq_some_iff.1 hl3).1
      have hk4 : ∀ {G : Nat → Prop}, Keeps G W3 W4 := fun {G} => by rw [← hW4]; exact keeps_putObj hl3 rfl
      have hsz4 : W4.heap.size = W3.heap.size := by rw [← hW4]; simp
      have hos4 : W4.os = W3.os ∧ W4.tape = W3.tape ∧ W4.output = W3.output := by rw [← hW4]; exact ⟨rfl, rfl, rfl⟩
      have hszR := hR4.below.size
      have same : ∀ b, ¬ Br b → b ≠ w.heap.size + 1 → W4.heap[b]? = W.heap[b]? := fun b hb hne => by
        rw [hoth4 b hne, hR4.below.block b fun h => hb (hBr2 b h), hoth2 b hne, hR3.below.block b hb]
      have hinc : ∀ b, F1 b → F4 b := fun b h => hR4.inc b (hR3.inc b h)
      have hkeep : Keeps F1 W W4 := fun b o u hb hc => hk4 (G := fun _ => True) b o u trivial (hR4.keep b o u (hR3.inc b hb) (hk2 (G := fun _ => True) b o u trivial (hR3.keep b o u hb hc)))
      have hbB : ∀ i b, blk β4 i = some b → Br b ∧ b < W3.heap.size := fun i b h => ⟨hBr2 b (hR4.bB i b h).1, (hR4.bB i b h).2⟩
      have hFB : ∀ b, F4 b → b < W3.heap.size ∧ (F1 b ∨ Br b) := fun b h => by
        obtain ⟨h1, h2⟩ := hR4.FB b h
        refine ⟨h1, ?_⟩
        rcases h2 with h2 | h2
        · exact (hR3.FB b h2).2
        · exact .inr (hBr2 b h2)
      refine ⟨W4, by rw [← hW4, hrc]; exact hend, ?_, by omega, fun b hb => same b (fun h => (hBrO b h).1 hb) (by have := j2 b hb; omega), fun b o u hb hc => hkeep b o u (j1 b hb) hc, ?_, fun b hb => hinc b (j1 b hb), fun i b h => hBrO b (hbB i b h).1, fun b h => (hFB b h).2.elim (j4 b) (hBrO b), ?_, hl4⟩
      · have e1 := hR4.below
        have e2 := hR3.below
        exact ⟨hos4.1.trans (e1.os.trans (hos2.1.trans e2.os)), hos4.2.1.trans (e1.tape.trans (hos2.2.1.trans e2.tape)), hos4.2.2.trans (e1.output.trans (hos2.2.2.trans e2.output))⟩
      · have key := hR2.back hpl (w' := W4) (β' := β4) (F' := F4) (h' := S4.h) (fun j hj => ?_) hinc hkeep ?_ (by omega) (fun id => ?_) hR4.inj hR4.bF (fun i b h => ⟨hBrB b (hbB i b h).1, by rw [hsz4]; exact (hbB i b h).2⟩) (fun b h => ?_) (fun b hb hnB => ?_) (fun q o ho hc hq => ?_) (fun id l xs' k' e h => ?_)
        · rw [hAn] at key; exact key
        · have hnd : hasN j ds = false := by
            cases hh : hasN j ds with
            | false => rfl
            | true => exact absurd (k1 j (hasN_iff.1 hh)) hj
          cases hb2 : β2 j with
          | none => exact absurd hb2 hj
          | some hd =>
            have h3 := hR3.top j hd hb2
            refine hR4.top j hd ?_
            show (if hasN j ds = true then none else β3 j) = some hd
            rw [hnd]; simpa using h3
        · have e1 := hR4.below
          have e2 := hR3.below
          exact ⟨hos4.1.trans (e1.os.trans (hos2.1.trans e2.os)), hos4.2.1.trans (e1.tape.trans (hos2.2.1.trans e2.tape)), hos4.2.2.trans (e1.output.trans (hos2.2.2.trans e2.output))⟩
        · exact (hR4.rows id).grow (fun _ _ => rfl) (fun _ h => h) hk4 fun b hb => hoth4 b (hBrO b (hbB id b hb).1).2.1
        · obtain ⟨h1, h2⟩ := hFB b h
          refine ⟨by omega, ?_⟩
          rcases h2 with h2 | h2
          · exact (hR2.FB b h2).2
          · exact .inr (hBrB b h2)
        · refine same b (fun h => hnB (hBrB b h)) fun e => hnB ?_
          rw [e]; exact hR.BW _ (by omega)
        · have hlt : q < w.heap.size := by
            rcases hq with h | h
            · omega
            · exact hmk q h
          have h3 := hR3.sol (by intro h; cases h) q o ho hc
          rw [hoth4 q (by omega)]
          refine hR4.sol (by intro h; cases h) q o ?_ hc
          rw [hoth2 q (by omega)]
          exact h3
        · obtain ⟨_, _, _, O', hJ', _⟩ := hR4.yl id l xs' k' e h
          exact hJ'.elim
      · rw [same _ (fun h => (hBrO _ h).2.2 rfl) (by omega)]; exact j5
    rintro e a2 W3 hq
    cases e with
    | normal =>
      obtain ⟨S4, h4, β4, F4, hR4⟩ := hq
      simp only [] at h4
      rw [fRows_eq] at h4
      obtain ⟨⟨hIk', hbr⟩, hmask⟩ := h4
      obtain ⟨W4, q1, q2, q3, q4, q5, q6, q7, q8, q9, q10, q11⟩ := fin S4 β4 F4 a2 W3 none hR4
      refine ⟨_, W4, q1, q2.1, q2.2.1, q2.2.2, q3, q4, q5, .inl ⟨rfl, A (k + 1), β4, F4, ?_, q7, j2, q8, q9, q10, by omega, .inl ⟨rfl, rfl, hIk', q11⟩⟩⟩
      rw [hbr] at hmask
      have hm2 := maskH_spec hmask
      have : Rel B w0 F0 ⟨(A k).t, (A (k + 1)).h, .plain⟩ β4 F4 a W4 := q6.forget rfl rfl fun i => (hm2 i).symm
      rw [hAt k, ← hAt (k + 1), ← hAn (k + 1)] at this
      exact this
    | ret =>
      obtain ⟨S4, h4, β4, F4, hR4⟩ := hq
      obtain ⟨W4, q1, q2, q3, q4, q5, q6, q7, q8, q9, q10, q11⟩ := fin S4 β4 F4 a2 W3 (some .ret) hR4
      exact ⟨_, W4, q1, q2.1, q2.2.1, q2.2.2, q3, q4, q5, .inr ⟨rfl, _, β4, F4, q6, q7, j2, q8, q9, q10, by omega, .inr ⟨rfl, .ret, q11, .inl ⟨rfl, h4⟩⟩⟩⟩
    | exit i =>
      obtain ⟨S4, h4, β4, F4, hR4⟩ := hq
      obtain ⟨W4, q1, q2, q3, q4, q5, q6, q7, q8, q9, q10, q11⟩ := fin S4 β4 F4 a2 W3 (some (.exit i)) hR4
      exact ⟨_, W4, q1, q2.1, q2.2.1, q2.2.2, q3, q4, q5, .inr ⟨rfl, _, β4, F4, q6, q7, j2, q8, q9, q10, by omega, .inr ⟨rfl, .exit i, q11, .inr ⟨i, rfl, h4⟩⟩⟩⟩
    | goto l => exact hq.elim
    | panic ch => exact hq.elim
    | outgrown => exact hq.elim
  obtain ⟨eg, hcall⟩ := hsq F W1 us (w.heap.size + 1) J (fun b hb => by have := (hR.FB b hb).1; omega) l2.symm (fun i hi => by
    have hi' := (r2 i hi).shut (closedL_getD hcl i)
    exact hi'.mono (fun _ h => h) (fun b o u hb hc => by rw [World.cell?_of_block (w := w) (hold1 b (hR.FB b hb).1)]; exact hc)) hst hrd hJ0
  refine ⟨w.heap.size + 1, [markOf w.heap.size], W1, { target := .fn (.func gf) us, args := #[.func (.yield (w.heap.size + 1)) #[] #[]] }, W1, gf, #[.func (.yield (w.heap.size + 1)) #[] #[]] ++ us, W1, ?_, ?_, ?_, ?_, fun h => (by cases h), ?_⟩
  · rw [← hW1, hrc]; exact run_enterLoop_outer _ _ _ _ _
  · simp only [resolve, hv]
    simp [go_sem]
  · intro f' _; trivial
  · simp [invoke, go_sem, eg]
  · refine CallsIn.mono hcall ?_
    rintro e W2 ⟨⟨v, rfl⟩, _, _, _, hszW, O, k, e', ⟨S', β', F', hR', j1, j2, j3, j4, j5, j6, j7⟩, hk⟩
    have hfresh : markOf w.heap.size ∉ a.defers := fun h => by have := hmk _ h; omega
    have after : ∀ (o : Obj), (∃ r : Loop, W2.heap[w.heap.size + 1]? = some (.loop r)) → Rel B w0 F0 S' β' F' { a with defers := [markOf w.heap.size] ++ a.defers } (W2.putObj (w.heap.size + 1) o) := fun o ⟨r, hl⟩ => by
      have h1 : Rel B w0 F0 S' β' F' a (W2.putObj (w.heap.size + 1) o) := hR'.other ⟨rfl, rfl, rfl⟩ (by simp) (O := fun b => b = w.heap.size + 1) (fun b _ hb => World.putObj_heap_other hb) (fun b e => by rw [e]; exact hR.BW _ (by omega)) (fun b e => by omega)
        (fun i b _ hb e => (j3 i b hb).2.1 e) (fun b hb e => (j4 b hb).2.1 e) (fun D hD e => by have := hmk D hD; omega) (hR'.noctr hpl)
      exact h1.marked hpl ((World.putObj_heap_other (by omega)).trans j5) (hR.BW _ (Nat.le_refl _)) hw0 hfresh
    rcases j7 with ⟨rfl, rfl, hIk, hl⟩ | ⟨rfl, c, hl, hc⟩
    · obtain rfl := hk rfl
      refine ⟨none, _, by have := run_endLoop (P := P) hl (by rw [hrc]; simp); rw [hrc] at this; exact this, ?_⟩
      have hd := hdone hIk
      rw [fSt_eq] at hd
      exact ⟨_, hd, β', F', after _ ⟨_, hl⟩⟩
    · refine ⟨some c, _, by have := run_endLoop (P := P) hl (by rw [hrc]; simp); rw [hrc] at this; exact this, ?_⟩
      rcases hc with ⟨rfl, hq⟩ | ⟨i, rfl, hq⟩
      · exact wpIn_ret ⟨S', hq, β', F', after _ ⟨_, hl⟩⟩
      · exact wpIn_exit ⟨S', hq, β', F', after _ ⟨_, hl⟩⟩

theorem ex_snd (hm : P.follows .mixedOrders = true) : ∀ (c : Code) {B : Nat → Prop} {w0 : World} {F0 : Env P} {S : St} {β : Nat → Option Hd} {F : Nat → Prop} {a : Act} {w : World} {Q : Ex → St → Prop}, ex P c S Q → Rel B w0 F0 S β F a w → c.wpIn (FW F0.r) 0 P (Aft B w0 F0 Q) a w := by
  intro c
  induction c with
  | skip => intro B w0 F0 S β F a w Q h hR; exact wpIn_skip (.norm hR h)
  | label l => intro B w0 F0 S β F a w Q h hR; exact wpIn_label (.norm hR h)
  | ret => intro B w0 F0 S β F a w Q h hR; exact wpIn_ret ⟨S, h, β, F, hR⟩
  | exit i => intro B w0 F0 S β F a w Q h hR; exact wpIn_exit ⟨S, h, β, F, hR⟩
  | region id ops draw =>
    intro B w0 F0 S β F a w Q h hR
    cases draw with
    | false =>
      refine wpIn_region ?_
      rw [List.range_eq_range']
      have := uRun_snd (P := P) (ops := ops) (K := fun S => fSt S (Q .norm)) (Q := Aft B w0 F0 Q) (fun S β F a w hR h => by rw [fSt_eq] at h; exact .norm hR h) ops.toList 0 (by simp) hR h
      simpa using this
    | true =>
      obtain ⟨h1, h2⟩ := h
      rw [fSt_eq] at h2
      have hr : F0.r = none := F0.nr (fun ks e => by
        have hn := hR.nn.trans e
        simp only [Bool.and_eq_true, hn, Md.calm] at h1
        exact absurd h1.2 (by simp))
      rw [hr]
      exact wpIn_wide.2 (lexRun_snd (K := fun S => fSt S (Q .norm)) hm (fun S β F a w hR h => by rw [fSt_eq] at h; exact .norm hR h) hR h1 h2)
  | seq x y ihx ihy =>
    intro B w0 F0 S β F a w Q h hR
    refine wpIn_seq (wpIn_mono (ihx h hR) ?_)
    rintro e a' w' hq
    cases e with
    | normal => obtain ⟨S', h1, β', F', h2⟩ := hq; exact ihy h1 h2
    | ret => exact hq
    | exit i => exact hq
    | goto l => exact hq
    | panic ch => exact hq
    | outgrown => exact hq
  | cond c x y ihx ihy =>
    intro B w0 F0 S β F a w Q h hR
    simp only [ex] at h
    have hc := hR.get c
    split at h
    · rename_i e; rw [e] at hc; exact wpIn_cond_true hc.tt_inv (ihx h hR)
    · rename_i e; rw [e] at hc; exact wpIn_cond_false hc.ff_inv (ihy h hR)
    · rename_i b e
      rw [e] at hc
      exact wpIn_cond_split hc.bool_inv (fun hb => ihx (h.1 hb) hR) fun hb => ihy (h.2 hb) hR
    · exact h.elim
  | block id x ih =>
    intro B w0 F0 S β F a w Q h hR
    refine wpIn_block (wpIn_mono (ih h hR) ?_)
    rintro e a' w' hq
    cases e with
    | normal => exact hq
    | ret => exact hq
    | exit i =>
      obtain ⟨S', h1, β', F', h2⟩ := hq
      simp only [] at h1
      cases hb : Nat.beq i id with
      | true =>
        rw [hb] at h1
        have := Nat.eq_of_beq_eq_true hb
        simp only [Exit.inBlock, this, if_true]
        exact ⟨S', h1, β', F', h2⟩
      | false =>
        rw [hb] at h1
        have := Nat.ne_of_beq_eq_false hb
        simp only [Exit.inBlock, this, if_false]
        exact ⟨S', h1, β', F', h2⟩
    | goto l => exact hq
    | panic ch => exact hq
    | outgrown => exact hq
  | loop x ih =>
    intro B w0 F0 S β F a w Q h hR
    rcases h with ⟨n, h⟩ | ⟨ι, ws, bs, vs, V, BR, VR, μ, I, h⟩
    · exact unr_snd ih n h hR
    · rw [fNs_eq, fSt_eq] at h
      obtain ⟨⟨i, h0⟩, hstep⟩ := h
      have hn0 : (Ev.canonV vs S).n = F0.n := (canonV_n vs S).trans hR.nn
      obtain ⟨vals, brows, vrows, ⟨hI, rfl, rfl, rfl⟩, β', hR'⟩ := atHead_snd hn0 hR h0
      refine wpIn_loop_ghost (fun n a w => ∃ i, μ i = n ∧ I i ∧ ∃ β F, Rel B w0 F0 (mkHead (dstsC x) (Ev.canonV vs S) ws bs vs (V i) (BR i) (VR i)) β F a w) (μ i) ⟨i, rfl, hI, β', F, hR'⟩ ?_
      rintro n a w ⟨i, rfl, hI, β', F, hR'⟩
      have h1 := hstep i hI
      rw [fSt_eq] at h1
      refine wpIn_mono (ih h1 hR') ?_
      rintro e a' w' hq
      cases e with
      | normal =>
        obtain ⟨S', ⟨i', h1⟩, β', F', h2⟩ := hq
        obtain ⟨vals, brows, vrows, ⟨⟨hlt, hI'⟩, rfl, rfl, rfl⟩, β', hR'⟩ := atHead_snd hn0 h2 h1
        exact ⟨_, hlt, i', rfl, hI', β', F', hR'⟩
      | ret => exact hq
      | exit i => exact hq
      | goto l => exact hq
      | panic ch => exact hq
      | outgrown => exact hq
  | rangeFunc g ps assign bodyC ihA ihB =>
    intro B w0 F0 S β F a w Q h hR
    exact rangeFunc_snd ihA ihB h hR
  | _ => intro B w0 F0 S β F a w Q h; exact h.elim

end
end Go.Ev
