/- What the law of a range over a function leans on. A helper text: it speaks of no program. -/
import Derived.Test.YtanhmmiifbhcpaaEvR
import Derived.Deep.LoopGhost
set_option linter.unusedVariables false
set_option linter.unusedSimpArgs false
namespace Go.Ev
section
variable {P : Program} {B : Nat → Prop} {w0 : World} {F0 : Env P} {S : St} {β : Nat → Option Hd} {F : Nat → Prop} {a : Act} {w : World} {ops : Array Oper}

theorem Rel.noctr (hR : Rel B w0 F0 S β F a w) (h : F0.n = .plain) : ∀ id l xs k e, S.row id ≠ .ctr l xs k e := fun id l xs k e hr => by
  obtain ⟨_, _, _, O, hJ, _⟩ := hR.yl id l xs k e hr
  have := F0.ni _ _ _ _ hJ
  rw [h] at this; cases this

/-! ### To give up a row twice is to give it up once -/
theorem killAV_comm (d e : Nat) (x : AV) : killAV d (killAV e x) = killAV e (killAV d x) := by
  unfold killAV
  cases h1 : x.names d <;> cases h2 : x.names e <;> simp [h1, h2, AV.names]
theorem killAV_idem (d : Nat) (x : AV) : killAV d (killAV d x) = killAV d x := by
  unfold killAV
  cases h1 : x.names d <;> simp [h1, AV.names]
theorem killRow_comm (d e : Nat) (r : Row) : killRow d (killRow e r) = killRow e (killRow d r) := by
  cases r <;> simp [killRow, killAV_comm d e]
theorem killRow_idem (d : Nat) (r : Row) : killRow d (killRow d r) = killRow d r := by
  cases r <;> simp [killRow, killAV_idem d]
theorem kill_idem (S : St) (d : Nat) : (S.kill d).kill d = S.kill d := by
  have h1 : (killAV d ∘ killAV d) = killAV d := funext (killAV_idem d)
  have h2 : (killRow d ∘ killRow d) = killRow d := funext (killRow_idem d)
  simp only [St.kill, List.map_map, List.map_set, h1, h2, killRow, List.set_set]
theorem kill_comm (S : St) (d e : Nat) : (S.kill e).kill d = (S.kill d).kill e := by
  have h1 : (killAV d ∘ killAV e) = (killAV e ∘ killAV d) := funext (killAV_comm d e)
  have h2 : (killRow d ∘ killRow e) = (killRow e ∘ killRow d) := funext (killRow_comm d e)
  simp only [St.kill, List.map_map, List.map_set, h1, h2, killRow]
  by_cases h : e = d
  · subst h; rfl
  · rw [List.set_comm _ _ h]
theorem kill_kills (S : St) (d : Nat) : ∀ l, (S.kill d).kills l = (S.kills l).kill d
  | [] => rfl
  | e :: l => by
    simp only [St.kills]
    rw [kill_comm, kill_kills (S.kill e) d l]
theorem kills_idem : ∀ (l : List Nat) (S : St), (S.kills l).kills l = S.kills l
  | [], _ => rfl
  | d :: l, S => by
    simp only [St.kills]
    rw [kill_kills S d l, kill_idem, kill_kills, kills_idem l]
theorem kills_n : ∀ (l : List Nat) (S : St), (S.kills l).n = S.n
  | [], _ => rfl
  | d :: l, S => by simp only [St.kills]; rw [kills_n l]; rfl
theorem kills_t_congr : ∀ (l : List Nat) {S T : St}, S.t = T.t → (S.kills l).t = (T.kills l).t
  | [], _, _, h => h
  | d :: l, S, T, h => by simp only [St.kills]; exact kills_t_congr l (by simp [St.kill, h])
theorem kills_tlen : ∀ (l : List Nat) (S : St), (S.kills l).t.length = S.t.length
  | [], _ => rfl
  | d :: l, S => by simp only [St.kills]; rw [kills_tlen l]; simp [St.kill]
theorem headT_length (ds ws : List Nat) (vals : List AV) (vt : List Nat) : ∀ (i : Nat) (l : List AV), (headT ds ws vals vt i l).length = l.length
  | _, [] => rfl
  | i, a :: l => by simp [headT, headT_length ds ws vals vt (i + 1) l]

/-! ### An iterator's values in the loop's variables -/
theorem setPs_length : ∀ (t : List AV) (ps : List Nat) (xs : List AV), (setPs t ps xs).length = t.length
  | t, [], xs => by simp [setPs]
  | t, p :: ps, [] => by simp [setPs]
  | t, p :: ps, x :: xs => by simp [setPs, setPs_length (t.set p x) ps xs]
theorem setPs_rep {F : Nat → Prop} : ∀ (ps : List Nat) (xs : List AV) (vs : List Value) (t : List AV) (tm : Array Value), xs.length = vs.length → (∀ i, i < xs.length → Rep β F w (xs.getD i .any) (vs.getD i undef)) → t.length = tm.size →
    (∀ i, i < t.length → Rep β F w (t.getD i .any) (tm.getD i undef)) →
    ((ps.zip vs).foldl (fun t (p, v) => t.setIfInBounds p v) tm).size = tm.size ∧ ∀ i, i < t.length → Rep β F w ((setPs t ps xs).getD i .any) (((ps.zip vs).foldl (fun t (p, v) => t.setIfInBounds p v) tm).getD i undef)
  | [], xs, vs, t, tm, _, _, _, h => by
    have e : setPs t [] xs = t := by simp [setPs]
    rw [e]; exact ⟨rfl, h⟩
  | p :: ps, [], [], t, tm, _, _, _, h => by
    have e : setPs t (p :: ps) [] = t := by simp [setPs]
    rw [e]; exact ⟨rfl, h⟩
  | p :: ps, x :: xs, v :: vs, t, tm, hl, hx, ht, h => by
    simp only [setPs, List.zip_cons_cons, List.foldl_cons]
    have h0 := hx 0 (by simp)
    simp only [List.getD_cons_zero] at h0
    have := setPs_rep ps xs vs (t.set p x) (tm.setIfInBounds p v) (by simpa using hl) (fun i hi => by have := hx (i + 1) (by simpa using hi); simpa using this) (by simpa using ht) (fun i hi => by
      simp only [List.length_set] at hi
      rw [getD_set_av]
      simp only [Array.getD_eq_getD_getElem?, Array.getElem?_setIfInBounds]
      by_cases e : p = i
      · subst e
        simp [hi, ht ▸ hi]; exact h0
      · have := h i hi
        simpa [e, Array.getD_eq_getD_getElem?] using this)
    exact ⟨by rw [this.1]; simp, fun i hi => this.2 i (by simpa using hi)⟩

theorem keeps_putObj {F : Nat → Prop} {k : Nat} {o o' : Obj} (hk : w.heap[k]? = some o) (hc : o.isCells = false) : Keeps F w (w.putObj k o') := fun b ob v _ hcell => by
  have hne : b ≠ k := fun e => by
    subst e
    cases o <;> simp [World.cell?, hk, Obj.isCells] at hcell hc
  rw [World.cell?_of_block (w := w) (World.putObj_heap_other hne)]; exact hcell

/-- The caller's own state, out of a round's. -/
theorem Rel.back (hR : Rel B w0 F0 S β F a w) (hpl : F0.n = .plain) {w' : World} {β' : Nat → Option Hd} {F' : Nat → Prop} {h' : List Row} (hβ : ∀ j, β j ≠ none → β' j = β j) (hF : ∀ b, F b → F' b) (hk : Keeps F w w')
    (hos : w'.os = w.os ∧ w'.tape = w.tape ∧ w'.output = w.output) (hsize : w.heap.size ≤ w'.heap.size) (hrows : ∀ id, RowRep β' F' w' id (h'.getD id .none)) (hinj : ∀ i j b, h'.getD i .none ≠ .none → h'.getD j .none ≠ .none → blk β' i = some b → blk β' j = some b → i = j)
    (hbF : ∀ i b, h'.getD i .none ≠ .none → blk β' i = some b → ¬ F' b) (hbB : ∀ i b, blk β' i = some b → B b ∧ b < w'.heap.size) (hFB : ∀ b, F' b → b < w'.heap.size ∧ (F0.F b ∨ B b)) (hchg : ∀ b, b < w.heap.size → ¬ B b → w'.heap[b]? = w.heap[b]?)
    (hns : ∀ (k : Nat) (o : Obj), w.heap[k]? = some o → o.isCells = false → (k < w0.heap.size ∨ markOf k ∈ a.defers) → w'.heap[k]? = some o) (hc : ∀ id l xs k e, h'.getD id .none ≠ .ctr l xs k e) : Rel B w0 F0 ⟨S.t, h', S.n⟩ β' F' a w' where
  len := hR.len
  slots := fun i hi => (hR.slots i hi).grow hβ hF hk
  marks := by
    obtain ⟨Ds, ⟨h1, h0⟩, h2, h3⟩ := hR.marks
    exact ⟨Ds, ⟨h1, h0⟩, h2, fun D hD => ⟨hns D _ (h3 D hD).1 rfl (.inr (by rw [h1]; exact List.mem_map_of_mem hD)), (h3 D hD).2⟩⟩
  rows := hrows
  inj := hinj
  bF := hbF
  bB := hbB
  FB := hFB
  below := hR.below.trans ⟨hos.1, hos.2.1, hos.2.2, hsize, fun k hkB => by
    by_cases hlt : k < w.heap.size
    · exact hchg k hlt hkB
    · exact absurd (hR.BW k (Nat.le_of_not_lt hlt)) hkB⟩
  BW := fun b h => hR.BW b (Nat.le_trans hsize h)
  top := fun j hd h => (hβ j (by rw [hR.top j hd h]; simp)).trans (hR.top j hd h)
  topn := hR.topn
  nn := hR.nn
  inc := fun b h => hF b (hR.inc b h)
  keep := fun b o u hb hcell => hk b o u (hR.inc b hb) (hR.keep b o u hb hcell)
  sol := fun hn k o ho hc => hns k o (hR.sol hn k o ho hc) hc (.inl (Array.getElem?_eq_some_iff.1 ho).1)
  yl := fun id l xs k e h => absurd h (hc id l xs k e)

theorem wpIn_loop_ghost {Fc : Fence} {n : Nat} {Q : Exit → Act → World → Prop} {a : Act} {w : World} {c : Code} (I : Nat → Act → World → Prop) (n₀ : Nat) (h₀ : I n₀ a w)
    (round : ∀ m a w, I m a w → c.wpIn Fc n P (Exit.then (fun a' w' => ∃ n', n' < m ∧ I n' a' w') Q) a w) : (Code.loop c).wpIn Fc n P Q a w := by
  refine wpIn_loop (fun a w => ∃ n, I n a w) (fun a w => leastOf (fun n => I n a w)) ⟨n₀, h₀⟩ ?_
  intro a w hI
  refine wpIn_mono (round _ a w (leastOf_spec hI).1) ?_
  intro e a' w' hq
  cases e with
  | normal =>
    obtain ⟨n', hlt, hI'⟩ := hq
    exact show (∃ n, I n a' w') ∧ leastOf (fun n => I n a' w') < leastOf (fun n => I n a w) from ⟨⟨n', hI'⟩, Nat.lt_of_le_of_lt ((leastOf_spec ⟨n', hI'⟩).2 n' hI') hlt⟩
  | exit id => exact hq
  | goto l => exact hq
  | ret => exact hq
  | panic ch => exact hq
  | outgrown => exact hq
end
end Go.Ev
