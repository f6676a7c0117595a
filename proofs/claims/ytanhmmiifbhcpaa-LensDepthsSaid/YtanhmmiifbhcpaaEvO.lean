/- The executor, and why it is right. A helper text: it speaks of no program. -/
import Derived.Test.YtanhmmiifbhcpaaEvN
import Derived.KernelRfl
set_option linter.unusedVariables false
set_option linter.unusedSimpArgs false
namespace Go.Ev
section
variable {P : Program} {B : Nat → Prop} {w0 : World} {F0 : Env P} {S : St} {β : Nat → Option Hd} {F : Nat → Prop} {a : Act} {w : World} {ops : Array Oper}

/-! ### Freezing: rows that nobody will write any more -/
def onlyR (s : Nat → Bool) (r : Nat → Row) (i : Nat) : Row :=
  match s i with
  | true => r i
  | false => .none
def frzN : Nat → (Nat → Bool) → (Nat → Row) → AV → AV
  | 0, _, _, x => x
  | n + 1, s, r, x => match x with
    | .ptr id sz i off => match s id with
      | true => closeN 4 (onlyR s r) (.ptr id sz i off)
      | false => .ptr id sz i off
    | .own id => match s id with
      | true => closeN 4 (onlyR s r) (.own id)
      | false => .own id
    | .agg l => .agg (l.map (frzN n s r))
    | .tup l => .tup (l.map (frzN n s r))
    | .fn f a b => .fn f (a.map (frzN n s r)) (b.map (frzN n s r))
    | x => x
theorem frzN_any (n : Nat) (s r) : frzN n s r .any = .any := by cases n <;> rfl
def frzRow (s : Nat → Bool) (r : Nat → Row) : Row → Row
  | .none => .none
  | .cells ty cs => .cells ty (cs.map (frzN 4 s r))
  | .lit ty sz css => .lit ty sz (css.map fun cs => cs.map (frzN 4 s r))
  | .vec ty sz e enc l => .vec ty sz e enc l
  | .ctr l xs k e => .ctr l xs k e
def frzRows (s : Nat → Bool) (r : Nat → Row) : Nat → List Row → List Row
  | _, [] => []
  | i, x :: l => (match s i with
    | true => .none
    | false => frzRow s r x) :: frzRows s r (i + 1) l
def St.freeze (S : St) (s : Nat → Bool) : St := ⟨S.t.map (frzN 4 s S.row), frzRows s S.row 0 S.h, S.n⟩

theorem getD_frzRows (s : Nat → Bool) (r : Nat → Row) : ∀ (h : List Row) (k j : Nat), (frzRows s r k h).getD j .none = if s (k + j) = true then .none else frzRow s r (h.getD j .none)
  | [], k, j => by simp [frzRows, frzRow]
  | x :: l, k, 0 => by
    simp only [frzRows, List.getD_cons_zero, Nat.add_zero]
    cases s k <;> simp
  | x :: l, k, j + 1 => by
    simp only [frzRows, List.getD_cons_succ]
    rw [getD_frzRows s r l (k + 1) j, show k + 1 + j = k + (j + 1) by omega]

/-- Rows may be forgotten. -/
theorem Rel.forget (hR : Rel B w0 F0 S β F a w) {S' : St} (ht : S'.t = S.t) (hn : S'.n = S.n) (hr : ∀ i, S'.row i = S.row i ∨ S'.row i = .none) : Rel B w0 F0 S' β F a w := by
  have live : ∀ i, S'.row i ≠ .none → S.row i ≠ .none := fun i h => by
    rcases hr i with e | e
    · rw [← e]; exact h
    · exact absurd e h
  exact { len := by rw [ht]; exact hR.len, slots := fun i hi => by rw [ht] at hi ⊢; exact hR.slots i hi, marks := hR.marks,
          rows := fun i => by
            rcases hr i with e | e
            · rw [e]; exact hR.rows i
            · rw [e]; trivial
          inj := fun i j b hi hj => hR.inj i j b (live i hi) (live j hj), bF := fun i b hi => hR.bF i b (live i hi), bB := hR.bB, FB := hR.FB, below := hR.below, BW := hR.BW, top := hR.top, topn := fun j hj => hR.topn j (by simpa [mayKill, ht, hn] using hj), nn := hn.trans hR.nn, inc := hR.inc, keep := hR.keep, sol := hR.sol, yl := hR.ylOf (fun i => i) (fun id l xs k e h => by rcases hr id with e' | e' <;> rw [e'] at h; exact h; cases h) (fun _ _ _ _ h => h) (fun i b hi hb => ⟨i, live i hi, hb⟩) (fun b hb => .inl hb) }

/-- The rows that are chosen, alone. -/
def onlyH (s : Nat → Bool) : Nat → List Row → List Row
  | _, [] => []
  | i, x :: l => (match s i with
    | true => x
    | false => .none) :: onlyH s (i + 1) l
theorem getD_onlyH (s : Nat → Bool) : ∀ (h : List Row) (k j : Nat), (onlyH s k h).getD j .none = if s (k + j) = true then h.getD j .none else .none
  | [], k, j => by simp [onlyH]
  | x :: l, k, 0 => by
    simp only [onlyH, List.getD_cons_zero, Nat.add_zero]
    cases s k <;> simp
  | x :: l, k, j + 1 => by
    simp only [onlyH, List.getD_cons_succ]
    rw [getD_onlyH s l (k + 1) j, show k + 1 + j = k + (j + 1) by omega]

theorem closeOnly_rep (hR : Rel B w0 F0 S β F a w) (s : Nat → Bool) (n : Nat) {x : AV} {v : Value} (h : Rep β F w x v) :
    RepI (fun b => F b ∨ ∃ i, s i = true ∧ S.row i ≠ .none ∧ blk β i = some b) w (closeN n (onlyR s S.row) x) v := by
  let S' : St := ⟨S.t, onlyH s 0 S.h, S.n⟩
  have hrow : ∀ i, S'.row i = onlyR s S.row i := fun i => by
    show (onlyH s 0 S.h).getD i .none = _
    rw [getD_onlyH, Nat.zero_add]
    unfold onlyR St.row
    cases s i <;> simp
  have hR' : Rel B w0 F0 S' β F a w := hR.forget rfl rfl fun i => by
    rw [hrow]; unfold onlyR
    cases s i
    · exact .inr rfl
    · exact .inl rfl
  have := closeN_rep hR' n h
  rw [show S'.row = onlyR s S.row from funext hrow] at this
  refine this.mono (fun b hb => ?_) (fun _ _ _ _ h => h)
  rcases hb with hb | ⟨i, h1, h2⟩
  · exact .inl hb
  · refine .inr ⟨i, ?_, ?_, h2⟩
    · rw [hrow] at h1; unfold onlyR at h1
      cases hs : s i with
      | true => rfl
      | false => simp [hs] at h1
    · rw [hrow] at h1; unfold onlyR at h1
      cases hs : s i with
      | true => simpa [hs] using h1
      | false => simp [hs] at h1

theorem Rel.freeze (hR : Rel B w0 F0 S β F a w) (s : Nat → Bool) : ∃ F', Rel B w0 F0 (S.freeze s) β F' a w := by
  let F' : Nat → Prop := fun b => F b ∨ ∃ i, s i = true ∧ S.row i ≠ .none ∧ blk β i = some b
  have hF : ∀ b, F b → F' b := fun b h => .inl h
  have up : ∀ {x v}, Rep β F w x v → Rep β F' w x v := fun h => h.grow (fun _ _ => rfl) hF (Keeps.refl _ _)
  have frz : ∀ (n : Nat) {x : AV} {v : Value}, Rep β F w x v → Rep β F' w (frzN n s S.row x) v := by
    intro n
    induction n with
    | zero => intro x v h; exact up h
    | succ n ih =>
      intro x v h
      have cl := closeOnly_rep hR s 4 h
      cases x with
      | ptr id sz i off =>
        simp only [frzN]
        cases s id
        · exact up h
        · exact .imm cl
      | own id =>
        simp only [frzN]
        cases s id
        · exact up h
        · exact .imm cl
      | agg l =>
        obtain ⟨vs, rfl, hl, hr⟩ := h.agg_inv
        exact .agg (by simpa using hl) fun i hi => by rw [getD_map_av _ (frzN_any _ _ _)]; exact ih (hr i (by simpa using hi))
      | tup l =>
        obtain ⟨vs, rfl, hl, hr⟩ := h.tup_inv
        exact .tup (by simpa using hl) fun i hi => by rw [getD_map_av _ (frzN_any _ _ _)]; exact ih (hr i (by simpa using hi))
      | fn f xs ys =>
        obtain ⟨vs, us, rfl, hl, hm, hr, hk⟩ := h.fn_inv
        exact .fn (by simpa using hl) (fun i hi => by rw [getD_map_av _ (frzN_any _ _ _)]; exact ih (hr i (by simpa using hi))) (by simpa using hm) (fun i hi => by rw [getD_map_av _ (frzN_any _ _ _)]; exact ih (hk i (by simpa using hi)))
      | _ => exact up h
  have hrow : ∀ i, (S.freeze s).row i = if s i = true then .none else frzRow s S.row (S.row i) := fun i => by
    show (frzRows s S.row 0 S.h).getD i .none = _
    rw [getD_frzRows, Nat.zero_add]; rfl
  have live : ∀ i, (S.freeze s).row i ≠ .none → s i = false ∧ S.row i ≠ .none := fun i h => by
    rw [hrow] at h
    cases hs : s i with
    | true => simp [hs] at h
    | false => simp only [hs, Bool.false_eq_true, if_false] at h; exact ⟨rfl, fun e => h (by rw [e]; rfl)⟩
  refine ⟨F', { len := by simp [St.freeze, hR.len], slots := fun i hi => ?_, marks := hR.marks, rows := fun j => ?_, inj := fun i j b hi hj => hR.inj i j b (live i hi).2 (live j hj).2, bF := fun i b hi hbi h => ?_, bB := hR.bB, FB := fun b h => ?_, below := hR.below, BW := hR.BW, top := hR.top, topn := fun j hj => hR.topn j (by simpa [St.freeze, mayKill] using hj), nn := hR.nn, inc := fun b hb => hF b (hR.inc b hb), keep := hR.keep, sol := hR.sol, yl := hR.ylOf (fun i => i) (fun id l xs k e h => ?_) (fun _ _ _ _ h => h) (fun i b hi hb => ⟨i, (live i hi).2, hb⟩) (fun b hb => hb.elim .inl fun ⟨i, _, h1, h2⟩ => .inr ⟨i, h1, h2⟩) }⟩
  · simp only [St.freeze, List.length_map] at hi ⊢
    rw [getD_map_av _ (frzN_any _ _ _)]
    exact frz 4 (hR.slots i hi)
  · rw [hrow]
    split
    · trivial
    · have := hR.rows j
      cases hr : S.row j with
      | none => trivial
      | ctr l xs k e => rw [hr] at this; exact this
      | cells ty cs =>
        rw [hr] at this
        obtain ⟨hd, b, vs, e1, e2, e3, e4, e5⟩ := this
        exact ⟨hd, b, vs, e1, e2, e3, by simpa using e4, fun i hi => by rw [getD_map_av _ (frzN_any _ _ _)]; exact frz 4 (e5 i (by simpa using hi))⟩
      | lit ty sz css =>
        rw [hr] at this
        obtain ⟨hd, b, vs, e1, e2, e3, e4, e5, e6, e7, e8⟩ := this
        have hg : ∀ i, (css.map fun cs => cs.map (frzN 4 s S.row)).getD i [] = (css.getD i []).map (frzN 4 s S.row) := by
          intro i; simp only [List.getD, List.getElem?_map]; cases css[i]? <;> simp
        exact ⟨hd, b, vs, e1, e2, e3, by simpa using e4, by simpa using e5, by simpa using e6, by simpa using e7, fun i k hi hk => by
          rw [hg, getD_map_av _ (frzN_any _ _ _)]; exact frz 4 (e8 i k (by simpa using hi) hk)⟩
      | vec ty sz e enc l =>
        rw [hr] at this
        obtain ⟨hd, e1, e2, e3⟩ := this
        refine ⟨hd, e1, e2, ?_⟩
        rcases e3 with e3 | ⟨b, vs, q1, q2, q3, q4, q5, q6⟩
        · exact .inl e3
        · exact .inr ⟨b, vs, q1, q2, q3, q4, q5, fun i k hi hk => (q6 i k hi hk).mono hF (fun _ _ _ _ h => h)⟩
  · obtain ⟨h1, h2⟩ := live i hi
    rcases h with h | ⟨k, h3, h4, h5⟩
    · exact hR.bF i b h2 hbi h
    · have := hR.inj i k b h2 h4 hbi h5
      subst this
      rw [h1] at h3; cases h3
  · rcases h with h | ⟨i, h1, h2, h3⟩
    · exact hR.FB b h
    · have := hR.bB i b h3; exact ⟨this.2, .inr this.1⟩
  · rw [hrow] at h
    split at h
    · cases h
    · cases hr : S.row id <;> rw [hr] at h <;> simp [frzRow] at h
      simp [h]

/-! ### Weakening: slots and rows that are no longer looked at -/
def maskT : List AV → List AV → Option (List AV)
  | [], [] => some []
  | a :: l, b :: m => match maskT l m with
    | some n => match a with
      | .any => some (.any :: n)
      | _ => some (b :: n)
    | none => none
  | _, _ => none
def maskH : List Row → List Row → Option (List Row)
  | [], [] => some []
  | a :: l, b :: m => match maskH l m with
    | some n => match a with
      | .none => some (.none :: n)
      | _ => some (b :: n)
    | none => none
  | _, _ => none
theorem maskT_spec : ∀ {t s n : List AV}, maskT t s = some n → t.length = s.length ∧ n.length = s.length ∧ ∀ i, n.getD i .any = .any ∨ n.getD i .any = s.getD i .any
  | [], [], n, h => by simp [maskT] at h; subst h; exact ⟨rfl, rfl, fun i => .inl rfl⟩
  | a :: l, b :: m, n, h => by
    simp only [maskT] at h
    cases hm : maskT l m with
    | none => simp [hm] at h
    | some k =>
      obtain ⟨h0, h1, h2⟩ := maskT_spec hm
      simp only [hm] at h
      have : ∃ c, n = c :: k ∧ (c = .any ∨ c = b) := by
        split at h
        · cases h; exact ⟨_, rfl, .inl rfl⟩
        · cases h; exact ⟨_, rfl, .inr rfl⟩
      obtain ⟨c, rfl, hc⟩ := this
      refine ⟨by simp [h0], by simp [h1], fun i => ?_⟩
      cases i with
      | zero => simpa using hc
      | succ i => simpa using h2 i
  | [], _ :: _, _, h => by simp [maskT] at h
  | _ :: _, [], _, h => by simp [maskT] at h
theorem maskH_spec : ∀ {t s n : List Row}, maskH t s = some n → ∀ i, n.getD i .none = .none ∨ n.getD i .none = s.getD i .none
  | [], [], n, h => by simp [maskH] at h; subst h; exact fun i => .inl rfl
  | a :: l, b :: m, n, h => by
    simp only [maskH] at h
    cases hm : maskH l m with
    | none => simp [hm] at h
    | some k =>
      have h2 := maskH_spec hm
      simp only [hm] at h
      have : ∃ c, n = c :: k ∧ (c = .none ∨ c = b) := by
        split at h
        · cases h; exact ⟨_, rfl, .inl rfl⟩
        · cases h; exact ⟨_, rfl, .inr rfl⟩
      obtain ⟨c, rfl, hc⟩ := this
      intro i
      cases i with
      | zero => simpa using hc
      | succ i => simpa using h2 i
  | [], _ :: _, _, h => by simp [maskH] at h
  | _ :: _, [], _, h => by simp [maskH] at h
theorem Rel.mask (hR : Rel B w0 F0 S β F a w) {T : St} (hn : T.n = S.n) (h1 : maskT T.t S.t = some T.t) (h2 : maskH T.h S.h = some T.h) : Rel B w0 F0 T β F a w := by
  obtain ⟨_, l1, m1⟩ := maskT_spec h1
  have m2 := maskH_spec h2
  have hR' : Rel B w0 F0 ⟨S.t, T.h, S.n⟩ β F a w := hR.forget rfl rfl fun i => (m2 i).symm
  exact { hR' with
    len := by rw [l1]; exact hR.len
    slots := fun i hi => by
      rcases m1 i with e | e
      · rw [e]; exact .imm (.any _)
      · rw [e]; exact hR.slots i (by rw [← l1]; exact hi)
    topn := fun j hj => hR.topn j (by simpa [mayKill, l1, hn] using hj)
    nn := hn.trans hR.nn }

end
end Go.Ev
