/- Regions: in the order of the text, and in any order. A helper text: it speaks of no program. -/
import Derived.Test.YtanhmmiifbhcpaaEvM
set_option linter.unusedVariables false
set_option linter.unusedSimpArgs false
namespace Go.Ev
section
variable {P : Program} {B : Nat → Prop} {w0 : World} {F0 : Env P} {S : St} {β : Nat → Option Hd} {F : Nat → Prop} {a : Act} {w : World} {ops : Array Oper}

/-! ### Rows that are given up before their number is used anew -/
def killAV (d : Nat) (x : AV) : AV :=
  match x.names d with
  | true => .any
  | false => x
def killRow (d : Nat) : Row → Row
  | .none => .none
  | .cells ty cs => .cells ty (cs.map (killAV d))
  | .lit ty sz css => .lit ty sz (css.map fun cs => cs.map (killAV d))
  | .vec ty sz e enc l => .vec ty sz e enc l
  | .ctr l xs k e => .ctr l xs k e
def St.kill (S : St) (d : Nat) : St := ⟨S.t.map (killAV d), (S.h.map (killRow d)).set d .none, S.n⟩
def St.kills (S : St) : List Nat → St
  | [] => S
  | d :: l => (S.kill d).kills l

theorem killAV_rep {d : Nat} {β' : Nat → Option Hd} (hβ : ∀ j, j ≠ d → β' j = β j) {x : AV} {v : Value} (h : Rep β F w x v) : Rep β' F w (killAV d x) v := by
  unfold killAV
  cases hn : x.names d with
  | true => exact .imm (.any _)
  | false => exact h.turn hβ hn
theorem killAV_any (d : Nat) : killAV d .any = .any := rfl
theorem row_kill (S : St) (d j : Nat) : (S.kill d).row j = if j = d then .none else killRow d (S.row j) := by
  simp only [St.kill, St.row, getD_set_row, List.length_map]
  have hm : (S.h.map (killRow d)).getD j .none = killRow d (S.h.getD j .none) := by
    simp only [List.getD, List.getElem?_map]
    cases S.h[j]? <;> rfl
  rw [hm]
  by_cases h : j = d
  · subst h
    by_cases hl : j < S.h.length
    · simp [hl]
    · have e : S.h.getD j .none = .none := by simp [List.getD, List.getElem?_eq_none (Nat.le_of_not_lt hl)]
      rw [e]; simp [killRow]
  · simp [h, Ne.symm h]
theorem killRow_none {d : Nat} {r : Row} (h : killRow d r ≠ .none) : r ≠ .none := by rintro rfl; exact h rfl

theorem Rel.kill (hR : Rel B w0 F0 S β F a w) (d : Nat) (hd0 : F0.β d = none) : ∃ β', β' d = none ∧ (∀ j, j ≠ d → β' j = β j) ∧ Rel B w0 F0 (S.kill d) β' F a w := by
  let β' : Nat → Option Hd := fun j => if j = d then none else β j
  have h2 : ∀ j, j ≠ d → β' j = β j := fun j hj => by simp [β', hj]
  have b2 : ∀ j b, blk β' j = some b → j ≠ d ∧ blk β j = some b := fun j b h => by
    by_cases e : j = d
    · subst e; simp [blk, β'] at h
    · exact ⟨e, by simpa [blk, β', e] using h⟩
  have live : ∀ j, (S.kill d).row j ≠ .none → j ≠ d ∧ S.row j ≠ .none := fun j h => by
    rw [row_kill] at h
    by_cases e : j = d
    · simp [e] at h
    · rw [if_neg e] at h; exact ⟨e, killRow_none h⟩
  refine ⟨β', by simp [β'], h2, ?_⟩
  refine { len := by simp [St.kill, hR.len], slots := fun i hi => ?_, marks := hR.marks, rows := fun j => ?_, inj := fun i j b hi hj hbi hbj => ?_, bF := fun i b hi hbi => ?_, bB := fun i b hbi => hR.bB i b (b2 i b hbi).2, FB := hR.FB, below := hR.below, BW := hR.BW, top := fun j hd h => (h2 j fun e => by rw [e, hd0] at h; cases h).trans (hR.top j hd h), topn := fun j hj => hR.topn j (by simpa [St.kill, mayKill] using hj), nn := hR.nn, inc := hR.inc, keep := hR.keep, sol := hR.sol, yl := hR.ylOf (fun i => i) (fun id l xs k e h => ?_) (fun _ _ _ _ h => h) (fun i b hi hb => ⟨i, (live i hi).2, (b2 i b hb).2⟩) (fun b hb => .inl hb) }
  · simp only [St.kill, List.length_map] at hi ⊢
    rw [getD_map_av _ (killAV_any d)]
    exact killAV_rep h2 (hR.slots i hi)
  · rw [row_kill]
    split
    · trivial
    · rename_i hj
      have := hR.rows j
      cases hr : S.row j with
      | none => trivial
      | ctr l xs k e =>
        rw [hr] at this
        obtain ⟨hd, e1, e2⟩ := this
        exact ⟨hd, (h2 j hj).trans e1, e2⟩
      | cells ty cs =>
        rw [hr] at this
        obtain ⟨hd, b, vs, e1, e2, e3, e4, e5⟩ := this
        exact ⟨hd, b, vs, (h2 j hj).trans e1, e2, e3, by simpa using e4, fun i hi => by rw [getD_map_av _ (killAV_any d)]; exact killAV_rep h2 (e5 i (by simpa using hi))⟩
      | lit ty sz css =>
        rw [hr] at this
        obtain ⟨hd, b, vs, e1, e2, e3, e4, e5, e6, e7, e8⟩ := this
        have hg : ∀ i, (css.map fun cs => cs.map (killAV d)).getD i [] = (css.getD i []).map (killAV d) := by
          intro i; simp only [List.getD, List.getElem?_map]; cases css[i]? <;> simp
        exact ⟨hd, b, vs, (h2 j hj).trans e1, e2, e3, by simpa using e4, by simpa using e5, by simpa using e6, by simpa using e7, fun i k hi hk => by
          rw [hg, getD_map_av _ (killAV_any d)]; exact killAV_rep h2 (e8 i k (by simpa using hi) hk)⟩
      | vec ty sz e enc l =>
        rw [hr] at this
        obtain ⟨hd, e1, e2⟩ := this
        exact ⟨hd, (h2 j hj).trans e1, e2⟩
  · exact hR.inj i j b (live i hi).2 (live j hj).2 (b2 i b hbi).2 (b2 j b hbj).2
  · exact hR.bF i b (live i hi).2 (b2 i b hbi).2
  · rw [row_kill] at h
    split at h
    · cases h
    · cases hr : S.row id <;> rw [hr] at h <;> simp [killRow] at h
      simp [h]

theorem Rel.kills : ∀ (l : List Nat) {S : St} {β : Nat → Option Hd}, (∀ d ∈ l, F0.β d = none) → Rel B w0 F0 S β F a w → ∃ β', (∀ d ∈ l, β' d = none) ∧ (∀ j, β j = none → β' j = none) ∧ Rel B w0 F0 (S.kills l) β' F a w
  | [], _, β, _, hR => ⟨β, by simp, fun _ h => h, hR⟩
  | d :: l, S, β, hd0, hR => by
    obtain ⟨β1, h1, h2, hR1⟩ := hR.kill d (hd0 d (by simp))
    obtain ⟨β2, h3, h4, hR2⟩ := Rel.kills l (fun x hx => hd0 x (by simp [hx])) hR1
    refine ⟨β2, fun x hx => ?_, fun j hj => ?_, hR2⟩
    · rcases List.mem_cons.1 hx with rfl | hx
      · exact h4 _ h1
      · exact h3 x hx
    · by_cases e : j = d
      · subst e; exact h4 _ h1
      · exact h4 _ ((h2 j e).trans hj)

/-! ### Guards -/
/-- Whether an operation is wanted, as far as the abstract state knows. -/
theorem RepI.undef {F : Nat → Prop} {w : World} : RepI F w (.tup []) undef := .tup rfl fun i hi => absurd hi (Nat.not_lt_zero i)

theorem Rep.tup0_inv {v : Value} {l : List AV} (h : Rep β F w (.tup l) v) : ∃ vs, v = .tuple vs := by
  cases h with
  | imm h => cases h; exact ⟨_, rfl⟩
  | tup _ _ => exact ⟨_, rfl⟩

def gw (ops : Array Oper) (S : St) (o : Oper) : Option Bool :=
  match o.guard with
  | none => some true
  | some (j, want) => match (ops[j]?).bind (·.dst) with
    | none => none
    | some t => match S.t.getD t .any with
      | .tt => some (want == true)
      | .ff => some (want == false)
      | .bool b => some (b == want)
      | .tup [] => some false
      | _ => none

theorem gw_wanted (hR : Rel B w0 F0 S β F a w) {o : Oper} {b : Bool} (h : gw ops S o = some b) : Region.wanted o (yielded ops a.tmps) = b := by
  unfold gw at h
  unfold Region.wanted
  cases hg : o.guard with
  | none => simp [hg] at h; simp [h]
  | some p =>
    obtain ⟨j, want⟩ := p
    simp only [hg] at h ⊢
    cases hd : (ops[j]?).bind (·.dst) with
    | none => simp [hd] at h
    | some t =>
      simp only [hd] at h
      have hs := hR.get (.tmp t)
      have hv : ∀ c, a.eval (.tmp t) = .bool c → yielded ops a.tmps j = some c := fun c hc => by
        have hlt : t < a.tmps.size := by
          rcases Nat.lt_or_ge t a.tmps.size with h' | h'
          · exact h'
          · simp [Act.eval, Array.getElem?_eq_none h', undef] at hc
        have : a.tmps[t] = .bool c := by simpa [Act.eval, hlt] using hc
        simp [yielded, hd, hlt, this]
      have hget : S.get (.tmp t) = S.t.getD t .any := rfl
      rw [hget] at hs
      split at h
      · rename_i e; rw [e] at hs
        rw [hv _ hs.tt_inv]; simp only [Option.some.injEq] at h; subst h; cases want <;> rfl
      · rename_i e; rw [e] at hs
        rw [hv _ hs.ff_inv]; simp only [Option.some.injEq] at h; subst h; cases want <;> rfl
      · rename_i c e; rw [e] at hs
        rw [hv _ hs.bool_inv]; simp only [Option.some.injEq] at h; subst h; cases want <;> cases c <;> rfl
      · rename_i e; rw [e] at hs
        simp only [Option.some.injEq] at h; subst h
        obtain ⟨vs, hvs⟩ := hs.tup0_inv
        have : yielded ops a.tmps j = none := by
          simp only [yielded, hd, Option.bind_some]
          by_cases hlt : t < a.tmps.size
          · have : a.tmps[t] = .tuple vs := by simpa [Act.eval, hlt] using hvs
            simp [hlt, this]
          · simp [hlt]
        rw [this]; rfl
      · cases h

/-- A bool whose worth is known. -/
inductive Fine : AV → AV → Prop
  | same (x) : Fine x x
  | tt : Fine (.bool true) .tt
  | ff : Fine (.bool false) .ff
theorem Fine.rep {x y : AV} {v : Value} (h : Fine x y) (hx : Rep β F w x v) : Rep β F w y v := by
  cases h with
  | same => exact hx
  | tt => rw [hx.bool_inv]; exact .imm .tt
  | ff => rw [hx.bool_inv]; exact .imm .ff

theorem Rel.fine {dst : Option Nat} {x y : AV} {rows : List (Nat × Row)} (h : Rel B w0 F0 (S.put dst ⟨x, rows⟩) β F a w) (hf : Fine x y) : Rel B w0 F0 (S.put dst ⟨y, rows⟩) β F a w where
  len := by have := h.len; simpa [St.put, length_setDst] using this
  slots := by
    intro i hi
    have := h.slots i (by simpa [St.put, length_setDst] using hi)
    simp only [St.put, getD_setDst] at this ⊢
    split
    · rename_i hc; rw [if_pos hc] at this; exact hf.rep this
    · rename_i hc; rw [if_neg hc] at this; exact this
  marks := h.marks
  rows := h.rows
  inj := h.inj
  bF := h.bF
  bB := h.bB
  FB := h.FB
  below := h.below
  BW := h.BW
  top := h.top
  topn := fun j hj => h.topn j (by simpa [St.put, mayKill, length_setDst] using hj)
  nn := h.nn
  inc := h.inc
  keep := h.keep
  sol := h.sol
  yl := h.yl

/-! ### One operation, wherever it comes up -/
/-- In this state the operation gives 'out', reading the rows 'rd': and in every other state that agrees with it in what the operation looks at. -/
def Yl (P : Program) (o : Oper) (S : St) (out : Out) (rd : List Nat) : Prop :=
  ∃ v0, Fine v0 out.v ∧ ∀ S' : St, (∀ x ∈ sees o.op, S'.get x = S.get x) → (∀ i ∈ rd, S'.row i = S.row i) → evOp P o.dst o.op S'.get S'.row (fun o' d => o' = ⟨v0, out.rows⟩ ∧ d = rd)

theorem Yl.snd {o : Oper} {out : Out} {rd : List Nat} (hy : Yl P o S out rd) (hR : Rel B w0 F0 S β F a w) (hfree : allocs o.op = true → ∀ d, o.dst = some d → β d = none) {Q : Exit → Act → World → Prop} :
    o.wp P a w (fun a' w' => ∃ β' F', (∀ j, o.dst ≠ some j → β' j = β j) ∧ Rel B w0 F0 (S.put o.dst out) β' F' a' w') Q := by
  obtain ⟨v0, hf, hy⟩ := hy
  refine Oper.wp_mono ?_ (evOp_snd hR hfree (hy S (fun _ _ => rfl) (fun _ _ => rfl)))
  rintro a' w' ⟨out', rd', ⟨rfl, h3⟩, β', F', h4, h5⟩
  exact ⟨β', F', h4, h5.fine hf⟩

def fpOk (fp : Nat → List Nat × List Nat) (i : Nat) (out : Out) (rd : List Nat) : Prop := (∀ x ∈ rd, x ∈ (fp i).1) ∧ ∀ x ∈ out.rows.map (·.1), x ∈ (fp i).2

/-- Operation number 'i' comes up in state 'S'. -/
def aOp (P : Program) (ops : Array Oper) (fp : Nat → List Nat × List Nat) (i : Nat) (K : St → Prop) (S : St) : Prop :=
  match ops[i]? with
  | none => K S
  | some o => (gw ops S o = some true ∧ ∃ out rd, Yl P o S out rd ∧ fpOk fp i out rd ∧ K (S.put o.dst out)) ∨ (gw ops S o = some false ∧ K (S.put o.dst ⟨.tup [], []⟩))

/-- Whatever order is picked from here on. -/
def anyA (P : Program) (ops : Array Oper) (fp : Nat → List Nat × List Nat) (Q : St → Prop) : Nat → Array Bool → St → Prop
  | 0, listed, S => Region.ready .any ops listed = [] ∧ Q S
  | fuel + 1, listed, S => (Region.ready .any ops listed = [] → Q S) ∧ ∀ i ∈ Region.ready .any ops listed, aOp P ops fp i (anyA P ops fp Q fuel (listed.setIfInBounds i true)) S

theorem aOp_mono {fp : Nat → List Nat × List Nat} {i : Nat} {K K' : St → Prop} (h : ∀ S, K S → K' S) {S : St} (hh : aOp P ops fp i K S) : aOp P ops fp i K' S := by
  unfold aOp at *
  split
  · rename_i ho; simp only [ho] at hh; exact h _ hh
  · rename_i o ho
    simp only [ho] at hh
    rcases hh with ⟨h1, out, rd, h2, h3, h4⟩ | ⟨h1, h2⟩
    · exact .inl ⟨h1, out, rd, h2, h3, h _ h4⟩
    · exact .inr ⟨h1, h _ h2⟩

/-- The rows that are still to be made have no place yet. -/
def Free (ops : Array Oper) (listed : Array Bool) (β : Nat → Option Hd) : Prop := ∀ i o d, ops[i]? = some o → listed.getD i true = false → allocs o.op = true → o.dst = some d → β d = none

theorem wpAny_of_anyA {fp : Nat → List Nat × List Nat} {Q : St → Prop} {Q' : Exit → Act → World → Prop} (hdst : ∀ (i j : Nat) (oi oj : Oper) (d : Nat), ops[i]? = some oi → ops[j]? = some oj → i ≠ j → oi.dst = some d → oj.dst = some d → allocs oi.op = true → False)
    (hQ : ∀ S β F a w, Rel B w0 F0 S β F a w → Q S → Q' .normal a w) : ∀ (fuel : Nat) (listed : Array Bool) (S : St) (β : Nat → Option Hd) (F : Nat → Prop) (a : Act) (w : World), Free ops listed β → Rel B w0 F0 S β F a w →
      anyA P ops fp Q fuel listed S → wpAny P .any ops Q' fuel listed a w
  | 0, _, _, _, _, _, _, _, hR, h => ⟨h.1, hQ _ _ _ _ _ hR h.2⟩
  | fuel + 1, listed, S, β, F, a, w, hfr, hR, h => by
    refine ⟨fun h0 => hQ _ _ _ _ _ hR (h.1 h0), fun i hi => ?_⟩
    have h2 := h.2 i hi
    obtain ⟨hun, o, ho, _⟩ := mem_ready.1 hi
    have hun' : listed.getD i true = false := hun
    unfold aOp at h2
    unfold wpOp
    simp only [ho] at h2 ⊢
    have hfree : allocs o.op = true → ∀ d, o.dst = some d → β d = none := fun ha d hd => hfr i o d ho hun' ha hd
    have keep : ∀ β', (∀ j, o.dst ≠ some j → β' j = β j) → Free ops (listed.setIfInBounds i true) β' := fun β' hβ' k ok d hk hunk hak hdk => by
      have hki : k ≠ i := fun e => by
        subst e
        have hlt : k < listed.size := by
          rcases Nat.lt_or_ge k listed.size with h' | h'
          · exact h'
          · simp [Array.getElem?_eq_none h'] at hun'
        simp [hlt] at hunk
      rw [hβ' d fun e => hdst k i ok o d hk ho hki hdk e hak]
      exact hfr k ok d hk (by rw [getD_set_ne true (Ne.symm hki)] at hunk; exact hunk) hak hdk
    rcases h2 with ⟨h1, out, rd, hy, _, hK⟩ | ⟨h1, hK⟩
    · rw [gw_wanted hR h1]
      simp only [if_true]
      refine .inl (Oper.wp_mono ?_ (hy.snd hR hfree))
      rintro a' w' ⟨β', F', hβ', hR'⟩
      exact wpAny_of_anyA hdst hQ fuel _ _ β' F' a' w' (keep β' hβ') hR' hK
    · rw [gw_wanted hR h1]
      simp only [Bool.false_eq_true, if_false]
      exact wpAny_of_anyA hdst hQ fuel _ _ β F _ w (keep β fun _ _ => rfl) (hR.still (.imm RepI.undef)) hK

/-! ### What comes up may be taken in the order of the text -/
theorem get_put (S : St) (dst : Option Nat) (out : Out) (x : Operand) (h : ∀ d, dst = some d → x ≠ .tmp d) : (S.put dst out).get x = S.get x := by
  cases x with
  | tmp t =>
    simp only [St.get, St.put, getD_setDst]
    rw [if_neg]
    rintro ⟨h1, _⟩
    exact h t h1 rfl
  | _ => rfl
theorem getD_setRows (h : List Row) (l : List (Nat × Row)) (i : Nat) (hi : i ∉ l.map (·.1)) : (setRows h l).getD i .none = h.getD i .none := by
  induction l generalizing h with
  | nil => rfl
  | cons x l ih =>
    obtain ⟨j, r⟩ := x
    simp only [List.map_cons, List.mem_cons, not_or] at hi
    simp only [setRows]
    rw [ih _ hi.2, getD_set_row, if_neg fun h => hi.1 h.1.symm]
theorem row_put (S : St) (dst : Option Nat) (out : Out) (i : Nat) (hi : i ∉ out.rows.map (·.1)) : (S.put dst out).row i = S.row i := getD_setRows _ _ _ hi

theorem set_setRows (h : List Row) (i : Nat) (r : Row) (l : List (Nat × Row)) (hi : i ∉ l.map (·.1)) : (setRows h l).set i r = setRows (h.set i r) l := by
  induction l generalizing h with
  | nil => rfl
  | cons x l ih =>
    obtain ⟨j, r'⟩ := x
    simp only [List.map_cons, List.mem_cons, not_or] at hi
    simp only [setRows]
    rw [ih _ hi.2, List.set_comm _ _ (fun e => hi.1 e.symm)]
theorem setRows_comm (h : List Row) (l m : List (Nat × Row)) (hd : ∀ x ∈ l.map (·.1), x ∉ m.map (·.1)) : setRows (setRows h l) m = setRows (setRows h m) l := by
  induction l generalizing h with
  | nil => rfl
  | cons x l ih =>
    obtain ⟨i, r⟩ := x
    simp only [setRows]
    rw [ih _ fun x hx => hd x (by simp only [List.map_cons]; exact List.mem_cons_of_mem _ hx)]
    rw [← set_setRows h i r m (hd i (by simp))]
theorem put_comm (S : St) {x y : Option Nat} (o p : Out) (h : ∀ d, x = some d → y ≠ some d) (hr : ∀ i ∈ o.rows.map (·.1), i ∉ p.rows.map (·.1)) : (S.put x o).put y p = (S.put y p).put x o := by
  simp only [St.put]
  congr 1
  · cases x with
    | none => rfl
    | some d =>
      cases y with
      | none => rfl
      | some e => exact List.set_comm _ _ (fun he => h d rfl (by rw [he]))
  · exact setRows_comm _ _ _ hr

theorem Yl.put {o : Oper} {out : Out} {rd : List Nat} (hy : Yl P o S out rd) {dst : Option Nat} {p : Out} (h1 : ∀ d, dst = some d → d ∉ o.looksAt ops) (h2 : ∀ i ∈ rd, i ∉ p.rows.map (·.1)) : Yl P o (S.put dst p) out rd := by
  obtain ⟨v0, hf, hy⟩ := hy
  refine ⟨v0, hf, ?_⟩
  intro S' hx hr
  refine hy S' (fun x hx' => ?_) (fun i hi => ?_)
  · rw [hx x hx', get_put]
    intro d hd e
    subst e
    refine h1 d hd ?_
    simp only [Oper.looksAt, List.mem_append, List.mem_filterMap]
    exact .inl ⟨_, hx', rfl⟩
  · rw [hr i hi, row_put _ _ _ _ (h2 i hi)]
theorem Yl.unput {o : Oper} {out : Out} {rd : List Nat} {dst : Option Nat} {p : Out} (hy : Yl P o (S.put dst p) out rd) (h1 : ∀ d, dst = some d → d ∉ o.looksAt ops) (h2 : ∀ i ∈ rd, i ∉ p.rows.map (·.1)) : Yl P o S out rd := by
  obtain ⟨v0, hf, hy⟩ := hy
  refine ⟨v0, hf, ?_⟩
  intro S' hx hr
  refine hy S' (fun x hx' => ?_) (fun i hi => ?_)
  · rw [hx x hx', get_put]
    intro d hd e
    subst e
    refine h1 d hd ?_
    simp only [Oper.looksAt, List.mem_append, List.mem_filterMap]
    exact .inl ⟨_, hx', rfl⟩
  · rw [hr i hi, row_put _ _ _ _ (h2 i hi)]

theorem gw_put {o : Oper} {dst : Option Nat} {p : Out} (h1 : ∀ d, dst = some d → d ∉ o.looksAt ops) : gw ops (S.put dst p) o = gw ops S o := by
  unfold gw
  cases hg : o.guard with
  | none => rfl
  | some q =>
    obtain ⟨j, want⟩ := q
    simp only
    cases hd : (ops[j]?).bind (·.dst) with
    | none => rfl
    | some t =>
      simp only
      have : (S.put dst p).t.getD t .any = S.t.getD t .any := by
        simp only [St.put, getD_setDst]
        rw [if_neg]
        rintro ⟨h2, _⟩
        refine h1 t h2 ?_
        simp [Oper.looksAt, hg, hd]
      rw [this]

/-- What an operation does to the state: what it gives, or (where it is not wanted) nothing. -/
inductive Does (P : Program) (ops : Array Oper) (fp : Nat → List Nat × List Nat) (i : Nat) (o : Oper) (S : St) (out : Out) : Prop
  | run (rd : List Nat) (h1 : gw ops S o = some true) (h2 : Yl P o S out rd) (h3 : fpOk fp i out rd)
  | skip (h1 : gw ops S o = some false) (h2 : out = ⟨.tup [], []⟩)
theorem Does.aOp {fp : Nat → List Nat × List Nat} {i : Nat} {o : Oper} {out : Out} (hi : ops[i]? = some o) (hd : Does P ops fp i o S out) {K : St → Prop} (h : K (S.put o.dst out)) : aOp P ops fp i K S := by
  unfold Ev.aOp
  simp only [hi]
  cases hd with
  | run rd h1 h2 h3 => exact .inl ⟨h1, out, rd, h2, h3, h⟩
  | skip h1 h2 => subst h2; exact .inr ⟨h1, h⟩
theorem does_of_aOp {fp : Nat → List Nat × List Nat} {i : Nat} {o : Oper} (hi : ops[i]? = some o) {K : St → Prop} (h : aOp P ops fp i K S) : ∃ out, Does P ops fp i o S out ∧ K (S.put o.dst out) := by
  unfold aOp at h
  simp only [hi] at h
  rcases h with ⟨h1, out, rd, h2, h3, h4⟩ | ⟨h1, h2⟩
  · exact ⟨out, .run rd h1 h2 h3, h4⟩
  · exact ⟨_, .skip h1 rfl, h2⟩
theorem Does.wr {fp : Nat → List Nat × List Nat} {i : Nat} {o : Oper} {out : Out} (h : Does P ops fp i o S out) : ∀ x ∈ out.rows.map (·.1), x ∈ (fp i).2 := by
  cases h with
  | run rd h1 h2 h3 => exact h3.2
  | skip h1 h2 => subst h2; simp

/-- Two operations that have nothing to do with each other. -/
def Apart (ops : Array Oper) (fp : Nat → List Nat × List Nat) (i j : Nat) (oi oj : Oper) : Prop :=
  oi.apart ops oj = true ∧ (∀ x ∈ (fp i).2, x ∉ (fp j).1 ∧ x ∉ (fp j).2) ∧ ∀ x ∈ (fp i).1, x ∉ (fp j).2

theorem Does.put {fp : Nat → List Nat × List Nat} {i : Nat} {o : Oper} {out : Out} (h : Does P ops fp i o S out) {dst : Option Nat} {p : Out} (h1 : ∀ d, dst = some d → d ∉ o.looksAt ops) (h2 : ∀ x ∈ p.rows.map (·.1), x ∉ (fp i).1) : Does P ops fp i o (S.put dst p) out := by
  cases h with
  | run rd g1 g2 g3 => exact .run rd ((gw_put h1).trans g1) (g2.put h1 fun x hx hp => h2 x hp (g3.1 x hx)) g3
  | skip g1 g2 => exact .skip ((gw_put h1).trans g1) g2
theorem Does.unput {fp : Nat → List Nat × List Nat} {i : Nat} {o : Oper} {out : Out} {dst : Option Nat} {p : Out} (h : Does P ops fp i o (S.put dst p) out) (h1 : ∀ d, dst = some d → d ∉ o.looksAt ops) (h2 : ∀ x ∈ p.rows.map (·.1), x ∉ (fp i).1) : Does P ops fp i o S out := by
  cases h with
  | run rd g1 g2 g3 => exact .run rd ((gw_put h1).symm.trans g1) (g2.unput h1 fun x hx hp => h2 x hp (g3.1 x hx)) g3
  | skip g1 g2 => exact .skip ((gw_put h1).symm.trans g1) g2

theorem anyA_first {fp : Nat → List Nat × List Nat} {Q : St → Prop} {i : Nat} {oi : Oper} {out : Out} (hi : ops[i]? = some oi) :
    ∀ (fuel : Nat) (listed : Array Bool) (S : St), (∀ j oj, ops[j]? = some oj → j ≠ i → listed.getD j true = false → (∀ e ∈ oj.after, Region.binds .any e = true → e.on ≠ i) → Apart ops fp i j oi oj) →
      i ∈ Region.ready .any ops listed → Does P ops fp i oi S out → anyA P ops fp Q fuel (listed.setIfInBounds i true) (S.put oi.dst out) → anyA P ops fp Q (fuel + 1) listed S := by
  intro fuel
  induction fuel with
  | zero =>
    intro listed S _ hr hy H
    refine ⟨fun h => (by rw [h] at hr; cases hr), fun j hj => ?_⟩
    by_cases hji : j = i
    · subst hji; exact hy.aOp hi H
    · have := ready_mono hj hji
      rw [H.1] at this
      cases this
  | succ fuel ih =>
    intro listed S hfree hr hy H
    refine ⟨fun h => (by rw [h] at hr; cases hr), fun j hj => ?_⟩
    by_cases hji : j = i
    · subst hji; exact hy.aOp hi H
    · have h1 := H.2 j (ready_mono hj hji)
      obtain ⟨hjun, oj, hoj, hall⟩ := mem_ready.1 hj
      have hnot : ∀ e ∈ oj.after, Region.binds .any e = true → e.on ≠ i := fun e he hb heq => by
        have h1 := hall e he hb
        have h0 := (mem_ready.1 hr).1
        rw [heq] at h1
        rcases Nat.lt_or_ge i listed.size with h' | h'
        · simp [h'] at h0 h1; rw [h0] at h1; cases h1
        · simp [Array.getElem?_eq_none h'] at h1
      obtain ⟨hap, hw, hrd⟩ := hfree j oj hoj hji hjun hnot
      obtain ⟨a1, a2, a3⟩ := Oper.apart_spec hap
      obtain ⟨outj, hdj, hK⟩ := does_of_aOp hoj h1
      have hdj' := hdj.unput a1 fun x hx => (hw x (hy.wr x hx)).1
      refine hdj'.aOp hoj ?_
      have hfree' : ∀ k ok, ops[k]? = some ok → k ≠ i → (listed.setIfInBounds j true).getD k true = false →
          (∀ e ∈ ok.after, Region.binds .any e = true → e.on ≠ i) → Apart ops fp i k oi ok := fun k ok hk hki hun hno => by
        refine hfree k ok hk hki ?_ hno
        by_cases hjk : j = k
        · subst hjk; exact hjun
        · rw [getD_set_ne true hjk] at hun; exact hun
      refine ih (listed.setIfInBounds j true) _ hfree' (ready_mono hr (Ne.symm hji)) (hy.put a3 fun x hx hx' => hrd x hx' (hdj.wr x hx)) ?_
      rw [Array.setIfInBounds_comm _ _ hji, ← put_comm S out outj a2 fun x hx hx' => (hw x (hy.wr x hx)).2 (hdj.wr x hx')]
      exact hK

/-! ### The order of the text -/
/-- A row is touched by two operations only where one waits for the other. -/
def rowsB (ops : List Oper) (fps : List (List Nat × List Nat)) : Bool :=
  (List.range ops.length).all fun j => (List.range ops.length).all fun i => match Nat.ble j i with
    | true => true
    | false =>
      match ops[j]? with
      | none => true
      | some oj => (oj.after.any fun e => Region.binds .any e && e.on == i) ||
        (((fps.getD i ([], [])).2.all fun x => !(fps.getD j ([], [])).1.contains x && !(fps.getD j ([], [])).2.contains x) && (fps.getD i ([], [])).1.all fun x => !(fps.getD j ([], [])).2.contains x)

inductive Chain (P : Program) (ops : Array Oper) : Nat → List Oper → St → List (List Nat × List Nat) → St → Prop
  | nil (k S) : Chain P ops k [] S [] S
  | run {k o l S Sf out rd fps} (h1 : gw ops S o = some true) (h2 : Yl P o S out rd) (h3 : Chain P ops (k + 1) l (S.put o.dst out) fps Sf) : Chain P ops k (o :: l) S ((rd, out.rows.map (·.1)) :: fps) Sf
  | skip {k o l S Sf fps} (h1 : gw ops S o = some false) (h3 : Chain P ops (k + 1) l (S.put o.dst ⟨.tup [], []⟩) fps Sf) : Chain P ops k (o :: l) S (([], []) :: fps) Sf

theorem anyA_lex {fp : Nat → List Nat × List Nat} {Q : St → Prop} (hfp : ∀ i j oi oj, ops[i]? = some oi → ops[j]? = some oj → i < j → (∀ e ∈ oj.after, Region.binds .any e = true → e.on ≠ i) → (∀ x ∈ (fp i).2, x ∉ (fp j).1 ∧ x ∉ (fp j).2) ∧ ∀ x ∈ (fp i).1, x ∉ (fp j).2) :
    ∀ (l : List Oper) (k : Nat) (listed : Array Bool) (S : St) (fps : List (List Nat × List Nat)) (Sf : St), (∀ j, l[j]? = ops[k + j]?) → (∀ j, j < k → listed.getD j true = true) → (∀ j, j < l.length → fps.getD j ([], []) = fp (k + j)) →
      Region.lexFrom .any ops l.length k listed = true → Chain P ops k l S fps Sf → Q Sf → anyA P ops fp Q l.length listed S
  | [], _, _, _, _, _, _, _, _, hB, h, hQ => by
    cases h
    exact ⟨by simpa [Region.lexFrom] using hB, hQ⟩
  | o :: l, k, listed, S, fps, Sf, hl, hli, hf, hB, h, hQ => by
    have h0 : ops[k]? = some o := by simpa using (hl 0).symm
    simp only [List.length_cons, Region.lexFrom, Bool.and_eq_true] at hB
    obtain ⟨⟨hr, hfr⟩, hB'⟩ := hB
    have hrest : ∀ {out fps'}, Does P ops fp k o S out → (∀ j, j < l.length → fps'.getD j ([], []) = fp (k + 1 + j)) → Chain P ops (k + 1) l (S.put o.dst out) fps' Sf → anyA P ops fp Q (l.length + 1) listed S := by
      intro out fps' hd hf' hch
      refine anyA_first h0 l.length listed S (fun j oj hj hne hun hno => ?_) (by simpa using hr) hd
        (anyA_lex hfp l (k + 1) _ _ fps' Sf (fun j => by have := hl (j + 1); simpa [Nat.add_assoc, Nat.add_comm 1 j] using this) (fun j hj => ?_) hf' hB' hch hQ)
      · have hkj : k < j := by
          rcases Nat.lt_or_ge k j with h | h
          · exact h
          · have : j < k := by omega
            rw [hli j this] at hun; cases hun
        obtain ⟨q1, q2⟩ := hfp k j o oj h0 hj hkj hno
        exact ⟨Region.free_spec h0 hfr j oj hj hne hun hno, q1, q2⟩
      · by_cases e : j = k
        · subst e
          rcases Nat.lt_or_ge j listed.size with h' | h'
          · simp [h']
          · simp [Array.getElem?_eq_none, h']
        · rw [getD_set_ne true (Ne.symm e)]; exact hli j (by omega)
    cases h with
    | run h1 h2 h3 =>
      rename_i out rd fps'
      have e0 := hf 0 (by simp)
      simp only [List.getD_cons_zero, Nat.add_zero] at e0
      exact hrest (.run rd h1 h2 ⟨by rw [← e0]; exact fun x hx => hx, by rw [← e0]; exact fun x hx => hx⟩) (fun j hj => by have := hf (j + 1) (by simpa using hj); simpa [Nat.add_assoc, Nat.add_comm 1 j] using this) h3
    | skip h1 h3 =>
      rename_i fps'
      exact hrest (.skip h1 rfl) (fun j hj => by have := hf (j + 1) (by simpa using hj); simpa [Nat.add_assoc, Nat.add_comm 1 j] using this) h3

end
end Go.Ev
