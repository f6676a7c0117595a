/- Each operation does what its abstract twin says (second part). A helper text: it speaks of no program. -/
import Derived.Test.YtanhmmiifbhcpaaEvD
set_option linter.unusedVariables false
set_option linter.unusedSimpArgs false
namespace Go.Ev
section
variable {P : Program} {B : Nat → Prop} {w0 : World} {F0 : Env P} {S : St} {β : Nat → Option Hd} {F : Nat → Prop} {a : Act} {w : World}

def After (B : Nat → Prop) (w0 : World) (F0 : Env P) (S : St) (β : Nat → Option Hd) (dst : Option Nat) (K : Out → List Nat → Prop) (a' : Act) (w' : World) : Prop :=
  ∃ out rd, K out rd ∧ ∃ β' F', (∀ j, dst ≠ some j → β' j = β j) ∧ Rel B w0 F0 (S.put dst out) β' F' a' w'

theorem wp_val {o : Oper} {v : Value} {w' : World} {next : Act → World → Prop} {Q : Exit → Act → World → Prop} (h : (execOp a.eval o).run P w = .ok (.value v) w') (hn : next (a.put o.dst v) w') : o.wp P a w next Q := by
  unfold Oper.wp; rw [h]; exact hn

theorem After.still (hR : Rel B w0 F0 S β F a w) {dst : Option Nat} {K : Out → List Nat → Prop} {x : AV} {v : Value} {rd : List Nat} (hv : Rep β F w x v) (hK : K ⟨x, []⟩ rd) : After B w0 F0 S β dst K (a.put dst v) w :=
  ⟨_, rd, hK, β, F, fun _ _ => rfl, hR.still hv⟩

/-! ### Tests and sums -/
theorem evInt_rep {op : BinOp} {lit : Bool} {k k' : IntKind} {x y : Int} {K : AV → Prop} (t : TypeId) (xo yo : Operand) (h : evInt op lit k x k' y K) :
    ∃ r v, (do eqGuard op t xo yo (.int k x) (.int k' y); binOp op t (.int k x) (.int k' y) : Sem Value).run P w = .ok v w ∧ Rep β F w r v ∧ K r := by
  have hg : (eqGuard op t xo yo (.int k x) (.int k' y)).run P w = .ok () w := by cases op <;> simp [eqGuard]
  simp only [Sem.run_bind, hg, Result.andThen_ok]
  cases op
  case shl =>
    obtain ⟨h0, hK⟩ := (obl_iff _ _ _).1 h
    refine ⟨_, _, ?_, .imm (.int _ _), hK⟩
    simp [binOp, Op.shift, show ¬ y < 0 by omega]
  case shr =>
    obtain ⟨h0, hK⟩ := (obl_iff _ _ _).1 h
    refine ⟨_, _, ?_, .imm (.int _ _), hK⟩
    simp [binOp, Op.shift, show ¬ y < 0 by omega]
  all_goals
    simp only [evInt] at h
    obtain rfl : k = k' := by
      by_cases hk : k = k'
      · exact hk
      · simp [hk] at h
    simp only [decide_true] at h
  case quo =>
    obtain ⟨h0, hK⟩ := (obl_iff _ _ _).1 h
    exact ⟨_, _, by simp [binOp, Op.intDiv, h0], .imm (.int _ _), hK⟩
  case rem =>
    obtain ⟨h0, hK⟩ := (obl_iff _ _ _).1 h
    exact ⟨_, _, by simp [binOp, Op.intDiv, h0], .imm (.int _ _), hK⟩
  case and => exact ⟨_, _, by simp [binOp, intBits_and], .imm (.int _ _), h⟩
  case or => exact ⟨_, _, by simp [binOp, intBits_or], .imm (.int _ _), h⟩
  case xor => exact ⟨_, _, by simp [binOp, intBits_xor], .imm (.int _ _), h⟩
  case andNot => exact ⟨_, _, by simp [binOp, intBits_andNot], .imm (.int _ _), h⟩
  case eql =>
    refine ⟨_, _, by simp [binOp, Op.intCmp]; rfl, ?_, h⟩
    exact .imm (.bool _)
  case neq =>
    refine ⟨_, _, by simp [binOp, Op.intCmp]; rfl, ?_, h⟩
    exact .imm (.bool _)
  all_goals exact ⟨_, _, by simp [binOp, Op.intCmp, Op.intArith]; rfl, .imm (by constructor), h⟩

theorem toB_none {x : AV} (h : x.toB = none) : x ≠ .tt ∧ x ≠ .ff ∧ ∀ b, x ≠ .bool b := by
  cases x <;> simp_all [AV.toB]

theorem run_eqGuard_other (op : BinOp) (t : TypeId) (xo yo : Operand) {x y : Value} (h1 : ∀ xs ys, x = .agg xs → y = .agg ys → False) (h2 : x = .nilIface → y = .nilIface → False) :
    (eqGuard op t xo yo x y).run P w = .ok () w := by
  cases x <;> cases y <;> first | exact (h1 _ _ rfl rfl).elim | exact (h2 rfl rfl).elim | (cases op <;> simp [eqGuard])

theorem eqCells_length : ∀ {ks : List Bool} {l m : List AV} {b : Bool}, eqCells ks l m = some b → l.length = ks.length ∧ m.length = ks.length
  | [], [], [], _, _ => ⟨rfl, rfl⟩
  | k :: ks, a :: l, c :: m, b, h => by
    simp only [eqCells] at h
    cases h1 : eqCell k a c with
    | none => simp [h1] at h
    | some x =>
      cases h2 : eqCells ks l m with
      | none => simp [h1, h2] at h
      | some y => obtain ⟨e1, e2⟩ := eqCells_length h2; simp [e1, e2]
  | [], _ :: _, _, _, h => by simp [eqCells] at h
  | [], [], _ :: _, _, h => by simp [eqCells] at h
  | _ :: _, [], _, _, h => by simp [eqCells] at h
  | _ :: _, _ :: _, [], _, h => by simp [eqCells] at h

theorem eqCells_append : ∀ {ks ls : List Bool} {l m : List AV} {b : Bool}, eqCells (ks ++ ls) l m = some b → ∃ x y, eqCells ks (l.take ks.length) (m.take ks.length) = some x ∧ eqCells ls (l.drop ks.length) (m.drop ks.length) = some y ∧ b = (x && y)
  | [], ls, l, m, b, h => ⟨true, b, rfl, by simpa using h, by simp⟩
  | k :: ks, ls, a :: l, c :: m, b, h => by
    simp only [List.cons_append, eqCells, List.length_cons, List.take_succ_cons, List.drop_succ_cons] at h ⊢
    cases h1 : eqCell k a c with
    | none => simp [h1] at h
    | some x =>
      cases h2 : eqCells (ks ++ ls) l m with
      | none => simp [h1, h2] at h
      | some y =>
        simp only [h1, h2, Option.some.injEq] at h
        obtain ⟨x', y', e1, e2, e3⟩ := eqCells_append h2
        refine ⟨x && x', y', by simp [e1], e2, ?_⟩
        rw [← h, e3, Bool.and_assoc]
  | _ :: _, _, [], _, _, h => by simp [eqCells] at h
  | _ :: _, _, _ :: _, [], _, h => by simp [eqCells] at h

theorem eqCell_int {x y : AV} {v u : Value} {b : Bool} (hx : Rep β F w x v) (hy : Rep β F w y u) (h : eqCell true x y = some b) : ∃ k p q, v = .int k p ∧ u = .int k q ∧ b = (p == q) := by
  cases x <;> cases y <;> simp only [eqCell, reduceCtorEq] at h
  case int.int k p k' q =>
    by_cases hk : k = k'
    · subst hk
      simp at h
      exact ⟨k, p, q, hx.int_inv, hy.int_inv, by rw [← h]; rfl⟩
    · simp [hk] at h
theorem eqCell_bool {x y : AV} {v u : Value} {b : Bool} (hx : Rep β F w x v) (hy : Rep β F w y u) (h : eqCell false x y = some b) : ∃ p q : Bool, v = .bool p ∧ u = .bool q ∧ b = (p == q) := by
  cases x <;> cases y <;> simp only [eqCell, reduceCtorEq, Option.some.injEq] at h <;> subst h
  all_goals
    first
      | exact ⟨_, _, hx.tt_inv, hy.tt_inv, by simp⟩
      | exact ⟨_, _, hx.tt_inv, hy.ff_inv, by simp⟩
      | exact ⟨_, _, hx.ff_inv, hy.tt_inv, by simp⟩
      | exact ⟨_, _, hx.ff_inv, hy.ff_inv, by simp⟩
      | exact ⟨_, _, hx.tt_inv, hy.bool_inv, by simp⟩
      | exact ⟨_, _, hx.ff_inv, hy.bool_inv, by simp⟩
      | exact ⟨_, _, hx.bool_inv, hy.tt_inv, by simp⟩
      | exact ⟨_, _, hx.bool_inv, hy.ff_inv, by simp⟩
      | exact ⟨_, _, hx.bool_inv, hy.bool_inv, by simp⟩

theorem take_one {xs : List AV} {off : Nat} (h : off < xs.length) : (xs.drop off).take 1 = [xs.getD off .any] := by
  rw [List.drop_eq_getElem_cons h, List.take_succ_cons, List.take_zero]
  simp [h]

theorem fieldsOf_eq {t : TypeId} {fs : Array Field} (h : P.underlying t = some (.struct fs)) : P.fieldsOf t = fs := by simp [Program.fieldsOf, h]

/-- Values whose abstract twins are compared cell by cell: Go's own comparison gives what that gives. -/
theorem flat_rep (n : Nat) : (∀ t ks, flatKinds P n t = some ks → ∀ (xs ys : List AV) (vs us : Array Value) (off : Nat) (b : Bool) (d : Nat), n ≤ d →
      Reps (Rep β F w) xs vs → Reps (Rep β F w) ys us → eqCells ks ((xs.drop off).take ks.length) ((ys.drop off).take ks.length) = some b →
      ks.length = P.cellsOf t ∧ ∃ p q, (part t vs off).run P w = .ok p w ∧ (part t us off).run P w = .ok q w ∧ (Op.equalIn d t p q).run P w = .ok b w) ∧
    (∀ (fs : List Field) (at_ : Nat) ks, flatFields P n fs at_ = some ks → ∀ (xs ys : List AV) (vs us : Array Value) (b : Bool) (d : Nat), n ≤ d →
      Reps (Rep β F w) xs vs → Reps (Rep β F w) ys us → eqCells ks ((xs.drop at_).take ks.length) ((ys.drop at_).take ks.length) = some b → (Op.eqFields d vs us fs).run P w = .ok b w) := by
  induction n with
  | zero => exact ⟨fun t ks h => by simp [flatKinds] at h, fun fs at_ ks h => by simp [flatFields] at h⟩
  | succ n ih =>
    refine ⟨fun t ks h xs ys vs us off b d hd hx hy hb => ?_, fun fs at_ ks h xs ys vs us b d hd hx hy hb => ?_⟩
    · obtain ⟨d, rfl⟩ : ∃ e, d = e + 1 := ⟨d - 1, by omega⟩
      obtain ⟨hl1, hl2⟩ := eqCells_length hb
      simp only [List.length_take, List.length_drop] at hl1 hl2
      have single : ∀ k, ks = [k] → (∃ p q, (vs[off]? = some p) ∧ (us[off]? = some q) ∧ Rep β F w (xs.getD off .any) p ∧ Rep β F w (ys.getD off .any) q ∧ eqCell k (xs.getD off .any) (ys.getD off .any) = some b) := by
        intro k hk
        subst hk
        simp only [List.length_cons, List.length_nil] at hb hl1 hl2
        have hxo : off < xs.length := by omega
        have hyo : off < ys.length := by omega
        refine ⟨vs.getD off undef, us.getD off undef, by simp [hx.1 ▸ hxo], by simp [hy.1 ▸ hyo], hx.2 off hxo, hy.2 off hyo, ?_⟩
        rw [Nat.zero_add, take_one hxo, take_one hyo] at hb
        simp only [eqCells] at hb
        cases hc : eqCell k (xs.getD off .any) (ys.getD off .any) with
        | none => simp only [hc] at hb; cases hb
        | some z => simp only [hc, Bool.and_true] at hb; rw [hb]
      unfold flatKinds at h
      cases hu : P.underlying t with
      | none => simp [hu] at h
      | some td =>
        cases td <;> simp only [hu, reduceCtorEq] at h
        case int k =>
          cases hc : Nat.beq (P.cellsOf t) 1 with
          | false => simp [hc] at h
          | true =>
            simp [hc] at h
            obtain ⟨p, q, h1, h2, h3, h4, h5⟩ := single _ h.symm
            refine ⟨by rw [← h, Nat.eq_of_beq_eq_true hc]; rfl, p, q, by simp [part, isAgg, run_underlying hu, h1], by simp [part, isAgg, run_underlying hu, h2], ?_⟩
            obtain ⟨k', p', q', rfl, rfl, rfl⟩ := eqCell_int h3 h4 h5
            exact run_equalIn_int w d t k' k p' q' hu
        case bool =>
          cases hc : Nat.beq (P.cellsOf t) 1 with
          | false => simp [hc] at h
          | true =>
            simp [hc] at h
            obtain ⟨p, q, h1, h2, h3, h4, h5⟩ := single _ h.symm
            refine ⟨by rw [← h, Nat.eq_of_beq_eq_true hc]; rfl, p, q, by simp [part, isAgg, run_underlying hu, h1], by simp [part, isAgg, run_underlying hu, h2], ?_⟩
            obtain ⟨p', q', rfl, rfl, rfl⟩ := eqCell_bool h3 h4 h5
            exact run_equalIn_bool w d t p' q' hu
        case struct fs =>
          cases hp : P.stoodInHeld t with
          | true => simp [hp] at h
          | false =>
            simp only [hp] at h
            cases hf : flatFields P n fs.toList 0 with
            | none => simp [hf] at h
            | some ls =>
              simp only [hf] at h
              cases hc : Nat.beq ls.length (P.cellsOf t) with
              | false => simp [hc] at h
              | true =>
                simp only [hc, Option.some.injEq] at h
                subst h
                have hlen := Nat.eq_of_beq_eq_true hc
                obtain ⟨i, hi⟩ := info_of_underlying hu
                have hsz : (sizeOf t).run P w = .ok ls.length w := by rw [run_sizeOf w hi, hlen]
                refine ⟨hlen, .agg (vs.extract off (off + ls.length)), .agg (us.extract off (off + ls.length)), by simp [part, isAgg, run_underlying hu, hsz], by simp [part, isAgg, run_underlying hu, hsz], ?_⟩
                rw [run_equalIn_struct w d t _ _ (by rw [fieldsOf_eq hu]; exact hu) hp, fieldsOf_eq hu]
                have seg : ∀ {zs : List AV} {ws : Array Value}, Reps (Rep β F w) zs ws → ls.length = min ls.length (zs.length - off) → Reps (Rep β F w) ((zs.drop off).take ls.length) (ws.extract off (off + ls.length)) := by
                  intro zs ws hz hm
                  refine ⟨by simp [← hz.1]; omega, fun i hi => ?_⟩
                  simp only [List.length_take, List.length_drop] at hi
                  have := hz.2 (off + i) (by omega)
                  have e1 : ((zs.drop off).take ls.length).getD i .any = zs.getD (off + i) .any := by
                    simp [List.getD, List.getElem?_take, show i < ls.length by omega]
                  have e2 : (ws.extract off (off + ls.length)).getD i undef = ws.getD (off + i) undef := by
                    simp [Array.getD_eq_getD_getElem?, Array.getElem?_extract, ← hz.1]
                    simp [show i < min (off + ls.length) zs.length - off by omega]
                  rw [e1, e2]; exact this
                have hx' := seg hx hl1.symm
                have hy' := seg hy hl2.symm
                exact ih.2 _ _ _ hf _ _ _ _ b d (by omega) hx' hy' (by simpa [List.take_take] using hb)
    · cases fs with
      | nil =>
        simp [flatFields] at h
        subst h
        simp [eqCells] at hb
        subst hb
        simp [Op.eqFields]
      | cons f fs =>
        simp only [flatFields] at h
        cases hc : ((f.name != "_") && Nat.beq f.offset at_) with
        | false => simp [hc] at h
        | true =>
          simp only [hc] at h
          simp at hc
          obtain ⟨hn, ho⟩ := hc
          cases h1 : flatKinds P n f.type with
          | none => simp [h1] at h
          | some k1 =>
            simp only [h1] at h
            cases h2 : flatFields P n fs (at_ + k1.length) with
            | none => simp [h2] at h
            | some k2 =>
              simp only [h2, Option.some.injEq] at h
              subst h
              obtain ⟨x, y, e1, e2, e3⟩ := eqCells_append hb
              simp only [List.length_append, List.take_take, List.drop_take, List.drop_drop] at e1 e2
              rw [show min k1.length (k1.length + k2.length) = k1.length by omega] at e1
              rw [show k1.length + k2.length - k1.length = k2.length by omega] at e2
              obtain ⟨_, p, q, r1, r2, r3⟩ := ih.1 _ _ h1 xs ys vs us at_ x d (by omega) hx hy e1
              have r4 := ih.2 _ _ _ h2 xs ys vs us y d (by omega) hx hy e2
              have ho' : f.offset = at_ := ho
              simp only [Op.eqFields, hn, ne_eq, not_false_eq_true, if_true, Sem.run_bind, ho', r1, r2, r3, Result.andThen_ok]
              cases x
              · simp [e3]
              · simpa [e3] using r4

end
end Go.Ev
