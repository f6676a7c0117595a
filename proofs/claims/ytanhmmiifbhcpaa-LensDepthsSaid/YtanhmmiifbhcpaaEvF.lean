/- Each operation does what its abstract twin says (third part). A helper text: it speaks of no program. -/
import Derived.Test.YtanhmmiifbhcpaaEvE
set_option linter.unusedVariables false
set_option linter.unusedSimpArgs false
namespace Go.Ev
section
variable {P : Program} {B : Nat → Prop} {w0 : World} {F0 : Env P} {S : St} {β : Nat → Option Hd} {F : Nat → Prop} {a : Act} {w : World}

theorem run_equalIn_nil_ptr (d : Nat) {t e : TypeId} (hu : P.underlying t = some (.pointer e)) (p : Option Addr) : (Op.equalIn (d + 1) t (.pointer none) (.pointer p)).run P w = .ok p.isNone w := by
  simp [Op.equalIn, run_underlying hu]
theorem run_equalIn_ptr_nil (d : Nat) {t e : TypeId} (hu : P.underlying t = some (.pointer e)) (p : Option Addr) : (Op.equalIn (d + 1) t (.pointer p) (.pointer none)).run P w = .ok p.isNone w := by
  cases p <;> simp [Op.equalIn, run_underlying hu]
theorem run_equalIn_nil_sl (d : Nat) {t e : TypeId} (hu : P.underlying t = some (.slice e)) (p : Option Addr) (n c n' c' : Nat) : (Op.equalIn (d + 1) t (.slice none n c) (.slice p n' c')).run P w = .ok p.isNone w := by
  simp [Op.equalIn, run_underlying hu]
theorem run_equal_nil_ptr {t e : TypeId} (hu : P.underlying t = some (.pointer e)) (p : Option Addr) : (Op.equal t (.pointer none) (.pointer p)).run P w = .ok p.isNone w := run_equalIn_nil_ptr 9999 hu p
theorem run_equal_ptr_nil {t e : TypeId} (hu : P.underlying t = some (.pointer e)) (p : Option Addr) : (Op.equal t (.pointer p) (.pointer none)).run P w = .ok p.isNone w := run_equalIn_ptr_nil 9999 hu p
theorem run_equal_nil_sl {t e : TypeId} (hu : P.underlying t = some (.slice e)) (p : Option Addr) (n c n' c' : Nat) : (Op.equal t (.slice none n c) (.slice p n' c')).run P w = .ok p.isNone w := run_equalIn_nil_sl 9999 hu p n c n' c'
theorem run_equalIn_some_sl (d : Nat) {t e : TypeId} (hu : P.underlying t = some (.slice e)) (p : Addr) (n c : Nat) : (Op.equalIn (d + 1) t (.slice (some p) n c) (.slice none 0 0)).run P w = .ok false w := by
  simp [Op.equalIn, run_underlying hu]
theorem run_equalIn_slice_nil' {t e : TypeId} (hu : P.underlying t = some (.slice e)) (p : Addr) (n c : Nat) : (Op.equal t (.slice (some p) n c) (.slice none 0 0)).run P w = .ok false w := run_equalIn_some_sl 9999 hu p n c
theorem run_equal_bools {t : TypeId} (hu : P.underlying t = some .bool) (a b : Bool) : (Op.equal t (.bool a) (.bool b)).run P w = .ok (a == b) w := run_equalIn_bool w _ t a b hu

theorem binOp_eql {t : TypeId} {x y : Value} {b : Bool} (h : (Op.equal t x y).run P w = .ok b w) (hx : ∀ k n, x ≠ .int k n) (hf : ∀ k n, x ≠ .float k n) (hc : ∀ k n m, x ≠ .complex k n m) (hs : ∀ s, x ≠ .string s) :
    (binOp .eql t x y).run P w = .ok (.bool b) w := by
  cases x <;> first | exact (hx _ _ rfl).elim | exact (hf _ _ rfl).elim | exact (hc _ _ _ rfl).elim | exact (hs _ rfl).elim | (simp only [binOp, Sem.run_bind, h, Result.andThen_ok]; rfl)
theorem binOp_neq {t : TypeId} {x y : Value} {b : Bool} (h : (Op.equal t x y).run P w = .ok b w) (hx : ∀ k n, x ≠ .int k n) (hf : ∀ k n, x ≠ .float k n) (hc : ∀ k n m, x ≠ .complex k n m) (hs : ∀ s, x ≠ .string s) :
    (binOp .neq t x y).run P w = .ok (.bool (!b)) w := by
  cases x <;> first | exact (hx _ _ rfl).elim | exact (hf _ _ rfl).elim | exact (hc _ _ _ rfl).elim | exact (hs _ rfl).elim | (simp only [binOp, Sem.run_bind, h, Result.andThen_ok]; rfl)

/-- A comparison by Go's own equality. -/
theorem eq_rep {op : BinOp} {t : TypeId} (xo yo : Operand) {x y : Value} {b : Bool} {K : AV → Prop} (h : (Op.equal t x y).run P w = .ok b w)
    (hx : (∀ k n, x ≠ .int k n) ∧ (∀ k n, x ≠ .float k n) ∧ (∀ k n m, x ≠ .complex k n m) ∧ ∀ s, x ≠ .string s)
    (hg : (eqGuard op t xo yo x y).run P w = .ok () w) {r r' : AV} (hr : Rep β F w r (.bool b)) (hr' : Rep β F w r' (.bool !b))
    (hK : (op = .eql ∧ K r) ∨ (op = .neq ∧ K r')) :
    ∃ r v, (do eqGuard op t xo yo x y; binOp op t x y : Sem Value).run P w = .ok v w ∧ Rep β F w r v ∧ K r := by
  simp only [Sem.run_bind, hg, Result.andThen_ok]
  rcases hK with ⟨rfl, hK⟩ | ⟨rfl, hK⟩
  · exact ⟨_, _, binOp_eql h hx.1 hx.2.1 hx.2.2.1 hx.2.2.2, hr, hK⟩
  · exact ⟨_, _, binOp_neq h hx.1 hx.2.1 hx.2.2.1 hx.2.2.2, hr', hK⟩

theorem Rep.pt_ptr {cs : List AV} {off : Nat} {v : Value} (h : Rep β F w (.pt cs off) v) : ∃ a, v = .pointer (some a) := by
  obtain ⟨b, o, g, rfl, _⟩ := h.pt_inv; exact ⟨_, rfl⟩
theorem Rep.ptr_ptr {id sz i off : Nat} {v : Value} (h : Rep β F w (.ptr id sz i off) v) : ∃ a, v = .pointer (some a) := by
  obtain ⟨hd, b, _, _, rfl⟩ := h.ptr_inv; exact ⟨_, rfl⟩

theorem evBin_rep {op : BinOp} {t : TypeId} {lit : Bool} {x y : AV} {xv yv : Value} {K : AV → Prop} (xo yo : Operand) (hx : Rep β F w x xv) (hy : Rep β F w y yv) (h : evBin P op t lit x y K) :
    ∃ r v, (do eqGuard op t xo yo xv yv; binOp op t xv yv : Sem Value).run P w = .ok v w ∧ Rep β F w r v ∧ K r := by
  have hptr : ∀ a : Addr, ((∀ k n, Value.pointer (some a) ≠ .int k n) ∧ (∀ k n, Value.pointer (some a) ≠ .float k n) ∧ (∀ k n m, Value.pointer (some a) ≠ .complex k n m) ∧ ∀ s, Value.pointer (some a) ≠ .string s) :=
    fun a => ⟨nofun, nofun, nofun, nofun⟩
  have hnil : ((∀ k n, Value.pointer none ≠ .int k n) ∧ (∀ k n, Value.pointer none ≠ .float k n) ∧ (∀ k n m, Value.pointer none ≠ .complex k n m) ∧ ∀ s, Value.pointer none ≠ .string s) :=
    ⟨nofun, nofun, nofun, nofun⟩
  -- bools and nils
  have rest : ∀ z u, z = x → u = y → (match z.toB, u.toB with
      | some a, some b => match P.underlying t with
        | some .bool => eqPick op (K (.bool (a == b))) (K (.bool (a != b)))
        | _ => False
      | _, _ => match P.underlying t with
        | some (.pointer _) => match z, u with
          | .nilp, .nilp => eqPick op (K .tt) (K .ff)
          | .nilp, .pt (_ :: _) _ => eqPick op (K .ff) (K .tt)
          | .nilp, .ptr .. => eqPick op (K .ff) (K .tt)
          | .pt _ _, .nilp => eqPick op (K .ff) (K .tt)
          | .ptr .., .nilp => eqPick op (K .ff) (K .tt)
          | _, _ => False
        | some (.slice _) => match z, u with
          | .nils, .nils => eqPick op (K .tt) (K .ff)
          | _, _ => False
        | _ => False) → ∃ r v, (do eqGuard op t xo yo xv yv; binOp op t xv yv : Sem Value).run P w = .ok v w ∧ Rep β F w r v ∧ K r := by
    rintro z u rfl rfl h
    split at h
    · rename_i a b ha hb
      have e1 := hx.toB_inv ha
      have e2 := hy.toB_inv hb
      subst e1; subst e2
      split at h
      · rename_i hu
        refine eq_rep xo yo (run_equal_bools hu a b) ⟨nofun, nofun, nofun, nofun⟩
          (run_eqGuard_other op t xo yo nofun nofun) (.imm (.bool _)) (.imm (.bool _)) ?_
        rcases eqPick_iff h with ⟨h1, h2⟩ | ⟨h1, h2⟩
        · exact .inl ⟨h1, h2⟩
        · exact .inr ⟨h1, h2⟩
      · exact h.elim
    · split at h
      · rename_i e hu
        split at h
        · rw [hx.nilp_inv, hy.nilp_inv]
          exact eq_rep xo yo (run_equal_nil_ptr hu none) hnil (run_eqGuard_other op t xo yo nofun nofun) (.imm .tt) (.imm .ff) (eqPick_iff h)
        · obtain ⟨p, rfl⟩ := hy.pt_ptr
          rw [hx.nilp_inv]
          exact eq_rep xo yo (run_equal_nil_ptr hu (some p)) hnil (run_eqGuard_other op t xo yo nofun nofun) (.imm .ff) (.imm .tt) (eqPick_iff h)
        · obtain ⟨p, rfl⟩ := hy.ptr_ptr
          rw [hx.nilp_inv]
          exact eq_rep xo yo (run_equal_nil_ptr hu (some p)) hnil (run_eqGuard_other op t xo yo nofun nofun) (.imm .ff) (.imm .tt) (eqPick_iff h)
        · obtain ⟨p, rfl⟩ := hx.pt_ptr
          rw [hy.nilp_inv]
          exact eq_rep xo yo (run_equal_ptr_nil hu (some p)) (hptr p) (run_eqGuard_other op t xo yo nofun nofun) (.imm .ff) (.imm .tt) (eqPick_iff h)
        · obtain ⟨p, rfl⟩ := hx.ptr_ptr
          rw [hy.nilp_inv]
          exact eq_rep xo yo (run_equal_ptr_nil hu (some p)) (hptr p) (run_eqGuard_other op t xo yo nofun nofun) (.imm .ff) (.imm .tt) (eqPick_iff h)
        · exact h.elim
      · rename_i e hu
        split at h
        · rw [hx.nils_inv, hy.nils_inv]
          exact eq_rep xo yo (run_equal_nil_sl hu none 0 0 0 0) ⟨nofun, nofun, nofun, nofun⟩
            (run_eqGuard_other op t xo yo nofun nofun) (.imm .tt) (.imm .ff) (eqPick_iff h)
        · exact h.elim
      · exact h.elim
  cases x with
  | int k p =>
    cases y with
    | int k' q =>
      rw [hx.int_inv, hy.int_inv]
      exact evInt_rep t xo yo h
    | _ => exact h.elim
  | agg xs =>
    cases y with
    | agg ys =>
      simp only [evBin] at h
      obtain ⟨hok, h⟩ := h
      generalize kindsOf xs = ks at hok h
      unfold eqOkB at hok
      split at hok
      · rename_i fs hu hg
        cases hk : flatKinds P 40 t with
        | none => simp [hk] at hok
        | some ks' =>
          simp only [hk, beq_iff_eq] at hok
          subst hok
          cases hc : eqCells ks' xs ys with
          | none => simp [hc] at h
          | some b =>
            simp only [hc] at h
            obtain ⟨vs, rfl, hl, hr⟩ := hx.agg_inv
            obtain ⟨us, rfl, hl', hr'⟩ := hy.agg_inv
            obtain ⟨l1, l2⟩ := eqCells_length hc
            obtain ⟨hsz, p, q, r1, r2, r3⟩ := (flat_rep (P := P) (β := β) (F := F) (w := w) 40).1 t ks' hk xs ys vs us 0 b Op.maxDepth (by simp [Op.maxDepth]) ⟨hl, hr⟩ ⟨hl', hr'⟩
              (by rw [List.drop_zero, List.drop_zero, List.take_of_length_le (by omega), List.take_of_length_le (by omega)]; exact hc)
            obtain ⟨i, hi⟩ := info_of_underlying hu
            have hs : (sizeOf t).run P w = .ok ks'.length w := by rw [run_sizeOf w hi, hsz]
            have e1 : (part t vs 0).run P w = .ok (.agg vs) w := by simp [part, isAgg, run_underlying hu, hs, ← l1, hl]
            have e2 : (part t us 0).run P w = .ok (.agg us) w := by simp [part, isAgg, run_underlying hu, hs, ← l2, hl']
            rw [e1] at r1
            rw [e2] at r2
            cases r1
            cases r2
            exact eq_rep xo yo r3 ⟨nofun, nofun, nofun, nofun⟩ (run_eqGuard_agg w op t xo yo vs us hg) (.imm (.bool _)) (.imm (.bool _))
              (eqPick_iff h)
      · cases hok
    | _ => exact h.elim
  | any => exact rest _ _ rfl rfl h
  | tt => exact rest _ _ rfl rfl h
  | ff => exact rest _ _ rfl rfl h
  | bool b => exact rest _ _ rfl rfl h
  | str s => exact rest _ _ rfl rfl h
  | nilp => exact rest _ _ rfl rfl h
  | nils => exact rest _ _ rfl rfl h
  | nilf => exact rest _ _ rfl rfl h
  | tup l => exact rest _ _ rfl rfl h
  | sl sz d enc l => exact rest _ _ rfl rfl h
  | slc sz css => exact rest _ _ rfl rfl h
  | pt cs off => exact rest _ _ rfl rfl h
  | ptr id sz i off => exact rest _ _ rfl rfl h
  | own id => exact rest _ _ rfl rfl h
  | fn f xs ys => exact rest _ _ rfl rfl h

end
end Go.Ev
