/- A helper text: contracts of functions of the program, and plain lemmas. -/
import Derived.Test.YtiimhccemdcnpaaEvThree
import Derived.KernelRfl
import Derived.Deep.LoopGhost
set_option linter.unusedVariables false
set_option linter.unusedSimpArgs false
/- All operations together; what they read; regions. A helper text: it speaks of no program. -/
namespace Go.Ev
section
variable {P : Program} {B : Nat → Prop} {w0 : World} {F0 : Env P} {S : St} {β : Nat → Option Hd} {F : Nat → Prop} {a : Act} {w : World}

/-- The operations that make a row. -/
def allocs : Op → Bool
  | .alloc _ => true
  | .box .. => true
  | .buildSlice .. => true
  | .makeSlice .. => true
  | .call c => match c.callee with
    | .builtin .append => true
    | _ => false
  | _ => false

theorem move_snd (hR : Rel B w0 F0 S β F a w) {o : Oper} {x : Operand} (ho : o.op = .move x ∨ o.op = .assign x) {K : Out → List Nat → Prop} (h : K ⟨S.get x, []⟩ []) {Q : Exit → Act → World → Prop} :
    o.wp P a w (After B w0 F0 S β o.dst K) Q := by
  refine wp_val (v := a.eval x) (w' := w) ?_ (After.still hR (hR.get x) h)
  rcases ho with ho | ho <;> simp [execOp, ho]

theorem pick_snd (hR : Rel B w0 F0 S β F a w) {o : Oper} {c x y : Operand} (ho : o.op = .pick c x y) {K : Out → List Nat → Prop} (h : evOp P o.dst (.pick c x y) S.get S.row K) {Q : Exit → Act → World → Prop} :
    o.wp P a w (After B w0 F0 S β o.dst K) Q := by
  simp only [evOp] at h
  have hc := hR.get c
  split at h
  · rename_i hg
    rw [hg] at hc
    exact wp_val (v := a.eval x) (w' := w) (by simp [execOp, ho, hc.tt_inv, asBool]) (After.still hR (hR.get x) h)
  · rename_i hg
    rw [hg] at hc
    exact wp_val (v := a.eval y) (w' := w) (by simp [execOp, ho, hc.ff_inv, asBool]) (After.still hR (hR.get y) h)
  · rename_i b hg
    rw [hg] at hc
    cases b
    · exact wp_val (v := a.eval y) (w' := w) (by simp [execOp, ho, hc.bool_inv, asBool]) (After.still hR (hR.get y) (h.2 rfl))
    · exact wp_val (v := a.eval x) (w' := w) (by simp [execOp, ho, hc.bool_inv, asBool]) (After.still hR (hR.get x) (h.1 rfl))
  · exact h.elim

theorem evOp_snd (hR : Rel B w0 F0 S β F a w) {o : Oper} (hfree : allocs o.op = true → ∀ d, o.dst = some d → β d = none) {K : Out → List Nat → Prop} (h : evOp P o.dst o.op S.get S.row K) {Q : Exit → Act → World → Prop} :
    o.wp P a w (After B w0 F0 S β o.dst K) Q := by
  cases ho : o.op <;> rw [ho] at h hfree
  case move x => exact move_snd hR (.inl ho) h
  case assign x => exact move_snd hR (.inr ho) h
  case pick c x y => exact pick_snd hR ho h
  case alloc t => exact alloc_snd hR ho (hfree rfl) h
  case box t x => exact box_snd hR ho (hfree rfl) h
  case build t ps => exact build_snd hR ho h
  case buildSlice t n ps => exact buildSlice_snd hR ho (hfree rfl) h
  case load t x => exact load_snd hR ho h
  case store t x y => exact store_snd hR ho h
  case nilCheck x => exact nilCheck_snd hR ho h
  case index t x i => exact index_snd hR ho h
  case binOp op t x y yt =>
    obtain ⟨r, v, h1, h2, h3⟩ := evBin_rep (P := P) x y (hR.get x) (hR.get y) h
    exact wp_op (s := do eqGuard op t x y (a.eval x) (a.eval y); binOp op t (a.eval x) (a.eval y)) (by simp [execOp, ho]) h1 (After.still hR h2 h3)
  case unOp op t x =>
    simp only [evOp] at h
    obtain ⟨r, v, h1, h2, h3⟩ := evUn_rep (P := P) (hR.get x) h
    exact wp_op (s := Op.unary op (a.eval x)) (by simp [execOp, ho]) h1 (After.still hR h2 h3)
  case convert src t x => exact convert_snd hR ho h
  case makeFunc f xs ys => exact makeFunc_snd hR ho h
  case makeSlice t x y => exact makeSlice_snd hR ho (hfree rfl) h
  case slice t x lo hi mx => exact slice_snd hR ho h
  case fieldAddr s x f => exact fieldAddr_snd hR ho h
  case indexAddr t x i => exact indexAddr_snd hR ho h
  case extract x i => exact extract_snd hR ho h
  case call c =>
    cases hc : c.callee with
    | value f => exact call_snd hR ho hc h
    | invoke r m => simp [evOp, hc] at h
    | builtin b =>
      cases b
      case len => exact len_snd hR ho hc h
      case max => exact max_snd hR ho hc h
      case min => exact min_snd hR ho hc h
      case append => exact append_snd hR ho hc (hfree (by simp [allocs, hc])) h
      all_goals simp [evOp, hc] at h
  all_goals simp [evOp] at h

/-! ### An operation leans on its operands and on the rows that it reads, on nothing else -/
theorem evInt_local {op : BinOp} {lit : Bool} {k k' : IntKind} {x y : Int} {K : AV → Prop} (h : evInt op lit k x k' y K) : ∃ v, K v ∧ evInt op lit k x k' y (fun u => u = v) := by
  cases op
  case shl => obtain ⟨h1, h2⟩ := (obl_iff _ _ _).1 h; exact ⟨_, h2, (obl_iff _ _ _).2 ⟨h1, rfl⟩⟩
  case shr => obtain ⟨h1, h2⟩ := (obl_iff _ _ _).1 h; exact ⟨_, h2, (obl_iff _ _ _).2 ⟨h1, rfl⟩⟩
  all_goals
    simp only [evInt] at h ⊢
    by_cases hk : k = k'
    · simp only [hk, decide_true] at h ⊢
      first
        | (obtain ⟨h1, h2⟩ := (obl_iff _ _ _).1 h; exact ⟨_, h2, (obl_iff _ _ _).2 ⟨h1, rfl⟩⟩)
        | exact ⟨_, h, rfl⟩
    · simp [hk] at h

theorem eqPick_local {op : BinOp} {x y : AV} {K : AV → Prop} (h : eqPick op (K x) (K y)) : ∃ v, K v ∧ eqPick op (x = v) (y = v) := by
  cases op <;> first | exact h.elim | exact ⟨_, h, rfl⟩

theorem evBin_local {op : BinOp} {t : TypeId} {lit : Bool} {x y : AV} {K : AV → Prop} (h : evBin P op t lit x y K) : ∃ v, K v ∧ evBin P op t lit x y (fun u => u = v) := by
  unfold evBin at h ⊢
  repeat' split at h
  all_goals first
    | exact h.elim
    | exact evInt_local h
    | exact eqPick_local h
    | (obtain ⟨hok, h⟩ := h
       repeat' split at h
       all_goals first
         | exact h.elim
         | (obtain ⟨v, h1, h2⟩ := eqPick_local h
            exact ⟨v, h1, hok, by simp only [*]⟩))

theorem evUn_local {op : UnOp} {x : AV} {K : AV → Prop} (h : evUn op x K) : ∃ v, K v ∧ evUn op x (fun u => u = v) := by
  unfold evUn at h ⊢
  split at h
  all_goals first
    | exact h.elim
    | exact ⟨_, h, rfl⟩

/-- The operands that an operation looks at. -/
def sees (op : Op) : List Operand := op.operands.toList

theorem IsSl_local {r r' : Nat → Row} {x : AV} {D : SlD} (h : IsSl r x D) (hr : ∀ i ∈ ownId x, r' i = r i) : IsSl r' x D := by
  cases x <;> simp only [IsSl] at h ⊢ <;> first | exact h | (rw [hr _ (by simp [ownId])]; exact h)

theorem baseOk_local {r r' : Nat → Row} {e : TypeId} {x : AV} (h : baseOk r e x = true) (hr : ∀ i ∈ ownId x, r' i = r i) : baseOk r' e x = true := by
  cases x <;> simp only [baseOk] at h ⊢ <;> first | exact h | (rw [hr _ (by simp [ownId])]; exact h)

theorem evOp_local {dst : Option Nat} {op : Op} {g : Operand → AV} {r : Nat → Row} {K : Out → List Nat → Prop} (h : evOp P dst op g r K) :
    ∃ out rd, K out rd ∧ ∀ g' r', (∀ x ∈ sees op, g' x = g x) → (∀ i ∈ rd, r' i = r i) → evOp P dst op g' r' (fun o d => o = out ∧ d = rd) := by
  cases op
  case move x => exact ⟨_, _, h, fun g' r' hg hr => by simp only [evOp]; rw [hg x (by simp [sees, Op.operands])]; exact ⟨rfl, trivial⟩⟩
  case assign x => exact ⟨_, _, h, fun g' r' hg hr => by simp only [evOp]; rw [hg x (by simp [sees, Op.operands])]; exact ⟨rfl, trivial⟩⟩
  case pick c x y =>
    simp only [evOp] at h
    have e : ∀ g' : Operand → AV, (∀ z ∈ sees (.pick c x y), g' z = g z) → g' c = g c ∧ g' x = g x ∧ g' y = g y := fun g' hg => ⟨hg _ (by simp [sees, Op.operands]), hg _ (by simp [sees, Op.operands]), hg _ (by simp [sees, Op.operands])⟩
    split at h
    · rename_i hc
      exact ⟨_, _, h, fun g' r' hg hr => by obtain ⟨e1, e2, e3⟩ := e g' hg; simp [evOp, e1, e2, hc]⟩
    · rename_i hc
      exact ⟨_, _, h, fun g' r' hg hr => by obtain ⟨e1, e2, e3⟩ := e g' hg; simp [evOp, e1, e3, hc]⟩
    · rename_i b hc
      cases b
      · exact ⟨_, _, h.2 rfl, fun g' r' hg hr => by obtain ⟨e1, e2, e3⟩ := e g' hg; simp [evOp, e1, e3, hc]⟩
      · exact ⟨_, _, h.1 rfl, fun g' r' hg hr => by obtain ⟨e1, e2, e3⟩ := e g' hg; simp [evOp, e1, e2, hc]⟩
    · exact h.elim
  case alloc t =>
    simp only [evOp] at h
    split at h
    · rename_i d cs hz
      exact ⟨_, _, h, fun g' r' hg hr => by simp only [evOp, hz]; exact ⟨trivial, trivial⟩⟩
    · exact h.elim
  case box t x =>
    simp only [evOp] at h
    split at h
    · rename_i d cs hz
      exact ⟨_, _, h, fun g' r' hg hr => by simp only [evOp]; rw [hg x (by simp [sees, Op.operands]), hz]; exact ⟨rfl, trivial⟩⟩
    · exact h.elim
  case build t ps =>
    have e : ∀ g' : Operand → AV, (∀ z ∈ sees (.build t ps), g' z = g z) → (ps.toList.map fun p => (p.1, g' p.2)) = ps.toList.map fun p => (p.1, g p.2) := fun g' hg =>
      List.map_congr_left fun p hp => by rw [hg p.2 (by simp only [sees, Op.operands]; exact List.mem_map.2 ⟨p, hp, rfl⟩)]
    simp only [evOp] at h
    repeat' split at h
    all_goals first
      | exact h.elim
      | exact ⟨_, _, h, fun g' r' hg hr => by simp only [evOp, e g' hg, *]; exact ⟨trivial, trivial⟩⟩
  case buildSlice t n ps =>
    have e : ∀ g' : Operand → AV, (∀ z ∈ sees (.buildSlice t n ps), g' z = g z) → (ps.toList.map fun p => (p.1, g' p.2)) = ps.toList.map fun p => (p.1, g p.2) := fun g' hg =>
      List.map_congr_left fun p hp => by rw [hg p.2 (by simp only [sees, Op.operands]; exact List.mem_map.2 ⟨p, hp, rfl⟩)]
    simp only [evOp] at h
    repeat' split at h
    all_goals first
      | exact h.elim
      | exact ⟨_, _, h, fun g' r' hg hr => by simp only [evOp, e g' hg, *]; exact ⟨trivial, trivial⟩⟩
  case load t x =>
    have e : ∀ g' : Operand → AV, (∀ z ∈ sees (.load t x), g' z = g z) → g' x = g x := fun g' hg => hg _ (by simp [sees, Op.operands])
    simp only [evOp] at h
    repeat' split at h
    all_goals first
      | exact h.elim
      | exact ⟨_, _, h, fun g' r' hg hr => by simp only [evOp, e g' hg, *]; exact ⟨trivial, trivial⟩⟩
      | exact ⟨_, _, h, fun g' r' hg hr => by simp only [evOp, e g' hg, hr _ (List.mem_singleton.2 rfl), *]; exact ⟨trivial, trivial⟩⟩
      | exact ⟨_, _, h.2, fun g' r' hg hr => by simp only [evOp, e g' hg, hr _ (List.mem_singleton.2 rfl), *]; exact ⟨trivial, trivial, trivial⟩⟩
  case store t x y =>
    have e : ∀ g' : Operand → AV, (∀ z ∈ sees (.store t x y), g' z = g z) → g' x = g x ∧ g' y = g y := fun g' hg => ⟨hg _ (by simp [sees, Op.operands]), hg _ (by simp [sees, Op.operands])⟩
    simp only [evOp] at h
    repeat' split at h
    all_goals first
      | exact h.elim
      | exact ⟨_, _, h, fun g' r' hg hr => by simp only [evOp, (e g' hg).1, (e g' hg).2, hr _ (List.mem_singleton.2 rfl), *]; exact ⟨trivial, trivial⟩⟩
      | (obtain ⟨z, h1, h2, h3⟩ := h
         exact ⟨_, _, h3, fun g' r' hg hr => by simp only [evOp, (e g' hg).1, (e g' hg).2, hr _ (List.mem_singleton.2 rfl), *]; exact ⟨z, h1, trivial, rfl, trivial⟩⟩)
  case nilCheck x =>
    have e : ∀ g' : Operand → AV, (∀ z ∈ sees (.nilCheck x), g' z = g z) → g' x = g x := fun g' hg => hg _ (by simp [sees, Op.operands])
    simp only [evOp] at h
    repeat' split at h
    all_goals first
      | exact h.elim
      | exact ⟨_, _, h, fun g' r' hg hr => by simp only [evOp, e g' hg, *]; exact ⟨trivial, trivial⟩⟩
  case binOp op t x y yt =>
    have e : ∀ g' : Operand → AV, (∀ z ∈ sees (.binOp op t x y yt), g' z = g z) → g' x = g x ∧ g' y = g y := fun g' hg => ⟨hg _ (by simp [sees, Op.operands]), hg _ (by simp [sees, Op.operands])⟩
    obtain ⟨v, h1, h2⟩ := evBin_local h
    refine ⟨_, _, h1, fun g' r' hg hr => ?_⟩
    simp only [evOp, (e g' hg).1, (e g' hg).2]
    simpa using h2
  case unOp op t x =>
    have e : ∀ g' : Operand → AV, (∀ z ∈ sees (.unOp op t x), g' z = g z) → g' x = g x := fun g' hg => hg _ (by simp [sees, Op.operands])
    simp only [evOp] at h
    obtain ⟨v, h1, h2⟩ := evUn_local h
    refine ⟨_, _, h1, fun g' r' hg hr => ?_⟩
    simp only [evOp, e g' hg]
    simpa using h2
  case convert src t x =>
    have e : ∀ g' : Operand → AV, (∀ z ∈ sees (.convert src t x), g' z = g z) → g' x = g x := fun g' hg => hg _ (by simp [sees, Op.operands])
    simp only [evOp] at h
    repeat' split at h
    all_goals first
      | exact h.elim
      | exact ⟨_, _, h, fun g' r' hg hr => by simp only [evOp, e g' hg, *]; exact ⟨trivial, trivial⟩⟩
  case makeFunc f xs ys =>
    have e1 : ∀ g' : Operand → AV, (∀ z ∈ sees (.makeFunc f xs ys), g' z = g z) → xs.toList.map g' = xs.toList.map g := fun g' hg => List.map_congr_left fun p hp => hg p (by simp only [sees, Op.operands, Array.toList_append]; exact List.mem_append_left _ hp)
    have e2 : ∀ g' : Operand → AV, (∀ z ∈ sees (.makeFunc f xs ys), g' z = g z) → ys.toList.map g' = ys.toList.map g := fun g' hg => List.map_congr_left fun p hp => hg p (by simp only [sees, Op.operands, Array.toList_append]; exact List.mem_append_right _ hp)
    exact ⟨_, _, h, fun g' r' hg hr => by simp only [evOp, e1 g' hg, e2 g' hg]; exact ⟨trivial, trivial⟩⟩
  case makeSlice t x y =>
    have e : ∀ g' : Operand → AV, (∀ z ∈ sees (.makeSlice t x y), g' z = g z) → g' x = g x ∧ g' y = g y := fun g' hg => ⟨hg _ (by simp [sees, Op.operands]), hg _ (by simp [sees, Op.operands])⟩
    simp only [evOp] at h
    repeat' split at h
    all_goals first
      | exact h.elim
      | (obtain ⟨α, z, enc, h1, h2, h3, h4, h5, h6⟩ := h
         subst h2
         exact ⟨_, _, h6, fun g' r' hg hr => by simp only [evOp, (e g' hg).1, (e g' hg).2, *]; exact ⟨α, z, enc, h1, trivial, trivial, trivial, trivial, rfl, trivial⟩⟩)
  case slice t x lo hi mx =>
    have e : ∀ g' : Operand → AV, (∀ z ∈ sees (.slice t x lo hi mx), g' z = g z) → g' x = g x ∧ (∀ l : AV, bnd g' lo l = bnd g lo l) ∧ ∀ l : AV, bnd g' hi l = bnd g hi l := fun g' hg => by
      refine ⟨hg _ (by simp [sees, Op.operands]), fun l => ?_, fun l => ?_⟩
      · cases lo with
        | none => rfl
        | some y => exact hg y (by simp [sees, Op.operands])
      · cases hi with
        | none => rfl
        | some y => exact hg y (by simp [sees, Op.operands])
    obtain rfl : mx = none := by
      cases mx with
      | none => rfl
      | some m => simp [evOp] at h
    simp only [evOp] at h
    split at h
    case h_2 => exact h.elim
    rename_i e' hu
    split at h
    case h_2 => exact h.elim
    rename_i inf hi'
    split at h
    case h_2 => exact h.elim
    rename_i α sz d enc l hgx
    split at h
    case h_2 => exact h.elim
    rename_i hsz
    split at h
    case h_2 => exact h.elim
    rename_i ka p kb q hlo hhi
    obtain ⟨h1, hK⟩ := (obl_iff _ _ _).1 h
    refine ⟨_, _, hK, fun g' r' hg hr => ?_⟩
    obtain ⟨e1, e2, e3⟩ := e g' hg
    simp only [evOp, hu, hi', e1, hgx, hsz, e2, e3, hlo, hhi]
    exact (obl_iff _ _ _).2 ⟨h1, by simp⟩
  case fieldAddr s x f =>
    have e : ∀ g' : Operand → AV, (∀ z ∈ sees (.fieldAddr s x f), g' z = g z) → g' x = g x := fun g' hg => hg _ (by simp [sees, Op.operands])
    simp only [evOp] at h
    repeat' split at h
    all_goals first
      | exact h.elim
      | exact ⟨_, _, h, fun g' r' hg hr => by simp only [evOp, e g' hg, *]; exact ⟨trivial, trivial⟩⟩
  case extract x i =>
    have e : ∀ g' : Operand → AV, (∀ z ∈ sees (.extract x i), g' z = g z) → g' x = g x := fun g' hg => hg _ (by simp [sees, Op.operands])
    simp only [evOp] at h
    repeat' split at h
    all_goals first
      | exact h.elim
      | exact ⟨_, _, h, fun g' r' hg hr => by simp only [evOp, e g' hg, *]; exact ⟨trivial, trivial⟩⟩
  case index t x i =>
    have e : ∀ g' : Operand → AV, (∀ z ∈ sees (.index t x i), g' z = g z) → g' x = g x ∧ g' i = g i := fun g' hg => ⟨hg _ (by simp [sees, Op.operands]), hg _ (by simp [sees, Op.operands])⟩
    simp only [evOp] at h
    split at h
    case h_2 => exact h.elim
    rename_i k n hn
    split at h
    case h_2 => exact h.elim
    rename_i s hgx
    split at h
    case h_2 => exact h.elim
    rename_i hu
    obtain ⟨h1, h2⟩ := (obl_iff _ _ _).1 h
    refine ⟨_, _, h2, fun g' r' hg hr => ?_⟩
    simp only [evOp, (e g' hg).1, (e g' hg).2, hn, hu, hgx]
    exact (obl_iff _ _ _).2 ⟨h1, by simp⟩
  case indexAddr t x i =>
    have e : ∀ g' : Operand → AV, (∀ z ∈ sees (.indexAddr t x i), g' z = g z) → g' x = g x ∧ g' i = g i := fun g' hg => ⟨hg _ (by simp [sees, Op.operands]), hg _ (by simp [sees, Op.operands])⟩
    simp only [evOp] at h
    split at h
    case h_2 => exact h.elim
    rename_i k n hn
    split at h
    · rename_i e' hu
      split at h
      case h_2 => exact h.elim
      rename_i inf hi
      split at h
      · rename_i hgx
        split at h
        case h_2 => exact h.elim
        rename_i hsz
        obtain ⟨h1, h2⟩ := (obl_iff _ _ _).1 h
        split at h2
        case h_2 => exact h2.elim
        rename_i hlen
        refine ⟨_, _, h2, fun g' r' hg hr => ?_⟩
        simp only [evOp, (e g' hg).1, (e g' hg).2, hn, hu, hi, hgx, hsz, hlen]
        exact (obl_iff _ _ _).2 ⟨h1, by simp⟩
      · rename_i hgx
        split at h
        case h_2 => exact h.elim
        rename_i hsz
        obtain ⟨h1, h2⟩ := (obl_iff _ _ _).1 h
        split at h2
        case h_2 => exact h2.elim
        rename_i hlen
        refine ⟨_, _, h2, fun g' r' hg hr => ?_⟩
        simp only [evOp, (e g' hg).1, (e g' hg).2, hn, hu, hi, hgx, hsz, hlen]
        exact (obl_iff _ _ _).2 ⟨h1, by simp⟩
      · rename_i id hgx
        split at h
        case h_3 => exact h.elim
        all_goals
          rename_i hr0
          split at h
          case h_2 => exact h.elim
          rename_i hsz
          obtain ⟨h1, h2⟩ := (obl_iff _ _ _).1 h
          refine ⟨_, _, h2, fun g' r' hg hr => ?_⟩
          simp only [evOp, (e g' hg).1, (e g' hg).2, hn, hu, hi, hgx, hr id (List.mem_singleton.2 rfl), hr0, hsz]
          exact (obl_iff _ _ _).2 ⟨h1, by simp⟩
      · exact h.elim
    · rename_i len e' hu
      split at h
      case h_2 => exact h.elim
      rename_i inf hi
      obtain ⟨h1, h2⟩ := (obl_iff _ _ _).1 h
      split at h2
      case h_3 => exact h2.elim
      all_goals
        rename_i hgx
        refine ⟨_, _, h2, fun g' r' hg hr => ?_⟩
        simp only [evOp, (e g' hg).1, (e g' hg).2, hn, hu, hi, hgx]
        exact (obl_iff _ _ _).2 ⟨h1, by simp⟩
    · exact h.elim
  case call c =>
    have eargs : ∀ g' : Operand → AV, (∀ z ∈ sees (.call c), g' z = g z) → ∀ x ∈ c.args.toList, g' x = g x := fun g' hg x hx => hg x (by simp only [sees, Op.operands, Call.operands, Array.toList_append]; exact List.mem_append_right _ hx)
    have emap : ∀ g' : Operand → AV, (∀ z ∈ sees (.call c), g' z = g z) → c.args.toList.map g' = c.args.toList.map g := fun g' hg => List.map_congr_left (eargs g' hg)
    cases hc : c.callee with
    | invoke r m => simp [evOp, hc] at h
    | value f =>
      have ef : ∀ g' : Operand → AV, (∀ z ∈ sees (.call c), g' z = g z) → g' f = g f := fun g' hg => hg f (by simp [sees, Op.operands, Call.operands, hc])
      simp only [evOp, hc] at h
      split at h
      case h_2 => exact h.elim
      rename_i fid first caps hgf
      split at h
      · rename_i hcl
        rw [fL_eq] at h
        obtain ⟨v, h1, h2⟩ := h
        refine ⟨_, _, h2, fun g' r' hg hr => ?_⟩
        simp only [evOp, hc, ef g' hg, hgf, emap g' hg, hcl]
        rw [fL_eq]
        exact ⟨v, h1, by simp⟩
      · rename_i hcl
        rw [fL_eq] at h
        obtain ⟨v, h1, h2⟩ := h
        split at h2
        case h_2 => exact h2.elim
        rename_i hfl
        refine ⟨_, _, h2, fun g' r' hg hr => ?_⟩
        simp only [evOp, hc, ef g' hg, hgf, emap g' hg, hcl]
        rw [fL_eq]
        have : (first ++ c.args.toList.map g ++ caps).map (closeN 4 r') = (first ++ c.args.toList.map g ++ caps).map (closeN 4 r) := List.map_congr_left fun x hx => closeN_local 4 x fun i hi => hr i (List.mem_flatMap.2 ⟨x, hx, hi⟩)
        have hids : (first ++ c.args.toList.map g ++ caps).flatMap (idsN 4 r') = (first ++ c.args.toList.map g ++ caps).flatMap (idsN 4 r) := by
          have key : ∀ n (x : AV), (∀ i ∈ idsN n r x, r' i = r i) → idsN n r' x = idsN n r x := by
            intro n
            induction n with
            | zero => intro x _; rfl
            | succ n ih =>
              intro x hx
              have hl : ∀ l : List AV, (∀ i ∈ l.flatMap (idsN n r), r' i = r i) → l.flatMap (idsN n r') = l.flatMap (idsN n r) := fun l hl => by
                induction l with
                | nil => rfl
                | cons y l ihl =>
                  simp only [List.flatMap_cons]
                  rw [ih y fun i hi => hl i (by simp only [List.flatMap_cons]; exact List.mem_append_left _ hi), ihl fun i hi => hl i (by simp only [List.flatMap_cons]; exact List.mem_append_right _ hi)]
              have hll : ∀ l : List (List AV), (∀ i ∈ l.flatMap (fun cs => cs.flatMap (idsN n r)), r' i = r i) → l.flatMap (fun cs => cs.flatMap (idsN n r')) = l.flatMap (fun cs => cs.flatMap (idsN n r)) := fun l h2 => by
                induction l with
                | nil => rfl
                | cons y l ihl =>
                  simp only [List.flatMap_cons]
                  rw [hl y fun i hi => h2 i (by simp only [List.flatMap_cons]; exact List.mem_append_left _ hi), ihl fun i hi => h2 i (by simp only [List.flatMap_cons]; exact List.mem_append_right _ hi)]
              cases x with
              | ptr id sz i off =>
                have e := hx id (by simp [idsN])
                simp only [idsN, e]
                cases hr : r id with
                | cells ty cs => simp only [hl cs fun i hi => hx i (by simp only [idsN, hr]; exact List.mem_cons_of_mem _ hi)]
                | _ => rfl
              | own id =>
                have e := hx id (by simp [idsN])
                simp only [idsN, e]
                cases hr : r id with
                | lit ty sz css => simp only [hll css fun i hi => hx i (by simp only [idsN, hr]; exact List.mem_cons_of_mem _ hi)]
                | _ => rfl
              | agg l => simp only [idsN]; exact hl l fun i hi => hx i (by simpa only [idsN] using hi)
              | tup l => simp only [idsN]; exact hl l fun i hi => hx i (by simpa only [idsN] using hi)
              | fn f a b =>
                simp only [idsN]
                rw [hl a fun i hi => hx i (by simp only [idsN]; exact List.mem_append_left _ hi), hl b fun i hi => hx i (by simp only [idsN]; exact List.mem_append_right _ hi)]
              | _ => rfl
          generalize first ++ c.args.toList.map g ++ caps = A at hr
          induction A with
          | nil => rfl
          | cons x A ih =>
            simp only [List.flatMap_cons] at hr ⊢
            rw [key 4 x fun i hi => hr i (List.mem_append_left _ hi), ih fun i hi => hr i (List.mem_append_right _ hi)]
        rw [this]
        refine ⟨v, h1, ?_⟩
        simp only [hfl, hids]
        exact ⟨trivial, trivial⟩
    | builtin b =>
      cases b
      case len =>
        simp only [evOp, hc] at h
        split at h
        case h_2 => exact h.elim
        rename_i x t hx ht
        have ex : ∀ g' : Operand → AV, (∀ z ∈ sees (.call c), g' z = g z) → g' x = g x := fun g' hg => eargs g' hg x (by rw [hx]; simp)
        repeat' split at h
        all_goals first
          | exact h.elim
          | exact ⟨_, _, h, fun g' r' hg hr => by simp only [evOp, hc, ex g' hg, *]; exact ⟨trivial, trivial⟩⟩
          | exact ⟨_, _, h, fun g' r' hg hr => by simp only [evOp, hc, ex g' hg, hr _ (List.mem_singleton.2 rfl), *]; exact ⟨trivial, trivial⟩⟩
      case max =>
        simp only [evOp, hc] at h
        split at h
        case h_2 => exact h.elim
        rename_i x y hx
        have ex : ∀ g' : Operand → AV, (∀ z ∈ sees (.call c), g' z = g z) → g' x = g x ∧ g' y = g y := fun g' hg => ⟨eargs g' hg x (by rw [hx]; simp), eargs g' hg y (by rw [hx]; simp)⟩
        split at h
        · exact ⟨_, _, h, fun g' r' hg hr => by simp only [evOp, hc, (ex g' hg).1, (ex g' hg).2, *]; exact ⟨trivial, trivial⟩⟩
        · exact h.elim
      case min =>
        simp only [evOp, hc] at h
        split at h
        case h_2 => exact h.elim
        rename_i x y hx
        have ex : ∀ g' : Operand → AV, (∀ z ∈ sees (.call c), g' z = g z) → g' x = g x ∧ g' y = g y := fun g' hg => ⟨eargs g' hg x (by rw [hx]; simp), eargs g' hg y (by rw [hx]; simp)⟩
        split at h
        · exact ⟨_, _, h, fun g' r' hg hr => by simp only [evOp, hc, (ex g' hg).1, (ex g' hg).2, *]; exact ⟨trivial, trivial⟩⟩
        · exact h.elim
      case append =>
        simp only [evOp, hc] at h
        split at h
        case h_2 => exact h.elim
        rename_i x y t t' hx ht
        have ex : ∀ g' : Operand → AV, (∀ z ∈ sees (.call c), g' z = g z) → g' x = g x ∧ g' y = g y := fun g' hg => ⟨eargs g' hg x (by rw [hx]; simp), eargs g' hg y (by rw [hx]; simp)⟩
        split at h
        case h_2 => exact h.elim
        rename_i dd e hd hu ht'
        split at h
        case h_2 => exact h.elim
        rename_i inf z hi hz
        split at h
        case h_2 => exact h.elim
        rename_i hzs
        split at h
        case h_2 => exact h.elim
        rename_i hpos
        split at h
        case h_2 => exact h.elim
        rename_i hbase
        obtain ⟨D, l', h1, h2, h3, h4, h5, h6, h7⟩ := h
        refine ⟨_, _, h7, fun g' r' hg hr => ?_⟩
        have hb' := baseOk_local hbase fun i hi => hr i (List.mem_append_left _ hi)
        have h2' := IsSl_local h2 fun i hi => hr i (List.mem_append_left _ hi)
        have h3' := IsSl_local h3 fun i hi => hr i (List.mem_append_right _ hi)
        simp only [evOp, hc, (ex g' hg).1, (ex g' hg).2, hx, ht, hu, ht', hi, hz, hzs, hpos, hb']
        exact ⟨D, l', h1, h2', h3', h4, h5, h6, by simp⟩
      all_goals simp [evOp, hc] at h
  all_goals simp [evOp] at h

end
end Go.Ev
/- Regions: in the order of the text, and in any order. A helper text: it speaks of no program. -/
namespace Go.Ev
section
variable {P : Program} {B : Nat → Prop} {w0 : World} {F0 : Env P} {S : St} {β : Nat → Option Hd} {F : Nat → Prop} {a : Act} {w : World} {ops : Array Oper}

/-! ### Rows that are given up before their number is used anew -/
def killAV (d : Nat) (x : AV) : AV :=
  match x.names d with
  | true => .any
  | false => x
def killRow (d : Nat) : Row → Row
  | .none => .none
  | .cells ty cs => .cells ty (cs.map (killAV d))
  | .lit ty sz css => .lit ty sz (css.map fun cs => cs.map (killAV d))
  | .vec ty sz e enc l => .vec ty sz e enc l
  | .ctr l xs k e => .ctr l xs k e
def St.kill (S : St) (d : Nat) : St := ⟨S.t.map (killAV d), (S.h.map (killRow d)).set d .none, S.n⟩
def St.kills (S : St) : List Nat → St
  | [] => S
  | d :: l => (S.kill d).kills l

theorem killAV_rep {d : Nat} {β' : Nat → Option Hd} (hβ : ∀ j, j ≠ d → β' j = β j) {x : AV} {v : Value} (h : Rep β F w x v) : Rep β' F w (killAV d x) v := by
  unfold killAV
  cases hn : x.names d with
  | true => exact .imm (.any _)
  | false => exact h.turn hβ hn
theorem killAV_any (d : Nat) : killAV d .any = .any := rfl
theorem row_kill (S : St) (d j : Nat) : (S.kill d).row j = if j = d then .none else killRow d (S.row j) := by
  simp only [St.kill, St.row, getD_set_row, List.length_map]
  have hm : (S.h.map (killRow d)).getD j .none = killRow d (S.h.getD j .none) := by
    simp only [List.getD, List.getElem?_map]
    cases S.h[j]? <;> rfl
  rw [hm]
  by_cases h : j = d
  · subst h
    by_cases hl : j < S.h.length
    · simp [hl]
    · have e : S.h.getD j .none = .none := by simp [List.getD, List.getElem?_eq_none (Nat.le_of_not_lt hl)]
      rw [e]; simp [killRow]
  · simp [h, Ne.symm h]
theorem killRow_none {d : Nat} {r : Row} (h : killRow d r ≠ .none) : r ≠ .none := by rintro rfl; exact h rfl

theorem Rel.kill (hR : Rel B w0 F0 S β F a w) (d : Nat) (hd0 : F0.β d = none) : ∃ β', β' d = none ∧ (∀ j, j ≠ d → β' j = β j) ∧ Rel B w0 F0 (S.kill d) β' F a w := by
  let β' : Nat → Option Hd := fun j => if j = d then none else β j
  have h2 : ∀ j, j ≠ d → β' j = β j := fun j hj => by simp [β', hj]
  have b2 : ∀ j b, blk β' j = some b → j ≠ d ∧ blk β j = some b := fun j b h => by
    by_cases e : j = d
    · subst e; simp [blk, β'] at h
    · exact ⟨e, by simpa [blk, β', e] using h⟩
  have live : ∀ j, (S.kill d).row j ≠ .none → j ≠ d ∧ S.row j ≠ .none := fun j h => by
    rw [row_kill] at h
    by_cases e : j = d
    · simp [e] at h
    · rw [if_neg e] at h; exact ⟨e, killRow_none h⟩
  refine ⟨β', by simp [β'], h2, ?_⟩
  refine { len := by simp [St.kill, hR.len], slots := fun i hi => ?_, marks := hR.marks, rows := fun j => ?_, inj := fun i j b hi hj hbi hbj => ?_, bF := fun i b hi hbi => ?_, bB := fun i b hbi => hR.bB i b (b2 i b hbi).2, FB := hR.FB, below := hR.below, BW := hR.BW, top := fun j hd h => (h2 j fun e => by rw [e, hd0] at h; cases h).trans (hR.top j hd h), topn := fun j hj => hR.topn j (by simpa [St.kill, mayKill] using hj), nn := hR.nn, inc := hR.inc, keep := hR.keep, sol := hR.sol, yl := hR.ylOf (fun i => i) (fun id l xs k e h => ?_) (fun _ _ _ _ h => h) (fun i b hi hb => ⟨i, (live i hi).2, (b2 i b hb).2⟩) (fun b hb => .inl hb) }
  · simp only [St.kill, List.length_map] at hi ⊢
    rw [getD_map_av _ (killAV_any d)]
    exact killAV_rep h2 (hR.slots i hi)
  · rw [row_kill]
    split
    · trivial
    · rename_i hj
      have := hR.rows j
      cases hr : S.row j with
      | none => trivial
      | ctr l xs k e =>
        rw [hr] at this
        obtain ⟨hd, e1, e2⟩ := this
        exact ⟨hd, (h2 j hj).trans e1, e2⟩
      | cells ty cs =>
        rw [hr] at this
        obtain ⟨hd, b, vs, e1, e2, e3, e4, e5⟩ := this
        exact ⟨hd, b, vs, (h2 j hj).trans e1, e2, e3, by simpa using e4, fun i hi => by rw [getD_map_av _ (killAV_any d)]; exact killAV_rep h2 (e5 i (by simpa using hi))⟩
      | lit ty sz css =>
        rw [hr] at this
        obtain ⟨hd, b, vs, e1, e2, e3, e4, e5, e6, e7, e8⟩ := this
        have hg : ∀ i, (css.map fun cs => cs.map (killAV d)).getD i [] = (css.getD i []).map (killAV d) := by
          intro i; simp only [List.getD, List.getElem?_map]; cases css[i]? <;> simp
        exact ⟨hd, b, vs, (h2 j hj).trans e1, e2, e3, by simpa using e4, by simpa using e5, by simpa using e6, by simpa using e7, fun i k hi hk => by
          rw [hg, getD_map_av _ (killAV_any d)]; exact killAV_rep h2 (e8 i k (by simpa using hi) hk)⟩
      | vec ty sz e enc l =>
        rw [hr] at this
        obtain ⟨hd, e1, e2⟩ := this
        exact ⟨hd, (h2 j hj).trans e1, e2⟩
  · exact hR.inj i j b (live i hi).2 (live j hj).2 (b2 i b hbi).2 (b2 j b hbj).2
  · exact hR.bF i b (live i hi).2 (b2 i b hbi).2
  · rw [row_kill] at h
    split at h
    · cases h
    · cases hr : S.row id <;> rw [hr] at h <;> simp [killRow] at h
      simp [h]

theorem Rel.kills : ∀ (l : List Nat) {S : St} {β : Nat → Option Hd}, (∀ d ∈ l, F0.β d = none) → Rel B w0 F0 S β F a w → ∃ β', (∀ d ∈ l, β' d = none) ∧ (∀ j, β j = none → β' j = none) ∧ Rel B w0 F0 (S.kills l) β' F a w
  | [], _, β, _, hR => ⟨β, by simp, fun _ h => h, hR⟩
  | d :: l, S, β, hd0, hR => by
    obtain ⟨β1, h1, h2, hR1⟩ := hR.kill d (hd0 d (by simp))
    obtain ⟨β2, h3, h4, hR2⟩ := Rel.kills l (fun x hx => hd0 x (by simp [hx])) hR1
    refine ⟨β2, fun x hx => ?_, fun j hj => ?_, hR2⟩
    · rcases List.mem_cons.1 hx with rfl | hx
      · exact h4 _ h1
      · exact h3 x hx
    · by_cases e : j = d
      · subst e; exact h4 _ h1
      · exact h4 _ ((h2 j e).trans hj)

/-! ### Guards -/
/-- Whether an operation is wanted, as far as the abstract state knows. -/
theorem RepI.undef {F : Nat → Prop} {w : World} : RepI F w (.tup []) undef := .tup rfl fun i hi => absurd hi (Nat.not_lt_zero i)

theorem Rep.tup0_inv {v : Value} {l : List AV} (h : Rep β F w (.tup l) v) : ∃ vs, v = .tuple vs := by
  cases h with
  | imm h => cases h; exact ⟨_, rfl⟩
  | tup _ _ => exact ⟨_, rfl⟩

def gw (ops : Array Oper) (S : St) (o : Oper) : Option Bool :=
  match o.guard with
  | none => some true
  | some (j, want) => match (ops[j]?).bind (·.dst) with
    | none => none
    | some t => match S.t.getD t .any with
      | .tt => some (want == true)
      | .ff => some (want == false)
      | .bool b => some (b == want)
      | .tup [] => some false
      | _ => none

theorem gw_wanted (hR : Rel B w0 F0 S β F a w) {o : Oper} {b : Bool} (h : gw ops S o = some b) : Region.wanted o (yielded ops a.tmps) = b := by
  unfold gw at h
  unfold Region.wanted
  cases hg : o.guard with
  | none => simp [hg] at h; simp [h]
  | some p =>
    obtain ⟨j, want⟩ := p
    simp only [hg] at h ⊢
    cases hd : (ops[j]?).bind (·.dst) with
    | none => simp [hd] at h
    | some t =>
      simp only [hd] at h
      have hs := hR.get (.tmp t)
      have hv : ∀ c, a.eval (.tmp t) = .bool c → yielded ops a.tmps j = some c := fun c hc => by
        have hlt : t < a.tmps.size := by
          rcases Nat.lt_or_ge t a.tmps.size with h' | h'
          · exact h'
          · simp [Act.eval, Array.getElem?_eq_none h', undef] at hc
        have : a.tmps[t] = .bool c := by simpa [Act.eval, hlt] using hc
        simp [yielded, hd, hlt, this]
      have hget : S.get (.tmp t) = S.t.getD t .any := rfl
      rw [hget] at hs
      split at h
      · rename_i e; rw [e] at hs
        rw [hv _ hs.tt_inv]; simp only [Option.some.injEq] at h; subst h; cases want <;> rfl
      · rename_i e; rw [e] at hs
        rw [hv _ hs.ff_inv]; simp only [Option.some.injEq] at h; subst h; cases want <;> rfl
      · rename_i c e; rw [e] at hs
        rw [hv _ hs.bool_inv]; simp only [Option.some.injEq] at h; subst h; cases want <;> cases c <;> rfl
      · rename_i e; rw [e] at hs
        simp only [Option.some.injEq] at h; subst h
        obtain ⟨vs, hvs⟩ := hs.tup0_inv
        have : yielded ops a.tmps j = none := by
          simp only [yielded, hd, Option.bind_some]
          by_cases hlt : t < a.tmps.size
          · have : a.tmps[t] = .tuple vs := by simpa [Act.eval, hlt] using hvs
            simp [hlt, this]
          · simp [hlt]
        rw [this]; rfl
      · cases h

/-- A bool whose worth is known. -/
inductive Fine : AV → AV → Prop
  | same (x) : Fine x x
  | tt : Fine (.bool true) .tt
  | ff : Fine (.bool false) .ff
theorem Fine.rep {x y : AV} {v : Value} (h : Fine x y) (hx : Rep β F w x v) : Rep β F w y v := by
  cases h with
  | same => exact hx
  | tt => rw [hx.bool_inv]; exact .imm .tt
  | ff => rw [hx.bool_inv]; exact .imm .ff

theorem Rel.fine {dst : Option Nat} {x y : AV} {rows : List (Nat × Row)} (h : Rel B w0 F0 (S.put dst ⟨x, rows⟩) β F a w) (hf : Fine x y) : Rel B w0 F0 (S.put dst ⟨y, rows⟩) β F a w where
  len := by have := h.len; simpa [St.put, length_setDst] using this
  slots := by
    intro i hi
    have := h.slots i (by simpa [St.put, length_setDst] using hi)
    simp only [St.put, getD_setDst] at this ⊢
    split
    · rename_i hc; rw [if_pos hc] at this; exact hf.rep this
    · rename_i hc; rw [if_neg hc] at this; exact this
  marks := h.marks
  rows := h.rows
  inj := h.inj
  bF := h.bF
  bB := h.bB
  FB := h.FB
  below := h.below
  BW := h.BW
  top := h.top
  topn := fun j hj => h.topn j (by simpa [St.put, mayKill, length_setDst] using hj)
  nn := h.nn
  inc := h.inc
  keep := h.keep
  sol := h.sol
  yl := h.yl

/-! ### One operation, wherever it comes up -/
/-- In this state the operation gives 'out', reading the rows 'rd': and in every other state that agrees with it in what the operation looks at. -/
def Yl (P : Program) (o : Oper) (S : St) (out : Out) (rd : List Nat) : Prop :=
  ∃ v0, Fine v0 out.v ∧ ∀ S' : St, (∀ x ∈ sees o.op, S'.get x = S.get x) → (∀ i ∈ rd, S'.row i = S.row i) → evOp P o.dst o.op S'.get S'.row (fun o' d => o' = ⟨v0, out.rows⟩ ∧ d = rd)

theorem Yl.snd {o : Oper} {out : Out} {rd : List Nat} (hy : Yl P o S out rd) (hR : Rel B w0 F0 S β F a w) (hfree : allocs o.op = true → ∀ d, o.dst = some d → β d = none) {Q : Exit → Act → World → Prop} :
    o.wp P a w (fun a' w' => ∃ β' F', (∀ j, o.dst ≠ some j → β' j = β j) ∧ Rel B w0 F0 (S.put o.dst out) β' F' a' w') Q := by
  obtain ⟨v0, hf, hy⟩ := hy
  refine Oper.wp_mono ?_ (evOp_snd hR hfree (hy S (fun _ _ => rfl) (fun _ _ => rfl)))
  rintro a' w' ⟨out', rd', ⟨rfl, h3⟩, β', F', h4, h5⟩
  exact ⟨β', F', h4, h5.fine hf⟩

def fpOk (fp : Nat → List Nat × List Nat) (i : Nat) (out : Out) (rd : List Nat) : Prop := (∀ x ∈ rd, x ∈ (fp i).1) ∧ ∀ x ∈ out.rows.map (·.1), x ∈ (fp i).2

/-- Operation number 'i' comes up in state 'S'. -/
def aOp (P : Program) (ops : Array Oper) (fp : Nat → List Nat × List Nat) (i : Nat) (K : St → Prop) (S : St) : Prop :=
  match ops[i]? with
  | none => K S
  | some o => (gw ops S o = some true ∧ ∃ out rd, Yl P o S out rd ∧ fpOk fp i out rd ∧ K (S.put o.dst out)) ∨ (gw ops S o = some false ∧ K (S.put o.dst ⟨.tup [], []⟩))

/-- Whatever order is picked from here on. -/
def anyA (P : Program) (ops : Array Oper) (fp : Nat → List Nat × List Nat) (Q : St → Prop) : Nat → Array Bool → St → Prop
  | 0, listed, S => Region.ready .any ops listed = [] ∧ Q S
  | fuel + 1, listed, S => (Region.ready .any ops listed = [] → Q S) ∧ ∀ i ∈ Region.ready .any ops listed, aOp P ops fp i (anyA P ops fp Q fuel (listed.setIfInBounds i true)) S

theorem aOp_mono {fp : Nat → List Nat × List Nat} {i : Nat} {K K' : St → Prop} (h : ∀ S, K S → K' S) {S : St} (hh : aOp P ops fp i K S) : aOp P ops fp i K' S := by
  unfold aOp at *
  split
  · rename_i ho; simp only [ho] at hh; exact h _ hh
  · rename_i o ho
    simp only [ho] at hh
    rcases hh with ⟨h1, out, rd, h2, h3, h4⟩ | ⟨h1, h2⟩
    · exact .inl ⟨h1, out, rd, h2, h3, h _ h4⟩
    · exact .inr ⟨h1, h _ h2⟩

/-- The rows that are still to be made have no place yet. -/
def Free (ops : Array Oper) (listed : Array Bool) (β : Nat → Option Hd) : Prop := ∀ i o d, ops[i]? = some o → listed.getD i true = false → allocs o.op = true → o.dst = some d → β d = none

theorem wpAny_of_anyA {fp : Nat → List Nat × List Nat} {Q : St → Prop} {Q' : Exit → Act → World → Prop} (hdst : ∀ (i j : Nat) (oi oj : Oper) (d : Nat), ops[i]? = some oi → ops[j]? = some oj → i ≠ j → oi.dst = some d → oj.dst = some d → allocs oi.op = true → False)
    (hQ : ∀ S β F a w, Rel B w0 F0 S β F a w → Q S → Q' .normal a w) : ∀ (fuel : Nat) (listed : Array Bool) (S : St) (β : Nat → Option Hd) (F : Nat → Prop) (a : Act) (w : World), Free ops listed β → Rel B w0 F0 S β F a w →
      anyA P ops fp Q fuel listed S → wpAny P .any ops Q' fuel listed a w
  | 0, _, _, _, _, _, _, _, hR, h => ⟨h.1, hQ _ _ _ _ _ hR h.2⟩
  | fuel + 1, listed, S, β, F, a, w, hfr, hR, h => by
    refine ⟨fun h0 => hQ _ _ _ _ _ hR (h.1 h0), fun i hi => ?_⟩
    have h2 := h.2 i hi
    obtain ⟨hun, o, ho, _⟩ := mem_ready.1 hi
    have hun' : listed.getD i true = false := hun
    unfold aOp at h2
    unfold wpOp
    simp only [ho] at h2 ⊢
    have hfree : allocs o.op = true → ∀ d, o.dst = some d → β d = none := fun ha d hd => hfr i o d ho hun' ha hd
    have keep : ∀ β', (∀ j, o.dst ≠ some j → β' j = β j) → Free ops (listed.setIfInBounds i true) β' := fun β' hβ' k ok d hk hunk hak hdk => by
      have hki : k ≠ i := fun e => by
        subst e
        have hlt : k < listed.size := by
          rcases Nat.lt_or_ge k listed.size with h' | h'
          · exact h'
          · simp [Array.getElem?_eq_none h'] at hun'
        simp [hlt] at hunk
      rw [hβ' d fun e => hdst k i ok o d hk ho hki hdk e hak]
      exact hfr k ok d hk (by rw [getD_set_ne true (Ne.symm hki)] at hunk; exact hunk) hak hdk
    rcases h2 with ⟨h1, out, rd, hy, _, hK⟩ | ⟨h1, hK⟩
    · rw [gw_wanted hR h1]
      simp only [if_true]
      refine .inl (Oper.wp_mono ?_ (hy.snd hR hfree))
      rintro a' w' ⟨β', F', hβ', hR'⟩
      exact wpAny_of_anyA hdst hQ fuel _ _ β' F' a' w' (keep β' hβ') hR' hK
    · rw [gw_wanted hR h1]
      simp only [Bool.false_eq_true, if_false]
      exact wpAny_of_anyA hdst hQ fuel _ _ β F _ w (keep β fun _ _ => rfl) (hR.still (.imm RepI.undef)) hK

/-! ### What comes up may be taken in the order of the text -/
theorem get_put (S : St) (dst : Option Nat) (out : Out) (x : Operand) (h : ∀ d, dst = some d → x ≠ .tmp d) : (S.put dst out).get x = S.get x := by
  cases x with
  | tmp t =>
    simp only [St.get, St.put, getD_setDst]
    rw [if_neg]
    rintro ⟨h1, _⟩
    exact h t h1 rfl
  | _ => rfl
theorem getD_setRows (h : List Row) (l : List (Nat × Row)) (i : Nat) (hi : i ∉ l.map (·.1)) : (setRows h l).getD i .none = h.getD i .none := by
  induction l generalizing h with
  | nil => rfl
  | cons x l ih =>
    obtain ⟨j, r⟩ := x
    simp only [List.map_cons, List.mem_cons, not_or] at hi
    simp only [setRows]
    rw [ih _ hi.2, getD_set_row, if_neg fun h => hi.1 h.1.symm]
theorem row_put (S : St) (dst : Option Nat) (out : Out) (i : Nat) (hi : i ∉ out.rows.map (·.1)) : (S.put dst out).row i = S.row i := getD_setRows _ _ _ hi

theorem set_setRows (h : List Row) (i : Nat) (r : Row) (l : List (Nat × Row)) (hi : i ∉ l.map (·.1)) : (setRows h l).set i r = setRows (h.set i r) l := by
  induction l generalizing h with
  | nil => rfl
  | cons x l ih =>
    obtain ⟨j, r'⟩ := x
    simp only [List.map_cons, List.mem_cons, not_or] at hi
    simp only [setRows]
    rw [ih _ hi.2, List.set_comm _ _ (fun e => hi.1 e.symm)]
theorem setRows_comm (h : List Row) (l m : List (Nat × Row)) (hd : ∀ x ∈ l.map (·.1), x ∉ m.map (·.1)) : setRows (setRows h l) m = setRows (setRows h m) l := by
  induction l generalizing h with
  | nil => rfl
  | cons x l ih =>
    obtain ⟨i, r⟩ := x
    simp only [setRows]
    rw [ih _ fun x hx => hd x (by simp only [List.map_cons]; exact List.mem_cons_of_mem _ hx)]
    rw [← set_setRows h i r m (hd i (by simp))]
theorem put_comm (S : St) {x y : Option Nat} (o p : Out) (h : ∀ d, x = some d → y ≠ some d) (hr : ∀ i ∈ o.rows.map (·.1), i ∉ p.rows.map (·.1)) : (S.put x o).put y p = (S.put y p).put x o := by
  simp only [St.put]
  congr 1
  · cases x with
    | none => rfl
    | some d =>
      cases y with
      | none => rfl
      | some e => exact List.set_comm _ _ (fun he => h d rfl (by rw [he]))
  · exact setRows_comm _ _ _ hr

theorem Yl.put {o : Oper} {out : Out} {rd : List Nat} (hy : Yl P o S out rd) {dst : Option Nat} {p : Out} (h1 : ∀ d, dst = some d → d ∉ o.looksAt ops) (h2 : ∀ i ∈ rd, i ∉ p.rows.map (·.1)) : Yl P o (S.put dst p) out rd := by
  obtain ⟨v0, hf, hy⟩ := hy
  refine ⟨v0, hf, ?_⟩
  intro S' hx hr
  refine hy S' (fun x hx' => ?_) (fun i hi => ?_)
  · rw [hx x hx', get_put]
    intro d hd e
    subst e
    refine h1 d hd ?_
    simp only [Oper.looksAt, List.mem_append, List.mem_filterMap]
    exact .inl ⟨_, hx', rfl⟩
  · rw [hr i hi, row_put _ _ _ _ (h2 i hi)]
theorem Yl.unput {o : Oper} {out : Out} {rd : List Nat} {dst : Option Nat} {p : Out} (hy : Yl P o (S.put dst p) out rd) (h1 : ∀ d, dst = some d → d ∉ o.looksAt ops) (h2 : ∀ i ∈ rd, i ∉ p.rows.map (·.1)) : Yl P o S out rd := by
  obtain ⟨v0, hf, hy⟩ := hy
  refine ⟨v0, hf, ?_⟩
  intro S' hx hr
  refine hy S' (fun x hx' => ?_) (fun i hi => ?_)
  · rw [hx x hx', get_put]
    intro d hd e
    subst e
    refine h1 d hd ?_
    simp only [Oper.looksAt, List.mem_append, List.mem_filterMap]
    exact .inl ⟨_, hx', rfl⟩
  · rw [hr i hi, row_put _ _ _ _ (h2 i hi)]

theorem gw_put {o : Oper} {dst : Option Nat} {p : Out} (h1 : ∀ d, dst = some d → d ∉ o.looksAt ops) : gw ops (S.put dst p) o = gw ops S o := by
  unfold gw
  cases hg : o.guard with
  | none => rfl
  | some q =>
    obtain ⟨j, want⟩ := q
    simp only
    cases hd : (ops[j]?).bind (·.dst) with
    | none => rfl
    | some t =>
      simp only
      have : (S.put dst p).t.getD t .any = S.t.getD t .any := by
        simp only [St.put, getD_setDst]
        rw [if_neg]
        rintro ⟨h2, _⟩
        refine h1 t h2 ?_
        simp [Oper.looksAt, hg, hd]
      rw [this]

/-- What an operation does to the state: what it gives, or (where it is not wanted) nothing. -/
inductive Does (P : Program) (ops : Array Oper) (fp : Nat → List Nat × List Nat) (i : Nat) (o : Oper) (S : St) (out : Out) : Prop
  | run (rd : List Nat) (h1 : gw ops S o = some true) (h2 : Yl P o S out rd) (h3 : fpOk fp i out rd)
  | skip (h1 : gw ops S o = some false) (h2 : out = ⟨.tup [], []⟩)
theorem Does.aOp {fp : Nat → List Nat × List Nat} {i : Nat} {o : Oper} {out : Out} (hi : ops[i]? = some o) (hd : Does P ops fp i o S out) {K : St → Prop} (h : K (S.put o.dst out)) : aOp P ops fp i K S := by
  unfold Ev.aOp
  simp only [hi]
  cases hd with
  | run rd h1 h2 h3 => exact .inl ⟨h1, out, rd, h2, h3, h⟩
  | skip h1 h2 => subst h2; exact .inr ⟨h1, h⟩
theorem does_of_aOp {fp : Nat → List Nat × List Nat} {i : Nat} {o : Oper} (hi : ops[i]? = some o) {K : St → Prop} (h : aOp P ops fp i K S) : ∃ out, Does P ops fp i o S out ∧ K (S.put o.dst out) := by
  unfold aOp at h
  simp only [hi] at h
  rcases h with ⟨h1, out, rd, h2, h3, h4⟩ | ⟨h1, h2⟩
  · exact ⟨out, .run rd h1 h2 h3, h4⟩
  · exact ⟨_, .skip h1 rfl, h2⟩
theorem Does.wr {fp : Nat → List Nat × List Nat} {i : Nat} {o : Oper} {out : Out} (h : Does P ops fp i o S out) : ∀ x ∈ out.rows.map (·.1), x ∈ (fp i).2 := by
  cases h with
  | run rd h1 h2 h3 => exact h3.2
  | skip h1 h2 => subst h2; simp

/-- Two operations that have nothing to do with each other. -/
def Apart (ops : Array Oper) (fp : Nat → List Nat × List Nat) (i j : Nat) (oi oj : Oper) : Prop :=
  oi.apart ops oj = true ∧ (∀ x ∈ (fp i).2, x ∉ (fp j).1 ∧ x ∉ (fp j).2) ∧ ∀ x ∈ (fp i).1, x ∉ (fp j).2

theorem Does.put {fp : Nat → List Nat × List Nat} {i : Nat} {o : Oper} {out : Out} (h : Does P ops fp i o S out) {dst : Option Nat} {p : Out} (h1 : ∀ d, dst = some d → d ∉ o.looksAt ops) (h2 : ∀ x ∈ p.rows.map (·.1), x ∉ (fp i).1) : Does P ops fp i o (S.put dst p) out := by
  cases h with
  | run rd g1 g2 g3 => exact .run rd ((gw_put h1).trans g1) (g2.put h1 fun x hx hp => h2 x hp (g3.1 x hx)) g3
  | skip g1 g2 => exact .skip ((gw_put h1).trans g1) g2
theorem Does.unput {fp : Nat → List Nat × List Nat} {i : Nat} {o : Oper} {out : Out} {dst : Option Nat} {p : Out} (h : Does P ops fp i o (S.put dst p) out) (h1 : ∀ d, dst = some d → d ∉ o.looksAt ops) (h2 : ∀ x ∈ p.rows.map (·.1), x ∉ (fp i).1) : Does P ops fp i o S out := by
  cases h with
  | run rd g1 g2 g3 => exact .run rd ((gw_put h1).symm.trans g1) (g2.unput h1 fun x hx hp => h2 x hp (g3.1 x hx)) g3
  | skip g1 g2 => exact .skip ((gw_put h1).symm.trans g1) g2

theorem anyA_first {fp : Nat → List Nat × List Nat} {Q : St → Prop} {i : Nat} {oi : Oper} {out : Out} (hi : ops[i]? = some oi) :
    ∀ (fuel : Nat) (listed : Array Bool) (S : St), (∀ j oj, ops[j]? = some oj → j ≠ i → listed.getD j true = false → (∀ e ∈ oj.after, Region.binds .any e = true → e.on ≠ i) → Apart ops fp i j oi oj) →
      i ∈ Region.ready .any ops listed → Does P ops fp i oi S out → anyA P ops fp Q fuel (listed.setIfInBounds i true) (S.put oi.dst out) → anyA P ops fp Q (fuel + 1) listed S := by
  intro fuel
  induction fuel with
  | zero =>
    intro listed S _ hr hy H
    refine ⟨fun h => (by rw [h] at hr; cases hr), fun j hj => ?_⟩
    by_cases hji : j = i
    · subst hji; exact hy.aOp hi H
    · have := ready_mono hj hji
      rw [H.1] at this
      cases this
  | succ fuel ih =>
    intro listed S hfree hr hy H
    refine ⟨fun h => (by rw [h] at hr; cases hr), fun j hj => ?_⟩
    by_cases hji : j = i
    · subst hji; exact hy.aOp hi H
    · have h1 := H.2 j (ready_mono hj hji)
      obtain ⟨hjun, oj, hoj, hall⟩ := mem_ready.1 hj
      have hnot : ∀ e ∈ oj.after, Region.binds .any e = true → e.on ≠ i := fun e he hb heq => by
        have h1 := hall e he hb
        have h0 := (mem_ready.1 hr).1
        rw [heq] at h1
        rcases Nat.lt_or_ge i listed.size with h' | h'
        · simp [h'] at h0 h1; rw [h0] at h1; cases h1
        · simp [Array.getElem?_eq_none h'] at h1
      obtain ⟨hap, hw, hrd⟩ := hfree j oj hoj hji hjun hnot
      obtain ⟨a1, a2, a3⟩ := Oper.apart_spec hap
      obtain ⟨outj, hdj, hK⟩ := does_of_aOp hoj h1
      have hdj' := hdj.unput a1 fun x hx => (hw x (hy.wr x hx)).1
      refine hdj'.aOp hoj ?_
      have hfree' : ∀ k ok, ops[k]? = some ok → k ≠ i → (listed.setIfInBounds j true).getD k true = false →
          (∀ e ∈ ok.after, Region.binds .any e = true → e.on ≠ i) → Apart ops fp i k oi ok := fun k ok hk hki hun hno => by
        refine hfree k ok hk hki ?_ hno
        by_cases hjk : j = k
        · subst hjk; exact hjun
        · rw [getD_set_ne true hjk] at hun; exact hun
      refine ih (listed.setIfInBounds j true) _ hfree' (ready_mono hr (Ne.symm hji)) (hy.put a3 fun x hx hx' => hrd x hx' (hdj.wr x hx)) ?_
      rw [Array.setIfInBounds_comm _ _ hji, ← put_comm S out outj a2 fun x hx hx' => (hw x (hy.wr x hx)).2 (hdj.wr x hx')]
      exact hK

/-! ### The order of the text -/
/-- A row is touched by two operations only where one waits for the other. -/
def rowsB (ops : List Oper) (fps : List (List Nat × List Nat)) : Bool :=
  (List.range ops.length).all fun j => (List.range ops.length).all fun i => match Nat.ble j i with
    | true => true
    | false =>
      match ops[j]? with
      | none => true
      | some oj => (oj.after.any fun e => Region.binds .any e && e.on == i) ||
        (((fps.getD i ([], [])).2.all fun x => !(fps.getD j ([], [])).1.contains x && !(fps.getD j ([], [])).2.contains x) && (fps.getD i ([], [])).1.all fun x => !(fps.getD j ([], [])).2.contains x)

inductive Chain (P : Program) (ops : Array Oper) : Nat → List Oper → St → List (List Nat × List Nat) → St → Prop
  | nil (k S) : Chain P ops k [] S [] S
  | run {k o l S Sf out rd fps} (h1 : gw ops S o = some true) (h2 : Yl P o S out rd) (h3 : Chain P ops (k + 1) l (S.put o.dst out) fps Sf) : Chain P ops k (o :: l) S ((rd, out.rows.map (·.1)) :: fps) Sf
  | skip {k o l S Sf fps} (h1 : gw ops S o = some false) (h3 : Chain P ops (k + 1) l (S.put o.dst ⟨.tup [], []⟩) fps Sf) : Chain P ops k (o :: l) S (([], []) :: fps) Sf

theorem anyA_lex {fp : Nat → List Nat × List Nat} {Q : St → Prop} (hfp : ∀ i j oi oj, ops[i]? = some oi → ops[j]? = some oj → i < j → (∀ e ∈ oj.after, Region.binds .any e = true → e.on ≠ i) → (∀ x ∈ (fp i).2, x ∉ (fp j).1 ∧ x ∉ (fp j).2) ∧ ∀ x ∈ (fp i).1, x ∉ (fp j).2) :
    ∀ (l : List Oper) (k : Nat) (listed : Array Bool) (S : St) (fps : List (List Nat × List Nat)) (Sf : St), (∀ j, l[j]? = ops[k + j]?) → (∀ j, j < k → listed.getD j true = true) → (∀ j, j < l.length → fps.getD j ([], []) = fp (k + j)) →
      Region.lexFrom .any ops l.length k listed = true → Chain P ops k l S fps Sf → Q Sf → anyA P ops fp Q l.length listed S
  | [], _, _, _, _, _, _, _, _, hB, h, hQ => by
    cases h
    exact ⟨by simpa [Region.lexFrom] using hB, hQ⟩
  | o :: l, k, listed, S, fps, Sf, hl, hli, hf, hB, h, hQ => by
    have h0 : ops[k]? = some o := by simpa using (hl 0).symm
    simp only [List.length_cons, Region.lexFrom, Bool.and_eq_true] at hB
    obtain ⟨⟨hr, hfr⟩, hB'⟩ := hB
    have hrest : ∀ {out fps'}, Does P ops fp k o S out → (∀ j, j < l.length → fps'.getD j ([], []) = fp (k + 1 + j)) → Chain P ops (k + 1) l (S.put o.dst out) fps' Sf → anyA P ops fp Q (l.length + 1) listed S := by
      intro out fps' hd hf' hch
      refine anyA_first h0 l.length listed S (fun j oj hj hne hun hno => ?_) (by simpa using hr) hd
        (anyA_lex hfp l (k + 1) _ _ fps' Sf (fun j => by have := hl (j + 1); simpa [Nat.add_assoc, Nat.add_comm 1 j] using this) (fun j hj => ?_) hf' hB' hch hQ)
      · have hkj : k < j := by
          rcases Nat.lt_or_ge k j with h | h
          · exact h
          · have : j < k := by omega
            rw [hli j this] at hun; cases hun
        obtain ⟨q1, q2⟩ := hfp k j o oj h0 hj hkj hno
        exact ⟨Region.free_spec h0 hfr j oj hj hne hun hno, q1, q2⟩
      · by_cases e : j = k
        · subst e
          rcases Nat.lt_or_ge j listed.size with h' | h'
          · simp [h']
          · simp [Array.getElem?_eq_none, h']
        · rw [getD_set_ne true (Ne.symm e)]; exact hli j (by omega)
    cases h with
    | run h1 h2 h3 =>
      rename_i out rd fps'
      have e0 := hf 0 (by simp)
      simp only [List.getD_cons_zero, Nat.add_zero] at e0
      exact hrest (.run rd h1 h2 ⟨by rw [← e0]; exact fun x hx => hx, by rw [← e0]; exact fun x hx => hx⟩) (fun j hj => by have := hf (j + 1) (by simpa using hj); simpa [Nat.add_assoc, Nat.add_comm 1 j] using this) h3
    | skip h1 h3 =>
      rename_i fps'
      exact hrest (.skip h1 rfl) (fun j hj => by have := hf (j + 1) (by simpa using hj); simpa [Nat.add_assoc, Nat.add_comm 1 j] using this) h3

end
end Go.Ev
/- The executor, and why it is right. A helper text: it speaks of no program. -/
namespace Go.Ev
section
variable {P : Program} {B : Nat → Prop} {w0 : World} {F0 : Env P} {S : St} {β : Nat → Option Hd} {F : Nat → Prop} {a : Act} {w : World} {ops : Array Oper}

/-! ### Freezing: rows that nobody will write any more -/
def onlyR (s : Nat → Bool) (r : Nat → Row) (i : Nat) : Row :=
  match s i with
  | true => r i
  | false => .none
def frzN : Nat → (Nat → Bool) → (Nat → Row) → AV → AV
  | 0, _, _, x => x
  | n + 1, s, r, x => match x with
    | .ptr id sz i off => match s id with
      | true => closeN 4 (onlyR s r) (.ptr id sz i off)
      | false => .ptr id sz i off
    | .own id => match s id with
      | true => closeN 4 (onlyR s r) (.own id)
      | false => .own id
    | .agg l => .agg (l.map (frzN n s r))
    | .tup l => .tup (l.map (frzN n s r))
    | .fn f a b => .fn f (a.map (frzN n s r)) (b.map (frzN n s r))
    | x => x
theorem frzN_any (n : Nat) (s r) : frzN n s r .any = .any := by cases n <;> rfl
def frzRow (s : Nat → Bool) (r : Nat → Row) : Row → Row
  | .none => .none
  | .cells ty cs => .cells ty (cs.map (frzN 4 s r))
  | .lit ty sz css => .lit ty sz (css.map fun cs => cs.map (frzN 4 s r))
  | .vec ty sz e enc l => .vec ty sz e enc l
  | .ctr l xs k e => .ctr l xs k e
def frzRows (s : Nat → Bool) (r : Nat → Row) : Nat → List Row → List Row
  | _, [] => []
  | i, x :: l => (match s i with
    | true => .none
    | false => frzRow s r x) :: frzRows s r (i + 1) l
def St.freeze (S : St) (s : Nat → Bool) : St := ⟨S.t.map (frzN 4 s S.row), frzRows s S.row 0 S.h, S.n⟩

theorem getD_frzRows (s : Nat → Bool) (r : Nat → Row) : ∀ (h : List Row) (k j : Nat), (frzRows s r k h).getD j .none = if s (k + j) = true then .none else frzRow s r (h.getD j .none)
  | [], k, j => by simp [frzRows, frzRow]
  | x :: l, k, 0 => by
    simp only [frzRows, List.getD_cons_zero, Nat.add_zero]
    cases s k <;> simp
  | x :: l, k, j + 1 => by
    simp only [frzRows, List.getD_cons_succ]
    rw [getD_frzRows s r l (k + 1) j, show k + 1 + j = k + (j + 1) by omega]

/-- Rows may be forgotten. -/
theorem Rel.forget (hR : Rel B w0 F0 S β F a w) {S' : St} (ht : S'.t = S.t) (hn : S'.n = S.n) (hr : ∀ i, S'.row i = S.row i ∨ S'.row i = .none) : Rel B w0 F0 S' β F a w := by
  have live : ∀ i, S'.row i ≠ .none → S.row i ≠ .none := fun i h => by
    rcases hr i with e | e
    · rw [← e]; exact h
    · exact absurd e h
  exact { len := by rw [ht]; exact hR.len, slots := fun i hi => by rw [ht] at hi ⊢; exact hR.slots i hi, marks := hR.marks,
          rows := fun i => by
            rcases hr i with e | e
            · rw [e]; exact hR.rows i
            · rw [e]; trivial
          inj := fun i j b hi hj => hR.inj i j b (live i hi) (live j hj), bF := fun i b hi => hR.bF i b (live i hi), bB := hR.bB, FB := hR.FB, below := hR.below, BW := hR.BW, top := hR.top, topn := fun j hj => hR.topn j (by simpa [mayKill, ht, hn] using hj), nn := hn.trans hR.nn, inc := hR.inc, keep := hR.keep, sol := hR.sol, yl := hR.ylOf (fun i => i) (fun id l xs k e h => by rcases hr id with e' | e' <;> rw [e'] at h; exact h; cases h) (fun _ _ _ _ h => h) (fun i b hi hb => ⟨i, live i hi, hb⟩) (fun b hb => .inl hb) }

/-- The rows that are chosen, alone. -/
def onlyH (s : Nat → Bool) : Nat → List Row → List Row
  | _, [] => []
  | i, x :: l => (match s i with
    | true => x
    | false => .none) :: onlyH s (i + 1) l
theorem getD_onlyH (s : Nat → Bool) : ∀ (h : List Row) (k j : Nat), (onlyH s k h).getD j .none = if s (k + j) = true then h.getD j .none else .none
  | [], k, j => by simp [onlyH]
  | x :: l, k, 0 => by
    simp only [onlyH, List.getD_cons_zero, Nat.add_zero]
    cases s k <;> simp
  | x :: l, k, j + 1 => by
    simp only [onlyH, List.getD_cons_succ]
    rw [getD_onlyH s l (k + 1) j, show k + 1 + j = k + (j + 1) by omega]

theorem closeOnly_rep (hR : Rel B w0 F0 S β F a w) (s : Nat → Bool) (n : Nat) {x : AV} {v : Value} (h : Rep β F w x v) :
    RepI (fun b => F b ∨ ∃ i, s i = true ∧ S.row i ≠ .none ∧ blk β i = some b) w (closeN n (onlyR s S.row) x) v := by
  let S' : St := ⟨S.t, onlyH s 0 S.h, S.n⟩
  have hrow : ∀ i, S'.row i = onlyR s S.row i := fun i => by
    show (onlyH s 0 S.h).getD i .none = _
    rw [getD_onlyH, Nat.zero_add]
    unfold onlyR St.row
    cases s i <;> simp
  have hR' : Rel B w0 F0 S' β F a w := hR.forget rfl rfl fun i => by
    rw [hrow]; unfold onlyR
    cases s i
    · exact .inr rfl
    · exact .inl rfl
  have := closeN_rep hR' n h
  rw [show S'.row = onlyR s S.row from funext hrow] at this
  refine this.mono (fun b hb => ?_) (fun _ _ _ _ h => h)
  rcases hb with hb | ⟨i, h1, h2⟩
  · exact .inl hb
  · refine .inr ⟨i, ?_, ?_, h2⟩
    · rw [hrow] at h1; unfold onlyR at h1
      cases hs : s i with
      | true => rfl
      | false => simp [hs] at h1
    · rw [hrow] at h1; unfold onlyR at h1
      cases hs : s i with
      | true => simpa [hs] using h1
      | false => simp [hs] at h1

theorem Rel.freeze (hR : Rel B w0 F0 S β F a w) (s : Nat → Bool) : ∃ F', Rel B w0 F0 (S.freeze s) β F' a w := by
  let F' : Nat → Prop := fun b => F b ∨ ∃ i, s i = true ∧ S.row i ≠ .none ∧ blk β i = some b
  have hF : ∀ b, F b → F' b := fun b h => .inl h
  have up : ∀ {x v}, Rep β F w x v → Rep β F' w x v := fun h => h.grow (fun _ _ => rfl) hF (Keeps.refl _ _)
  have frz : ∀ (n : Nat) {x : AV} {v : Value}, Rep β F w x v → Rep β F' w (frzN n s S.row x) v := by
    intro n
    induction n with
    | zero => intro x v h; exact up h
    | succ n ih =>
      intro x v h
      have cl := closeOnly_rep hR s 4 h
      cases x with
      | ptr id sz i off =>
        simp only [frzN]
        cases s id
        · exact up h
        · exact .imm cl
      | own id =>
        simp only [frzN]
        cases s id
        · exact up h
        · exact .imm cl
      | agg l =>
        obtain ⟨vs, rfl, hl, hr⟩ := h.agg_inv
        exact .agg (by simpa using hl) fun i hi => by rw [getD_map_av _ (frzN_any _ _ _)]; exact ih (hr i (by simpa using hi))
      | tup l =>
        obtain ⟨vs, rfl, hl, hr⟩ := h.tup_inv
        exact .tup (by simpa using hl) fun i hi => by rw [getD_map_av _ (frzN_any _ _ _)]; exact ih (hr i (by simpa using hi))
      | fn f xs ys =>
        obtain ⟨vs, us, rfl, hl, hm, hr, hk⟩ := h.fn_inv
        exact .fn (by simpa using hl) (fun i hi => by rw [getD_map_av _ (frzN_any _ _ _)]; exact ih (hr i (by simpa using hi))) (by simpa using hm) (fun i hi => by rw [getD_map_av _ (frzN_any _ _ _)]; exact ih (hk i (by simpa using hi)))
      | _ => exact up h
  have hrow : ∀ i, (S.freeze s).row i = if s i = true then .none else frzRow s S.row (S.row i) := fun i => by
    show (frzRows s S.row 0 S.h).getD i .none = _
    rw [getD_frzRows, Nat.zero_add]; rfl
  have live : ∀ i, (S.freeze s).row i ≠ .none → s i = false ∧ S.row i ≠ .none := fun i h => by
    rw [hrow] at h
    cases hs : s i with
    | true => simp [hs] at h
    | false => simp only [hs, Bool.false_eq_true, if_false] at h; exact ⟨rfl, fun e => h (by rw [e]; rfl)⟩
  refine ⟨F', { len := by simp [St.freeze, hR.len], slots := fun i hi => ?_, marks := hR.marks, rows := fun j => ?_, inj := fun i j b hi hj => hR.inj i j b (live i hi).2 (live j hj).2, bF := fun i b hi hbi h => ?_, bB := hR.bB, FB := fun b h => ?_, below := hR.below, BW := hR.BW, top := hR.top, topn := fun j hj => hR.topn j (by simpa [St.freeze, mayKill] using hj), nn := hR.nn, inc := fun b hb => hF b (hR.inc b hb), keep := hR.keep, sol := hR.sol, yl := hR.ylOf (fun i => i) (fun id l xs k e h => ?_) (fun _ _ _ _ h => h) (fun i b hi hb => ⟨i, (live i hi).2, hb⟩) (fun b hb => hb.elim .inl fun ⟨i, _, h1, h2⟩ => .inr ⟨i, h1, h2⟩) }⟩
  · simp only [St.freeze, List.length_map] at hi ⊢
    rw [getD_map_av _ (frzN_any _ _ _)]
    exact frz 4 (hR.slots i hi)
  · rw [hrow]
    split
    · trivial
    · have := hR.rows j
      cases hr : S.row j with
      | none => trivial
      | ctr l xs k e => rw [hr] at this; exact this
      | cells ty cs =>
        rw [hr] at this
        obtain ⟨hd, b, vs, e1, e2, e3, e4, e5⟩ := this
        exact ⟨hd, b, vs, e1, e2, e3, by simpa using e4, fun i hi => by rw [getD_map_av _ (frzN_any _ _ _)]; exact frz 4 (e5 i (by simpa using hi))⟩
      | lit ty sz css =>
        rw [hr] at this
        obtain ⟨hd, b, vs, e1, e2, e3, e4, e5, e6, e7, e8⟩ := this
        have hg : ∀ i, (css.map fun cs => cs.map (frzN 4 s S.row)).getD i [] = (css.getD i []).map (frzN 4 s S.row) := by
          intro i; simp only [List.getD, List.getElem?_map]; cases css[i]? <;> simp
        exact ⟨hd, b, vs, e1, e2, e3, by simpa using e4, by simpa using e5, by simpa using e6, by simpa using e7, fun i k hi hk => by
          rw [hg, getD_map_av _ (frzN_any _ _ _)]; exact frz 4 (e8 i k (by simpa using hi) hk)⟩
      | vec ty sz e enc l =>
        rw [hr] at this
        obtain ⟨hd, e1, e2, e3⟩ := this
        refine ⟨hd, e1, e2, ?_⟩
        rcases e3 with e3 | ⟨b, vs, q1, q2, q3, q4, q5, q6⟩
        · exact .inl e3
        · exact .inr ⟨b, vs, q1, q2, q3, q4, q5, fun i k hi hk => (q6 i k hi hk).mono hF (fun _ _ _ _ h => h)⟩
  · obtain ⟨h1, h2⟩ := live i hi
    rcases h with h | ⟨k, h3, h4, h5⟩
    · exact hR.bF i b h2 hbi h
    · have := hR.inj i k b h2 h4 hbi h5
      subst this
      rw [h1] at h3; cases h3
  · rcases h with h | ⟨i, h1, h2, h3⟩
    · exact hR.FB b h
    · have := hR.bB i b h3; exact ⟨this.2, .inr this.1⟩
  · rw [hrow] at h
    split at h
    · cases h
    · cases hr : S.row id <;> rw [hr] at h <;> simp [frzRow] at h
      simp [h]

/-! ### Weakening: slots and rows that are no longer looked at -/
def maskT : List AV → List AV → Option (List AV)
  | [], [] => some []
  | a :: l, b :: m => match maskT l m with
    | some n => match a with
      | .any => some (.any :: n)
      | _ => some (b :: n)
    | none => none
  | _, _ => none
def maskH : List Row → List Row → Option (List Row)
  | [], [] => some []
  | a :: l, b :: m => match maskH l m with
    | some n => match a with
      | .none => some (.none :: n)
      | _ => some (b :: n)
    | none => none
  | _, _ => none
theorem maskT_spec : ∀ {t s n : List AV}, maskT t s = some n → t.length = s.length ∧ n.length = s.length ∧ ∀ i, n.getD i .any = .any ∨ n.getD i .any = s.getD i .any
  | [], [], n, h => by simp [maskT] at h; subst h; exact ⟨rfl, rfl, fun i => .inl rfl⟩
  | a :: l, b :: m, n, h => by
    simp only [maskT] at h
    cases hm : maskT l m with
    | none => simp [hm] at h
    | some k =>
      obtain ⟨h0, h1, h2⟩ := maskT_spec hm
      simp only [hm] at h
      have : ∃ c, n = c :: k ∧ (c = .any ∨ c = b) := by
        split at h
        · cases h; exact ⟨_, rfl, .inl rfl⟩
        · cases h; exact ⟨_, rfl, .inr rfl⟩
      obtain ⟨c, rfl, hc⟩ := this
      refine ⟨by simp [h0], by simp [h1], fun i => ?_⟩
      cases i with
      | zero => simpa using hc
      | succ i => simpa using h2 i
  | [], _ :: _, _, h => by simp [maskT] at h
  | _ :: _, [], _, h => by simp [maskT] at h
theorem maskH_spec : ∀ {t s n : List Row}, maskH t s = some n → ∀ i, n.getD i .none = .none ∨ n.getD i .none = s.getD i .none
  | [], [], n, h => by simp [maskH] at h; subst h; exact fun i => .inl rfl
  | a :: l, b :: m, n, h => by
    simp only [maskH] at h
    cases hm : maskH l m with
    | none => simp [hm] at h
    | some k =>
      have h2 := maskH_spec hm
      simp only [hm] at h
      have : ∃ c, n = c :: k ∧ (c = .none ∨ c = b) := by
        split at h
        · cases h; exact ⟨_, rfl, .inl rfl⟩
        · cases h; exact ⟨_, rfl, .inr rfl⟩
      obtain ⟨c, rfl, hc⟩ := this
      intro i
      cases i with
      | zero => simpa using hc
      | succ i => simpa using h2 i
  | [], _ :: _, _, h => by simp [maskH] at h
  | _ :: _, [], _, h => by simp [maskH] at h
theorem Rel.mask (hR : Rel B w0 F0 S β F a w) {T : St} (hn : T.n = S.n) (h1 : maskT T.t S.t = some T.t) (h2 : maskH T.h S.h = some T.h) : Rel B w0 F0 T β F a w := by
  obtain ⟨_, l1, m1⟩ := maskT_spec h1
  have m2 := maskH_spec h2
  have hR' : Rel B w0 F0 ⟨S.t, T.h, S.n⟩ β F a w := hR.forget rfl rfl fun i => (m2 i).symm
  exact { hR' with
    len := by rw [l1]; exact hR.len
    slots := fun i hi => by
      rcases m1 i with e | e
      · rw [e]; exact .imm (.any _)
      · rw [e]; exact hR.slots i (by rw [← l1]; exact hi)
    topn := fun j hj => hR.topn j (by simpa [mayKill, l1, hn] using hj)
    nn := hn.trans hR.nn }

end
end Go.Ev
/- The executor, and why it is right (second part). A helper text: it speaks of no program. -/
namespace Go.Ev
section
variable {P : Program} {B : Nat → Prop} {w0 : World} {F0 : Env P} {S : St} {β : Nat → Option Hd} {F : Nat → Prop} {a : Act} {w : World} {ops : Array Oper}

/-! ### A slice variable gets the number of its slot -/
structure VT : Type 1 where
  α : Type
  ty : TypeId
  sz : Nat
  d : α
  enc : α → List AV
/-! #### The number of a row is changed wherever it stands -/
mutual
def mvAV (id t : Nat) : AV → AV
  | .ptr k sz i off => .ptr (match Nat.beq k id with
    | true => t
    | false => k) sz i off
  | .own k => .own (match Nat.beq k id with
    | true => t
    | false => k)
  | .agg l => .agg (mvL id t l)
  | .tup l => .tup (mvL id t l)
  | .fn f a b => .fn f (mvL id t a) (mvL id t b)
  | x => x
def mvL (id t : Nat) : List AV → List AV
  | [] => []
  | a :: l => mvAV id t a :: mvL id t l
end
def mvRow (id t : Nat) : Row → Row
  | .cells ty cs => .cells ty (mvL id t cs)
  | .lit ty sz css => .lit ty sz (css.map (mvL id t))
  | r => r
def mvSt (id t : Nat) (S : St) : St := ⟨mvL id t S.t, ((S.h.map (mvRow id t)).set t (mvRow id t (S.row id))).set id .none, S.n⟩
/-- The slice in a box's cell gets the number 't'. -/
def canonB (t b c : Nat) (V : VT) (S : St) : St :=
  match mayKill S t && !(Nat.beq b t) with
  | false => S
  | true => match S.row b with
    | .cells _ cs => match cs.getD c .any with
      | .own id => match Nat.beq id t with
        | true => S
        | false => match mayKill S id && !(Nat.beq id b) with
          | false => S
          | true => mvSt id t (S.kill t)
      | .nils => match (S.kill t).row b with
        | .cells ty' cs' => ⟨(S.kill t).t, ((S.kill t).h.set t (.vec V.ty V.sz V.d V.enc [])).set b (.cells ty' (cs'.set c (.own t))), S.n⟩
        | _ => S
      | _ => S
    | _ => S
def canonS (t : Nat) (V : VT) (S : St) : St :=
  match S.t.getD t .any with
  | .own id => match Nat.beq id t with
    | true => S
    | false => match mayKill S id && mayKill S t with
      | false => S
      | true => ⟨(((S.kill t).kill id).t).set t (.own t), (((S.kill t).kill id).h).set t (killRow id ((S.kill t).row id)), S.n⟩
  | .nils => match mayKill S t with
    | false => S
    | true => ⟨(S.kill t).t.set t (.own t), (S.kill t).h.set t (.vec V.ty V.sz V.d V.enc []), S.n⟩
  | _ => S
/-- 't' from 65536 on: the slice in a box's cell: 65536 * (1 + box + 4096 * cell) + number. -/
def canon1 (t : Nat) (V : VT) (S : St) : St :=
  match Nat.blt t 65536 with
  | true => canonS t V S
  | false => canonB (t % 65536) ((t / 65536 - 1) % 4096) ((t / 65536 - 1) / 4096) V S
def canonV : List (Nat × VT) → St → St
  | [], S => S
  | (t, V) :: l, S => canonV l (canon1 t V S)

theorem RowRep.kill {β β' : Nat → Option Hd} {id t : Nat} (hβ : ∀ j, j ≠ id → β j ≠ none → β' j = β j) (hid : β' t = β id) {r : Row} (h : RowRep β F w id r) : RowRep β' F w t (killRow id r) := by
  have up : ∀ {x v}, Rep β F w x v → Rep β' F w (killAV id x) v := fun {x v} h => by
    have h1 : Rep (fun j => if j = id then none else β j) F w (killAV id x) v := killAV_rep (fun j hj => by simp [hj]) h
    exact h1.grow (fun j hj => by
      by_cases e : j = id
      · simp [e] at hj
      · simp only [e, if_false] at hj ⊢; exact hβ j e hj) (fun _ h => h) (Keeps.refl _ _)
  cases r with
  | none => trivial
  | ctr l xs k e => obtain ⟨hd, e1, e2⟩ := h; exact ⟨hd, hid.trans e1, e2⟩
  | cells ty cs =>
    obtain ⟨hd, b, vs, e1, e2, e3, e4, e5⟩ := h
    exact ⟨hd, b, vs, hid.trans e1, e2, e3, by simpa using e4, fun i hi => by rw [getD_map_av _ (killAV_any id)]; exact up (e5 i (by simpa using hi))⟩
  | lit ty sz css =>
    obtain ⟨hd, b, vs, e1, e2, e3, e4, e5, e6, e7, e8⟩ := h
    have hg : ∀ i, (css.map fun cs => cs.map (killAV id)).getD i [] = (css.getD i []).map (killAV id) := by
      intro i; simp only [List.getD, List.getElem?_map]; cases css[i]? <;> simp
    exact ⟨hd, b, vs, hid.trans e1, e2, e3, by simpa using e4, by simpa using e5, by simpa using e6, by simpa using e7, fun i k hi hk => by
      rw [hg, getD_map_av _ (killAV_any id)]; exact up (e8 i k (by simpa using hi) hk)⟩
  | vec ty sz e enc l =>
    obtain ⟨hd, e1, e2⟩ := h
    exact ⟨hd, hid.trans e1, e2⟩

theorem getD_set_av (l : List AV) (t : Nat) (x : AV) (i : Nat) : (l.set t x).getD i .any = if t = i ∧ i < l.length then x else l.getD i .any := by
  have := getD_setDst l (some t) x i
  simpa [setDst] using this

theorem Rel.rename (hR : Rel B w0 F0 S β F a w) {t id : Nat} (ht : β t = none) (hid : id ≠ t) (hs : S.t.getD t .any = .own id) (hd0 : F0.β id = none) :
    ∃ β', Rel B w0 F0 ⟨((S.kill id).t).set t (.own t), ((S.kill id).h).set t (killRow id (S.row id)), S.n⟩ β' F a w := by
  obtain ⟨hd, hβ, hv⟩ : ∃ hd, β id = some hd ∧ a.tmps.getD t undef = .slice (hd.b.map fun b => ⟨b, 0, none⟩) hd.len hd.cap := by
    have := hR.get (.tmp t)
    have e : S.get (.tmp t) = .own id := hs
    rw [e] at this
    have he : a.eval (.tmp t) = a.tmps.getD t undef := rfl
    rw [he] at this
    exact this.own_inv
  let β' : Nat → Option Hd := fun j => if j = t then some hd else if j = id then none else β j
  have b1 : β' t = some hd := by simp [β']
  have b2 : ∀ j, j ≠ t → j ≠ id → β' j = β j := fun j h1 h2 => by simp [β', h1, h2]
  have b3 : β' id = none := by simp [β', hid]
  have hkeep : ∀ j, j ≠ id → β j ≠ none → β' j = β j := fun j h1 h2 => b2 j (fun e => h2 (e ▸ ht)) h1
  have up : ∀ {x v}, Rep β F w x v → Rep β' F w (killAV id x) v := fun {x v} h => by
    have h1 : Rep (fun j => if j = id then none else β j) F w (killAV id x) v := killAV_rep (fun j hj => by simp [hj]) h
    exact h1.grow (fun j hj => by
      by_cases e : j = id
      · simp [e] at hj
      · simp only [e, if_false] at hj ⊢; exact hkeep j e hj) (fun _ h => h) (Keeps.refl _ _)
  let S' : St := ⟨((S.kill id).t).set t (.own t), ((S.kill id).h).set t (killRow id (S.row id)), S.n⟩
  have hrow : ∀ j, S'.row j = if t = j ∧ j < (S.kill id).h.length then killRow id (S.row id) else if j = id then .none else killRow id (S.row j) := fun j => by
    show (((S.kill id).h).set t (killRow id (S.row id))).getD j .none = _
    rw [getD_set_row]
    by_cases h : t = j
    · subst h
      by_cases h2 : t < (S.kill id).h.length
      · simp [h2]
      · simp only [h2, and_false, if_false]
        have := row_kill S id t
        exact this
    · simp only [h, false_and, if_false]
      exact row_kill S id j
  have bl : ∀ j b, blk β' j = some b → (j = t ∧ hd.b = some b) ∨ (j ≠ t ∧ j ≠ id ∧ blk β j = some b) := fun j b h => by
    by_cases e : j = t
    · subst e; exact .inl ⟨rfl, by simpa [blk, b1] using h⟩
    · by_cases e2 : j = id
      · subst e2; simp [blk, b3] at h
      · exact .inr ⟨e, e2, by simpa [blk, b2 j e e2] using h⟩
  have lv : ∀ j, S'.row j ≠ .none → (j = t ∧ S.row id ≠ .none) ∨ (j ≠ id ∧ S.row j ≠ .none) := fun j h => by
    rw [hrow] at h
    split at h
    · rename_i hc; exact .inl ⟨hc.1.symm, killRow_none h⟩
    · split at h
      · exact absurd rfl h
      · rename_i hn; exact .inr ⟨hn, killRow_none h⟩
  have tnone : ∀ {r}, RowRep β F w t r → r = .none := fun {r} h => by
    cases r with
    | none => rfl
    | ctr l xs k e' => obtain ⟨_, e, _⟩ := h; rw [ht] at e; cases e
    | cells ty cs => obtain ⟨_, _, _, e, _⟩ := h; rw [ht] at e; cases e
    | lit ty sz css => obtain ⟨_, _, _, e, _⟩ := h; rw [ht] at e; cases e
    | vec ty sz d enc l => obtain ⟨_, e, _⟩ := h; rw [ht] at e; cases e
  have ht0 : S.row t = .none := tnone (hR.rows t)
  have lv' : ∀ j b, S'.row j ≠ .none → blk β' j = some b → (j = t ∧ S.row id ≠ .none ∧ blk β id = some b) ∨ (j ≠ t ∧ j ≠ id ∧ S.row j ≠ .none ∧ blk β j = some b) := fun j b h1 h2 => by
    rcases bl j b h2 with ⟨e, h3⟩ | ⟨e1, e2, h3⟩
    · refine .inl ⟨e, ?_, by simp [blk, hβ, h3]⟩
      rcases lv j h1 with ⟨_, h⟩ | ⟨_, h⟩
      · exact h
      · rw [e] at h; exact absurd ht0 h
    · rcases lv j h1 with ⟨e, _⟩ | ⟨_, h⟩
      · exact absurd e e1
      · exact .inr ⟨e1, e2, h, h3⟩
  refine ⟨β', { len := by simp [St.kill, hR.len], slots := fun i hi => ?_, marks := hR.marks, rows := fun j => ?_, inj := fun i j b hi hj hbi hbj => ?_, bF := fun i b hi hbi => ?_, bB := fun i b hbi => ?_, FB := hR.FB, below := hR.below, BW := hR.BW, top := fun j hd h => (hkeep j (fun e => by rw [e, hd0] at h; cases h) (by rw [hR.top j hd h]; simp)).trans (hR.top j hd h), topn := fun j hj => hR.topn j (by simpa [St.kill, mayKill] using hj), nn := hR.nn, inc := hR.inc, keep := hR.keep, sol := hR.sol, yl := hR.ylOf (fun j => if j = t then id else j) (fun j l xs k e h => ?_) (fun i j hi hj e => ?_) (fun i b hi hb => by rcases lv' i b hi hb with ⟨_, l1, k1⟩ | ⟨_, _, l1, k1⟩; exact ⟨id, l1, k1⟩; exact ⟨i, l1, k1⟩) (fun b hb => .inl hb) }⟩
  · simp only [List.length_set] at hi
    rw [getD_set_av]
    split
    · rename_i hc
      rw [← hc.1, hv]
      exact .own b1
    · simp only [St.kill, List.length_map] at hi ⊢
      rw [getD_map_av _ (killAV_any id)]
      exact up (hR.slots i hi)
  · show RowRep β' F w j (S'.row j)
    rw [hrow]
    split
    · rename_i hc
      rw [← hc.1]
      exact RowRep.kill hkeep (b1.trans hβ.symm) (hR.rows id)
    · split
      · trivial
      · rename_i h1 h2
        by_cases e : j = t
        · subst e; rw [ht0]; trivial
        · have hj := hR.rows j
          have key : RowRep (fun i => if i = id then none else β i) F w j (killRow id (S.row j)) := by
            cases hr : S.row j with
            | none => trivial
            | ctr l xs k e =>
              rw [hr] at hj
              obtain ⟨hd', e1, e2⟩ := hj
              exact ⟨hd', by simp [h2, e1], e2⟩
            | cells ty cs =>
              rw [hr] at hj
              obtain ⟨hd', b, vs, e1, e2, e3, e4, e5⟩ := hj
              exact ⟨hd', b, vs, by simp [h2, e1], e2, e3, by simpa using e4, fun i hi => by rw [getD_map_av _ (killAV_any id)]; exact killAV_rep (fun k hk => by simp [hk]) (e5 i (by simpa using hi))⟩
            | lit ty sz css =>
              rw [hr] at hj
              obtain ⟨hd', b, vs, e1, e2, e3, e4, e5, e6, e7, e8⟩ := hj
              have hg : ∀ i, (css.map fun cs => cs.map (killAV id)).getD i [] = (css.getD i []).map (killAV id) := by
                intro i; simp only [List.getD, List.getElem?_map]; cases css[i]? <;> simp
              exact ⟨hd', b, vs, by simp [h2, e1], e2, e3, by simpa using e4, by simpa using e5, by simpa using e6, by simpa using e7, fun i k hi hk => by
                rw [hg, getD_map_av _ (killAV_any id)]; exact killAV_rep (fun k hk => by simp [hk]) (e8 i k (by simpa using hi) hk)⟩
            | vec ty sz e enc l =>
              rw [hr] at hj
              obtain ⟨hd', e1, e2⟩ := hj
              exact ⟨hd', by simp [h2, e1], e2⟩
          exact key.grow (fun i hi => by
            by_cases ei : i = id
            · simp [ei] at hi
            · simp only [ei, if_false] at hi ⊢; exact hkeep i ei hi) (fun _ h => h) (Keeps.refl _ _) (fun _ _ => rfl)
  · rcases lv' i b hi hbi with ⟨e1, l1, k1⟩ | ⟨e1, e1', l1, k1⟩ <;> rcases lv' j b hj hbj with ⟨e2, l2, k2⟩ | ⟨e2, e2', l2, k2⟩
    · rw [e1, e2]
    · exact absurd (hR.inj id j b l1 l2 k1 k2).symm e2'
    · exact absurd (hR.inj i id b l1 l2 k1 k2) e1'
    · exact hR.inj i j b l1 l2 k1 k2
  · rcases lv' i b hi hbi with ⟨_, l1, k1⟩ | ⟨_, _, l1, k1⟩
    · exact hR.bF id b l1 k1
    · exact hR.bF i b l1 k1
  · rcases bl i b hbi with ⟨_, h⟩ | ⟨_, _, h⟩
    · exact hR.bB id b (by simp [blk, hβ, h])
    · exact hR.bB i b h
  · replace h : S'.row j = .ctr l xs k e := h
    rw [hrow] at h
    have inv : ∀ {r}, killRow id r = .ctr l xs k e → r = .ctr l xs k e := fun {r} h => by cases r <;> simp [killRow] at h; simp [h]
    split at h
    · rename_i hc; rw [if_pos hc.1.symm]; exact inv h
    · split at h
      · cases h
      · rename_i h1 h2
        by_cases e : j = t
        · subst e; rw [ht0] at h; simp [killRow] at h
        · rw [if_neg e]; exact inv h
  · have hi' : S'.row i ≠ .none := hi
    have hj' : S'.row j ≠ .none := hj
    have key : ∀ j, S'.row j ≠ .none → j = t ∨ j ≠ id := fun j h => by
      rcases lv j h with ⟨e, _⟩ | ⟨e, _⟩
      · exact .inl e
      · exact .inr e
    by_cases e1 : i = t
    · by_cases e2 : j = t
      · rw [e1, e2]
      · rw [if_pos e1, if_neg e2] at e
        rcases key j hj' with h | h
        · exact absurd h e2
        · exact absurd e.symm h
    · by_cases e2 : j = t
      · rw [if_neg e1, if_pos e2] at e
        rcases key i hi' with h | h
        · exact absurd h e1
        · exact absurd e h
      · rw [if_neg e1, if_neg e2] at e; exact e

theorem Rel.nilVec (hR : Rel B w0 F0 S β F a w) {t : Nat} (ht : β t = none) (hs : S.t.getD t .any = .nils) (V : VT) : ∃ β', Rel B w0 F0 ⟨S.t.set t (.own t), S.h.set t (.vec V.ty V.sz V.d V.enc []), S.n⟩ β' F a w := by
  have hv : a.tmps.getD t undef = .slice none 0 0 := by
    have := hR.get (.tmp t)
    have e : S.get (.tmp t) = .nils := hs
    rw [e] at this
    exact this.nils_inv
  let β' : Nat → Option Hd := fun j => if j = t then some ⟨none, 0, 0⟩ else β j
  have b1 : β' t = some ⟨none, 0, 0⟩ := by simp [β']
  have b2 : ∀ j, j ≠ t → β' j = β j := fun j h1 => by simp [β', h1]
  have b3 : ∀ j, β j ≠ none → β' j = β j := fun j hj => b2 j fun e => hj (e ▸ ht)
  have bl : ∀ j b, blk β' j = some b → j ≠ t ∧ blk β j = some b := fun j b h => by
    by_cases e : j = t
    · subst e; simp [blk, b1] at h
    · exact ⟨e, by simpa [blk, b2 j e] using h⟩
  have lv : ∀ j, j ≠ t → (S.h.set t (.vec V.ty V.sz V.d V.enc [])).getD j .none = S.row j := fun j hj => by
    rw [getD_set_row, if_neg fun h => hj h.1.symm]; rfl
  refine ⟨β', { len := by simp [hR.len], slots := fun i hi => ?_, marks := hR.marks, rows := fun j => ?_, inj := fun i j b hi hj hbi hbj => ?_, bF := fun i b hi hbi => ?_, bB := fun i b hbi => hR.bB i b (bl i b hbi).2, FB := hR.FB, below := hR.below, BW := hR.BW, top := fun j hd h => (b3 j (by rw [hR.top j hd h]; simp)).trans (hR.top j hd h), topn := fun j hj => hR.topn j (by simpa [mayKill] using hj), nn := hR.nn, inc := hR.inc, keep := hR.keep, sol := hR.sol, yl := hR.ylOf (fun i => i) (fun j l xs k e h => ?_) (fun _ _ _ _ h => h) (fun i b hi hb => by obtain ⟨e1, k1⟩ := bl i b hb; exact ⟨i, by rw [← lv i e1]; exact hi, k1⟩) (fun b hb => .inl hb) }⟩
  · simp only [List.length_set] at hi
    rw [getD_set_av]
    split
    · rename_i hc
      rw [← hc.1, hv]
      have := Rep.own (F := F) (w := w) b1
      simpa using this
    · exact (hR.slots i hi).grow b3 (fun _ h => h) (Keeps.refl _ _)
  · show RowRep β' F w j ((S.h.set t (.vec V.ty V.sz V.d V.enc [])).getD j .none)
    rw [getD_set_row]
    split
    · rename_i hc
      rw [← hc.1]
      exact ⟨_, b1, rfl, .inl ⟨rfl, rfl, rfl⟩⟩
    · exact (hR.rows j).grow b3 (fun _ h => h) (Keeps.refl _ _) (fun _ _ => rfl)
  · obtain ⟨e1, k1⟩ := bl i b hbi
    obtain ⟨e2, k2⟩ := bl j b hbj
    have hi' : S.row i ≠ .none := by rw [← lv i e1]; exact hi
    have hj' : S.row j ≠ .none := by rw [← lv j e2]; exact hj
    exact hR.inj i j b hi' hj' k1 k2
  · obtain ⟨e1, k1⟩ := bl i b hbi
    have hi' : S.row i ≠ .none := by rw [← lv i e1]; exact hi
    exact hR.bF i b hi' k1
  · have h : (S.h.set t (.vec V.ty V.sz V.d V.enc [])).getD j .none = .ctr l xs k e := h
    rw [getD_set_row] at h
    split at h
    · cases h
    · exact h

/-! #### Moving -/
theorem mvL_length (id t : Nat) : ∀ l, (mvL id t l).length = l.length
  | [] => rfl
  | a :: l => by simp [mvL, mvL_length id t l]
theorem mvL_getD (id t : Nat) : ∀ l i, (mvL id t l).getD i .any = mvAV id t (l.getD i .any)
  | [], i => by simp [mvL, mvAV]
  | a :: l, 0 => rfl
  | a :: l, i + 1 => by
    have := mvL_getD id t l i
    simpa [mvL] using this
theorem mv_ext {xs ys : List AV} (hl : xs.length = ys.length) (h : ∀ i, i < xs.length → xs.getD i .any = ys.getD i .any) : xs = ys := by
  refine List.ext_getElem hl fun i h1 h2 => ?_
  have := h i h1
  simpa [List.getD, h1, h2] using this
theorem RepI.mv_eq {x : AV} {v : Value} (h : RepI F w x v) (id t : Nat) : mvAV id t x = x := by
  induction h with
  | agg hl _ ih => simp only [mvAV]; rw [mv_ext (mvL_length _ _ _) fun i hi => by rw [mvL_getD]; exact ih i (by rwa [mvL_length] at hi)]
  | tup hl _ ih => simp only [mvAV]; rw [mv_ext (mvL_length _ _ _) fun i hi => by rw [mvL_getD]; exact ih i (by rwa [mvL_length] at hi)]
  | fn hl _ hm _ ih ik =>
    simp only [mvAV]
    rw [mv_ext (mvL_length id t _) fun i hi => by rw [mvL_getD]; exact ih i (by rwa [mvL_length] at hi), mv_ext (mvL_length id t _) fun i hi => by rw [mvL_getD]; exact ik i (by rwa [mvL_length] at hi)]
  | _ => simp only [mvAV]
theorem Rep.move {β' : Nat → Option Hd} {id t : Nat} (ht : β t = none) (h1 : β' t = β id) (h2 : ∀ j, j ≠ t → j ≠ id → β' j = β j) {x : AV} {v : Value} (h : Rep β F w x v) : Rep β' F w (mvAV id t x) v := by
  have key : ∀ {k : Nat} {hd : Hd}, β k = some hd → β' (match Nat.beq k id with | true => t | false => k) = some hd := fun {k hd} hk => by
    cases hb : Nat.beq k id with
    | true => have := Nat.eq_of_beq_eq_true hb; subst this; exact h1.trans hk
    | false => exact (h2 k (fun e => by subst e; rw [ht] at hk; cases hk) (fun e => by subst e; simp at hb)).trans hk
  induction h with
  | imm h => rw [h.mv_eq]; exact .imm h
  | ptr hb hh => simp only [mvAV]; exact .ptr (key hb) hh
  | own hb => simp only [mvAV]; exact .own (key hb)
  | agg hl _ ih => simp only [mvAV]; exact .agg (by rw [mvL_length]; exact hl) fun i hi => by rw [mvL_getD]; exact ih i (by rwa [mvL_length] at hi)
  | tup hl _ ih => simp only [mvAV]; exact .tup (by rw [mvL_length]; exact hl) fun i hi => by rw [mvL_getD]; exact ih i (by rwa [mvL_length] at hi)
  | fn hl _ hm _ ih ik =>
    simp only [mvAV]
    exact .fn (by rw [mvL_length]; exact hl) (fun i hi => by rw [mvL_getD]; exact ih i (by rwa [mvL_length] at hi)) (by rw [mvL_length]; exact hm) fun i hi => by rw [mvL_getD]; exact ik i (by rwa [mvL_length] at hi)
theorem RowRep.move {β' : Nat → Option Hd} {id t : Nat} (ht : β t = none) (h1 : β' t = β id) (h2 : ∀ j, j ≠ t → j ≠ id → β' j = β j) {i i' : Nat} (hi : β' i' = β i) {r : Row} (h : RowRep β F w i r) : RowRep β' F w i' (mvRow id t r) := by
  cases r with
  | none => trivial
  | ctr l xs k e => obtain ⟨hd, e1, e2⟩ := h; exact ⟨hd, hi.trans e1, e2⟩
  | cells ty cs =>
    obtain ⟨hd, b, vs, e1, e2, e3, e4, e5⟩ := h
    exact ⟨hd, b, vs, hi.trans e1, e2, e3, by rw [mvL_length]; exact e4, fun i hi => by rw [mvL_getD]; exact (e5 i (by rwa [mvL_length] at hi)).move ht h1 h2⟩
  | lit ty sz css =>
    obtain ⟨hd, b, vs, e1, e2, e3, e4, e5, e6, e7, e8⟩ := h
    have hg : ∀ i, (css.map (mvL id t)).getD i [] = mvL id t (css.getD i []) := by
      intro i; simp only [List.getD, List.getElem?_map]; cases css[i]? <;> simp [mvL]
    exact ⟨hd, b, vs, hi.trans e1, e2, e3, by simpa using e4, by simpa using e5, by simpa using e6, by simpa using e7, fun i k hi hk => by
      rw [hg, mvL_getD]; exact (e8 i k (by simpa using hi) hk).move ht h1 h2⟩
  | vec ty sz e enc l =>
    obtain ⟨hd, e1, e2⟩ := h
    exact ⟨hd, hi.trans e1, e2⟩
theorem mvRow_none {id t : Nat} {r : Row} (h : mvRow id t r ≠ .none) : r ≠ .none := by rintro rfl; exact h rfl
theorem row_mvSt (S : St) (id t j : Nat) : (mvSt id t S).row j = if j = id then .none else if t = j ∧ j < S.h.length then mvRow id t (S.row id) else mvRow id t (S.row j) := by
  show (((S.h.map (mvRow id t)).set t (mvRow id t (S.row id))).set id .none).getD j .none = _
  have hm : (S.h.map (mvRow id t)).getD j .none = mvRow id t (S.row j) := by
    simp only [St.row, List.getD, List.getElem?_map]
    cases S.h[j]? <;> rfl
  rw [getD_set_row, getD_set_row, hm]
  simp only [List.length_set, List.length_map]
  by_cases e : j = id
  · subst e
    by_cases hl : j < S.h.length
    · simp [hl]
    · have e0 : S.row j = .none := by simp [St.row, List.getD, List.getElem?_eq_none (Nat.le_of_not_lt hl)]
      simp [hl, e0, mvRow]
  · rw [if_neg e, if_neg fun h => e h.1.symm]
    by_cases e2 : t = j
    · subst e2; rfl
    · rw [if_neg fun h => e2 h.1, if_neg fun h => e2 h.1]
theorem Rel.moved (hR : Rel B w0 F0 S β F a w) {t id : Nat} {hd : Hd} (ht : β t = none) (hid : id ≠ t) (hβ : β id = some hd) (hd0 : F0.β id = none) : ∃ β', Rel B w0 F0 (mvSt id t S) β' F a w := by
  let β' : Nat → Option Hd := fun j => if j = t then some hd else if j = id then none else β j
  have b1 : β' t = β id := by simp [β', hβ]
  have b2 : ∀ j, j ≠ t → j ≠ id → β' j = β j := fun j h1 h2 => by simp [β', h1, h2]
  have b3 : β' id = none := by simp [β', hid]
  have bl : ∀ j b, blk β' j = some b → (j = t ∧ hd.b = some b) ∨ (j ≠ t ∧ j ≠ id ∧ blk β j = some b) := fun j b h => by
    by_cases e : j = t
    · subst e; exact .inl ⟨rfl, by simpa [blk, b1, hβ] using h⟩
    · by_cases e2 : j = id
      · subst e2; simp [blk, b3] at h
      · exact .inr ⟨e, e2, by simpa [blk, b2 j e e2] using h⟩
  have tnone : ∀ {r}, RowRep β F w t r → r = .none := fun {r} h => by
    cases r with
    | none => rfl
    | ctr l xs k e' => obtain ⟨_, e, _⟩ := h; rw [ht] at e; cases e
    | cells ty cs => obtain ⟨_, _, _, e, _⟩ := h; rw [ht] at e; cases e
    | lit ty sz css => obtain ⟨_, _, _, e, _⟩ := h; rw [ht] at e; cases e
    | vec ty sz d enc l => obtain ⟨_, e, _⟩ := h; rw [ht] at e; cases e
  have ht0 : S.row t = .none := tnone (hR.rows t)
  have lv : ∀ j, (mvSt id t S).row j ≠ .none → (j = t ∧ S.row id ≠ .none) ∨ (j ≠ t ∧ j ≠ id ∧ S.row j ≠ .none) := fun j h => by
    rw [row_mvSt] at h
    split at h
    · exact absurd rfl h
    · rename_i hn
      split at h
      · rename_i hc; exact .inl ⟨hc.1.symm, mvRow_none h⟩
      · by_cases e : j = t
        · subst e; rw [ht0] at h; exact absurd rfl h
        · exact .inr ⟨e, hn, mvRow_none h⟩
  have lv' : ∀ j b, (mvSt id t S).row j ≠ .none → blk β' j = some b → (j = t ∧ S.row id ≠ .none ∧ blk β id = some b) ∨ (j ≠ t ∧ j ≠ id ∧ S.row j ≠ .none ∧ blk β j = some b) := fun j b h1 h2 => by
    rcases bl j b h2 with ⟨e, h3⟩ | ⟨e1, e2, h3⟩
    · refine .inl ⟨e, ?_, by simp [blk, hβ, h3]⟩
      rcases lv j h1 with ⟨_, h⟩ | ⟨h, _⟩
      · exact h
      · exact absurd e h
    · rcases lv j h1 with ⟨e, _⟩ | ⟨_, _, h⟩
      · exact absurd e e1
      · exact .inr ⟨e1, e2, h, h3⟩
  refine ⟨β', { len := by simp only [mvSt, mvL_length]; exact hR.len, slots := fun i hi => ?_, marks := hR.marks, rows := fun j => ?_, inj := fun i j b hi hj hbi hbj => ?_, bF := fun i b hi hbi => ?_, bB := fun i b hbi => ?_, FB := hR.FB, below := hR.below, BW := hR.BW, top := fun j hd' h => ?_, topn := fun j hj => hR.topn j (by simpa [mvSt, mayKill, mvL_length] using hj), nn := hR.nn, inc := hR.inc, keep := hR.keep, sol := hR.sol, yl := hR.ylOf (fun j => if j = t then id else j) (fun j l xs k e h => ?_) (fun i j hi hj e => ?_) (fun i b hi hb => by rcases lv' i b hi hb with ⟨_, l1, k1⟩ | ⟨_, _, l1, k1⟩; exact ⟨id, l1, k1⟩; exact ⟨i, l1, k1⟩) (fun b hb => .inl hb) }⟩
  · simp only [mvSt, mvL_length] at hi
    show Rep β' F w ((mvL id t S.t).getD i .any) _
    rw [mvL_getD]
    exact (hR.slots i hi).move ht b1 b2
  · rw [row_mvSt]
    split
    · trivial
    · rename_i hn
      split
      · rename_i hc; exact (hR.rows id).move ht b1 b2 (by rw [← hc.1]; exact b1)
      · by_cases e : j = t
        · subst e; rw [ht0]; trivial
        · exact (hR.rows j).move ht b1 b2 (b2 j e hn)
  · rcases lv' i b hi hbi with ⟨e1, l1, k1⟩ | ⟨e1, e1', l1, k1⟩ <;> rcases lv' j b hj hbj with ⟨e2, l2, k2⟩ | ⟨e2, e2', l2, k2⟩
    · rw [e1, e2]
    · exact absurd (hR.inj id j b l1 l2 k1 k2).symm e2'
    · exact absurd (hR.inj i id b l1 l2 k1 k2) e1'
    · exact hR.inj i j b l1 l2 k1 k2
  · rcases lv' i b hi hbi with ⟨_, l1, k1⟩ | ⟨_, _, l1, k1⟩
    · exact hR.bF id b l1 k1
    · exact hR.bF i b l1 k1
  · rcases bl i b hbi with ⟨_, h⟩ | ⟨_, _, h⟩
    · exact hR.bB id b (by simp [blk, hβ, h])
    · exact hR.bB i b h
  · have := hR.top j hd' h
    exact (b2 j (fun e => by subst e; rw [ht] at this; cases this) (fun e => by subst e; rw [hd0] at h; cases h)).trans this
  · have inv : ∀ {r}, mvRow id t r = .ctr l xs k e → r = .ctr l xs k e := fun {r} h => by cases r <;> simp [mvRow] at h; simp [h]
    rw [row_mvSt] at h
    split at h
    · cases h
    · split at h
      · rename_i hc; rw [if_pos hc.1.symm]; exact inv h
      · by_cases e' : j = t
        · subst e'; rw [ht0] at h; simp [mvRow] at h
        · rw [if_neg e']; exact inv h
  · by_cases e1 : i = t
    · by_cases e2 : j = t
      · rw [e1, e2]
      · rw [if_pos e1, if_neg e2] at e
        rcases lv j hj with ⟨h, _⟩ | ⟨_, h, _⟩
        · exact absurd h e2
        · exact absurd e.symm h
    · by_cases e2 : j = t
      · rw [if_neg e1, if_pos e2] at e
        rcases lv i hi with ⟨h, _⟩ | ⟨_, h, _⟩
        · exact absurd h e1
        · exact absurd e h
      · rw [if_neg e1, if_neg e2] at e; exact e

theorem Rel.nilBox (hR : Rel B w0 F0 S β F a w) {t b c : Nat} {ty : TypeId} {cs : List AV} (ht : β t = none) (hbt : b ≠ t) (hb : S.row b = .cells ty cs) (hs : cs.getD c .any = .nils) (V : VT) : ∃ β', Rel B w0 F0 ⟨S.t, (S.h.set t (.vec V.ty V.sz V.d V.enc [])).set b (.cells ty (cs.set c (.own t))), S.n⟩ β' F a w := by
  let β' : Nat → Option Hd := fun j => if j = t then some ⟨none, 0, 0⟩ else β j
  have b1 : β' t = some ⟨none, 0, 0⟩ := by simp [β']
  have b2 : ∀ j, j ≠ t → β' j = β j := fun j h1 => by simp [β', h1]
  have b3 : ∀ j, β j ≠ none → β' j = β j := fun j hj => b2 j fun e => hj (e ▸ ht)
  have bl : ∀ j b, blk β' j = some b → j ≠ t ∧ blk β j = some b := fun j b h => by
    by_cases e : j = t
    · subst e; simp [blk, b1] at h
    · exact ⟨e, by simpa [blk, b2 j e] using h⟩
  have lb : b < S.h.length := row_lt (by rw [hb]; simp)
  have row : ∀ j, ((S.h.set t (.vec V.ty V.sz V.d V.enc [])).set b (.cells ty (cs.set c (.own t)))).getD j .none = if b = j then .cells ty (cs.set c (.own t)) else if t = j ∧ j < S.h.length then .vec V.ty V.sz V.d V.enc [] else S.row j := fun j => by
    rw [getD_set_row, getD_set_row]
    simp only [List.length_set]
    by_cases e : b = j
    · subst e; simp [lb]
    · simp only [e, false_and, if_false]
      by_cases e2 : t = j
      · subst e2; rfl
      · simp only [e2, false_and, if_false]; rfl
  have lv : ∀ j, j ≠ t → ((S.h.set t (.vec V.ty V.sz V.d V.enc [])).set b (.cells ty (cs.set c (.own t)))).getD j .none ≠ .none → S.row j ≠ .none := fun j hj h => by
    rw [row] at h
    split at h
    · rename_i e; subst e; rw [hb]; simp
    · rw [if_neg fun h => hj h.1.symm] at h; exact h
  refine ⟨β', { len := hR.len, slots := fun i hi => (hR.slots i hi).grow b3 (fun _ h => h) (Keeps.refl _ _), marks := hR.marks, rows := fun j => ?_, inj := fun i j b' hi hj hbi hbj => ?_, bF := fun i b' hi hbi => ?_, bB := fun i b' hbi => hR.bB i b' (bl i b' hbi).2, FB := hR.FB, below := hR.below, BW := hR.BW, top := fun j hd h => (b3 j (by rw [hR.top j hd h]; simp)).trans (hR.top j hd h), topn := fun j hj => hR.topn j (by simpa [mayKill] using hj), nn := hR.nn, inc := hR.inc, keep := hR.keep, sol := hR.sol, yl := hR.ylOf (fun i => i) (fun j l xs k e h => ?_) (fun _ _ _ _ h => h) (fun i b' hi hb' => by obtain ⟨e1, k1⟩ := bl i b' hb'; exact ⟨i, lv i e1 hi, k1⟩) (fun b hb => .inl hb) }⟩
  · show RowRep β' F w j (List.getD _ j .none)
    rw [row]
    split
    · rename_i e
      subst e
      have := hR.rows b
      rw [hb] at this
      obtain ⟨hd, bb, vs, e1, e2, e3, e4, e5⟩ := this
      refine ⟨hd, bb, vs, (b3 b (by rw [e1]; simp)).trans e1, e2, e3, by simpa using e4, fun i hi => ?_⟩
      simp only [List.length_set] at hi
      rw [getD_set_av]
      split
      · rename_i hc
        have h5 := e5 i hi
        rw [← hc.1, hs] at h5
        rw [← hc.1, h5.nils_inv]
        have := Rep.own (F := F) (w := w) b1
        simpa using this
      · exact (e5 i hi).grow b3 (fun _ h => h) (Keeps.refl _ _)
    · split
      · rename_i hc
        rw [← hc.1]
        exact ⟨_, b1, rfl, .inl ⟨rfl, rfl, rfl⟩⟩
      · exact (hR.rows j).grow b3 (fun _ h => h) (Keeps.refl _ _) (fun _ _ => rfl)
  · obtain ⟨e1, k1⟩ := bl i b' hbi
    obtain ⟨e2, k2⟩ := bl j b' hbj
    exact hR.inj i j b' (lv i e1 hi) (lv j e2 hj) k1 k2
  · obtain ⟨e1, k1⟩ := bl i b' hbi
    exact hR.bF i b' (lv i e1 hi) k1
  · have h : ((S.h.set t (.vec V.ty V.sz V.d V.enc [])).set b (.cells ty (cs.set c (.own t)))).getD j .none = .ctr l xs k e := h
    rw [row] at h
    split at h
    · cases h
    · split at h
      · cases h
      · exact h

theorem Rel.canonB (hR : Rel B w0 F0 S β F a w) (t b c : Nat) (V : VT) : ∃ β', Rel B w0 F0 (Ev.canonB t b c V S) β' F a w := by
  unfold Ev.canonB
  split
  · exact ⟨β, hR⟩
  rename_i hk
  simp only [Bool.and_eq_true, Bool.not_eq_true'] at hk
  have hbt : b ≠ t := fun e => by have := hk.2; rw [e] at this; simp at this
  split
  case h_2 => exact ⟨β, hR⟩
  rename_i ty cs hrow
  have hkr : (S.kill t).row b = killRow t (S.row b) := by rw [row_kill, if_neg hbt]
  obtain ⟨β1, h1, h2, hR1⟩ := hR.kill t (hR.topn t hk.1)
  split
  · rename_i id hs
    split
    · exact ⟨β, hR⟩
    rename_i hb
    have hne : id ≠ t := fun e => by rw [e] at hb; simp at hb
    split
    · exact ⟨β, hR⟩
    rename_i hlt
    simp only [Bool.and_eq_true] at hlt
    have hrb := hR1.rows b
    rw [hkr, hrow] at hrb
    obtain ⟨hd, bb, vs, e1, e2, e3, e4, e5⟩ := hrb
    have hc : c < cs.length := by
      rcases Nat.lt_or_ge c cs.length with h | h
      · exact h
      · simp [List.getD, List.getElem?_eq_none h] at hs
    have h5 := e5 c (by simpa using hc)
    rw [getD_map_av _ (killAV_any t), hs] at h5
    have hkv : killAV t (.own id) = .own id := by
      show (match Nat.beq id t with | true => AV.any | false => AV.own id) = AV.own id
      rw [hb]
    rw [hkv] at h5
    obtain ⟨hd', g1, _⟩ := h5.own_inv
    exact hR1.moved h1 hne g1 (hR.topn id hlt.1)
  · rename_i hs
    split
    · rename_i ty' cs' hrow'
      refine hR1.nilBox h1 hbt hrow' ?_ V
      rw [hkr, hrow] at hrow'
      simp only [killRow, Row.cells.injEq] at hrow'
      rw [← hrow'.2, getD_map_av _ (killAV_any t), hs]
      rfl
    · exact ⟨β, hR⟩
  · exact ⟨β, hR⟩

theorem Rel.canonS (hR : Rel B w0 F0 S β F a w) (t : Nat) (V : VT) : ∃ β', Rel B w0 F0 (Ev.canonS t V S) β' F a w := by
  unfold Ev.canonS
  split
  · rename_i id hs
    split
    · exact ⟨β, hR⟩
    · rename_i hb
      have hne : id ≠ t := fun e => by rw [e] at hb; simp at hb
      split
      · exact ⟨β, hR⟩
      · rename_i hlt
        simp only [Bool.and_eq_true] at hlt
        obtain ⟨β1, h1, h2, hR1⟩ := hR.kill t (hR.topn t hlt.2)
        have hs1 : (S.kill t).t.getD t .any = .own id := by
          simp only [St.kill]
          rw [getD_map_av _ (killAV_any t), hs]
          show (match Nat.beq id t with | true => AV.any | false => AV.own id) = AV.own id
          rw [hb]
        exact hR1.rename h1 hne hs1 (hR.topn id hlt.1)
  · rename_i hs
    split
    · exact ⟨β, hR⟩
    · rename_i hlt
      obtain ⟨β1, h1, h2, hR1⟩ := hR.kill t (hR.topn t hlt)
      have hs1 : (S.kill t).t.getD t .any = .nils := by
        simp only [St.kill]
        rw [getD_map_av _ (killAV_any t), hs]
        rfl
      exact hR1.nilVec h1 hs1 V
  · exact ⟨β, hR⟩
theorem Rel.canon1 (hR : Rel B w0 F0 S β F a w) (t : Nat) (V : VT) : ∃ β', Rel B w0 F0 (Ev.canon1 t V S) β' F a w := by
  unfold Ev.canon1
  split
  · exact hR.canonS t V
  · exact hR.canonB _ _ _ V
theorem Rel.canonV : ∀ (l : List (Nat × VT)) {S : St} {β : Nat → Option Hd}, Rel B w0 F0 S β F a w → ∃ β', Rel B w0 F0 (Ev.canonV l S) β' F a w
  | [], S, β, hR => ⟨β, hR⟩
  | (t, V) :: l, S, β, hR => by
    obtain ⟨β1, hR1⟩ := hR.canon1 t V
    exact Rel.canonV l hR1

end
end Go.Ev
/- Calls that write: rows that are handed over and handed back. A helper text: it speaks of no program. -/
namespace Go.Ev

/-! ### Renaming -/
mutual
def AV.ren (ids : List Nat) : AV → AV
  | .ptr k sz i off => .ptr (ids.getD k 0) sz i off
  | .own k => .own (ids.getD k 0)
  | .agg l => .agg (renL ids l)
  | .tup l => .tup (renL ids l)
  | .fn f a b => .fn f (renL ids a) (renL ids b)
  | x => x
def renL (ids : List Nat) : List AV → List AV
  | [] => []
  | a :: l => a.ren ids :: renL ids l
end
def renRow (ids : List Nat) : Row → Row
  | .cells ty cs => .cells ty (renL ids cs)
  | .lit ty sz css => .lit ty sz (css.map (renL ids))
  | r => r
mutual
/-- It names no row from 'n' on. -/
def AV.under (n : Nat) : AV → Bool
  | .ptr k _ _ _ => Nat.blt k n
  | .own k => Nat.blt k n
  | .agg l => underL n l
  | .tup l => underL n l
  | .fn _ a b => underL n a && underL n b
  | _ => true
def underL (n : Nat) : List AV → Bool
  | [] => true
  | a :: l => a.under n && underL n l
end
def underRow (n : Nat) : Row → Bool
  | .cells _ cs => underL n cs
  | .lit _ _ css => css.all (underL n)
  | .ctr _ _ _ _ => false
  | _ => true

theorem renL_length (ids : List Nat) : ∀ l, (renL ids l).length = l.length
  | [] => rfl
  | a :: l => by simp [renL, renL_length ids l]
theorem renL_getD (ids : List Nat) : ∀ l i, (renL ids l).getD i .any = (l.getD i .any).ren ids
  | [], i => by simp [renL, AV.ren]
  | a :: l, 0 => rfl
  | a :: l, i + 1 => by
    have := renL_getD ids l i
    simpa [renL] using this
theorem underL_getD {n : Nat} : ∀ {l : List AV}, underL n l = true → ∀ i, (l.getD i .any).under n = true
  | [], _, i => by simp [AV.under]
  | a :: l, h, 0 => by simp [underL] at h; exact h.1
  | a :: l, h, i + 1 => by
    simp [underL] at h
    have := underL_getD h.2 i
    simpa using this
theorem renL_map (ids : List Nat) : ∀ l, renL ids l = l.map (AV.ren ids)
  | [] => rfl
  | a :: l => by simp [renL, renL_map ids l]

section
variable {F : Nat → Prop} {w : World}
theorem ext_getD {xs ys : List AV} (hl : xs.length = ys.length) (h : ∀ i, i < xs.length → xs.getD i .any = ys.getD i .any) : xs = ys := by
  refine List.ext_getElem hl fun i h1 h2 => ?_
  have := h i h1
  simpa [List.getD, h1, h2] using this
theorem RepI.ren_eq {x : AV} {v : Value} (h : RepI F w x v) (ids : List Nat) : x.ren ids = x := by
  induction h with
  | agg hl _ ih => simp only [AV.ren]; rw [ext_getD (renL_length _ _) fun i hi => by rw [renL_getD]; exact ih i (by rwa [renL_length] at hi)]
  | tup hl _ ih => simp only [AV.ren]; rw [ext_getD (renL_length _ _) fun i hi => by rw [renL_getD]; exact ih i (by rwa [renL_length] at hi)]
  | fn hl _ hm _ ih ik =>
    simp only [AV.ren]
    rw [ext_getD (renL_length ids _) fun i hi => by rw [renL_getD]; exact ih i (by rwa [renL_length] at hi), ext_getD (renL_length ids _) fun i hi => by rw [renL_getD]; exact ik i (by rwa [renL_length] at hi)]
  | _ => rfl

/-- Back from the numbers of the one to those of the other. -/
theorem Rep.unren {β β' : Nat → Option Hd} {ids : List Nat} {n : Nat} (hβ : ∀ k, k < n → β' k = β (ids.getD k 0)) {y : AV} {v : Value} (h : Rep β F w y v) : ∀ {x : AV}, x.under n = true → x.ren ids = y → Rep β' F w x v := by
  have imm : ∀ {y v}, RepI F w y v → ∀ {x : AV}, x.ren ids = y → RepI F w x v := by
    intro y v h
    induction h with
    | agg hl _ ih =>
      intro x hx
      cases x <;> simp only [AV.ren, reduceCtorEq, AV.agg.injEq] at hx
      subst hx
      rw [renL_length] at hl ih
      exact .agg hl fun i hi => ih i hi (by rw [renL_getD])
    | tup hl _ ih =>
      intro x hx
      cases x <;> simp only [AV.ren, reduceCtorEq, AV.tup.injEq] at hx
      subst hx
      rw [renL_length] at hl ih
      exact .tup hl fun i hi => ih i hi (by rw [renL_getD])
    | fn hl _ hm _ ih ik =>
      intro x hx
      cases x <;> simp only [AV.ren, reduceCtorEq, AV.fn.injEq] at hx
      obtain ⟨e0, e1, e2⟩ := hx
      subst e0; subst e1; subst e2
      rw [renL_length] at hl hm ih ik
      exact .fn hl (fun i hi => ih i hi (by rw [renL_getD])) hm (fun i hi => ik i hi (by rw [renL_getD]))
    | any v => intro x hx; cases x <;> simp only [AV.ren, reduceCtorEq] at hx; exact .any _
    | tt => intro x hx; cases x <;> simp only [AV.ren, reduceCtorEq] at hx; exact .tt
    | ff => intro x hx; cases x <;> simp only [AV.ren, reduceCtorEq] at hx; exact .ff
    | bool b => intro x hx; cases x <;> simp only [AV.ren, reduceCtorEq] at hx; rw [hx]; exact .bool b
    | int k m => intro x hx; cases x <;> simp only [AV.ren, reduceCtorEq] at hx; rw [hx]; exact .int k m
    | str s => intro x hx; cases x <;> simp only [AV.ren, reduceCtorEq] at hx; rw [hx]; exact .str s
    | nilp => intro x hx; cases x <;> simp only [AV.ren, reduceCtorEq] at hx; exact .nilp
    | nils => intro x hx; cases x <;> simp only [AV.ren, reduceCtorEq] at hx; exact .nils
    | nilf => intro x hx; cases x <;> simp only [AV.ren, reduceCtorEq] at hx; exact .nilf
    | slnil => intro x hx; cases x <;> simp only [AV.ren, reduceCtorEq] at hx; rw [hx]; exact .slnil
    | sl g hc hb h _ => intro x hx; cases x <;> simp only [AV.ren, reduceCtorEq] at hx; rw [hx]; exact .sl g hc hb h
    | slcnil => intro x hx; cases x <;> simp only [AV.ren, reduceCtorEq] at hx; rw [hx]; exact .slcnil
    | slc g hc hb h _ => intro x hx; cases x <;> simp only [AV.ren, reduceCtorEq] at hx; rw [hx]; exact .slc g hc hb h
    | pt g hb h _ => intro x hx; cases x <;> simp only [AV.ren, reduceCtorEq] at hx; rw [hx]; exact .pt g hb h
  induction h with
  | imm h => intro x _ hx; exact .imm (imm h hx)
  | @ptr id sz i off b hd hb hh =>
    intro x hu hx
    cases x <;> simp only [AV.ren, reduceCtorEq, AV.ptr.injEq] at hx
    obtain ⟨rfl, rfl, rfl, rfl⟩ := hx
    simp only [AV.under, Nat.blt_eq] at hu
    exact .ptr ((hβ _ hu).trans hb) hh
  | @own id hd hb =>
    intro x hu hx
    cases x <;> simp only [AV.ren, reduceCtorEq, AV.own.injEq] at hx
    subst hx
    simp only [AV.under, Nat.blt_eq] at hu
    exact .own ((hβ _ hu).trans hb)
  | agg hl _ ih =>
    intro x hu hx
    cases x <;> simp only [AV.ren, reduceCtorEq, AV.agg.injEq] at hx
    subst hx
    rw [renL_length] at hl ih
    simp only [AV.under] at hu
    exact .agg hl fun i hi => ih i hi (underL_getD hu i) (by rw [renL_getD])
  | tup hl _ ih =>
    intro x hu hx
    cases x <;> simp only [AV.ren, reduceCtorEq, AV.tup.injEq] at hx
    subst hx
    rw [renL_length] at hl ih
    simp only [AV.under] at hu
    exact .tup hl fun i hi => ih i hi (underL_getD hu i) (by rw [renL_getD])
  | fn hl _ hm _ ih ik =>
    intro x hu hx
    cases x <;> simp only [AV.ren, reduceCtorEq, AV.fn.injEq] at hx
    obtain ⟨e0, e1, e2⟩ := hx
    subst e0; subst e1; subst e2
    rw [renL_length] at hl hm ih ik
    simp only [AV.under, Bool.and_eq_true] at hu
    exact .fn hl (fun i hi => ih i hi (underL_getD hu.1 i) (by rw [renL_getD])) hm (fun i hi => ik i hi (underL_getD hu.2 i) (by rw [renL_getD]))

/-- There. -/
theorem Rep.ren {β β' : Nat → Option Hd} {ids : List Nat} {n : Nat} (hβ : ∀ k, k < n → ∀ hd, β k = some hd → β' (ids.getD k 0) = some hd) {x : AV} {v : Value} (h : Rep β F w x v) : x.under n = true → Rep β' F w (x.ren ids) v := by
  induction h with
  | imm h => intro _; rw [h.ren_eq]; exact .imm h
  | ptr hb hh => intro hu; simp only [AV.under, Nat.blt_eq] at hu; exact .ptr (hβ _ hu _ hb) hh
  | own hb => intro hu; simp only [AV.under, Nat.blt_eq] at hu; exact .own (hβ _ hu _ hb)
  | agg hl _ ih => intro hu; simp only [AV.under] at hu; exact .agg (by rw [renL_length]; exact hl) fun i hi => by rw [renL_getD]; exact ih i (by rwa [renL_length] at hi) (underL_getD hu i)
  | tup hl _ ih => intro hu; simp only [AV.under] at hu; exact .tup (by rw [renL_length]; exact hl) fun i hi => by rw [renL_getD]; exact ih i (by rwa [renL_length] at hi) (underL_getD hu i)
  | fn hl _ hm _ ih ik =>
    intro hu
    simp only [AV.under, Bool.and_eq_true] at hu
    exact .fn (by rw [renL_length]; exact hl) (fun i hi => by rw [renL_getD]; exact ih i (by rwa [renL_length] at hi) (underL_getD hu.1 i)) (by rw [renL_length]; exact hm) (fun i hi => by rw [renL_getD]; exact ik i (by rwa [renL_length] at hi) (underL_getD hu.2 i))

theorem css_ren_getD (ids : List Nat) (css : List (List AV)) (i : Nat) : (css.map (renL ids)).getD i [] = renL ids (css.getD i []) := by
  simp only [List.getD, List.getElem?_map]
  cases css[i]? <;> rfl
theorem rowRep_unren {β β' : Nat → Option Hd} {ids : List Nat} {n k : Nat} (hβ : ∀ k, k < n → β' k = β (ids.getD k 0)) (hk : k < n) {r : Row} (hu : underRow n r = true) (h : RowRep β F w (ids.getD k 0) (renRow ids r)) : RowRep β' F w k r := by
  cases r with
  | none => trivial
  | ctr l xs k e => simp [underRow] at hu
  | cells ty cs =>
    obtain ⟨hd, b, vs, e1, e2, e3, e4, e5⟩ := h
    rw [renL_length] at e4 e5
    refine ⟨hd, b, vs, (hβ k hk).trans e1, e2, e3, e4, fun i hi => (e5 i hi).unren hβ (underL_getD hu i) (by rw [renL_getD])⟩
  | lit ty sz css =>
    obtain ⟨hd, b, vs, e1, e2, e3, e4, e5, e6, e7, e8⟩ := h
    rw [List.length_map] at e4 e5 e6 e7 e8
    refine ⟨hd, b, vs, (hβ k hk).trans e1, e2, e3, e4, e5, e6, e7, fun i j hi hj => (e8 i j hi hj).unren hβ (underL_getD ?_ j) (by rw [css_ren_getD, renL_getD])⟩
    have hm : css.getD i [] ∈ css := by simp [List.getD, hi]
    exact List.all_eq_true.1 hu _ hm
  | vec ty sz d enc l =>
    obtain ⟨hd, e1, e2⟩ := h
    exact ⟨hd, (hβ k hk).trans e1, e2⟩
theorem rowRep_ren {β β' : Nat → Option Hd} {ids : List Nat} {n k : Nat} (hβ : ∀ k, k < n → ∀ hd, β k = some hd → β' (ids.getD k 0) = some hd) (hk : k < n) {r : Row} (h : RowRep β F w k r) (hu : underRow n r = true) : RowRep β' F w (ids.getD k 0) (renRow ids r) := by
  cases r with
  | none => trivial
  | ctr l xs k e => simp [underRow] at hu
  | cells ty cs =>
    obtain ⟨hd, b, vs, e1, e2, e3, e4, e5⟩ := h
    exact ⟨hd, b, vs, hβ _ hk _ e1, e2, e3, by rw [renL_length]; exact e4, fun i hi => by rw [renL_getD]; exact (e5 i (by rwa [renL_length] at hi)).ren hβ (underL_getD hu i)⟩
  | lit ty sz css =>
    obtain ⟨hd, b, vs, e1, e2, e3, e4, e5, e6, e7, e8⟩ := h
    refine ⟨hd, b, vs, hβ _ hk _ e1, e2, e3, by rw [List.length_map]; exact e4, by rw [List.length_map]; exact e5, by rw [List.length_map]; exact e6, by rw [List.length_map]; exact e7, fun i j hi hj => ?_⟩
    rw [css_ren_getD, renL_getD]
    rw [List.length_map] at hi
    have hm : css.getD i [] ∈ css := by simp [List.getD, hi]
    exact (e8 i j hi hj).ren hβ (underL_getD (List.all_eq_true.1 hu _ hm) j)
  | vec ty sz d enc l =>
    obtain ⟨hd, e1, e2⟩ := h
    exact ⟨hd, hβ _ hk _ e1, e2⟩
end

theorem renRow_none {ids : List Nat} {r : Row} : renRow ids r = .none ↔ r = .none := by cases r <;> simp [renRow]

/-- Rows that are handed over, or handed back. -/
structure Owned (β : Nat → Option Hd) (F : Nat → Prop) (w : World) (rs : List Row) : Prop where
  rows : ∀ k, RowRep β F w k (rs.getD k .none)
  inj : ∀ i j b, rs.getD i .none ≠ .none → rs.getD j .none ≠ .none → blk β i = some b → blk β j = some b → i = j
  bF : ∀ i b, rs.getD i .none ≠ .none → blk β i = some b → ¬ F b
  bB : ∀ i b, blk β i = some b → b < w.heap.size
  dead : ∀ i, rs.getD i .none = .none → β i = none

/-- The blocks of rows that are handed over. -/
def inB (β : Nat → Option Hd) (b : Nat) : Prop := ∃ k, blk β k = some b

/-- A call of 'f' that takes over the rows 'ins' and hands back the rows 'outs': of these, as many as came in bear the numbers that they bore. -/
def PW (P : Program) (f : FuncId) (args : List AV) (ins : List Row) (res : AV) (outs : List Row) : Prop :=
  ∀ (F : Nat → Prop) (w : World) (vs : Array Value) (β : Nat → Option Hd), (∀ b, F b → b < w.heap.size) → vs.size = args.length → (∀ i, i < args.length → Rep β F w (args.getD i .any) (vs.getD i undef)) → Owned β F w ins →
    (callFunc f vs).run P w = .ok (.enter f vs) w ∧ Calls P f vs w fun e w' => ∃ v β' F', e = .returned v ∧ BelowO (fun b => w.heap.size ≤ b ∨ inB β b) w w' ∧ (∀ k hd, β k = some hd → β' k = some hd) ∧ (∀ b, F b → F' b) ∧
      (∀ b, F' b → b < w'.heap.size ∧ (F b ∨ w.heap.size ≤ b ∨ inB β b)) ∧ Rep β' F' w' res v ∧ (∀ k, RowRep β' F' w' k (outs.getD k .none)) ∧
      (∀ i j b, outs.getD i .none ≠ .none → outs.getD j .none ≠ .none → blk β' i = some b → blk β' j = some b → i = j) ∧ (∀ i b, outs.getD i .none ≠ .none → blk β' i = some b → ¬ F' b) ∧
      (∀ i b, blk β' i = some b → b < w'.heap.size ∧ (w.heap.size ≤ b ∨ inB β b))

section
variable {P : Program} {B : Nat → Prop} {w0 : World} {F0 : Env P} {S : St} {β : Nat → Option Hd} {F : Nat → Prop} {a : Act} {w : World}

theorem getD_setRows_zip (h : List Row) : ∀ (ids : List Nat) (rs : List Row), ids.Nodup → ids.length = rs.length → ∀ j,
    (∃ k, k < ids.length ∧ ids.getD k 0 = j ∧ (setRows h (ids.zip rs)).getD j .none = if j < h.length then rs.getD k .none else .none) ∨ (j ∉ ids ∧ (setRows h (ids.zip rs)).getD j .none = h.getD j .none)
  | [], [], _, _, j => .inr ⟨by simp, rfl⟩
  | i :: ids, r :: rs, hn, hl, j => by
    obtain ⟨hn1, hn2⟩ := List.nodup_cons.1 hn
    simp only [List.zip_cons_cons, setRows]
    rcases getD_setRows_zip (h.set i r) ids rs hn2 (by simpa using hl) j with ⟨k, h1, h2, h3⟩ | ⟨h1, h2⟩
    · exact .inl ⟨k + 1, by simpa using h1, by simpa using h2, by rw [h3, List.length_set]; simp⟩
    · by_cases e : j = i
      · subst e
        refine .inl ⟨0, by simp, by simp, ?_⟩
        rw [h2, getD_set_row]
        by_cases hlt : j < h.length
        · simp [hlt]
        · simp [hlt, List.getElem?_eq_none (Nat.le_of_not_lt hlt)]
      · refine .inr ⟨by simp [e, h1], ?_⟩
        rw [h2, getD_set_row, if_neg fun hc => e hc.1.symm]

/-- Behind such a call. -/
theorem Rel.calledW (hR : Rel B w0 F0 S β F a w) {ids news : List Nat} (hn : (ids ++ news).Nodup) (hfree : ∀ d ∈ news, β d = none) {w' : World} {βi β' : Nat → Option Hd} {F' : Nat → Prop} {outs : List Row} {res : AV} {v : Value} {dst : Option Nat}
    (hβi : ∀ k, k < ids.length → βi k = β (ids.getD k 0) ∧ S.row (ids.getD k 0) ≠ .none) (hβo : ∀ k, ids.length ≤ k → βi k = none)
    (hbel : BelowO (fun b => w.heap.size ≤ b ∨ inB βi b) w w') (hβ' : ∀ k hd, βi k = some hd → β' k = some hd) (hF : ∀ b, F b → F' b) (hF' : ∀ b, F' b → b < w'.heap.size ∧ (F b ∨ w.heap.size ≤ b ∨ inB βi b))
    (hres : Rep β' F' w' res v) (hund : res.under (ids ++ news).length = true) (hrows : ∀ k, RowRep β' F' w' k (outs.getD k .none)) (hundr : ∀ k, underRow (ids ++ news).length (outs.getD k .none) = true) (hol : outs.length = (ids ++ news).length)
    (hinj : ∀ i j b, outs.getD i .none ≠ .none → outs.getD j .none ≠ .none → blk β' i = some b → blk β' j = some b → i = j) (hbF : ∀ i b, outs.getD i .none ≠ .none → blk β' i = some b → ¬ F' b)
    (hbB : ∀ i b, blk β' i = some b → b < w'.heap.size ∧ (w.heap.size ≤ b ∨ inB βi b)) :
    ∃ β'' F'', Rel B w0 F0 (S.put dst ⟨res.ren (ids ++ news), (ids ++ news).zip (outs.map (renRow (ids ++ news)))⟩) β'' F'' (a.put dst v) w' := by
  classical
  generalize hall : ids ++ news = all at *
  let β'' : Nat → Option Hd := fun j => if β j = none then (if h : ∃ k, k < all.length ∧ all.getD k 0 = j then β' (Classical.choose h) else none) else β j
  have uniq : ∀ k k', k < all.length → k' < all.length → all.getD k 0 = all.getD k' 0 → k = k' := fun k k' h h' e => by
    have e' : all[k] = all[k'] := by simpa [List.getD, h, h'] using e
    have hp := List.pairwise_iff_getElem.1 hn
    rcases Nat.lt_trichotomy k k' with hlt | rfl | hgt
    · exact absurd e' (hp k k' h h' hlt)
    · rfl
    · exact absurd e'.symm (hp k' k h' h hgt)
  have f1 : ∀ j, β j ≠ none → β'' j = β j := fun j hj => by simp [β'', hj]
  have f0 : ∀ k, k < all.length → β (all.getD k 0) = none → β'' (all.getD k 0) = β' k := fun k hk h0 => by
    have hex : ∃ k', k' < all.length ∧ all.getD k' 0 = all.getD k 0 := ⟨k, hk, rfl⟩
    simp only [β'', h0, if_true, dif_pos hex]
    exact congrArg β' (uniq _ _ (Classical.choose_spec hex).1 hk (Classical.choose_spec hex).2)
  have idk : ∀ k, k < ids.length → all.getD k 0 = ids.getD k 0 := fun k hk => by rw [← hall]; simp [List.getD, List.getElem?_append, hk]
  have live : ∀ k, k < ids.length → ∃ hd, β (ids.getD k 0) = some hd ∧ β' k = some hd := fun k hk => by
    obtain ⟨hd, h⟩ := (hR.rows (ids.getD k 0)).some (hβi k hk).2
    exact ⟨hd, h, hβ' k hd ((hβi k hk).1.trans h)⟩
  have f2 : ∀ k, k < all.length → ∀ hd, β' k = some hd → β'' (all.getD k 0) = some hd := fun k hk hd h => by
    by_cases hki : k < ids.length
    · obtain ⟨hd', h1, h2⟩ := live k hki
      rw [idk k hki, f1 _ (by rw [h1]; simp), h1, ← h2, h]
    · rw [f0 k hk, h]
      refine hfree _ ?_
      rw [← hall]
      have : k - ids.length < news.length := by rw [← hall] at hk; simp at hk; omega
      simp [List.getD, List.getElem?_append, hki, this]
  have inX : ∀ b, inB βi b → ∃ k, k < ids.length ∧ blk β (ids.getD k 0) = some b := fun b ⟨k, h⟩ => by
    by_cases hki : k < ids.length
    · exact ⟨k, hki, by have := (hβi k hki).1; simpa [blk, this] using h⟩
    · have := hβo k (Nat.le_of_not_lt hki); simp [blk, this] at h
  have memall : ∀ k, k < ids.length → ids.getD k 0 ∈ all := fun k hk => by rw [← hall]; simp [List.getD, hk]
  have notX : ∀ j b, j ∉ all → S.row j ≠ .none → blk β j = some b → ¬ inB βi b := fun j b hj hl hb hx => by
    obtain ⟨k, hk, hkb⟩ := inX b hx
    exact hj (hR.inj j _ b hl (hβi k hk).2 hb hkb ▸ memall k hk)
  have hk : Keeps F w w' := fun b o u hFb hc => by
    have hb := hbel.block b (by
      rintro (h | h)
      · have := (hR.FB b hFb).1; omega
      · obtain ⟨k, hk, hkb⟩ := inX b h
        exact hR.bF _ b (hβi k hk).2 hkb hFb)
    rw [World.cell?_of_block (w := w) hb]; exact hc
  have hg : ∀ k, (outs.map (renRow all)).getD k .none = renRow all (outs.getD k .none) := fun k => by
    simp only [List.getD, List.getElem?_map]
    cases outs[k]? <;> rfl
  have hz := getD_setRows_zip S.h all (outs.map (renRow all)) hn (by rw [List.length_map, hol])
  have same : ∀ j b, j ∉ all → S.row j ≠ .none → blk β j = some b → w'.heap[b]? = w.heap[b]? := fun j b hj hl hb => hbel.block b (by
    rintro (h | h)
    · have := (hR.bB j b hb).2; omega
    · exact notX j b hj hl hb h)
  -- the rows that live behind the call
  have lv : ∀ i b, (setRows S.h (all.zip (outs.map (renRow all)))).getD i .none ≠ .none → blk β'' i = some b →
      (∃ k, k < all.length ∧ all.getD k 0 = i ∧ outs.getD k .none ≠ .none ∧ blk β' k = some b) ∨ (i ∉ all ∧ S.row i ≠ .none ∧ blk β i = some b) := fun i b hi hb => by
    rcases hz i with ⟨k, h1, h2, h3⟩ | ⟨h1, h2⟩
    · rw [h3] at hi
      split at hi
      · rw [hg] at hi
        have ho : outs.getD k .none ≠ .none := fun e => hi (by rw [e]; rfl)
        obtain ⟨hd, hb1⟩ := (hrows k).some ho
        refine .inl ⟨k, h1, h2, ho, ?_⟩
        have := f2 k h1 hd hb1
        rw [h2] at this
        simp only [blk, this] at hb
        simpa [blk, hb1] using hb
      · exact absurd rfl hi
    · rw [h2] at hi
      obtain ⟨hd, hb1⟩ := (hR.rows i).some hi
      refine .inr ⟨h1, hi, ?_⟩
      have := f1 i (by rw [hb1]; simp)
      simpa [blk, this] using hb
  refine ⟨β'', F', hR.step f1 hF (fun b hb => ?_) hk ⟨hbel.os, hbel.tape, hbel.output⟩ hbel.size (hres.ren f2 hund) (fun j => ?_) (fun i j b hi hj hbi hbj => ?_) (fun i b hi hbi => ?_) (fun i b hbi => ?_) (fun b hb hn => hbel.block b ?_) (fun i b hi hbi => ?_) (fun b hb => ?_) (fun id l xs k e h => ?_)⟩
  · obtain ⟨h1, h2⟩ := hF' b hb
    refine ⟨h1, ?_⟩
    rcases h2 with h | h | h
    · exact (hR.FB b h).2
    · exact .inr (hR.BW b h)
    · obtain ⟨k, _, hkb⟩ := inX b h
      exact .inr (hR.bB _ b hkb).1
  · rcases hz j with ⟨k, h1, h2, h3⟩ | ⟨h1, h2⟩
    · rw [h3]
      split
      · rw [hg, ← h2]
        exact rowRep_ren f2 h1 (hrows k) (hundr k)
      · trivial
    · rw [h2]
      by_cases hn : S.row j = .none
      · have : S.h.getD j .none = .none := hn
        rw [this]; trivial
      · exact (hR.rows j).grow f1 hF hk fun b hb => same j b h1 hn hb
  · rcases lv i b hi hbi with ⟨k, l1, l2, l3, l4⟩ | ⟨l1, l2, l3⟩ <;> rcases lv j b hj hbj with ⟨k', m1, m2, m3, m4⟩ | ⟨m1, m2, m3⟩
    · rw [← l2, ← m2, hinj k k' b l3 m3 l4 m4]
    · rcases (hbB k b l4).2 with h | h
      · have := (hR.bB j b m3).2; omega
      · exact absurd h (notX j b m1 m2 m3)
    · rcases (hbB k' b m4).2 with h | h
      · have := (hR.bB i b l3).2; omega
      · exact absurd h (notX i b l1 l2 l3)
    · exact hR.inj i j b l2 m2 l3 m3
  · intro hFb
    rcases lv i b hi hbi with ⟨k, l1, l2, l3, l4⟩ | ⟨l1, l2, l3⟩
    · exact hbF k b l3 l4 hFb
    · rcases (hF' b hFb).2 with h | h | h
      · exact hR.bF i b l2 l3 h
      · have := (hR.bB i b l3).2; omega
      · exact notX i b l1 l2 l3 h
  · by_cases h0 : β i = none
    · simp only [blk, β'', h0, if_true] at hbi
      split at hbi
      · rename_i hex
        obtain ⟨h1, h2⟩ := hbB _ b hbi
        refine ⟨?_, h1⟩
        rcases h2 with h | h
        · exact hR.BW b h
        · obtain ⟨k, _, hkb⟩ := inX b h
          exact (hR.bB _ b hkb).1
      · simp at hbi
    · have := f1 i h0
      simp only [blk, this] at hbi
      have := hR.bB i b hbi
      exact ⟨this.1, Nat.lt_of_lt_of_le this.2 hbel.size⟩
  · rintro (h | h)
    · omega
    · obtain ⟨k, hk, hkb⟩ := inX b h
      exact hn _ (hβi k hk).2 hkb
  · rcases lv i b hi hbi with ⟨k, l1, l2, l3, l4⟩ | ⟨l1, l2, l3⟩
    · rcases (hbB k b l4).2 with h | h
      · exact .inr h
      · obtain ⟨k', hk', hkb⟩ := inX b h
        exact .inl ⟨_, (hβi k' hk').2, hkb⟩
    · exact .inl ⟨i, l2, l3⟩
  · rcases (hF' b hb).2 with h | h | h
    · exact .inl h
    · exact .inr (.inr h)
    · obtain ⟨k', hk', hkb⟩ := inX b h
      exact .inr (.inl ⟨_, (hβi k' hk').2, hkb⟩)
  · rcases hz id with ⟨k', h1, h2, h3⟩ | ⟨h1, h2⟩
    · rw [h3] at h
      split at h
      · rw [hg] at h
        have hu := hundr k'
        cases ho : outs.getD k' .none <;> rw [ho] at h hu <;> simp [renRow, underRow] at h hu
      · cases h
    · rw [h2] at h; exact h
end
end Go.Ev
