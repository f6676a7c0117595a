/- All operations together; what they read; regions. A helper text: it speaks of no program. -/
import Derived.Test.YtanhmmiifbhcpaaEvL
set_option linter.unusedVariables false
set_option linter.unusedSimpArgs false
namespace Go.Ev
section
variable {P : Program} {B : Nat → Prop} {w0 : World} {F0 : Env P} {S : St} {β : Nat → Option Hd} {F : Nat → Prop} {a : Act} {w : World}

/-- The operations that make a row. -/
def allocs : Op → Bool
  | .alloc _ => true
  | .box .. => true
  | .buildSlice .. => true
  | .makeSlice .. => true
  | .call c => match c.callee with
    | .builtin .append => true
    | _ => false
  | _ => false

theorem move_snd (hR : Rel B w0 F0 S β F a w) {o : Oper} {x : Operand} (ho : o.op = .move x ∨ o.op = .assign x) {K : Out → List Nat → Prop} (h : K ⟨S.get x, []⟩ []) {Q : Exit → Act → World → Prop} :
    o.wp P a w (After B w0 F0 S β o.dst K) Q := by
  refine wp_val (v := a.eval x) (w' := w) ?_ (After.still hR (hR.get x) h)
  rcases ho with ho | ho <;> simp [execOp, ho]

theorem pick_snd (hR : Rel B w0 F0 S β F a w) {o : Oper} {c x y : Operand} (ho : o.op = .pick c x y) {K : Out → List Nat → Prop} (h : evOp P o.dst (.pick c x y) S.get S.row K) {Q : Exit → Act → World → Prop} :
    o.wp P a w (After B w0 F0 S β o.dst K) Q := by
  simp only [evOp] at h
  have hc := hR.get c
  split at h
  · rename_i hg
    rw [hg] at hc
    exact wp_val (v := a.eval x) (w' := w) (by simp [execOp, ho, hc.tt_inv, asBool]) (After.still hR (hR.get x) h)
  · rename_i hg
    rw [hg] at hc
    exact wp_val (v := a.eval y) (w' := w) (by simp [execOp, ho, hc.ff_inv, asBool]) (After.still hR (hR.get y) h)
  · rename_i b hg
    rw [hg] at hc
    cases b
    · exact wp_val (v := a.eval y) (w' := w) (by simp [execOp, ho, hc.bool_inv, asBool]) (After.still hR (hR.get y) (h.2 rfl))
    · exact wp_val (v := a.eval x) (w' := w) (by simp [execOp, ho, hc.bool_inv, asBool]) (After.still hR (hR.get x) (h.1 rfl))
  · exact h.elim

theorem evOp_snd (hR : Rel B w0 F0 S β F a w) {o : Oper} (hfree : allocs o.op = true → ∀ d, o.dst = some d → β d = none) {K : Out → List Nat → Prop} (h : evOp P o.dst o.op S.get S.row K) {Q : Exit → Act → World → Prop} :
    o.wp P a w (After B w0 F0 S β o.dst K) Q := by
  cases ho : o.op <;> rw [ho] at h hfree
  case move x => exact move_snd hR (.inl ho) h
  case assign x => exact move_snd hR (.inr ho) h
  case pick c x y => exact pick_snd hR ho h
  case alloc t => exact alloc_snd hR ho (hfree rfl) h
  case box t x => exact box_snd hR ho (hfree rfl) h
  case build t ps => exact build_snd hR ho h
  case buildSlice t n ps => exact buildSlice_snd hR ho (hfree rfl) h
  case load t x => exact load_snd hR ho h
  case store t x y => exact store_snd hR ho h
  case nilCheck x => exact nilCheck_snd hR ho h
  case index t x i => exact index_snd hR ho h
  case binOp op t x y yt =>
    obtain ⟨r, v, h1, h2, h3⟩ := evBin_rep (P := P) x y (hR.get x) (hR.get y) h
    exact wp_op (s := do eqGuard op t x y (a.eval x) (a.eval y); binOp op t (a.eval x) (a.eval y)) (by simp [execOp, ho]) h1 (After.still hR h2 h3)
  case unOp op t x =>
    simp only [evOp] at h
    obtain ⟨r, v, h1, h2, h3⟩ := evUn_rep (P := P) (hR.get x) h
    exact wp_op (s := Op.unary op (a.eval x)) (by simp [execOp, ho]) h1 (After.still hR h2 h3)
  case convert src t x => exact convert_snd hR ho h
  case makeFunc f xs ys => exact makeFunc_snd hR ho h
  case makeSlice t x y => exact makeSlice_snd hR ho (hfree rfl) h
  case slice t x lo hi mx => exact slice_snd hR ho h
  case fieldAddr s x f => exact fieldAddr_snd hR ho h
  case indexAddr t x i => exact indexAddr_snd hR ho h
  case extract x i => exact extract_snd hR ho h
  case call c =>
    cases hc : c.callee with
    | value f => exact call_snd hR ho hc h
    | invoke r m => simp [evOp, hc] at h
    | builtin b =>
      cases b
      case len => exact len_snd hR ho hc h
      case max => exact max_snd hR ho hc h
      case min => exact min_snd hR ho hc h
      case append => exact append_snd hR ho hc (hfree (by simp [allocs, hc])) h
      all_goals simp [evOp, hc] at h
  all_goals simp [evOp] at h

/-! ### An operation leans on its operands and on the rows that it reads, on nothing else -/
theorem evInt_local {op : BinOp} {lit : Bool} {k k' : IntKind} {x y : Int} {K : AV → Prop} (h : evInt op lit k x k' y K) : ∃ v, K v ∧ evInt op lit k x k' y (fun u => u = v) := by
  cases op
  case shl => obtain ⟨h1, h2⟩ := (obl_iff _ _ _).1 h; exact ⟨_, h2, (obl_iff _ _ _).2 ⟨h1, rfl⟩⟩
  case shr => obtain ⟨h1, h2⟩ := (obl_iff _ _ _).1 h; exact ⟨_, h2, (obl_iff _ _ _).2 ⟨h1, rfl⟩⟩
  all_goals
    simp only [evInt] at h ⊢
    by_cases hk : k = k'
    · simp only [hk, decide_true] at h ⊢
      first
        | (obtain ⟨h1, h2⟩ := (obl_iff _ _ _).1 h; exact ⟨_, h2, (obl_iff _ _ _).2 ⟨h1, rfl⟩⟩)
        | exact ⟨_, h, rfl⟩
    · simp [hk] at h

theorem eqPick_local {op : BinOp} {x y : AV} {K : AV → Prop} (h : eqPick op (K x) (K y)) : ∃ v, K v ∧ eqPick op (x = v) (y = v) := by
  cases op <;> first | exact h.elim | exact ⟨_, h, rfl⟩

theorem evBin_local {op : BinOp} {t : TypeId} {lit : Bool} {x y : AV} {K : AV → Prop} (h : evBin P op t lit x y K) : ∃ v, K v ∧ evBin P op t lit x y (fun u => u = v) := by
  unfold evBin at h ⊢
  repeat' split at h
  all_goals first
    | exact h.elim
    | exact evInt_local h
    | exact eqPick_local h
    | (obtain ⟨hok, h⟩ := h
       repeat' split at h
       all_goals first
         | exact h.elim
         | (obtain ⟨v, h1, h2⟩ := eqPick_local h
            exact ⟨v, h1, hok, by simp only [*]⟩))

theorem evUn_local {op : UnOp} {x : AV} {K : AV → Prop} (h : evUn op x K) : ∃ v, K v ∧ evUn op x (fun u => u = v) := by
  unfold evUn at h ⊢
  split at h
  all_goals first
    | exact h.elim
    | exact ⟨_, h, rfl⟩

/-- The operands that an operation looks at. -/
def sees (op : Op) : List Operand := op.operands.toList

theorem IsSl_local {r r' : Nat → Row} {x : AV} {D : SlD} (h : IsSl r x D) (hr : ∀ i ∈ ownId x, r' i = r i) : IsSl r' x D := by
  cases x <;> simp only [IsSl] at h ⊢ <;> first | exact h | (rw [hr _ (by simp [ownId])]; exact h)

theorem baseOk_local {r r' : Nat → Row} {e : TypeId} {x : AV} (h : baseOk r e x = true) (hr : ∀ i ∈ ownId x, r' i = r i) : baseOk r' e x = true := by
  cases x <;> simp only [baseOk] at h ⊢ <;> first | exact h | (rw [hr _ (by simp [ownId])]; exact h)

theorem evOp_local {dst : Option Nat} {op : Op} {g : Operand → AV} {r : Nat → Row} {K : Out → List Nat → Prop} (h : evOp P dst op g r K) :
    ∃ out rd, K out rd ∧ ∀ g' r', (∀ x ∈ sees op, g' x = g x) → (∀ i ∈ rd, r' i = r i) → evOp P dst op g' r' (fun o d => o = out ∧ d = rd) := by
  cases op
  case move x => exact ⟨_, _, h, fun g' r' hg hr => by simp only [evOp]; rw [hg x (by simp [sees, Op.operands])]; exact ⟨rfl, trivial⟩⟩
  case assign x => exact ⟨_, _, h, fun g' r' hg hr => by simp only [evOp]; rw [hg x (by simp [sees, Op.operands])]; exact ⟨rfl, trivial⟩⟩
  case pick c x y =>
    simp only [evOp] at h
    have e : ∀ g' : Operand → AV, (∀ z ∈ sees (.pick c x y), g' z = g z) → g' c = g c ∧ g' x = g x ∧ g' y = g y := fun g' hg => ⟨hg _ (by simp [sees, Op.operands]), hg _ (by simp [sees, Op.operands]), hg _ (by simp [sees, Op.operands])⟩
    split at h
    · rename_i hc
      exact ⟨_, _, h, fun g' r' hg hr => by obtain ⟨e1, e2, e3⟩ := e g' hg; simp [evOp, e1, e2, hc]⟩
    · rename_i hc
      exact ⟨_, _, h, fun g' r' hg hr => by obtain ⟨e1, e2, e3⟩ := e g' hg; simp [evOp, e1, e3, hc]⟩
    · rename_i b hc
      cases b
      · exact ⟨_, _, h.2 rfl, fun g' r' hg hr => by obtain ⟨e1, e2, e3⟩ := e g' hg; simp [evOp, e1, e3, hc]⟩
      · exact ⟨_, _, h.1 rfl, fun g' r' hg hr => by obtain ⟨e1, e2, e3⟩ := e g' hg; simp [evOp, e1, e2, hc]⟩
    · exact h.elim
  case alloc t =>
    simp only [evOp] at h
    split at h
    · rename_i d cs hz
      exact ⟨_, _, h, fun g' r' hg hr => by simp only [evOp, hz]; exact ⟨trivial, trivial⟩⟩
    · exact h.elim
  case box t x =>
    simp only [evOp] at h
    split at h
    · rename_i d cs hz
      exact ⟨_, _, h, fun g' r' hg hr => by simp only [evOp]; rw [hg x (by simp [sees, Op.operands]), hz]; exact ⟨rfl, trivial⟩⟩
    · exact h.elim
  case build t ps =>
    have e : ∀ g' : Operand → AV, (∀ z ∈ sees (.build t ps), g' z = g z) → (ps.toList.map fun p => (p.1, g' p.2)) = ps.toList.map fun p => (p.1, g p.2) := fun g' hg =>
      List.map_congr_left fun p hp => by rw [hg p.2 (by simp only [sees, Op.operands]; exact List.mem_map.2 ⟨p, hp, rfl⟩)]
    simp only [evOp] at h
    repeat' split at h
    all_goals first
      | exact h.elim
      | exact ⟨_, _, h, fun g' r' hg hr => by simp only [evOp, e g' hg, *]; exact ⟨trivial, trivial⟩⟩
  case buildSlice t n ps =>
    have e : ∀ g' : Operand → AV, (∀ z ∈ sees (.buildSlice t n ps), g' z = g z) → (ps.toList.map fun p => (p.1, g' p.2)) = ps.toList.map fun p => (p.1, g p.2) := fun g' hg =>
      List.map_congr_left fun p hp => by rw [hg p.2 (by simp only [sees, Op.operands]; exact List.mem_map.2 ⟨p, hp, rfl⟩)]
    simp only [evOp] at h
    repeat' split at h
    all_goals first
      | exact h.elim
      | exact ⟨_, _, h, fun g' r' hg hr => by simp only [evOp, e g' hg, *]; exact ⟨trivial, trivial⟩⟩
  case load t x =>
    have e : ∀ g' : Operand → AV, (∀ z ∈ sees (.load t x), g' z = g z) → g' x = g x := fun g' hg => hg _ (by simp [sees, Op.operands])
    simp only [evOp] at h
    repeat' split at h
    all_goals first
      | exact h.elim
      | exact ⟨_, _, h, fun g' r' hg hr => by simp only [evOp, e g' hg, *]; exact ⟨trivial, trivial⟩⟩
      | exact ⟨_, _, h, fun g' r' hg hr => by simp only [evOp, e g' hg, hr _ (List.mem_singleton.2 rfl), *]; exact ⟨trivial, trivial⟩⟩
      | exact ⟨_, _, h.2, fun g' r' hg hr => by simp only [evOp, e g' hg, hr _ (List.mem_singleton.2 rfl), *]; exact ⟨trivial, trivial, trivial⟩⟩
  case store t x y =>
    have e : ∀ g' : Operand → AV, (∀ z ∈ sees (.store t x y), g' z = g z) → g' x = g x ∧ g' y = g y := fun g' hg => ⟨hg _ (by simp [sees, Op.operands]), hg _ (by simp [sees, Op.operands])⟩
    simp only [evOp] at h
    repeat' split at h
    all_goals first
      | exact h.elim
      | exact ⟨_, _, h, fun g' r' hg hr => by simp only [evOp, (e g' hg).1, (e g' hg).2, hr _ (List.mem_singleton.2 rfl), *]; exact ⟨trivial, trivial⟩⟩
      | (obtain ⟨z, h1, h2, h3⟩ := h
         exact ⟨_, _, h3, fun g' r' hg hr => by simp only [evOp, (e g' hg).1, (e g' hg).2, hr _ (List.mem_singleton.2 rfl), *]; exact ⟨z, h1, trivial, rfl, trivial⟩⟩)
  case nilCheck x =>
    have e : ∀ g' : Operand → AV, (∀ z ∈ sees (.nilCheck x), g' z = g z) → g' x = g x := fun g' hg => hg _ (by simp [sees, Op.operands])
    simp only [evOp] at h
    repeat' split at h
    all_goals first
      | exact h.elim
      | exact ⟨_, _, h, fun g' r' hg hr => by simp only [evOp, e g' hg, *]; exact ⟨trivial, trivial⟩⟩
  case binOp op t x y yt =>
    have e : ∀ g' : Operand → AV, (∀ z ∈ sees (.binOp op t x y yt), g' z = g z) → g' x = g x ∧ g' y = g y := fun g' hg => ⟨hg _ (by simp [sees, Op.operands]), hg _ (by simp [sees, Op.operands])⟩
    obtain ⟨v, h1, h2⟩ := evBin_local h
    refine ⟨_, _, h1, fun g' r' hg hr => ?_⟩
    simp only [evOp, (e g' hg).1, (e g' hg).2]
    simpa using h2
  case unOp op t x =>
    have e : ∀ g' : Operand → AV, (∀ z ∈ sees (.unOp op t x), g' z = g z) → g' x = g x := fun g' hg => hg _ (by simp [sees, Op.operands])
    simp only [evOp] at h
    obtain ⟨v, h1, h2⟩ := evUn_local h
    refine ⟨_, _, h1, fun g' r' hg hr => ?_⟩
    simp only [evOp, e g' hg]
    simpa using h2
  case convert src t x =>
    have e : ∀ g' : Operand → AV, (∀ z ∈ sees (.convert src t x), g' z = g z) → g' x = g x := fun g' hg => hg _ (by simp [sees, Op.operands])
    simp only [evOp] at h
    repeat' split at h
    all_goals first
      | exact h.elim
      | exact ⟨_, _, h, fun g' r' hg hr => by simp only [evOp, e g' hg, *]; exact ⟨trivial, trivial⟩⟩
  case makeFunc f xs ys =>
    have e1 : ∀ g' : Operand → AV, (∀ z ∈ sees (.makeFunc f xs ys), g' z = g z) → xs.toList.map g' = xs.toList.map g := fun g' hg => List.map_congr_left fun p hp => hg p (by simp only [sees, Op.operands, Array.toList_append]; exact List.mem_append_left _ hp)
    have e2 : ∀ g' : Operand → AV, (∀ z ∈ sees (.makeFunc f xs ys), g' z = g z) → ys.toList.map g' = ys.toList.map g := fun g' hg => List.map_congr_left fun p hp => hg p (by simp only [sees, Op.operands, Array.toList_append]; exact List.mem_append_right _ hp)
    exact ⟨_, _, h, fun g' r' hg hr => by simp only [evOp, e1 g' hg, e2 g' hg]; exact ⟨trivial, trivial⟩⟩
  case makeSlice t x y =>
    have e : ∀ g' : Operand → AV, (∀ z ∈ sees (.makeSlice t x y), g' z = g z) → g' x = g x ∧ g' y = g y := fun g' hg => ⟨hg _ (by simp [sees, Op.operands]), hg _ (by simp [sees, Op.operands])⟩
    simp only [evOp] at h
    repeat' split at h
    all_goals first
      | exact h.elim
      | (obtain ⟨α, z, enc, h1, h2, h3, h4, h5, h6⟩ := h
         subst h2
         exact ⟨_, _, h6, fun g' r' hg hr => by simp only [evOp, (e g' hg).1, (e g' hg).2, *]; exact ⟨α, z, enc, h1, trivial, trivial, trivial, trivial, rfl, trivial⟩⟩)
  case slice t x lo hi mx =>
    have e : ∀ g' : Operand → AV, (∀ z ∈ sees (.slice t x lo hi mx), g' z = g z) → g' x = g x ∧ (∀ l : AV, bnd g' lo l = bnd g lo l) ∧ ∀ l : AV, bnd g' hi l = bnd g hi l := fun g' hg => by
      refine ⟨hg _ (by simp [sees, Op.operands]), fun l => ?_, fun l => ?_⟩
      · cases lo with
        | none => rfl
        | some y => exact hg y (by simp [sees, Op.operands])
      · cases hi with
        | none => rfl
        | some y => exact hg y (by simp [sees, Op.operands])
    obtain rfl : mx = none := by
      cases mx with
      | none => rfl
      | some m => simp [evOp] at h
    simp only [evOp] at h
    split at h
    case h_2 => exact h.elim
    rename_i e' hu
    split at h
    case h_2 => exact h.elim
    rename_i inf hi'
    split at h
    case h_2 => exact h.elim
    rename_i α sz d enc l hgx
    split at h
    case h_2 => exact h.elim
    rename_i hsz
    split at h
    case h_2 => exact h.elim
    rename_i ka p kb q hlo hhi
    obtain ⟨h1, hK⟩ := (obl_iff _ _ _).1 h
    refine ⟨_, _, hK, fun g' r' hg hr => ?_⟩
    obtain ⟨e1, e2, e3⟩ := e g' hg
    simp only [evOp, hu, hi', e1, hgx, hsz, e2, e3, hlo, hhi]
    exact (obl_iff _ _ _).2 ⟨h1, by simp⟩
  case fieldAddr s x f =>
    have e : ∀ g' : Operand → AV, (∀ z ∈ sees (.fieldAddr s x f), g' z = g z) → g' x = g x := fun g' hg => hg _ (by simp [sees, Op.operands])
    simp only [evOp] at h
    repeat' split at h
    all_goals first
      | exact h.elim
      | exact ⟨_, _, h, fun g' r' hg hr => by simp only [evOp, e g' hg, *]; exact ⟨trivial, trivial⟩⟩
  case extract x i =>
    have e : ∀ g' : Operand → AV, (∀ z ∈ sees (.extract x i), g' z = g z) → g' x = g x := fun g' hg => hg _ (by simp [sees, Op.operands])
    simp only [evOp] at h
    repeat' split at h
    all_goals first
      | exact h.elim
      | exact ⟨_, _, h, fun g' r' hg hr => by simp only [evOp, e g' hg, *]; exact ⟨trivial, trivial⟩⟩
  case index t x i =>
    have e : ∀ g' : Operand → AV, (∀ z ∈ sees (.index t x i), g' z = g z) → g' x = g x ∧ g' i = g i := fun g' hg => ⟨hg _ (by simp [sees, Op.operands]), hg _ (by simp [sees, Op.operands])⟩
    simp only [evOp] at h
    split at h
    case h_2 => exact h.elim
    rename_i k n hn
    split at h
    case h_2 => exact h.elim
    rename_i s hgx
    split at h
    case h_2 => exact h.elim
    rename_i hu
    obtain ⟨h1, h2⟩ := (obl_iff _ _ _).1 h
    refine ⟨_, _, h2, fun g' r' hg hr => ?_⟩
    simp only [evOp, (e g' hg).1, (e g' hg).2, hn, hu, hgx]
    exact (obl_iff _ _ _).2 ⟨h1, by simp⟩
  case indexAddr t x i =>
    have e : ∀ g' : Operand → AV, (∀ z ∈ sees (.indexAddr t x i), g' z = g z) → g' x = g x ∧ g' i = g i := fun g' hg => ⟨hg _ (by simp [sees, Op.operands]), hg _ (by simp [sees, Op.operands])⟩
    simp only [evOp] at h
    split at h
    case h_2 => exact h.elim
    rename_i k n hn
    split at h
    · rename_i e' hu
      split at h
      case h_2 => exact h.elim
      rename_i inf hi
      split at h
      · rename_i hgx
        split at h
        case h_2 => exact h.elim
        rename_i hsz
        obtain ⟨h1, h2⟩ := (obl_iff _ _ _).1 h
        split at h2
        case h_2 => exact h2.elim
        rename_i hlen
        refine ⟨_, _, h2, fun g' r' hg hr => ?_⟩
        simp only [evOp, (e g' hg).1, (e g' hg).2, hn, hu, hi, hgx, hsz, hlen]
        exact (obl_iff _ _ _).2 ⟨h1, by simp⟩
      · rename_i hgx
        split at h
        case h_2 => exact h.elim
        rename_i hsz
        obtain ⟨h1, h2⟩ := (obl_iff _ _ _).1 h
        split at h2
        case h_2 => exact h2.elim
        rename_i hlen
        refine ⟨_, _, h2, fun g' r' hg hr => ?_⟩
        simp only [evOp, (e g' hg).1, (e g' hg).2, hn, hu, hi, hgx, hsz, hlen]
        exact (obl_iff _ _ _).2 ⟨h1, by simp⟩
      · rename_i id hgx
        split at h
        case h_2 => exact h.elim
        rename_i hr0
        split at h
        case h_2 => exact h.elim
        rename_i hsz
        obtain ⟨h1, h2⟩ := (obl_iff _ _ _).1 h
        refine ⟨_, _, h2, fun g' r' hg hr => ?_⟩
        simp only [evOp, (e g' hg).1, (e g' hg).2, hn, hu, hi, hgx, hr id (List.mem_singleton.2 rfl), hr0, hsz]
        exact (obl_iff _ _ _).2 ⟨h1, by simp⟩
      · exact h.elim
    · rename_i len e' hu
      split at h
      case h_2 => exact h.elim
      rename_i inf hi
      obtain ⟨h1, h2⟩ := (obl_iff _ _ _).1 h
      split at h2
      case h_3 => exact h2.elim
      all_goals
        rename_i hgx
        refine ⟨_, _, h2, fun g' r' hg hr => ?_⟩
        simp only [evOp, (e g' hg).1, (e g' hg).2, hn, hu, hi, hgx]
        exact (obl_iff _ _ _).2 ⟨h1, by simp⟩
    · exact h.elim
  case call c =>
    have eargs : ∀ g' : Operand → AV, (∀ z ∈ sees (.call c), g' z = g z) → ∀ x ∈ c.args.toList, g' x = g x := fun g' hg x hx => hg x (by simp only [sees, Op.operands, Call.operands, Array.toList_append]; exact List.mem_append_right _ hx)
    have emap : ∀ g' : Operand → AV, (∀ z ∈ sees (.call c), g' z = g z) → c.args.toList.map g' = c.args.toList.map g := fun g' hg => List.map_congr_left (eargs g' hg)
    cases hc : c.callee with
    | invoke r m => simp [evOp, hc] at h
    | value f =>
      have ef : ∀ g' : Operand → AV, (∀ z ∈ sees (.call c), g' z = g z) → g' f = g f := fun g' hg => hg f (by simp [sees, Op.operands, Call.operands, hc])
      simp only [evOp, hc] at h
      split at h
      case h_2 => exact h.elim
      rename_i fid first caps hgf
      split at h
      · rename_i hcl
        rw [fL_eq] at h
        obtain ⟨v, h1, h2⟩ := h
        refine ⟨_, _, h2, fun g' r' hg hr => ?_⟩
        simp only [evOp, hc, ef g' hg, hgf, emap g' hg, hcl]
        rw [fL_eq]
        exact ⟨v, h1, by simp⟩
      · rename_i hcl
        rw [fL_eq] at h
        obtain ⟨v, h1, h2⟩ := h
        split at h2
        case h_2 => exact h2.elim
        rename_i hfl
        refine ⟨_, _, h2, fun g' r' hg hr => ?_⟩
        simp only [evOp, hc, ef g' hg, hgf, emap g' hg, hcl]
        rw [fL_eq]
        have : (first ++ c.args.toList.map g ++ caps).map (closeN 4 r') = (first ++ c.args.toList.map g ++ caps).map (closeN 4 r) := List.map_congr_left fun x hx => closeN_local 4 x fun i hi => hr i (List.mem_flatMap.2 ⟨x, hx, hi⟩)
        have hids : (first ++ c.args.toList.map g ++ caps).flatMap (idsN 4 r') = (first ++ c.args.toList.map g ++ caps).flatMap (idsN 4 r) := by
          have key : ∀ n (x : AV), (∀ i ∈ idsN n r x, r' i = r i) → idsN n r' x = idsN n r x := by
            intro n
            induction n with
            | zero => intro x _; rfl
            | succ n ih =>
              intro x hx
              have hl : ∀ l : List AV, (∀ i ∈ l.flatMap (idsN n r), r' i = r i) → l.flatMap (idsN n r') = l.flatMap (idsN n r) := fun l hl => by
                induction l with
                | nil => rfl
                | cons y l ihl =>
                  simp only [List.flatMap_cons]
                  rw [ih y fun i hi => hl i (by simp only [List.flatMap_cons]; exact List.mem_append_left _ hi), ihl fun i hi => hl i (by simp only [List.flatMap_cons]; exact List.mem_append_right _ hi)]
              have hll : ∀ l : List (List AV), (∀ i ∈ l.flatMap (fun cs => cs.flatMap (idsN n r)), r' i = r i) → l.flatMap (fun cs => cs.flatMap (idsN n r')) = l.flatMap (fun cs => cs.flatMap (idsN n r)) := fun l h2 => by
                induction l with
                | nil => rfl
                | cons y l ihl =>
                  simp only [List.flatMap_cons]
                  rw [hl y fun i hi => h2 i (by simp only [List.flatMap_cons]; exact List.mem_append_left _ hi), ihl fun i hi => h2 i (by simp only [List.flatMap_cons]; exact List.mem_append_right _ hi)]
              cases x with
              | ptr id sz i off =>
                have e := hx id (by simp [idsN])
                simp only [idsN, e]
                cases hr : r id with
                | cells ty cs => simp only [hl cs fun i hi => hx i (by simp only [idsN, hr]; exact List.mem_cons_of_mem _ hi)]
                | _ => rfl
              | own id =>
                have e := hx id (by simp [idsN])
                simp only [idsN, e]
                cases hr : r id with
                | lit ty sz css => simp only [hll css fun i hi => hx i (by simp only [idsN, hr]; exact List.mem_cons_of_mem _ hi)]
                | _ => rfl
              | agg l => simp only [idsN]; exact hl l fun i hi => hx i (by simpa only [idsN] using hi)
              | tup l => simp only [idsN]; exact hl l fun i hi => hx i (by simpa only [idsN] using hi)
              | fn f a b =>
                simp only [idsN]
                rw [hl a fun i hi => hx i (by simp only [idsN]; exact List.mem_append_left _ hi), hl b fun i hi => hx i (by simp only [idsN]; exact List.mem_append_right _ hi)]
              | _ => rfl
          generalize first ++ c.args.toList.map g ++ caps = A at hr
          induction A with
          | nil => rfl
          | cons x A ih =>
            simp only [List.flatMap_cons] at hr ⊢
            rw [key 4 x fun i hi => hr i (List.mem_append_left _ hi), ih fun i hi => hr i (List.mem_append_right _ hi)]
        rw [this]
        refine ⟨v, h1, ?_⟩
        simp only [hfl, hids]
        exact ⟨trivial, trivial⟩
    | builtin b =>
      cases b
      case len =>
        simp only [evOp, hc] at h
        split at h
        case h_2 => exact h.elim
        rename_i x t hx ht
        have ex : ∀ g' : Operand → AV, (∀ z ∈ sees (.call c), g' z = g z) → g' x = g x := fun g' hg => eargs g' hg x (by rw [hx]; simp)
        repeat' split at h
        all_goals first
          | exact h.elim
          | exact ⟨_, _, h, fun g' r' hg hr => by simp only [evOp, hc, ex g' hg, *]; exact ⟨trivial, trivial⟩⟩
          | exact ⟨_, _, h, fun g' r' hg hr => by simp only [evOp, hc, ex g' hg, hr _ (List.mem_singleton.2 rfl), *]; exact ⟨trivial, trivial⟩⟩
      case max =>
        simp only [evOp, hc] at h
        split at h
        case h_2 => exact h.elim
        rename_i x y hx
        have ex : ∀ g' : Operand → AV, (∀ z ∈ sees (.call c), g' z = g z) → g' x = g x ∧ g' y = g y := fun g' hg => ⟨eargs g' hg x (by rw [hx]; simp), eargs g' hg y (by rw [hx]; simp)⟩
        split at h
        · exact ⟨_, _, h, fun g' r' hg hr => by simp only [evOp, hc, (ex g' hg).1, (ex g' hg).2, *]; exact ⟨trivial, trivial⟩⟩
        · exact h.elim
      case min =>
        simp only [evOp, hc] at h
        split at h
        case h_2 => exact h.elim
        rename_i x y hx
        have ex : ∀ g' : Operand → AV, (∀ z ∈ sees (.call c), g' z = g z) → g' x = g x ∧ g' y = g y := fun g' hg => ⟨eargs g' hg x (by rw [hx]; simp), eargs g' hg y (by rw [hx]; simp)⟩
        split at h
        · exact ⟨_, _, h, fun g' r' hg hr => by simp only [evOp, hc, (ex g' hg).1, (ex g' hg).2, *]; exact ⟨trivial, trivial⟩⟩
        · exact h.elim
      case append =>
        simp only [evOp, hc] at h
        split at h
        case h_2 => exact h.elim
        rename_i x y t t' hx ht
        have ex : ∀ g' : Operand → AV, (∀ z ∈ sees (.call c), g' z = g z) → g' x = g x ∧ g' y = g y := fun g' hg => ⟨eargs g' hg x (by rw [hx]; simp), eargs g' hg y (by rw [hx]; simp)⟩
        split at h
        case h_2 => exact h.elim
        rename_i dd e hd hu ht'
        split at h
        case h_2 => exact h.elim
        rename_i inf z hi hz
        split at h
        case h_2 => exact h.elim
        rename_i hzs
        split at h
        case h_2 => exact h.elim
        rename_i hpos
        split at h
        case h_2 => exact h.elim
        rename_i hbase
        obtain ⟨D, l', h1, h2, h3, h4, h5, h6, h7⟩ := h
        refine ⟨_, _, h7, fun g' r' hg hr => ?_⟩
        have hb' := baseOk_local hbase fun i hi => hr i (List.mem_append_left _ hi)
        have h2' := IsSl_local h2 fun i hi => hr i (List.mem_append_left _ hi)
        have h3' := IsSl_local h3 fun i hi => hr i (List.mem_append_right _ hi)
        simp only [evOp, hc, (ex g' hg).1, (ex g' hg).2, hx, ht, hu, ht', hi, hz, hzs, hpos, hb']
        exact ⟨D, l', h1, h2', h3', h4, h5, h6, by simp⟩
      all_goals simp [evOp, hc] at h
  all_goals simp [evOp] at h

end
end Go.Ev
