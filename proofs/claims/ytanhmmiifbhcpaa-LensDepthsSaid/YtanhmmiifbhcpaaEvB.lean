/- The operations on abstract values. A helper text: it speaks of no program. -/
import Derived.Test.YtanhmmiifbhcpaaEvA
set_option linter.unusedVariables false
set_option linter.unusedSimpArgs false
namespace Go.Ev

/-! ### Forcing: the same value, its constructors laid open -/
mutual
def fAV : AV → (AV → Prop) → Prop
  | .any, K => K .any
  | .tt, K => K .tt
  | .ff, K => K .ff
  | .bool b, K => K (.bool b)
  | .int k n, K => K (.int k n)
  | .str s, K => K (.str s)
  | .nilp, K => K .nilp
  | .nils, K => K .nils
  | .nilf, K => K .nilf
  | .agg l, K => fL l fun l => K (.agg l)
  | .tup l, K => fL l fun l => K (.tup l)
  | .sl sz d enc l, K => K (.sl sz d enc l)
  | .slc sz css, K => fLL css fun css => K (.slc sz css)
  | .pt cs off, K => fL cs fun cs => K (.pt cs off)
  | .ptr id sz i off, K => K (.ptr id sz i off)
  | .own id, K => K (.own id)
  | .fn f a b, K => fL a fun a => fL b fun b => K (.fn f a b)
def fL : List AV → (List AV → Prop) → Prop
  | [], K => K []
  | a :: l, K => fAV a fun a => fL l fun l => K (a :: l)
def fLL : List (List AV) → (List (List AV) → Prop) → Prop
  | [], K => K []
  | a :: l, K => fL a fun a => fLL l fun l => K (a :: l)
end
mutual
theorem fAV_eq : ∀ (x : AV) (K : AV → Prop), fAV x K = K x
  | .any, _ => rfl
  | .tt, _ => rfl
  | .ff, _ => rfl
  | .bool _, _ => rfl
  | .int _ _, _ => rfl
  | .str _, _ => rfl
  | .nilp, _ => rfl
  | .nils, _ => rfl
  | .nilf, _ => rfl
  | .agg l, K => by simp only [fAV]; exact fL_eq l _
  | .tup l, K => by simp only [fAV]; exact fL_eq l _
  | .sl _ _ _ _, _ => rfl
  | .slc _ css, K => by simp only [fAV]; exact fLL_eq css _
  | .pt cs _, K => by simp only [fAV]; exact fL_eq cs _
  | .ptr _ _ _ _, _ => rfl
  | .own _, _ => rfl
  | .fn f a b, K => by simp only [fAV]; rw [fL_eq a, fL_eq b]
theorem fL_eq : ∀ (l : List AV) (K : List AV → Prop), fL l K = K l
  | [], _ => rfl
  | a :: l, K => by simp only [fL]; rw [fAV_eq a, fL_eq l]
theorem fLL_eq : ∀ (l : List (List AV)) (K : List (List AV) → Prop), fLL l K = K l
  | [], _ => rfl
  | a :: l, K => by simp only [fLL]; rw [fL_eq a, fLL_eq l]
end
def fRow : Row → (Row → Prop) → Prop
  | .none, K => K .none
  | .cells ty cs, K => fL cs fun cs => K (.cells ty cs)
  | .lit ty sz css, K => fLL css fun css => K (.lit ty sz css)
  | .vec ty sz d enc l, K => K (.vec ty sz d enc l)
  | .ctr l xs k e, K => K (.ctr l xs k e)
def fRows : List Row → (List Row → Prop) → Prop
  | [], K => K []
  | a :: l, K => fRow a fun a => fRows l fun l => K (a :: l)
theorem fRow_eq (r : Row) (K : Row → Prop) : fRow r K = K r := by
  cases r <;> simp only [fRow] <;> first | rw [fL_eq] | rw [fLL_eq]
theorem fRows_eq : ∀ (l : List Row) (K : List Row → Prop), fRows l K = K l
  | [], _ => rfl
  | a :: l, K => by simp only [fRows]; rw [fRow_eq a, fRows_eq l]
def fMd : Md → (Md → Prop) → Prop
  | .plain, K => K .plain
  | .round ks, K => K (.round ks)
  | .iter, K => K .iter
theorem fMd_eq (n : Md) (K : Md → Prop) : fMd n K = K n := by cases n <;> rfl
def fSt (S : St) (K : St → Prop) : Prop :=
  match S with
  | ⟨St, Sh, Sn⟩ => fMd Sn fun n => fL St fun t => fRows Sh fun h => K ⟨t, h, n⟩
theorem fSt_eq (S : St) (K : St → Prop) : fSt S K = K S := by cases S; simp only [fSt]; rw [fMd_eq, fL_eq, fRows_eq]

/-! ### What a function's call gives -/
/-- A call of function 'f' with arguments that stand as 'args' hands back what stands as 'res', and turns nothing that was there. -/
def PC (P : Program) (f : FuncId) (args : List AV) (res : AV) : Prop :=
  ∀ (F : Nat → Prop) (w : World) (vs : Array Value), (∀ b, F b → b < w.heap.size) → vs.size = args.length → (∀ i, i < args.length → RepI F w (args.getD i .any) (vs.getD i undef)) →
    ((callFunc f vs).run P w = .ok (.enter f vs) w ∧
      Calls P f vs w fun e w' => ∃ v, e = .returned v ∧ RowKit.Below w.heap.size w w' ∧ RepI (fun b => F b ∨ w.heap.size ≤ b) w' res v) ∨
    ∃ v, (callFunc f vs).run P w = .ok (.value v) w ∧ RepI F w res v

/-! ### Shutting: rows read as memory that stays -/
def closeN : Nat → (Nat → Row) → AV → AV
  | 0, _, x => match x.closed with
    | true => x
    | false => .any
  | n + 1, r, x => match x with
    | .ptr id sz i off => match r id with
      | .cells _ cs => .pt (cs.map (closeN n r)) (i * sz + off)
      | _ => .any
    | .own id => match r id with
      | .vec _ sz d enc l => .sl sz d enc l
      | .lit _ sz css => .slc sz (css.map fun cs => cs.map (closeN n r))
      | _ => .any
    | .agg l => .agg (l.map (closeN n r))
    | .tup l => .tup (l.map (closeN n r))
    | .fn f a b => .fn f (a.map (closeN n r)) (b.map (closeN n r))
    | x => x
def idsN : Nat → (Nat → Row) → AV → List Nat
  | 0, _, _ => []
  | n + 1, r, x => match x with
    | .ptr id _ _ _ => id :: match r id with
      | .cells _ cs => cs.flatMap (idsN n r)
      | _ => []
    | .own id => id :: match r id with
      | .lit _ _ css => css.flatMap fun cs => cs.flatMap (idsN n r)
      | _ => []
    | .agg l => l.flatMap (idsN n r)
    | .tup l => l.flatMap (idsN n r)
    | .fn _ a b => a.flatMap (idsN n r) ++ b.flatMap (idsN n r)
    | _ => []

theorem getD_map_av (f : AV → AV) (hf : f .any = .any) (l : List AV) (i : Nat) : (l.map f).getD i .any = f (l.getD i .any) := by
  simp only [List.getD, List.getElem?_map]
  cases l[i]? <;> simp [hf]
theorem closeN_any : ∀ (n : Nat) (r : Nat → Row), closeN n r .any = .any
  | 0, _ => rfl
  | _ + 1, _ => rfl

/-- The blocks of the rows that live. -/
def liveB (S : St) (β : Nat → Option Hd) (b : Nat) : Prop := ∃ i, S.row i ≠ .none ∧ blk β i = some b

theorem cell_at {w : World} {b : Nat} {vs : Array Value} {ty : TypeId} {fz : Nat × Nat} (h : w.heap[b]? = some (.cells vs ty fz)) {i : Nat} (hi : i < vs.size) : w.cell? ⟨b, i, none⟩ = some (vs.getD i undef) := by
  simp [World.cell?, h, hi]

theorem mul_lt_aux {i j n sz : Nat} (hi : i < n) (hj : j < sz) : i * sz + j < n * sz := by
  have : (i + 1) * sz ≤ n * sz := Nat.mul_le_mul_right sz hi
  rw [Nat.add_mul] at this
  omega

theorem closeN_rep {P : Program} {B w0} {F0 : Env P} {S β F a w} (hR : Rel B w0 F0 S β F a w) : ∀ (n : Nat) {x : AV} {v : Value}, Rep β F w x v → RepI (fun b => F b ∨ liveB S β b) w (closeN n S.row x) v
  | 0, x, v, h => by
    simp only [closeN]
    cases hc : x.closed
    · exact .any _
    · exact (h.shut hc).mono (fun _ h => .inl h) (fun _ _ _ _ h => h)
  | n + 1, x, v, h => by
    cases h with
    | imm h =>
      have h' : RepI (fun b => F b ∨ liveB S β b) w x v := h.mono (fun _ h => .inl h) (fun _ _ _ _ h => h)
      cases h with
      | agg hl h =>
        refine .agg (by simpa using hl) fun i hi => ?_
        rw [getD_map_av _ (closeN_any _ _)]
        exact closeN_rep hR n (.imm (h i (by simpa using hi)))
      | tup hl h =>
        refine .tup (by simpa using hl) fun i hi => ?_
        rw [getD_map_av _ (closeN_any _ _)]
        exact closeN_rep hR n (.imm (h i (by simpa using hi)))
      | fn hl h hm k =>
        refine .fn (by simpa using hl) (fun i hi => ?_) (by simpa using hm) (fun i hi => ?_)
        · rw [getD_map_av _ (closeN_any _ _)]
          exact closeN_rep hR n (.imm (h i (by simpa using hi)))
        · rw [getD_map_av _ (closeN_any _ _)]
          exact closeN_rep hR n (.imm (k i (by simpa using hi)))
      | _ => exact h'
    | @ptr id sz i off b hd hb hh =>
      simp only [closeN]
      cases hr : S.row id with
      | cells ty cs =>
        have hrow := hR.rows id
        rw [hr] at hrow
        obtain ⟨hd', b', vs, e1, e2, e3, e4, e5⟩ := hrow
        rw [hb] at e1
        cases e1
        rw [hh] at e2
        cases e2
        have := RepI.pt (F := fun b => F b ∨ liveB S β b) (w := w) (cs := cs.map (closeN n S.row)) (off := i * sz + off) (b := b) (o := 0) (fun j => vs.getD j undef)
          (fun j hj => ⟨.inr ⟨id, by rw [hr]; simp, by simp [blk, hb, hh]⟩, by rw [Nat.zero_add]; exact cell_at e3 (by rw [e4]; simpa using hj)⟩)
          (fun j hj => by rw [getD_map_av _ (closeN_any _ _)]; exact closeN_rep hR n (e5 j (by simpa using hj)))
        simpa using this
      | _ => exact .any _
    | @own id hd hb =>
      simp only [closeN]
      cases hr : S.row id with
      | vec ty sz d enc l =>
        have hrow := hR.rows id
        rw [hr] at hrow
        obtain ⟨hd', e1, e2, e3⟩ := hrow
        rw [hb] at e1
        cases e1
        rcases e3 with ⟨rfl, e4, e5⟩ | ⟨b, vs, e4, e5, e6, e7, e8, e9⟩
        · simp only [List.length_nil] at e2
          rw [e2, e4, e5]; exact .slnil
        · rw [e2, e4]
          refine .sl (o := 0) (fun i j => vs.getD (i * sz + j) undef) e6 (fun i j hi hj => ⟨.inr ⟨id, by rw [hr]; simp, by simp [blk, hb, e4]⟩, ?_⟩)
            (fun i j hi hj => (e9 i j hi hj).mono (fun _ h => .inl h) (fun _ _ _ _ h => h))
          have := mul_lt_aux (Nat.lt_of_lt_of_le hi e6) hj
          rw [Nat.zero_add]
          exact cell_at e5 (by omega)
      | lit ty sz css =>
        have hrow := hR.rows id
        rw [hr] at hrow
        obtain ⟨hd', b, vs, e1, e2, e3, e4, e5, e6, e7, e8⟩ := hrow
        rw [hb] at e1
        cases e1
        rw [e4, e2, e5]
        have hg : ∀ i, (css.map fun cs => cs.map (closeN n S.row)).getD i [] = (css.getD i []).map (closeN n S.row) := by
          intro i; simp only [List.getD, List.getElem?_map]; cases css[i]? <;> simp
        have hlen : css.length = (css.map fun cs => cs.map (closeN n S.row)).length := by simp
        rw [hlen]
        refine .slc (o := 0) (fun i j => vs.getD (i * sz + j) undef) (Nat.le_refl _) (fun i j hi hj => ⟨.inr ⟨id, by rw [hr]; simp, by simp [blk, hb, e2]⟩, ?_⟩) (fun i j hi hj => ?_)
        · have := mul_lt_aux (by simpa using hi) hj
          rw [Nat.zero_add]
          exact cell_at e3 (by omega)
        · rw [hg, getD_map_av _ (closeN_any _ _)]
          exact closeN_rep hR n (e8 i j (by simpa using hi) hj)
      | _ => exact .any _
    | agg hl h =>
      refine .agg (by simpa using hl) fun i hi => ?_
      rw [getD_map_av _ (closeN_any _ _)]
      exact closeN_rep hR n (h i (by simpa using hi))
    | tup hl h =>
      refine .tup (by simpa using hl) fun i hi => ?_
      rw [getD_map_av _ (closeN_any _ _)]
      exact closeN_rep hR n (h i (by simpa using hi))
    | fn hl h hm k =>
      refine .fn (by simpa using hl) (fun i hi => ?_) (by simpa using hm) (fun i hi => ?_)
      · rw [getD_map_av _ (closeN_any _ _)]
        exact closeN_rep hR n (h i (by simpa using hi))
      · rw [getD_map_av _ (closeN_any _ _)]
        exact closeN_rep hR n (k i (by simpa using hi))

theorem closeN_local {r r' : Nat → Row} : ∀ (n : Nat) (x : AV), (∀ i, i ∈ idsN n r x → r' i = r i) → closeN n r' x = closeN n r x
  | 0, x, _ => rfl
  | n + 1, x, h => by
    have hl : ∀ l : List AV, (∀ i, i ∈ l.flatMap (idsN n r) → r' i = r i) → l.map (closeN n r') = l.map (closeN n r) := fun l hl =>
      List.map_congr_left fun y hy => closeN_local n y fun i hi => hl i (List.mem_flatMap.2 ⟨y, hy, hi⟩)
    cases x with
    | ptr id sz i off =>
      have e := h id (by simp [idsN])
      simp only [closeN, e]
      cases hr : r id with
      | cells ty cs =>
        have := hl cs fun i hi => h i (by simp only [idsN, hr]; exact List.mem_cons_of_mem _ hi)
        simp only [this]
      | _ => rfl
    | own id =>
      have e := h id (by simp [idsN])
      simp only [closeN, e]
      cases hr : r id with
      | lit ty sz css =>
        have : (css.map fun cs => cs.map (closeN n r')) = css.map fun cs => cs.map (closeN n r) := List.map_congr_left fun cs hcs =>
          hl cs fun i hi => h i (by simp only [idsN, hr]; exact List.mem_cons_of_mem _ (List.mem_flatMap.2 ⟨cs, hcs, hi⟩))
        simp only [this]
      | _ => rfl
    | agg l => simp only [closeN]; rw [hl l fun i hi => h i (by simpa only [idsN] using hi)]
    | tup l => simp only [closeN]; rw [hl l fun i hi => h i (by simpa only [idsN] using hi)]
    | fn f a b =>
      simp only [closeN]
      rw [hl a fun i hi => h i (by simp only [idsN]; exact List.mem_append_left _ hi), hl b fun i hi => h i (by simp only [idsN]; exact List.mem_append_right _ hi)]
    | _ => rfl

end Go.Ev
