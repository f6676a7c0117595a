/- Many slots given up at once. A helper text: it speaks of no program. -/
import Derived.Test.YtpcipgblegdeeaaEvFive
set_option linter.unusedVariables false
set_option linter.unusedSimpArgs false
namespace Go.Ev
def namesAny (x : AV) : List Nat → Bool
  | [] => false
  | d :: l => match x.names d with
    | true => true
    | false => namesAny x l
/-- What may name a slot. -/
def AV.plain1 : AV → Bool
  | .ptr _ _ _ _ => false
  | .own _ => false
  | .agg _ => false
  | .tup _ => false
  | .fn _ _ _ => false
  | _ => true
def killsAV (ds : List Nat) (x : AV) : AV := match x.plain1 with
  | true => x
  | false => match namesAny x ds with
    | true => .any
    | false => x
theorem plain1_names {x : AV} (h : x.plain1 = true) (d : Nat) : x.names d = false := by
  cases x <;> simp [AV.plain1] at h <;> rfl
theorem plain1_any {x : AV} (h : x.plain1 = true) : ∀ ds, namesAny x ds = false
  | [] => rfl
  | d :: l => by simp only [namesAny]; rw [plain1_names h d]; exact plain1_any h l
theorem killsAV_eq (ds : List Nat) (x : AV) : killsAV ds x = match namesAny x ds with
    | true => .any
    | false => x := by
  unfold killsAV
  cases h : x.plain1 with
  | false => rfl
  | true => rw [plain1_any h ds]
theorem killsAV_any (ds : List Nat) : killsAV ds .any = .any := rfl
theorem killsAV_cons (d : Nat) (l : List Nat) (x : AV) : killsAV l (killAV d x) = killsAV (d :: l) x := by
  rw [killsAV_eq (d :: l) x]
  unfold killAV
  simp only [namesAny]
  cases h : x.names d with
  | true => exact killsAV_any l
  | false => exact killsAV_eq l x
def killsRow (ds : List Nat) : Row → Row
  | .none => .none
  | .cells ty cs => .cells ty (cs.map (killsAV ds))
  | .lit ty sz css => .lit ty sz (css.map fun cs => cs.map (killsAV ds))
  | .vec ty sz e enc l => .vec ty sz e enc l
  | .ctr l xs k e => .ctr l xs k e
theorem killsRow_cons (d : Nat) (l : List Nat) (r : Row) : killsRow l (killRow d r) = killsRow (d :: l) r := by
  cases r <;> simp only [killsRow, killRow, List.map_map, Row.cells.injEq, Row.lit.injEq, true_and]
  · refine List.map_congr_left fun x _ => ?_
    exact killsAV_cons d l x
  · refine List.map_congr_left fun x _ => ?_
    simp only [Function.comp, List.map_map]
    refine List.map_congr_left fun y _ => ?_
    exact killsAV_cons d l y
def noneAt : List Nat → List Row → List Row
  | [], h => h
  | d :: l, h => noneAt l (h.set d .none)
theorem noneAt_map (f : Row → Row) (hf : f .none = .none) : ∀ (l : List Nat) (h : List Row), (noneAt l h).map f = noneAt l (h.map f)
  | [], _ => rfl
  | d :: l, h => by
    simp only [noneAt]
    rw [noneAt_map f hf l, List.map_set, hf]
theorem set_set_comm {h : List Row} (d e : Nat) : (h.set d .none).set e .none = (h.set e .none).set d .none := by
  by_cases he : d = e
  · rw [he]
  · exact List.set_comm _ _ he
theorem noneAt_set : ∀ (l : List Nat) (h : List Row) (d : Nat), noneAt l (h.set d .none) = (noneAt l h).set d .none
  | [], _, _ => rfl
  | e :: l, h, d => by
    simp only [noneAt]
    rw [set_set_comm, noneAt_set l]
theorem killsAV_nil (x : AV) : killsAV [] x = x := by
  rw [killsAV_eq]
  rfl
theorem killsRow_nil (r : Row) : killsRow [] r = r := by
  have e : killsAV [] = id := funext killsAV_nil
  cases r <;> simp [killsRow, e]
theorem kills_eq : ∀ (l : List Nat) (S : St), S.kills l = ⟨S.t.map (killsAV l), noneAt l (S.h.map (killsRow l)), S.n⟩
  | [], S => by
    have e : killsAV [] = id := funext killsAV_nil
    have e2 : killsRow [] = id := funext killsRow_nil
    simp only [St.kills, noneAt]
    rw [e, e2, List.map_id, List.map_id]
  | d :: l, S => by
    simp only [St.kills]
    rw [kills_eq l]
    simp only [St.kill, List.map_map]
    have e : killsAV l ∘ killAV d = killsAV (d :: l) := funext fun x => killsAV_cons d l x
    have e2 : killsRow l ∘ killRow d = killsRow (d :: l) := funext fun x => killsRow_cons d l x
    rw [e, List.map_set, List.map_map, e2]
    rfl
def memB (i : Nat) : List Nat → Bool
  | [] => false
  | d :: l => match Nat.beq d i with
    | true => true
    | false => memB i l
def killRowAt (ds : List Nat) (i : Nat) : Row → Row
  | .none => .none
  | .cells ty cs => match memB i ds with
    | true => .none
    | false => .cells ty (cs.map (killsAV ds))
  | r => match memB i ds with
    | true => .none
    | false => killsRow ds r
def rowsW (ds : List Nat) : Nat → List Row → List Row
  | _, [] => []
  | i, r :: h => killRowAt ds i r :: rowsW ds (i + 1) h
theorem killRowAt_eq (ds : List Nat) (i : Nat) (r : Row) : killRowAt ds i r = if memB i ds = true then .none else killsRow ds r := by
  cases r <;> simp only [killRowAt, killsRow] <;> cases memB i ds <;> simp
theorem memB_cons (i d : Nat) (l : List Nat) : memB i (d :: l) = (Nat.beq d i || memB i l) := by
  simp only [memB]
  cases Nat.beq d i <;> rfl
theorem noneAt_get : ∀ (l : List Nat) (h : List Row) (j : Nat), (noneAt l h)[j]? = (h[j]?).map fun r => if memB j l = true then .none else r
  | [], h, j => by simp [noneAt, memB]
  | d :: l, h, j => by
    simp only [noneAt]
    rw [noneAt_get l, List.getElem?_set]
    by_cases e : d = j
    · subst e
      by_cases hl : d < h.length
      · have hb : memB d (d :: l) = true := by rw [memB_cons]; simp
        simp [hl, hb]
      · simp [hl]
    · have hb : memB j (d :: l) = memB j l := by
        rw [memB_cons]
        have : Nat.beq d j = false := by
          cases hx : Nat.beq d j with
          | false => rfl
          | true => exact absurd (Nat.eq_of_beq_eq_true hx) e
        rw [this]; rfl
      rw [hb, if_neg e]
theorem rowsW_get (ds : List Nat) : ∀ (h : List Row) (i j : Nat), (rowsW ds i h)[j]? = (h[j]?).map (killRowAt ds (i + j))
  | [], i, j => by simp [rowsW]
  | r :: h, i, 0 => by simp [rowsW]
  | r :: h, i, j + 1 => by
    simp only [rowsW, List.getElem?_cons_succ]
    rw [rowsW_get ds h, show i + 1 + j = i + (j + 1) by omega]
theorem rowsW_eq (l : List Nat) (h : List Row) : noneAt l (h.map (killsRow l)) = rowsW l 0 h := by
  refine List.ext_getElem? fun j => ?_
  rw [noneAt_get, rowsW_get, List.getElem?_map]
  cases h[j]? with
  | none => rfl
  | some r => simp only [Option.map_some, Nat.zero_add]; rw [killRowAt_eq]
theorem fSk_mp {l : List Nat} {S : St} {K : St → Prop} (h : fSt S fun S => fSt ⟨S.t.map (killsAV l), rowsW l 0 S.h, S.n⟩ K) : fSt (S.kills l) K := by
  rw [fSt_eq, fSt_eq] at h
  rw [fSt_eq, kills_eq, rowsW_eq]
  exact h
theorem round_mp {xs : List (List AV)} {I : Nat → Prop} {A : Nat → St} {ds : List Nat} {K : Nat → List AV → St → Prop} {m : Nat} {f : Nat → List AV} (hx : ∀ k x, xs[k]? = some x → k < m ∧ x = f k)
    (h : ∀ k, k < m → I k → fSt (A k) fun S => fSt ⟨S.t.map (killsAV ds), rowsW ds 0 S.h, S.n⟩ (K k (f k))) : ∀ k x, I k → xs[k]? = some x → fSt ((A k).kills ds) (K k x) := by
  intro k x hk hxk
  obtain ⟨h1, rfl⟩ := hx k x hxk
  exact fSk_mp (h k h1 hk)
theorem done_mp {R : Prop} {l : List Nat} {S : St} {K : St → Prop} (h : R → fSt S fun S => fSt ⟨S.t.map (killsAV l), rowsW l 0 S.h, S.n⟩ K) : R → fSt (S.kills l) K := fun r => fSk_mp (h r)
end Go.Ev
