/- Small things that every contract uses. A helper text: it speaks of no program. -/
import Derived.Test.YtpcipgblegdeeaaEvFive
import Derived.IntWalk
set_option linter.unusedVariables false
set_option linter.unusedSimpArgs false
namespace Go.Ev

abbrev i64 (n : Int) : AV := .int .i64 n
abbrev eI (n : Int) : List AV := [.int .i64 n]
abbrev ints (l : List Int) : AV := .sl 1 (0 : Int) eI l
/-- Within Go's int. -/
def I64 (n : Int) : Prop := -9223372036854775808 ≤ n ∧ n ≤ 9223372036854775807
theorem w64 (n : Int) (h1 : -9223372036854775808 ≤ n) (h2 : n ≤ 9223372036854775807) : IntKind.i64.wrap n = n := IntWalk.i64_in n ⟨h1, h2⟩

theorem wu64 (n : Int) (h1 : 0 ≤ n) (h2 : n ≤ 18446744073709551615) : IntKind.u64.wrap n = n := by simp [IntKind.wrap, IntKind.bits, IntKind.signed]; omega

/-- What stands as 'x' stands as 'y'. -/
def Sub (x y : AV) : Prop := ∀ (F : Nat → Prop) (w : World) (v : Value), RepI F w x v → RepI F w y v
theorem Sub.refl (x : AV) : Sub x x := fun _ _ _ h => h
theorem Sub.slc {α : Type} (sz : Nat) (d : α) (enc : α → List AV) (l : List α) : Sub (.slc sz (l.map enc)) (.sl sz d enc l) := by
  intro F w v h
  generalize hc : l.map enc = css at h
  cases h with
  | slcnil =>
    have : l = [] := by simpa using hc
    subst this
    exact .slnil
  | slc g hcap hb hr =>
    subst hc
    simp only [List.length_map] at *
    refine .sl g hcap hb fun i j hi hj => ?_
    have := hr i j hi hj
    have e : (l.map enc).getD i [] = enc (l.getD i d) := by simp [List.getD, List.getElem?_map, hi]
    rwa [e] at this
theorem Sub.nils {α : Type} (sz : Nat) (d : α) (enc : α → List AV) : Sub .nils (.sl sz d enc []) := by
  intro F w v h
  cases h
  exact .slnil
theorem PC.sub {P : Program} {f : FuncId} {args args' : List AV} {res res' : AV} (h : PC P f args res) (hl : args'.length = args.length) (hs : ∀ i, i < args.length → Sub (args'.getD i .any) (args.getD i .any)) (hr : Sub res res') : PC P f args' res' := by
  intro F w vs hF hsz hargs
  rcases h F w vs hF (hsz.trans hl) (fun i hi => hs i hi _ _ _ (hargs i (hl ▸ hi))) with ⟨h1, h2⟩ | ⟨v, h1, h2⟩
  · exact .inl ⟨h1, h2.mono fun e w' ⟨v, e1, e2, e3⟩ => ⟨v, e1, e2, hr _ _ _ e3⟩⟩
  · exact .inr ⟨v, h1, hr _ _ _ h2⟩
theorem PC.last {P : Program} {f : FuncId} {args : List AV} {x y res : AV} (h : PC P f (args ++ [x]) res) (hs : Sub y x) : PC P f (args ++ [y]) res := by
  refine h.sub (by simp) (fun i hi => ?_) (.refl _)
  simp only [List.length_append, List.length_cons, List.length_nil] at hi
  by_cases e : i < args.length
  · simp only [List.getD, List.getElem?_append, e, if_true]; exact .refl _
  · have : i - args.length = 0 := by omega
    simp only [List.getD, List.getElem?_append, e, if_false, this]; exact hs

/-! ### The first that holds -/
def ixF {α : Type} (p : α → Bool) : List α → Int
  | [] => -1
  | a :: l => if p a then 0 else if ixF p l = -1 then -1 else ixF p l + 1
theorem ixF_ge {α : Type} (p : α → Bool) : ∀ l : List α, -1 ≤ ixF p l ∧ ixF p l < l.length
  | [] => by simp [ixF]
  | a :: l => by
    have := ixF_ge p l
    simp only [ixF, List.length_cons]
    split
    · omega
    · split <;> omega
theorem ixF_hit {α : Type} (p : α → Bool) (d : α) : ∀ (l : List α) (k : Nat), k < l.length → p (l.getD k d) = true → (∀ i, i < k → p (l.getD i d) = false) → ixF p l = k
  | [], k, hk, _, _ => absurd hk (Nat.not_lt_zero k)
  | a :: l, 0, _, h, _ => by
    have h : p a = true := h
    simp [ixF, h]
  | a :: l, k + 1, hk, h, hn => by
    have h0 : p a = false := hn 0 (by omega)
    have := ixF_hit p d l k (by simpa using hk) h fun i hi => hn (i + 1) (by omega)
    simp only [ixF, h0, this]
    simp
theorem ixF_none {α : Type} (p : α → Bool) (d : α) : ∀ (l : List α), (∀ i, i < l.length → p (l.getD i d) = false) → ixF p l = -1
  | [], _ => rfl
  | a :: l, hn => by
    have h0 : p a = false := hn 0 (by simp)
    have := ixF_none p d l fun i hi => hn (i + 1) (by simpa using hi)
    simp [ixF, h0, this]
theorem ixF_any {α : Type} (p : α → Bool) : ∀ l : List α, decide (ixF p l ≥ 0) = l.any p
  | [] => rfl
  | a :: l => by
    have := ixF_any p l
    have h2 := (ixF_ge p l).1
    rw [List.any_cons, ← this]
    by_cases hp : p a = true
    · simp [ixF, hp]
    · simp only [ixF, hp]
      by_cases h3 : ixF p l = -1
      · simp [h3]
      · have : ixF p l ≥ 0 := by omega
        have h4 : ixF p l + 1 ≥ 0 := by omega
        simp [h3, this, h4]

end Go.Ev
