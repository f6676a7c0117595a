/- A helper text: contracts of functions of the program, and plain lemmas. -/
import Derived.Test.YtdpnpdjnaimgaaaGreatEvFive
import Derived.IntWalk
import Derived.Lib.Mul64
import Derived.Laws.Externs
set_option linter.unusedVariables false
set_option linter.unusedSimpArgs false
/- Small things that every contract uses. A helper text: it speaks of no program. -/
namespace Go.Ev
abbrev i64 (n : Int) : AV := .int .i64 n
abbrev eI (n : Int) : List AV := [.int .i64 n]
abbrev ints (l : List Int) : AV := .sl 1 (0 : Int) eI l
def I64 (n : Int) : Prop := -9223372036854775808 ≤ n ∧ n ≤ 9223372036854775807
theorem w64 (n : Int) (h1 : -9223372036854775808 ≤ n) (h2 : n ≤ 9223372036854775807) : IntKind.i64.wrap n = n := IntWalk.i64_in n ⟨h1, h2⟩
theorem wu64 (n : Int) (h1 : 0 ≤ n) (h2 : n ≤ 18446744073709551615) : IntKind.u64.wrap n = n := by simp [IntKind.wrap, IntKind.bits, IntKind.signed]; omega
def Sub (x y : AV) : Prop := ∀ (F : Nat → Prop) (w : World) (v : Value), RepI F w x v → RepI F w y v
theorem Sub.refl (x : AV) : Sub x x := fun _ _ _ h => h
theorem Sub.slc {α : Type} (sz : Nat) (d : α) (enc : α → List AV) (l : List α) : Sub (.slc sz (l.map enc)) (.sl sz d enc l) := by
  intro F w v h
  generalize hc : l.map enc = css at h
  cases h with
  | slcnil =>
    have : l = [] := by simpa using hc
    subst this
    exact .slnil
  | slc g hcap hb hr =>
    subst hc
    simp only [List.length_map] at *
    refine .sl g hcap hb fun i j hi hj => ?_
    have := hr i j hi hj
    have e : (l.map enc).getD i [] = enc (l.getD i d) := by simp [List.getD, List.getElem?_map, hi]
    rwa [e] at this
theorem Sub.nils {α : Type} (sz : Nat) (d : α) (enc : α → List AV) : Sub .nils (.sl sz d enc []) := by
  intro F w v h
  cases h
  exact .slnil
theorem PC.sub {P : Program} {f : FuncId} {args args' : List AV} {res res' : AV} (h : PC P f args res) (hl : args'.length = args.length) (hs : ∀ i, i < args.length → Sub (args'.getD i .any) (args.getD i .any)) (hr : Sub res res') : PC P f args' res' := by
  intro F w vs hF hsz hargs
  rcases h F w vs hF (hsz.trans hl) (fun i hi => hs i hi _ _ _ (hargs i (hl ▸ hi))) with ⟨h1, h2⟩ | ⟨v, h1, h2⟩
  · exact .inl ⟨h1, h2.mono fun e w' ⟨v, e1, e2, e3⟩ => ⟨v, e1, e2, hr _ _ _ e3⟩⟩
  · exact .inr ⟨v, h1, hr _ _ _ h2⟩
theorem PC.last {P : Program} {f : FuncId} {args : List AV} {x y res : AV} (h : PC P f (args ++ [x]) res) (hs : Sub y x) : PC P f (args ++ [y]) res := by
  refine h.sub (by simp) (fun i hi => ?_) (.refl _)
  simp only [List.length_append, List.length_cons, List.length_nil] at hi
  by_cases e : i < args.length
  · simp only [List.getD, List.getElem?_append, e, if_true]; exact .refl _
  · have : i - args.length = 0 := by omega
    simp only [List.getD, List.getElem?_append, e, if_false, this]; exact hs
def ixF {α : Type} (p : α → Bool) : List α → Int
  | [] => -1
  | a :: l => if p a then 0 else if ixF p l = -1 then -1 else ixF p l + 1
theorem ixF_ge {α : Type} (p : α → Bool) : ∀ l : List α, -1 ≤ ixF p l ∧ ixF p l < l.length
  | [] => by simp [ixF]
  | a :: l => by
    have := ixF_ge p l
    simp only [ixF, List.length_cons]
    split
    · omega
    · split <;> omega
theorem ixF_hit {α : Type} (p : α → Bool) (d : α) : ∀ (l : List α) (k : Nat), k < l.length → p (l.getD k d) = true → (∀ i, i < k → p (l.getD i d) = false) → ixF p l = k
  | [], k, hk, _, _ => absurd hk (Nat.not_lt_zero k)
  | a :: l, 0, _, h, _ => by
    have h : p a = true := h
    simp [ixF, h]
  | a :: l, k + 1, hk, h, hn => by
    have h0 : p a = false := hn 0 (by omega)
    have := ixF_hit p d l k (by simpa using hk) h fun i hi => hn (i + 1) (by omega)
    simp only [ixF, h0, this]
    simp
theorem ixF_none {α : Type} (p : α → Bool) (d : α) : ∀ (l : List α), (∀ i, i < l.length → p (l.getD i d) = false) → ixF p l = -1
  | [], _ => rfl
  | a :: l, hn => by
    have h0 : p a = false := hn 0 (by simp)
    have := ixF_none p d l fun i hi => hn (i + 1) (by simpa using hi)
    simp [ixF, h0, this]
theorem ixF_any {α : Type} (p : α → Bool) : ∀ l : List α, decide (ixF p l ≥ 0) = l.any p
  | [] => rfl
  | a :: l => by
    have := ixF_any p l
    have h2 := (ixF_ge p l).1
    rw [List.any_cons, ← this]
    by_cases hp : p a = true
    · simp [ixF, hp]
    · simp only [ixF, hp]
      by_cases h3 : ixF p l = -1
      · simp [h3]
      · have : ixF p l ≥ 0 := by omega
        have h4 : ixF p l + 1 ≥ 0 := by omega
        simp [h3, this, h4]
end Go.Ev
/- Words: unsigned numbers of 64 bits, as natural numbers. A helper text: it speaks of no program. -/
namespace Go.Ev
abbrev u64 (n : Nat) : AV := .int .u64 (n : Int)
theorem wu (n : Nat) (h : n < 18446744073709551616) : IntKind.u64.wrap (n : Int) = n := wu64 _ (by omega) (by have : n < 18446744073709551616 := h; omega)
theorem wumod (n : Int) : IntKind.u64.wrap n = ((n % 18446744073709551616).toNat : Int) := by simp [IntKind.wrap, IntKind.bits, IntKind.signed]; omega
theorem wi (n : Int) (h1 : -9223372036854775808 ≤ n) (h2 : n ≤ 9223372036854775807) : IntKind.i64.wrap n = n := w64 n h1 h2
theorem bits_and_u (a b : Nat) (ha : a < 18446744073709551616) (hb : b < 18446744073709551616) : bits .and .u64 (a : Int) (b : Int) = ((a &&& b : Nat) : Int) := by
  have h : (BitVec.ofInt 64 (a : Int) &&& BitVec.ofInt 64 (b : Int)).toNat = a &&& b := by
    rw [BitVec.toNat_and, BitVec.toNat_ofInt, BitVec.toNat_ofInt]
    congr 1 <;> omega
  show IntKind.u64.wrap (((BitVec.ofInt 64 (a : Int) &&& BitVec.ofInt 64 (b : Int)).toNat : Nat) : Int) = _
  rw [h]
  exact wu _ (Nat.lt_of_le_of_lt Nat.and_le_left ha)
theorem bits_or_u (a b : Nat) (ha : a < 18446744073709551616) (hb : b < 18446744073709551616) : bits .or .u64 (a : Int) (b : Int) = ((a ||| b : Nat) : Int) := by
  have h : (BitVec.ofInt 64 (a : Int) ||| BitVec.ofInt 64 (b : Int)).toNat = a ||| b := by
    rw [BitVec.toNat_or, BitVec.toNat_ofInt, BitVec.toNat_ofInt]
    congr 1 <;> omega
  show IntKind.u64.wrap (((BitVec.ofInt 64 (a : Int) ||| BitVec.ofInt 64 (b : Int)).toNat : Nat) : Int) = _
  rw [h]
  exact wu _ (Nat.or_lt_two_pow (n := 64) ha hb)
theorem shr_u (a k : Nat) (hk : k ≤ 64) : ((a : Nat) : Int).fdiv (2 ^ min (Int.toNat (k : Int)) IntKind.u64.bits) = ((a / 2 ^ k : Nat) : Int) := by
  have : min (Int.toNat (k : Int)) IntKind.u64.bits = k := by show min k 64 = k; omega
  rw [this, Int.fdiv_eq_ediv_of_nonneg _ (by exact Int.le_of_lt (Int.pow_pos (by decide)))]
  simp
theorem shl_u (a k : Nat) (hk : k ≤ 64) : IntKind.u64.wrap ((a : Int) * 2 ^ min (Int.toNat (k : Int)) IntKind.u64.bits) = ((a * 2 ^ k % 18446744073709551616 : Nat) : Int) := by
  have : min (Int.toNat (k : Int)) IntKind.u64.bits = k := by show min k 64 = k; omega
  rw [this, wumod]
  have e : (a : Int) * 2 ^ k = ((a * 2 ^ k : Nat) : Int) := by simp
  rw [e]
  omega
theorem mul_u (a b : Nat) : IntKind.u64.wrap ((a : Int) * (b : Int)) = ((a * b % 18446744073709551616 : Nat) : Int) := by
  rw [wumod]
  have e : (a : Int) * b = ((a * b : Nat) : Int) := by simp
  rw [e]
  omega
theorem add_u (a b : Nat) : IntKind.u64.wrap ((a : Int) + (b : Int)) = (((a + b) % 18446744073709551616 : Nat) : Int) := by rw [wumod]; omega
theorem sub_u (a b : Nat) (hb : b ≤ 18446744073709551616) : IntKind.u64.wrap ((a : Int) - (b : Int)) = (((a + (18446744073709551616 - b)) % 18446744073709551616 : Nat) : Int) := by rw [wumod]; omega
theorem div_u (a b : Nat) (ha : a < 18446744073709551616) : IntKind.u64.wrap ((a : Int).tdiv (b : Int)) = ((a / b : Nat) : Int) := by
  rw [Int.tdiv_eq_ediv_of_nonneg (by omega)]
  have e : (a : Int) / b = ((a / b : Nat) : Int) := by simp
  rw [e]
  exact wu _ (Nat.lt_of_le_of_lt (Nat.div_le_self a b) ha)
theorem mod_u (a b : Nat) : (a : Int).tmod (b : Int) = ((a % b : Nat) : Int) := by
  rw [Int.tmod_eq_emod_of_nonneg (by omega)]
  simp
theorem and_mask32 (a : Nat) : a &&& 4294967295 = a % 4294967296 := Nat.and_two_pow_sub_one_eq_mod a 32
theorem mask32_u (a : Nat) (ha : a < 18446744073709551616) : bits .and .u64 (a : Int) 4294967295 = ((a % 4294967296 : Nat) : Int) := by
  have := bits_and_u a 4294967295 ha (by decide)
  rw [and_mask32] at this
  exact this
theorem shr32_u (a : Nat) : ((a : Nat) : Int).fdiv (2 ^ min (Int.toNat 32) IntKind.u64.bits) = ((a / 4294967296 : Nat) : Int) := shr_u a 32 (by omega)
abbrev pr (n : Nat) : AV := .agg [u64 (n / 18446744073709551616), u64 (n % 18446744073709551616)]
abbrev fr (x : Int × Int) : AV := .agg [i64 x.1, i64 x.2]
abbrev eF (x : Int × Int) : List AV := [i64 x.1, i64 x.2]
end Go.Ev
/- Calls that the model stands in for: sums and differences of words with carry. A helper text: it speaks of no program. -/
namespace Go.Ev
theorem RepI.int_inv {F : Nat → Prop} {w : World} {k : IntKind} {n : Int} {v : Value} (h : RepI F w (.int k n) v) : v = .int k n := by cases h; rfl
theorem three_ints {F : Nat → Prop} {w : World} {vs : Array Value} {x y c : Nat} (hsz : vs.size = 3) (h : ∀ i, i < 3 → RepI F w ([u64 x, u64 y, u64 c].getD i .any) (vs.getD i undef)) : vs = #[.int .u64 x, .int .u64 y, .int .u64 c] := by
  have h0 : vs.getD 0 undef = .int .u64 x := (h 0 (by omega)).int_inv
  have h1 : vs.getD 1 undef = .int .u64 y := (h 1 (by omega)).int_inv
  have h2 : vs.getD 2 undef = .int .u64 c := (h 2 (by omega)).int_inv
  have e : ∀ i, (hi : i < vs.size) → vs.getD i undef = vs[i] := fun i hi => by simp [Array.getD, hi]
  rw [e _ (by omega)] at h0 h1 h2
  apply Array.ext
  · simpa using hsz
  · intro i hi hj
    have : i = 0 ∨ i = 1 ∨ i = 2 := by simp at hj; omega
    rcases this with rfl | rfl | rfl
    · exact h0
    · exact h1
    · exact h2
theorem rep_two {F : Nat → Prop} {w : World} (a b : Nat) : RepI F w (.tup [u64 a, u64 b]) (.tuple #[.int .u64 a, .int .u64 b]) := by
  refine .tup rfl fun i hi => ?_
  have : i = 0 ∨ i = 1 := by simp at hi; omega
  rcases this with rfl | rfl
  · exact .int _ _
  · exact .int _ _
theorem pc_add64 {P : Program} {f : FuncId} {fn : Func} (hf : P.funcs[f]? = some fn) (hname : (fn.name == "runtime.NumGoroutine") = false) (hb : fn.body.isNone = true) (hn : Extern.findNext fn = none) (he : Extern.find fn = some add64Entry)
    (x y c : Nat) (hc : c ≤ 1) : PC P f [u64 x, u64 y, u64 c] (.tup [u64 ((x + y + c) % 18446744073709551616), u64 ((x + y + c) / 18446744073709551616)]) := by
  intro F w vs _ hsz h
  have hv := three_ints hsz h
  subst hv
  have := run_callFunc_extern hf hname hb hn he #[.int .u64 x, .int .u64 y, .int .u64 c] w
  rw [run_add64 x y c (by omega) (by omega) (by omega) (by omega)] at this
  refine .inr ⟨_, this, ?_⟩
  have e1 : ((x : Int) + y + c) % 18446744073709551616 = (((x + y + c) % 18446744073709551616 : Nat) : Int) := by omega
  have e2 : ((x : Int) + y + c) / 18446744073709551616 = (((x + y + c) / 18446744073709551616 : Nat) : Int) := by omega
  rw [e1, e2]
  exact rep_two _ _
def subEntry : Array Value → Sem Value := (Extern.MathBitsCarry.rows.getD 1 ("", fun _ => pure undef)).2
theorem pc_sub64 {P : Program} {f : FuncId} {fn : Func} (hf : P.funcs[f]? = some fn) (hname : (fn.name == "runtime.NumGoroutine") = false) (hb : fn.body.isNone = true) (hn : Extern.findNext fn = none) (he : Extern.find fn = some subEntry)
    (x y c : Nat) (hc : c ≤ 1) : PC P f [u64 x, u64 y, u64 c] (.tup [u64 ((x + 18446744073709551616 - y - c) % 18446744073709551616), u64 (if x < y + c then 1 else 0)]) := by
  intro F w vs _ hsz h
  have hv := three_ints hsz h
  subst hv
  have := run_callFunc_extern hf hname hb hn he #[.int .u64 x, .int .u64 y, .int .u64 c] w
  refine .inr ⟨.tuple #[.int .u64 (((x + 18446744073709551616 - y - c) % 18446744073709551616 : Nat) : Int), .int .u64 ((if x < y + c then 1 else 0 : Nat) : Int)], this.trans ?_, rep_two _ _⟩
  have : c = 0 ∨ c = 1 := by omega
  rcases this with rfl | rfl <;> rfl
end Go.Ev
/- The executor once more, by recursors: Lean's whnf unfolds a recursive definition by its equations and then copies all of its arguments as trees; a recursor it does not copy. A helper text: it speaks of no program. -/
namespace Go.Ev
def lrF {α : Type 1} (f : α → (α → Prop) → Prop) (l : List α) (K : List α → Prop) : Prop :=
  List.rec (motive := fun _ => (List α → Prop) → Prop) (fun K => K []) (fun a _ ih K => f a fun a => ih fun l => K (a :: l)) l K
theorem lrF_eq {α : Type 1} {f : α → (α → Prop) → Prop} (hf : ∀ a K, f a K = K a) (l : List α) (K : List α → Prop) : lrF f l K = K l := by
  unfold lrF
  induction l generalizing K with
  | nil => rfl
  | cons a l ih =>
    show f a (fun a => List.rec (motive := fun _ => (List α → Prop) → Prop) (fun K => K []) (fun a _ ih K => f a fun a => ih fun l => K (a :: l)) l (fun l => K (a :: l))) = K (a :: l)
    rw [hf, ih]
def avStep (f : AV → (AV → Prop) → Prop) (x : AV) (K : AV → Prop) : Prop :=
  match x with
  | .agg l => lrF f l fun l => K (.agg l)
  | .tup l => lrF f l fun l => K (.tup l)
  | .slc sz css => lrF (lrF f) css fun css => K (.slc sz css)
  | .pt cs off => lrF f cs fun cs => K (.pt cs off)
  | .fn g a b => lrF f a fun a => lrF f b fun b => K (.fn g a b)
  | .any => K .any
  | .tt => K .tt
  | .ff => K .ff
  | .bool b => K (.bool b)
  | .int k n => K (.int k n)
  | .str s => K (.str s)
  | .nilp => K .nilp
  | .nils => K .nils
  | .nilf => K .nilf
  | .sl sz d enc l => K (.sl sz d enc l)
  | .sf sz d enc l => K (.sf sz d enc l)
  | .ptr id sz i off => K (.ptr id sz i off)
  | .own id => K (.own id)
  | .mem id i => K (.mem id i)
  | .mptr id i k => K (.mptr id i k)
theorem avStep_eq {f : AV → (AV → Prop) → Prop} (hf : ∀ a K, f a K = K a) (x : AV) (K : AV → Prop) : avStep f x K = K x := by
  cases x <;> simp only [avStep] <;> (first | rfl | (rw [lrF_eq hf]) | (rw [lrF_eq fun a K => lrF_eq hf a K]) | skip)
  rw [lrF_eq hf]
def av0 (x : AV) (K : AV → Prop) : Prop :=
  match x with
  | .any => K .any
  | .tt => K .tt
  | .ff => K .ff
  | .bool b => K (.bool b)
  | .int k n => K (.int k n)
  | .str s => K (.str s)
  | .nilp => K .nilp
  | .nils => K .nils
  | .nilf => K .nilf
  | .sl sz d enc l => K (.sl sz d enc l)
  | .sf sz d enc l => K (.sf sz d enc l)
  | .ptr id sz i off => K (.ptr id sz i off)
  | .own id => K (.own id)
  | .mem id i => K (.mem id i)
  | .mptr id i k => K (.mptr id i k)
  | .agg l => K (.agg l)
  | .tup l => K (.tup l)
  | .slc sz css => K (.slc sz css)
  | .pt cs off => K (.pt cs off)
  | .fn g a b => K (.fn g a b)
theorem av0_eq (x : AV) (K : AV → Prop) : av0 x K = K x := by cases x <;> rfl
def av1 : AV → (AV → Prop) → Prop := avStep av0
def av2 : AV → (AV → Prop) → Prop := avStep av1
def av3 : AV → (AV → Prop) → Prop := avStep av2
theorem av1_eq (x : AV) (K : AV → Prop) : av1 x K = K x := avStep_eq av0_eq x K
theorem av2_eq (x : AV) (K : AV → Prop) : av2 x K = K x := avStep_eq av1_eq x K
theorem av3_eq (x : AV) (K : AV → Prop) : av3 x K = K x := avStep_eq av2_eq x K
def gL (l : List AV) (K : List AV → Prop) : Prop := lrF av2 l K
theorem gL_eq (l : List AV) (K : List AV → Prop) : gL l K = K l := lrF_eq av2_eq l K
def gRow (r : Row) (K : Row → Prop) : Prop :=
  match r with
  | .none => K .none
  | .cells ty cs => lrF av2 cs fun cs => K (.cells ty cs)
  | .lit ty sz css => lrF (lrF av2) css fun css => K (.lit ty sz css)
  | .vec ty sz d enc l => K (.vec ty sz d enc l)
  | .ctr l xs k e => K (.ctr l xs k e)
  | .nest ty sz j0 ty' d enc ys ho l => K (.nest ty sz j0 ty' d enc ys ho l)
theorem gRow_eq (r : Row) (K : Row → Prop) : gRow r K = K r := by
  cases r <;> simp only [gRow] <;> (first | rfl | (rw [lrF_eq av2_eq]) | (rw [lrF_eq fun a K => lrF_eq av2_eq a K]))
def gRows (l : List Row) (K : List Row → Prop) : Prop := lrF gRow l K
theorem gRows_eq (l : List Row) (K : List Row → Prop) : gRows l K = K l := lrF_eq gRow_eq l K
def gSt (S : St) (K : St → Prop) : Prop :=
  match S with
  | ⟨St, Sh, Sn⟩ => fMd Sn fun n => gL St fun t => gRows Sh fun h => K ⟨t, h, n⟩
theorem gSt_eq (S : St) (K : St → Prop) : gSt S K = K S := by cases S; simp only [gSt]; rw [fMd_eq, gL_eq, gRows_eq]
def gSp (l : List AV) (K : List AV → Prop) : Prop := List.rec (motive := fun _ => (List AV → Prop) → Prop) (fun K => K []) (fun a _ ih K => ih fun l => K (a :: l)) l K
theorem gSp_eq (l : List AV) (K : List AV → Prop) : gSp l K = K l := by
  unfold gSp
  induction l generalizing K with
  | nil => rfl
  | cons a l ih => exact ih _
def gNs (l : List Nat) (K : List Nat → Prop) : Prop := List.rec (motive := fun _ => (List Nat → Prop) → Prop) (fun K => K []) (fun a _ ih K => ih fun l => K (a :: l)) l K
theorem gNs_eq (l : List Nat) (K : List Nat → Prop) : gNs l K = K l := by
  unfold gNs
  induction l generalizing K with
  | nil => rfl
  | cons a l ih => exact ih _
def gPut (S : St) (dst : Option Nat) (out : Out) (K : St → Prop) : Prop :=
  match S with
  | ⟨St, Sh, Sn⟩ => match dst with
    | some d => av3 out.v fun v => gSp (St.set d v) fun t => match out.rows with
      | [] => K ⟨t, Sh, Sn⟩
      | r :: rs => gRows (setRows Sh (r :: rs)) fun h => K ⟨t, h, Sn⟩
    | none => match out.rows with
      | [] => K ⟨St, Sh, Sn⟩
      | r :: rs => gRows (setRows Sh (r :: rs)) fun h => K ⟨St, h, Sn⟩
theorem gPut_eq (S : St) (dst : Option Nat) (out : Out) (K : St → Prop) : gPut S dst out K = fPut S dst out K := by
  obtain ⟨v, rows⟩ := out
  obtain ⟨St, Sh, Sn⟩ := S
  cases dst with
  | none =>
    cases rows with
    | nil => rfl
    | cons r rs => simp only [gPut, fPut]; rw [fRows_eq, gRows_eq]
  | some d =>
    simp only [gPut, fPut]
    rw [fAV_eq, fSp_eq, av3_eq, gSp_eq]
    cases rows with
    | nil => rfl
    | cons r rs => simp only []; rw [fRows_eq, gRows_eq]
def gOp (P : Program) (dst : Option Nat) (op : Op) (g : Operand → AV) (r : Nat → Row) (K : Out → List Nat → Prop) : Prop :=
  match op with
  | .call c => match c.callee with
    | .value f => match g f with
      | .fn (.func h) first caps => match closedL (first ++ c.args.toList.map g ++ caps) with
        | true => gL (first ++ c.args.toList.map g ++ caps) fun ar => ∃ v, PC P h ar v ∧ K ⟨v, []⟩ []
        | false => gL ((first ++ c.args.toList.map g ++ caps).map (closeN 4 r)) fun ar => ∃ v, PC P h ar v ∧ match v.flat with
          | true => K ⟨v, []⟩ ((first ++ c.args.toList.map g ++ caps).flatMap (idsN 4 r))
          | false => False
      | _ => False
    | _ => evN P dst (.call c) g r K
  | op => evN P dst op g r K
theorem gOp_eq (P : Program) (dst : Option Nat) (op : Op) (g : Operand → AV) (r : Nat → Row) (K : Out → List Nat → Prop) : gOp P dst op g r K = evN P dst op g r K := by
  unfold gOp
  split
  · rename_i c
    split
    · rename_i f hf
      unfold evN
      simp only [hf]
      unfold evOp
      simp only [hf]
      split
      · rename_i h first caps hg
        simp only [hg, gL_eq, fL_eq]
        rfl
      · rename_i hg
        split
        · rename_i h first caps hg2
          exact absurd hg2 (hg _ _ _)
        · rfl
    · rfl
  · rfl
def gOpL (P : Program) (o : Oper) (g : Operand → AV) (r : Nat → Row) (K : Out → List Nat → Prop) : Prop :=
  match ptrC o.op g with
  | true => gOp P o.dst o.op g r K ∨ newW P (newCall P o) o.dst o.op g r K
  | false => match newCall P o with
    | true => gOp P o.dst o.op g r K ∨ newC P o.dst o.op g K
    | false => gOp P o.dst o.op g r K
theorem gOpL_eq (P : Program) (o : Oper) (g : Operand → AV) (r : Nat → Row) (K : Out → List Nat → Prop) : gOpL P o g r K = evL P o g r K := by
  unfold gOpL evL
  simp only [gOp_eq]
  rfl
def gwOp (P : Program) (c : Call) (f : Operand) (S : St) (K : St → Out → Prop) : Prop :=
  ∃ frz news : List Nat, news.all (mayKill S) = true ∧ gSt ((S.frz frz).kills news) fun S => match S.get f with
    | .fn (.func h) first caps => ∃ (ids : List Nat) (args' : List AV) (ins outs : List Row) (res : AV),
        (PW P h args' ins res outs ∧ first ++ c.args.toList.map S.get ++ caps = renL ids args' ∧ ids.map S.row = ins.map (renRow ids) ∧ wB ids news args' ins outs res = true) ∧
        K S ⟨res.ren (ids ++ news), (ids ++ news).zip (outs.map (renRow (ids ++ news)))⟩
    | _ => False
theorem gwOp_eq (P : Program) (c : Call) (f : Operand) (S : St) (K : St → Out → Prop) : gwOp P c f S K = wOp P c f S K := by
  unfold gwOp wOp
  simp only [gSt_eq, fSt_eq]
  rfl
def gOp1 (P : Program) (o : Oper) (S : St) (K : St → Out → Prop) : Prop :=
  match o.op with
  | .makeFunc f xs ys => match (xs.toList.map S.get ++ ys.toList.map S.get).flatMap (idsN 4 S.row) with
    | [] => K S ⟨.fn f (xs.toList.map S.get) (ys.toList.map S.get), []⟩
    | i :: l => gSt (S.freeze (idSet (i :: l))) fun S => K S ⟨.fn f (xs.toList.map S.get) (ys.toList.map S.get), []⟩
  | .call c => match c.callee with
    | .value f => match S.get f with
      | .fn (.func _) first caps => (match closedL (first ++ c.args.toList.map S.get ++ caps) with
        | true => gOp P o.dst (.call c) S.get S.row fun out _ => K S out
        | false => ∃ frz : Bool, match frz with
          | false => gOp P o.dst (.call c) S.get S.row fun out _ => K S out
          | true => gSt (S.freeze (idSet ((first ++ c.args.toList.map S.get ++ caps).flatMap (idsN 4 S.row)))) fun S => gOp P o.dst (.call c) S.get S.row fun out _ => K S out) ∨ gwOp P c f S K
      | _ => uOp1 P o S K
    | _ => uOp1 P o S K
  | _ => uOp1 P o S K
theorem gOp1_eq (P : Program) (o : Oper) (S : St) (K : St → Out → Prop) : gOp1 P o S K = uOp1 P o S K := by
  unfold gOp1
  split
  · rename_i f xs ys h
    unfold uOp1
    simp only [h, gSt_eq, fSt_eq]
    rfl
  · rename_i c h
    split
    · rename_i f hf
      split
      · rename_i x first caps hg
        unfold uOp1
        simp only [h, hf, hg]
        simp only [gOp_eq, gSt_eq, fSt_eq, gwOp_eq]
        rfl
      · rfl
    · rfl
  · rfl
def gwOf (P : Program) (o : Oper) (K : St → Out → Prop) (S : St) : Prop :=
  match o.op with
  | .call c => match c.callee with
    | .value f => gwOp P c f S K
    | _ => False
  | _ => False
theorem gwOf_eq (P : Program) (o : Oper) (K : St → Out → Prop) : gwOf P o K = wOf P o K := by
  funext S
  unfold gwOf wOf
  simp only [gwOp_eq]
  rfl
def gOpR0 (P : Program) (o : Oper) (S : St) (K : St → Out → Prop) : Prop := nOp gSt P o S K (gwOf P o K) (gOp1 P o S K)
theorem gOpR0_eq (P : Program) (o : Oper) (S : St) (K : St → Out → Prop) : gOpR0 P o S K = uOpR0 P o S K := by
  have e : gSt = fSt := funext fun S => funext fun K => by rw [gSt_eq, fSt_eq]
  unfold gOpR0 uOpR0
  rw [e, gwOf_eq, gOp1_eq]
def gOpR (P : Program) (o : Oper) (S : St) (K : St → Out → Prop) : Prop :=
  match appB o.op with
  | true => gSt (unN o S) fun S => gOpR0 P o S K
  | false => gOpR0 P o S K
theorem gOpR_eq (P : Program) (o : Oper) (S : St) (K : St → Out → Prop) : gOpR P o S K = uOpR P o S K := by
  unfold gOpR uOpR
  simp only [gOpR0_eq, gSt_eq, fSt_eq]
  rfl
def gOpU (P : Program) (o : Oper) (S : St) (K : St → Out → Prop) : Prop :=
  match allocs o.op with
  | true => match o.dst with
    | some d => match mayKill S d with
      | true => gSt (S.kill d) fun S => gOpR P o S K
      | false => False
    | none => gOpR P o S K
  | false => gOpR P o S K
theorem gOpU_eq (P : Program) (o : Oper) (S : St) (K : St → Out → Prop) : gOpU P o S K = uOp P o S K := by
  unfold gOpU uOp
  simp only [gOpR_eq, gSt_eq, fSt_eq]
  rfl
def gRunStep (P : Program) (all : List Oper) (o : Oper) (ih : Nat → St → (St → Prop) → Prop) (k : Nat) (S : St) (K : St → Prop) : Prop :=
  match gw all.toArray S o with
  | some true => gOpU P o S fun S out => splitOut (isSrc all k) out fun out => gPut S o.dst out fun S => ih (k + 1) S K
  | some false => gPut S o.dst ⟨.tup [], []⟩ fun S => ih (k + 1) S K
  | none => False
def gRun (P : Program) (all l : List Oper) (k : Nat) (S : St) (K : St → Prop) : Prop :=
  List.rec (motive := fun _ => Nat → St → (St → Prop) → Prop) (fun _ S K => K S) (fun o _ ih => gRunStep P all o ih) l k S K
theorem gRun_eq (P : Program) (all : List Oper) : ∀ (l : List Oper) (k : Nat) (S : St) (K : St → Prop), gRun P all l k S K = uRun P all l k S K
  | [], _, _, _ => rfl
  | o :: l, k, S, K => by
    show gRunStep P all o (fun k S K => gRun P all l k S K) k S K = _
    unfold gRunStep uRun
    simp only [gRun_eq P all l, gOpU_eq, gPut_eq]
    rfl
def gLexStep (P : Program) (all : List Oper) (o : Oper) (ih : Nat → St → List (List Nat × List Nat) → (St → Prop) → Prop) (k : Nat) (S : St) (fps : List (List Nat × List Nat)) (K : St → Prop) : Prop :=
  match gw all.toArray S o with
  | some true => gOpL P o S.get S.row fun out rd => splitOut (isSrc all k) out fun out => gPut S o.dst out fun S => ih (k + 1) S (fps ++ [(rd, out.rows.map (·.1))]) K
  | some false => gPut S o.dst ⟨.tup [], []⟩ fun S => ih (k + 1) S (fps ++ [([], [])]) K
  | none => False
def gLex (P : Program) (all l : List Oper) (k : Nat) (S : St) (fps : List (List Nat × List Nat)) (K : St → Prop) : Prop :=
  List.rec (motive := fun _ => Nat → St → List (List Nat × List Nat) → (St → Prop) → Prop) (fun _ S fps K => rowsB all fps = true ∧ K S) (fun o _ ih => gLexStep P all o ih) l k S fps K
theorem gLex_eq (P : Program) (all : List Oper) : ∀ (l : List Oper) (k : Nat) (S : St) (fps : List (List Nat × List Nat)) (K : St → Prop), gLex P all l k S fps K = lexRun P all l k S fps K
  | [], _, _, _, _ => rfl
  | o :: l, k, S, fps, K => by
    show gLexStep P all o (fun k S fps K => gLex P all l k S fps K) k S fps K = _
    unfold gLexStep lexRun
    simp only [gLex_eq P all l, gOpL_eq, gPut_eq]
    rfl
def gHead (ds : List Nat) (S0 : St) (ws bs : List Nat) (vs : List (Nat × VT)) (S : St) (K : List AV → List Row → List Row → Prop) : Prop :=
  gSt (canonV vs S) fun S => gL (ws.map fun i => S.t.getD i .any) fun vals => gRows (bs.map S.row) fun brows => gRows (vs.map fun v => S.row v.1) fun vrows =>
    K vals brows vrows ∧ maskT (mkHead ds S0 ws bs vs vals brows vrows).t S.t = some (mkHead ds S0 ws bs vs vals brows vrows).t ∧
      maskH (mkHead ds S0 ws bs vs vals brows vrows).h S.h = some (mkHead ds S0 ws bs vs vals brows vrows).h
theorem gHead_eq (ds : List Nat) (S0 : St) (ws bs : List Nat) (vs : List (Nat × VT)) (S : St) (K : List AV → List Row → List Row → Prop) : gHead ds S0 ws bs vs S K = atHead ds S0 ws bs vs S K := by
  unfold gHead atHead
  simp only [gSt_eq, fSt_eq, gL_eq, fL_eq, gRows_eq, fRows_eq]
def gUnr (f : St → (Ex → St → Prop) → Prop) (n : Nat) (S : St) (Q : Ex → St → Prop) : Prop :=
  Nat.rec (motive := fun _ => St → (Ex → St → Prop) → Prop) (fun _ _ => False) (fun _ ih S Q => f S fun e S => match e with
    | .norm => ih S Q
    | e => Q e S) n S Q
theorem gUnr_eq (f : St → (Ex → St → Prop) → Prop) : ∀ (n : Nat) (S : St) (Q : Ex → St → Prop), gUnr f n S Q = unr f n S Q
  | 0, _, _ => rfl
  | n + 1, S, Q => by
    show f S (fun e S => match e with
      | .norm => gUnr f n S Q
      | e => Q e S) = _
    unfold unr
    congr 1
    funext e S
    cases e
    · exact gUnr_eq f n S Q
    · rfl
    · rfl
abbrev GX := St → (Ex → St → Prop) → Prop
def gRegion (P : Program) (ops : Array Oper) (draw : Bool) (S : St) (Q : Ex → St → Prop) : Prop :=
  match draw with
  | false => gRun P ops.toList ops.toList 0 S fun S => gSt S (Q .norm)
  | true => gSt (preF P S ops.toList) fun S => (drawB P ops && (allocD P ops.toList).all (mayKill S) && noDefer ops.toList) = true ∧ gSt (S.kills (allocD P ops.toList)) fun S => gLex P ops.toList ops.toList 0 S [] fun S => gSt S (Q .norm)
def gSeq (a b : GX) (S : St) (Q : Ex → St → Prop) : Prop := a S fun e S => match e with
  | .norm => b S Q
  | e => Q e S
def gCond (c : Operand) (a b : GX) (S : St) (Q : Ex → St → Prop) : Prop :=
  match S.get c with
  | .tt => a S Q
  | .ff => b S Q
  | .bool x => (x = true → a S Q) ∧ (x = false → b S Q)
  | _ => False
def gBlock (id : Nat) (c : GX) (S : St) (Q : Ex → St → Prop) : Prop := c S fun e S => match e with
  | .exit i => match Nat.beq i id with
    | true => Q .norm S
    | false => Q (.exit i) S
  | e => Q e S
def gLoop (c : Code) (f : GX) (S : St) (Q : Ex → St → Prop) : Prop :=
  (∃ n, gUnr f n S Q) ∨
    ∃ (ι : Type) (ws bs : List Nat) (vs : List (Nat × VT)) (V : ι → List AV) (BR VR : ι → List Row) (μ : ι → Nat) (I : ι → Prop), gNs (dstsC c) fun ds => gSt (canonV vs S) fun S0 =>
      (∃ i, gHead ds S0 ws bs vs S fun vals brows vrows => I i ∧ vals = V i ∧ brows = BR i ∧ vrows = VR i) ∧
      ∀ i, I i → gSt (mkHead ds S0 ws bs vs (V i) (BR i) (VR i)) fun S1 => f S1 fun e S2 => match e with
        | .norm => ∃ i', gHead ds S0 ws bs vs S2 fun vals brows vrows => (μ i' < μ i ∧ I i') ∧ vals = V i' ∧ brows = BR i' ∧ vrows = VR i'
        | e => Q e S2
def gRange (P : Program) (g : Operand) (ps : Array Tmp) (dsA dsB : List Nat) (fa fb : GX) (S : St) (Q : Ex → St → Prop) : Prop :=
  match S.n with
  | .round _ => False
  | .iter => False
  | .plain => match S.get g with
    | .fn (.func gf) [] caps => closedL caps = true ∧
      ∃ (xs : List (List AV)) (bs : List Nat) (BR : Nat → List Row) (I : Nat → Prop), (SQ P gf caps xs ∧ ∀ x ∈ xs, flatL x = true ∧ x.length = ps.size) ∧
        gNs (ps.toList ++ (dsA ++ dsB)) fun ds => ds.all (mayKill S) = true ∧
          (gHead ds S [] bs [] S fun vals brows vrows => I 0 ∧ vals = [] ∧ brows = BR 0 ∧ vrows = []) ∧
          (∀ k x, I k → xs[k]? = some x → gSt ((mkHead ds S [] bs [] [] (BR k) []).kills ds) fun S1 => gSt ⟨setPs S1.t ps.toList x, S1.h, .round ds⟩ fun S2 =>
            fa S2 fun e S3 => match e with
              | .norm => fb S3 fun e S4 => match e with
                | .norm => gRows (bs.map S4.row) fun brows => (I (k + 1) ∧ brows = BR (k + 1)) ∧ maskH ((mkHead ds S [] bs [] [] brows []).kills ds).h S4.h = some ((mkHead ds S [] bs [] [] brows []).kills ds).h
                | e => Q e ⟨S1.t, S4.h, .plain⟩
              | _ => False) ∧
          (I xs.length → gSt ((mkHead ds S [] bs [] [] (BR xs.length) []).kills ds) (Q .norm))
    | _ => False
def gEx (P : Program) (c : Code) : GX :=
  Code.rec (motive := fun _ => GX)
    (fun S Q => Q .norm S)
    (fun _ ops draw => gRegion P ops draw)
    (fun _ _ ia ib => gSeq ia ib)
    (fun c _ _ ia ib => gCond c ia ib)
    (fun id _ ic => gBlock id ic)
    (fun c ic => gLoop c ic)
    (fun g ps assign body ia ib => gRange P g ps (dstsC assign) (dstsC body) ia ib)
    (fun id S Q => Q (.exit id) S)
    (fun _ _ _ _ => False)
    (fun _ S Q => Q .norm S)
    (fun _ _ _ => False)
    (fun S Q => Q .ret S)
    (fun _ _ _ => False) c
theorem gEx_eq (P : Program) : ∀ (c : Code), gEx P c = ex P c
  | .skip => by funext S Q; simp only [ex]; rfl
  | .region id ops draw => by
    funext S Q
    show gRegion P ops draw S Q = _
    unfold gRegion ex
    cases draw
    · simp only [gRun_eq, gSt_eq, fSt_eq]
    · simp only [gLex_eq, gSt_eq, fSt_eq]
  | .seq a b => by
    funext S Q
    show gSeq (gEx P a) (gEx P b) S Q = _
    rw [gEx_eq P a, gEx_eq P b]
    simp only [ex]
    rfl
  | .cond c a b => by
    funext S Q
    show gCond c (gEx P a) (gEx P b) S Q = _
    rw [gEx_eq P a, gEx_eq P b]
    simp only [ex]
    rfl
  | .block id c => by
    funext S Q
    show gBlock id (gEx P c) S Q = _
    rw [gEx_eq P c]
    simp only [ex]
    rfl
  | .loop c => by
    funext S Q
    show gLoop c (gEx P c) S Q = _
    rw [gEx_eq P c]
    simp only [ex]
    unfold gLoop
    simp only [gUnr_eq, gNs_eq, fNs_eq, gSt_eq, fSt_eq, gHead_eq]
    rfl
  | .rangeFunc g ps assign body => by
    funext S Q
    show gRange P g ps (dstsC assign) (dstsC body) (gEx P assign) (gEx P body) S Q = _
    rw [gEx_eq P assign, gEx_eq P body]
    simp only [ex]
    unfold gRange
    simp only [gNs_eq, fNs_eq, gSt_eq, fSt_eq, gHead_eq, gRows_eq, fRows_eq]
    rfl
  | .exit id => by funext S Q; simp only [ex]; rfl
  | .scope c => by funext S Q; simp only [ex]; rfl
  | .label l => by funext S Q; simp only [ex]; rfl
  | .goto l => by funext S Q; simp only [ex]; rfl
  | .ret => by funext S Q; simp only [ex]; rfl
  | .refuse w => by funext S Q; simp only [ex]; rfl
def gBody (P : Program) (fn : Func) (args : List AV) (res : AV) : Prop :=
  match fn.body with
  | none => False
  | some c => gSt ⟨args ++ List.replicate (fn.ntmps - args.length) .any, List.replicate fn.ntmps .none, .plain⟩ fun S => gEx P c S fun e S => match e with
    | .exit _ => False
    | _ => match retAV P S fn.results.toList with
      | some l => av3 (retOf l).fin fun v => v = res
      | none => False
theorem gBody_eq (P : Program) (fn : Func) (args : List AV) (res : AV) : gBody P fn args res = body P fn args res := by
  unfold gBody body
  simp only [gEx_eq, gSt_eq, fSt_eq, av3_eq, fAV_eq]
  rfl
theorem pc_of_bodyF {P : Program} (hm : P.follows .mixedOrders = true) {f : FuncId} {fn : Func} {args : List AV} {res : AV} (hf : P.funcs[f]? = some fn) (hname : (fn.name == "runtime.NumGoroutine") = false) (h : gBody P fn args res) : PC P f args res :=
  pc_of_body hm hf hname (by rw [← gBody_eq]; exact h)
def gBodyW (P : Program) (fn : Func) (args : List AV) (ins : List Row) (res : AV) (outs : List Row) : Prop :=
  match fn.body with
  | none => False
  | some c => (underL ins.length args && ins.all (fun r => underRow ins.length r && r.live) && Nat.ble args.length fn.ntmps) = true ∧
    gSt ⟨renL (List.range' fn.ntmps ins.length) args ++ List.replicate (fn.ntmps - args.length) .any, List.replicate fn.ntmps .none ++ ins.map (renRow (List.range' fn.ntmps ins.length)), .plain⟩ fun S => gEx P c S fun e S => match e with
    | .exit _ => False
    | _ => match retRaw P S fn.results.toList with
      | some l => ∃ news : List Nat, (nodupB (List.range' fn.ntmps ins.length ++ news) && Nat.beq outs.length (List.range' fn.ntmps ins.length ++ news).length && res.under outs.length && outs.all (underRow outs.length)) = true ∧
          av3 (retOf l).fin fun v => v = res.ren (List.range' fn.ntmps ins.length ++ news) ∧ (List.range' fn.ntmps ins.length ++ news).map S.row = outs.map (renRow (List.range' fn.ntmps ins.length ++ news))
      | none => False
theorem gBodyW_eq (P : Program) (fn : Func) (args : List AV) (ins : List Row) (res : AV) (outs : List Row) : gBodyW P fn args ins res outs = bodyW P fn args ins res outs := by
  unfold gBodyW bodyW
  simp only [gEx_eq, gSt_eq, fSt_eq, av3_eq, fAV_eq]
  rfl
theorem pw_of_bodyF {P : Program} (hm : P.follows .mixedOrders = true) {f : FuncId} {fn : Func} {args : List AV} {ins outs : List Row} {res : AV} (hf : P.funcs[f]? = some fn) (hname : (fn.name == "runtime.NumGoroutine") = false) (h : gBodyW P fn args ins res outs) : PW P f args ins res outs :=
  pw_of_body hm hf hname (by rw [← gBodyW_eq]; exact h)
def gBodyS (P : Program) (fn : Func) (caps : List AV) (xs : List (List AV)) : Prop :=
  match fn.body with
  | none => False
  | some c => Nat.ble (caps.length + 1) fn.ntmps = true ∧ ∀ l : Nat, gSt ⟨(.fn (.yield l) [] [] :: caps) ++ List.replicate (fn.ntmps - (caps.length + 1)) .any, List.replicate fn.ntmps .none ++ [.ctr l xs 0 false], .iter⟩ fun S => gEx P c S fun e S => match e with
    | .exit _ => False
    | _ => match retAV P S fn.results.toList with
      | some _ => match S.row S.t.length with
        | .ctr _ _ k e' => e' = false → k = xs.length
        | _ => False
      | none => False
theorem gBodyS_eq (P : Program) (fn : Func) (caps : List AV) (xs : List (List AV)) : gBodyS P fn caps xs = bodyS P fn caps xs := by
  unfold gBodyS bodyS
  simp only [gEx_eq, gSt_eq, fSt_eq]
  rfl
theorem sq_of_bodyF {P : Program} (hm : P.follows .mixedOrders = true) {f : FuncId} {fn : Func} {caps : List AV} {xs : List (List AV)} (hf : P.funcs[f]? = some fn) (hname : (fn.name == "runtime.NumGoroutine") = false) (h : gBodyS P fn caps xs) : SQ P f caps xs :=
  sq_of_body hm hf hname (by rw [← gBodyS_eq]; exact h)
end Go.Ev
/- Many slots given up at once. A helper text: it speaks of no program. -/
namespace Go.Ev
def namesAny (x : AV) : List Nat → Bool
  | [] => false
  | d :: l => match x.names d with
    | true => true
    | false => namesAny x l
def AV.plain1 : AV → Bool
  | .ptr _ _ _ _ => false
  | .own _ => false
  | .mem _ _ => false
  | .mptr _ _ _ => false
  | .agg _ => false
  | .tup _ => false
  | .fn _ _ _ => false
  | _ => true
def killsAV (ds : List Nat) (x : AV) : AV := match x.plain1 with
  | true => x
  | false => match namesAny x ds with
    | true => .any
    | false => x
theorem plain1_names {x : AV} (h : x.plain1 = true) (d : Nat) : x.names d = false := by
  cases x <;> simp [AV.plain1] at h <;> rfl
theorem plain1_any {x : AV} (h : x.plain1 = true) : ∀ ds, namesAny x ds = false
  | [] => rfl
  | d :: l => by simp only [namesAny]; rw [plain1_names h d]; exact plain1_any h l
theorem killsAV_eq (ds : List Nat) (x : AV) : killsAV ds x = match namesAny x ds with
    | true => .any
    | false => x := by
  unfold killsAV
  cases h : x.plain1 with
  | false => rfl
  | true => rw [plain1_any h ds]
theorem killsAV_any (ds : List Nat) : killsAV ds .any = .any := rfl
theorem killsAV_cons (d : Nat) (l : List Nat) (x : AV) : killsAV l (killAV d x) = killsAV (d :: l) x := by
  rw [killsAV_eq (d :: l) x]
  unfold killAV
  simp only [namesAny]
  cases h : x.names d with
  | true => exact killsAV_any l
  | false => exact killsAV_eq l x
def killsRow (ds : List Nat) : Row → Row
  | .none => .none
  | .cells ty cs => .cells ty (cs.map (killsAV ds))
  | .lit ty sz css => .lit ty sz (css.map fun cs => cs.map (killsAV ds))
  | .vec ty sz e enc l => .vec ty sz e enc l
  | .ctr l xs k e => .ctr l xs k e
  | .nest ty sz j0 ty' e enc ys ho l => .nest ty sz j0 ty' e enc ys ho l
theorem killsRow_cons (d : Nat) (l : List Nat) (r : Row) : killsRow l (killRow d r) = killsRow (d :: l) r := by
  cases r <;> simp only [killsRow, killRow, List.map_map, Row.cells.injEq, Row.lit.injEq, true_and]
  · refine List.map_congr_left fun x _ => ?_
    exact killsAV_cons d l x
  · refine List.map_congr_left fun x _ => ?_
    simp only [Function.comp, List.map_map]
    refine List.map_congr_left fun y _ => ?_
    exact killsAV_cons d l y
def noneAt : List Nat → List Row → List Row
  | [], h => h
  | d :: l, h => noneAt l (h.set d .none)
theorem killsAV_nil (x : AV) : killsAV [] x = x := by
  rw [killsAV_eq]
  rfl
theorem killsRow_nil (r : Row) : killsRow [] r = r := by
  have e : killsAV [] = id := funext killsAV_nil
  cases r <;> simp [killsRow, e]
theorem kills_eq : ∀ (l : List Nat) (S : St), S.kills l = ⟨S.t.map (killsAV l), noneAt l (S.h.map (killsRow l)), S.n⟩
  | [], S => by
    have e : killsAV [] = id := funext killsAV_nil
    have e2 : killsRow [] = id := funext killsRow_nil
    simp only [St.kills, noneAt]
    rw [e, e2, List.map_id, List.map_id]
  | d :: l, S => by
    simp only [St.kills]
    rw [kills_eq l]
    simp only [St.kill, List.map_map]
    have e : killsAV l ∘ killAV d = killsAV (d :: l) := funext fun x => killsAV_cons d l x
    have e2 : killsRow l ∘ killRow d = killsRow (d :: l) := funext fun x => killsRow_cons d l x
    rw [e, List.map_set, List.map_map, e2]
    rfl
def memB (i : Nat) : List Nat → Bool
  | [] => false
  | d :: l => match Nat.beq d i with
    | true => true
    | false => memB i l
def killRowAt (ds : List Nat) (i : Nat) : Row → Row
  | .none => .none
  | .cells ty cs => match memB i ds with
    | true => .none
    | false => .cells ty (cs.map (killsAV ds))
  | r => match memB i ds with
    | true => .none
    | false => killsRow ds r
def rowsW (ds : List Nat) : Nat → List Row → List Row
  | _, [] => []
  | i, r :: h => killRowAt ds i r :: rowsW ds (i + 1) h
theorem killRowAt_eq (ds : List Nat) (i : Nat) (r : Row) : killRowAt ds i r = if memB i ds = true then .none else killsRow ds r := by
  cases r <;> simp only [killRowAt, killsRow] <;> cases memB i ds <;> simp
theorem memB_cons (i d : Nat) (l : List Nat) : memB i (d :: l) = (Nat.beq d i || memB i l) := by
  simp only [memB]
  cases Nat.beq d i <;> rfl
theorem noneAt_get : ∀ (l : List Nat) (h : List Row) (j : Nat), (noneAt l h)[j]? = (h[j]?).map fun r => if memB j l = true then .none else r
  | [], h, j => by simp [noneAt, memB]
  | d :: l, h, j => by
    simp only [noneAt]
    rw [noneAt_get l, List.getElem?_set]
    by_cases e : d = j
    · subst e
      by_cases hl : d < h.length
      · have hb : memB d (d :: l) = true := by rw [memB_cons]; simp
        simp [hl, hb]
      · simp [hl]
    · have hb : memB j (d :: l) = memB j l := by
        rw [memB_cons]
        have : Nat.beq d j = false := by
          cases hx : Nat.beq d j with
          | false => rfl
          | true => exact absurd (Nat.eq_of_beq_eq_true hx) e
        rw [this]; rfl
      rw [hb, if_neg e]
theorem rowsW_get (ds : List Nat) : ∀ (h : List Row) (i j : Nat), (rowsW ds i h)[j]? = (h[j]?).map (killRowAt ds (i + j))
  | [], i, j => by simp [rowsW]
  | r :: h, i, 0 => by simp [rowsW]
  | r :: h, i, j + 1 => by
    simp only [rowsW, List.getElem?_cons_succ]
    rw [rowsW_get ds h, show i + 1 + j = i + (j + 1) by omega]
theorem rowsW_eq (l : List Nat) (h : List Row) : noneAt l (h.map (killsRow l)) = rowsW l 0 h := by
  refine List.ext_getElem? fun j => ?_
  rw [noneAt_get, rowsW_get, List.getElem?_map]
  cases h[j]? with
  | none => rfl
  | some r => simp only [Option.map_some, Nat.zero_add]; rw [killRowAt_eq]
end Go.Ev
/- Many slots given up at once, for the executor by recursors. A helper text: it speaks of no program. -/
namespace Go.Ev
theorem gSk_mp {l : List Nat} {S : St} {K : St → Prop} (h : gSt S fun S => gSt ⟨S.t.map (killsAV l), rowsW l 0 S.h, S.n⟩ K) : gSt (S.kills l) K := by
  rw [gSt_eq, gSt_eq] at h
  rw [gSt_eq, kills_eq, rowsW_eq]
  exact h
theorem round_mpF {xs : List (List AV)} {I : Nat → Prop} {A : Nat → St} {ds : List Nat} {K : Nat → List AV → St → Prop} {m : Nat} {f : Nat → List AV} (hx : ∀ k x, xs[k]? = some x → k < m ∧ x = f k)
    (h : ∀ k, k < m → I k → gSt (A k) fun S => gSt ⟨S.t.map (killsAV ds), rowsW ds 0 S.h, S.n⟩ (K k (f k))) : ∀ k x, I k → xs[k]? = some x → gSt ((A k).kills ds) (K k x) := by
  intro k x hk hxk
  obtain ⟨h1, rfl⟩ := hx k x hxk
  exact gSk_mp (h k h1 hk)
theorem done_mpF {R : Prop} {l : List Nat} {S : St} {K : St → Prop} (h : R → gSt S fun S => gSt ⟨S.t.map (killsAV l), rowsW l 0 S.h, S.n⟩ K) : R → gSt (S.kills l) K := fun r => gSk_mp (h r)
end Go.Ev
