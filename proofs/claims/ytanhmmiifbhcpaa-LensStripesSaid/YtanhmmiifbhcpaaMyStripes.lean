/- A helper text: contracts of functions of the program, and plain lemmas. -/
import Derived.Test.YtanhmmiifbhcpaaEvU
import Derived.Test.YtanhmmiifbhcpaaChecked
set_option maxRecDepth 100000
set_option maxHeartbeats 0
namespace Go.Proofs.Try.My
open Go Go.Ev
theorem hm : Try.prog.follows .mixedOrders = true := by kernel_rfl

def outB (lo hi n : Int) : Bool := decide (n < lo) || decide (hi < n)
theorem pc_from1 (n lo hi : Int) : PC Try.prog 70 [i64 n, .pt [i64 lo] 0, .pt [i64 hi] 0] (.bool (outB lo hi n)) := by
  refine pc_of_body hm Try.func70 (by kernel_rfl) ?_
  conv => whnf
  refine ⟨fun h => ?_, fun h => ?_⟩ <;> ((conv => whnf); simp_all [-decide_eq_true_eq, -decide_eq_false_iff_not, outB])

theorem pc_IndexFunc_from (l : List Int) (lo hi : Int) (hl : l.length < 2 ^ 40) : PC Try.prog 102 [ints l, .fn (.func 70) [] [.pt [i64 lo] 0, .pt [i64 hi] 0]] (i64 (ixF (outB lo hi) l)) := by
  refine pc_of_body hm Try.func102 (by kernel_rfl) ?_
  conv => whnf
  refine Or.inr ⟨Nat, [8], [], [], fun k => [i64 k], fun _ => [], fun _ => [], fun k => l.length - k, fun k => k ≤ l.length ∧ ∀ i, i < k → outB lo hi (l.getD i 0) = false, ?_⟩
  (conv => whnf)
  refine ⟨⟨0, ?_⟩, ?_⟩
  · (conv => whnf)
    exact ⟨⟨by simp, rfl, rfl, rfl⟩, by kernel_rfl, by kernel_rfl⟩
  · intro k hk
    (conv => whnf)
    refine ⟨fun h => ?_, fun h => ?_⟩
    · have h := of_decide_eq_true h
      (conv => whnf)
      refine ⟨⟨by omega, by omega⟩, ?_⟩
      (conv => whnf)
      refine ⟨_, pc_from1 _ _ _, ?_⟩
      (conv => whnf)
      refine ⟨fun h2 => ?_, fun h2 => ?_⟩
      · (conv => whnf)
        exact congrArg i64 (ixF_hit _ 0 l k (by omega) h2 hk.2).symm
      · refine ⟨k + 1, ?_⟩
        (conv => whnf)
        refine ⟨⟨⟨?_, ?_, ?_⟩, ?_, rfl, rfl⟩, by kernel_rfl, by kernel_rfl⟩
        · show l.length - (k + 1) < l.length - k; omega
        · omega
        · intro i hi
          by_cases e : i = k
          · subst e; exact h2
          · exact hk.2 i (by omega)
        · rw [w64 _ (by omega) (by omega)]; rfl
    · have h := of_decide_eq_false h
      (conv => whnf)
      exact congrArg i64 (ixF_none _ 0 l fun i hi => hk.2 i (by omega)).symm

theorem pc_ContainsFunc_from (l : List Int) (lo hi : Int) (hl : l.length < 2 ^ 40) : PC Try.prog 65 [ints l, .fn (.func 70) [] [.pt [i64 lo] 0, .pt [i64 hi] 0]] (.bool (l.any (outB lo hi))) := by
  refine pc_of_body hm Try.func65 (by kernel_rfl) ?_
  conv => whnf
  refine ⟨_, pc_IndexFunc_from l lo hi hl, ?_⟩
  (conv => whnf)
  rw [ixF_any]

theorem pc_from (lo hi : Int) (l : List Int) (hl : l.length < 2 ^ 40) : PC Try.prog 35 [i64 lo, i64 hi, ints l] (.bool (!l.any (outB lo hi))) := by
  refine pc_of_body hm Try.func35 (by kernel_rfl) ?_
  conv => whnf
  exact ⟨_, pc_ContainsFunc_from l lo hi hl, rfl⟩
theorem pc_fromL (lo hi : Int) (l : List Int) (hl : l.length < 2 ^ 40) : PC Try.prog 35 [i64 lo, i64 hi, .slc 1 (l.map eI)] (.bool (!l.any (outB lo hi))) :=
  PC.last (args := [i64 lo, i64 hi]) (pc_from lo hi l hl) (.slc 1 0 eI l)

def withB (n lo hi : Int) : Bool := decide (lo ≤ n) && decide (n ≤ hi)
theorem pc_within (n lo hi : Int) : PC Try.prog 36 [i64 n, i64 lo, i64 hi] (.bool (withB n lo hi)) := by
  refine pc_of_body hm Try.func36 (by kernel_rfl) ?_
  conv => whnf
  refine ⟨fun h => ?_, fun h => ?_⟩ <;> ((conv => whnf); simp_all [-decide_eq_true_eq, -decide_eq_false_iff_not, withB])

def grayF (k : Int) : Int := bits .xor .i64 k (k.fdiv 2)
def codeF (k : Int) : Int := bits .xor .i64 k (IntKind.i64.wrap (k.tdiv 2))
theorem pc_lensGray (k : Int) : PC Try.prog 8 [i64 k] (.tup [i64 (if outB 0 255 k then 0 else grayF k), i64 (if outB 0 255 k then 2 else 0)]) := by
  refine pc_of_body hm Try.func8 (by kernel_rfl) ?_
  conv => whnf
  refine ⟨false, ?_⟩
  (conv => whnf)
  refine ⟨_, pc_fromL 0 255 [k] (by simp), ?_⟩
  (conv => whnf)
  refine ⟨fun h => ?_, fun h => ?_⟩
  · (conv => whnf)
    have h : outB 0 255 k = true := by simpa using h
    rw [h]; rfl
  · (conv => whnf)
    have h : outB 0 255 k = false := by simpa using h
    rw [h]; rfl
theorem pc_code (k : Int) : PC Try.prog 37 [i64 k] (i64 (codeF k)) := by
  refine pc_of_body hm Try.func37 (by kernel_rfl) ?_
  conv => whnf
  rfl
theorem pc_refGray (k : Int) : PC Try.prog 9 [i64 k] (.tup [i64 (if withB k 0 255 then codeF k else 0), i64 (if withB k 0 255 then 0 else 2)]) := by
  refine pc_of_body hm Try.func9 (by kernel_rfl) ?_
  conv => whnf
  refine ⟨_, pc_within k 0 255, ?_⟩
  (conv => whnf)
  refine ⟨fun h => ?_, fun h => ?_⟩
  · have h : withB k 0 255 = false := by simpa using h
    (conv => whnf)
    rw [h]; rfl
  · have h : withB k 0 255 = true := by simpa using h
    (conv => whnf)
    refine ⟨_, pc_code k, ?_⟩
    (conv => whnf)
    rw [h]; rfl
theorem pc_values (l : List Int) (hl : l.length < 2 ^ 40) : PC Try.prog 38 [ints l] (.bool (decide (∀ i, i < l.length → withB (l.getD i 0) 0 255 = true))) := by
  refine pc_of_body hm Try.func38 (by kernel_rfl) ?_
  conv => whnf
  refine Or.inr ⟨Nat, [3], [], [], fun k => [i64 k], fun _ => [], fun _ => [], fun k => l.length - k, fun k => k ≤ l.length ∧ ∀ i, i < k → withB (l.getD i 0) 0 255 = true, ?_⟩
  (conv => whnf)
  refine ⟨⟨0, ?_⟩, ?_⟩
  · (conv => whnf)
    exact ⟨⟨by simp, rfl, rfl, rfl⟩, by kernel_rfl, by kernel_rfl⟩
  · intro k hk
    (conv => whnf)
    refine ⟨fun h => ?_, fun h => ?_⟩
    · have h := of_decide_eq_true h
      (conv => whnf)
      refine ⟨⟨by omega, by omega⟩, ?_⟩
      (conv => whnf)
      refine ⟨_, pc_within _ _ _, ?_⟩
      (conv => whnf)
      refine ⟨fun h2 => ?_, fun h2 => ?_⟩
      · (conv => whnf)
        congr 1
        refine (decide_eq_false fun h3 => ?_).symm
        have := h3 k (by omega)
        simp_all
      · refine ⟨k + 1, ?_⟩
        (conv => whnf)
        refine ⟨⟨⟨?_, ?_, ?_⟩, ?_, rfl, rfl⟩, by kernel_rfl, by kernel_rfl⟩
        · show l.length - (k + 1) < l.length - k; omega
        · omega
        · intro i hi
          by_cases e : i = k
          · subst e; simpa using h2
          · exact hk.2 i (by omega)
        · rw [w64 _ (by omega) (by omega)]; rfl
    · have h := of_decide_eq_false h
      (conv => whnf)
      congr 1
      exact (decide_eq_true fun i hi => hk.2 i (by omega)).symm
theorem pc_SameInts (a b : List Int) (ha : a.length < 2 ^ 40) (hb : b.length < 2 ^ 40) : PC Try.prog 12 [ints a, ints b] (.bool (decide (a = b))) := by
  refine pc_of_body hm Try.func12 (by kernel_rfl) ?_
  conv => whnf
  refine ⟨fun h => ?_, fun h => ?_⟩
  · (conv => whnf)
    congr 1
    refine (decide_eq_false fun e => ?_).symm
    subst e; simp at h
  have hab : a.length = b.length := by simp at h; omega
  (conv => whnf)
  refine Or.inr ⟨Nat, [5], [], [], fun k => [i64 k], fun _ => [], fun _ => [], fun k => a.length - k, fun k => k ≤ a.length ∧ ∀ i, i < k → a.getD i 0 = b.getD i 0, ?_⟩
  (conv => whnf)
  refine ⟨⟨0, ?_⟩, ?_⟩
  · (conv => whnf)
    exact ⟨⟨by simp, rfl, rfl, rfl⟩, by kernel_rfl, by kernel_rfl⟩
  · intro k hk
    (conv => whnf)
    refine ⟨fun h => ?_, fun h => ?_⟩
    · have h := of_decide_eq_true h
      (conv => whnf)
      refine ⟨by kernel_rfl, ?_⟩
      (conv => whnf)
      refine ⟨⟨by omega, by omega⟩, ?_⟩
      (conv => whnf)
      refine ⟨⟨by omega, by omega⟩, ?_⟩
      (conv => whnf)
      refine ⟨by kernel_rfl, ?_⟩
      (conv => whnf)
      refine ⟨fun h2 => ?_, fun h2 => ?_⟩
      · (conv => whnf)
        congr 1
        refine (decide_eq_false fun h3 => ?_).symm
        subst h3
        simp at h2
      · refine ⟨k + 1, ?_⟩
        (conv => whnf)
        refine ⟨⟨⟨?_, ?_, ?_⟩, ?_, rfl, rfl⟩, by kernel_rfl, by kernel_rfl⟩
        · show a.length - (k + 1) < a.length - k; omega
        · omega
        · intro i hi
          by_cases e : i = k
          · subst e; simpa using h2
          · exact hk.2 i (by omega)
        · rw [w64 _ (by omega) (by omega)]; rfl
    · have h := of_decide_eq_false h
      (conv => whnf)
      congr 1
      refine (decide_eq_true ?_).symm
      refine List.ext_getElem hab fun i h1 h2 => ?_
      have := hk.2 i (by omega)
      simpa [List.getD, h1, h2] using this
end Go.Proofs.Try.My
