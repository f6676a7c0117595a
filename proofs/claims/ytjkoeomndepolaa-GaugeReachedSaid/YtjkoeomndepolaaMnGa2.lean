/- A helper text: contracts of functions of the program, and plain lemmas. -/
import Derived.Test.YtjkoeomndepolaaMnGa1
import Derived.Test.YtjkoeomndepolaaMnGw
set_option maxRecDepth 100000
set_option maxHeartbeats 0
set_option linter.unusedVariables false
set_option linter.unusedSimpArgs false
namespace Go.Proofs.Try.My
open Go Go.Ev

/-- What the ways of a profile yield. -/
def wayL (n : Nat) (a d : Int) : List (List AV) := (List.range (stepsN n a d)).map fun (k : Nat) => [i64 (a + d * k)]
theorem wayL_get (n : Nat) (a d : Int) (k : Nat) : (wayL n a d)[k]? = if k < stepsN n a d then some [i64 (a + d * k)] else none := by
  unfold wayL
  rw [List.getElem?_map]
  by_cases h : k < stepsN n a d <;> simp [h]
theorem sq_ways (n : Nat) (a d : Int) (ha : 0 ≤ a) (hn : a < n) (hl : n < 2 ^ 40) (hd : ways1 d) : SQ Try.prog 133 [.pt [i64 a] 0, .pt [i64 n] 0, .pt [i64 d] 0] (wayL n a d) := by
  have hs : stepsN n a d ≤ n := by unfold stepsN; rcases hd with rfl | rfl <;> simp <;> omega
  have step : ∀ k : Nat, (k < stepsN n a d ↔ 0 ≤ a + d * k ∧ a + d * k < n) ∧ (a + d * k + d = a + d * ((k + 1 : Nat) : Int)) := by
    intro k
    constructor
    · unfold stepsN
      rcases hd with rfl | rfl <;> simp <;> omega
    · rcases hd with rfl | rfl <;> omega
  have hget := wayL_get n a d
  have hlen : (wayL n a d).length = stepsN n a d := by simp [wayL]
  generalize wayL n a d = xs at *
  generalize stepsN n a d = m at *
  refine sq_of_body hm Try.func133 (by kernel_rfl) ⟨by kernel_rfl, fun l => ?_⟩
  conv => whnf
  refine Or.inr ⟨Nat, [5], [22], [], fun k => [i64 (a + d * k)], fun k => [.ctr l xs k false], fun _ => [], fun k => m - k, fun k => k ≤ m, ?_⟩
  (conv => whnf)
  refine ⟨⟨0, ?_⟩, ?_⟩
  · (conv => whnf)
    refine ⟨⟨Nat.zero_le _, ?_, rfl, rfl⟩, by kernel_rfl, by kernel_rfl⟩
    show [i64 a] = [i64 (a + d * ((0 : Nat) : Int))]
    simp
  · intro k hk
    have st := step k
    (conv => whnf)
    refine ⟨fun h => ?_, fun h => ?_⟩
    · have h := of_decide_eq_true h
      (conv => whnf)
      refine ⟨fun h2 => ?_, fun h2 => ?_⟩
      · have h2 := of_decide_eq_true h2
        have hkm := st.1.2 ⟨h, h2⟩
        (conv => whnf)
        refine ⟨⟨rfl, by exact (hget k).trans (by rw [if_pos hkm]; rfl), by kernel_rfl⟩, ?_, ?_⟩
        · (conv => whnf)
          refine ⟨k + 1, ?_⟩
          (conv => whnf)
          refine ⟨⟨⟨Nat.sub_lt_sub_left (by omega) (Nat.lt_succ_self k), by omega⟩, ?_, rfl, rfl⟩, by kernel_rfl, by kernel_rfl⟩
          rw [w64 _ (by rcases hd with rfl | rfl <;> omega) (by rcases hd with rfl | rfl <;> omega), st.2]
        · (conv => whnf)
          intro h; cases h
      · have h2 := of_decide_eq_false h2
        (conv => whnf)
        intro _
        rw [hlen]
        have := mt st.1.1 (fun k => h2 k.2)
        omega
    · have h := of_decide_eq_false h
      (conv => whnf)
      intro _
      rw [hlen]
      have := mt st.1.1 (fun k => h k.1)
      omega
end Go.Proofs.Try.My
