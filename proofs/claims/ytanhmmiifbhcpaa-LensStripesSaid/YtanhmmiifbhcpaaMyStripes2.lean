/- A helper text: contracts of functions of the program, and plain lemmas. -/
import Derived.Test.YtanhmmiifbhcpaaMyStripes
set_option maxRecDepth 100000
set_option maxHeartbeats 0
namespace Go.Proofs.Try.My
open Go Go.Ev

def bitAt (n i k : Int) : Int := ((codeF k).fdiv (2 ^ (n - 1 - i).toNat)).tmod 2
def okAt (on off : List Int) (noise k : Int) (i : Nat) : Prop := ¬ (bitAt on.length i k = 0 ∧ 2 * noise < on.getD i 0 - off.getD i 0 ∨ bitAt on.length i k = 1 ∧ 2 * noise < off.getD i 0 - on.getD i 0)
instance (on off : List Int) (noise k : Int) (i : Nat) : Decidable (okAt on off noise k i) := by unfold okAt; infer_instance
theorem bitAt_eq (n i k : Int) (h0 : 0 ≤ i) (h1 : i < n) (h2 : n ≤ 50) : ((codeF k).fdiv (2 ^ min (IntKind.u64.wrap (IntKind.i64.wrap (IntKind.i64.wrap (n - 1) - i))).toNat IntKind.i64.bits)).tmod 2 = bitAt n i k := by
  rw [w64 (n - 1) (by omega) (by omega), w64 _ (by omega) (by omega), wu64 _ (by omega) (by omega)]
  have : min (n - 1 - i).toNat IntKind.i64.bits = (n - 1 - i).toNat := by show min _ 64 = _; omega
  rw [this]
  rfl
theorem pc_may (on off : List Int) (noise k : Int) (hl : on.length ≤ 50) (ho : off.length = on.length) (hn : 0 ≤ noise ∧ noise ≤ 64) (hon : ∀ i, i < on.length → withB (on.getD i 0) 0 255 = true) (hoff : ∀ i, i < off.length → withB (off.getD i 0) 0 255 = true) :
    PC Try.prog 39 [ints on, ints off, i64 noise, i64 k] (.bool (decide (∀ i, i < on.length → okAt on off noise k i))) := by
  refine pc_of_body hm Try.func39 (by kernel_rfl) ?_
  conv => whnf
  refine Or.inr ⟨Nat, [10], [], [], fun k => [i64 k], fun _ => [], fun _ => [], fun k => on.length - k, fun j => j ≤ on.length ∧ ∀ i, i < j → okAt on off noise k i, ?_⟩
  (conv => whnf)
  refine ⟨⟨0, ?_⟩, ?_⟩
  · (conv => whnf)
    exact ⟨⟨by simp, rfl, rfl, rfl⟩, by kernel_rfl, by kernel_rfl⟩
  · intro i hi
    (conv => whnf)
    refine ⟨fun h => ?_, fun h => ?_⟩
    · have h := of_decide_eq_true h
      (conv => whnf)
      refine ⟨_, pc_code _, ?_⟩
      (conv => whnf)
      have hb := bitAt_eq on.length i k (by omega) h (by omega)
      have a1 := hon i (by omega)
      have a2 := hoff i (by omega)
      simp only [withB, Bool.and_eq_true, decide_eq_true_eq] at a1 a2
      have d1 : IntKind.i64.wrap (on.getD (i : Int).toNat 0 - off.getD (i : Int).toNat 0) = on.getD i 0 - off.getD i 0 := w64 (on.getD i 0 - off.getD i 0) (by omega) (by omega)
      have d2 : IntKind.i64.wrap (off.getD (i : Int).toNat 0 - on.getD (i : Int).toNat 0) = off.getD i 0 - on.getD i 0 := w64 (off.getD i 0 - on.getD i 0) (by omega) (by omega)
      have d3 : IntKind.i64.wrap (2 * noise) = 2 * noise := w64 _ (by omega) (by omega)
      have key : okAt on off noise k i ↔ ¬ (bitAt on.length i k = 0 ∧ 2 * noise < on.getD i 0 - off.getD i 0 ∨ bitAt on.length i k = 1 ∧ 2 * noise < off.getD i 0 - on.getD i 0) := .rfl
      have next : okAt on off noise k i → ∀ j, j < i + 1 → okAt on off noise k j := fun h j hj => by
        by_cases e : j = i
        · subst e; exact h
        · exact hi.2 j (by omega)
      have wi : IntKind.i64.wrap (i + 1) = i + 1 := w64 _ (by omega) (by omega)
      refine ⟨?_, ?_⟩
      · rw [w64 (_ - 1) (by omega) (by omega), w64 _ (by omega) (by omega), wu64 _ (by omega) (by omega)]; omega
      (conv => whnf)
      rw [hb]
      (repeat' (first | (refine And.intro (a := _ = true → _) (b := _ = false → _) (fun hh => ?_) (fun hh => ?_) <;> (first | simp only [decide_eq_true_eq, decide_eq_false_iff_not, Bool.or_eq_true, Bool.and_eq_true, Bool.or_eq_false_iff, Bool.and_eq_false_iff, Bool.not_eq_true', Bool.not_eq_false', ge_iff_le, gt_iff_lt] at hh | skip) <;> (first | (exfalso; omega) | (exfalso; simp [*] at hh; done) | exact absurd (by assumption) hh | (conv => whnf))) | (refine ⟨by kernel_rfl, ?_⟩; (conv => whnf)) | (refine And.intro (a := _ ∧ _) ⟨by omega, by omega⟩ ?_; (conv => whnf)) | (refine And.intro (a := _ ≤ _) (by omega) ?_; (conv => whnf)) | (refine And.intro (a := _ ≠ _) (by omega) ?_; (conv => whnf))))
      all_goals first
        | (refine congrArg AV.bool (decide_eq_false fun h3 => ?_).symm
           have := key.1 (h3 i (by omega))
           omega)
        | (refine ⟨i + 1, ?_⟩
           (conv => whnf)
           refine ⟨⟨⟨Nat.sub_lt_sub_left (by omega) (Nat.lt_succ_self i), ⟨by omega, next (key.2 (by omega))⟩⟩, by rw [wi]; rfl, rfl, rfl⟩, by kernel_rfl, by kernel_rfl⟩)
    · have h := of_decide_eq_false h
      (conv => whnf)
      congr 1
      refine (decide_eq_true ?_).symm
      intro j hj
      exact hi.2 j (by omega)
end Go.Proofs.Try.My
