/- A helper text: contracts of functions of the program, and plain lemmas. -/
import Derived.Test.YtblmmhmdnnnidaaGreatEvSix
import Derived.Test.YtblmmhmdnnnidaaGreatChecked
set_option maxRecDepth 100000
set_option maxHeartbeats 0
set_option linter.unusedVariables false
set_option linter.unusedSimpArgs false
namespace Go.Proofs.Tryz.My
open Go Go.Ev
theorem hmS : Tryz.prog.follows .mixedOrders = true := by kernel_rfl
theorem pc_SameInts (a b : List Int) (ha : a.length < 2 ^ 40) (hb : b.length < 2 ^ 40) : PC Tryz.prog 8 [ints a, ints b] (.bool (decide (a = b))) := by
  refine pc_of_body hmS Tryz.func8 (by kernel_rfl) ?_
  (conv => whnf)
  refine ⟨fun h => ?_, fun h => ?_⟩
  · (conv => whnf)
    congr 1
    refine (decide_eq_false fun e => ?_).symm
    subst e; simp at h
  have hab : a.length = b.length := by simp at h; omega
  (conv => whnf)
  refine Or.inr ⟨Nat, [5], [], [], fun k => [i64 k], fun _ => [], fun _ => [], fun k => a.length - k, fun k => k ≤ a.length ∧ ∀ i, i < k → a.getD i 0 = b.getD i 0, ?_⟩
  (conv => whnf)
  refine ⟨⟨0, ?_⟩, ?_⟩
  · (conv => whnf)
    exact ⟨⟨by simp, rfl, rfl, rfl⟩, by kernel_rfl, by kernel_rfl⟩
  · intro k hk
    (conv => whnf)
    refine ⟨fun h => ?_, fun h => ?_⟩
    · have h := of_decide_eq_true h
      (conv => whnf)
      refine ⟨by kernel_rfl, ?_⟩
      (conv => whnf)
      refine ⟨⟨by omega, by omega⟩, ?_⟩
      (conv => whnf)
      refine ⟨⟨by omega, by omega⟩, ?_⟩
      (conv => whnf)
      refine ⟨by kernel_rfl, ?_⟩
      (conv => whnf)
      refine ⟨fun h2 => ?_, fun h2 => ?_⟩
      · (conv => whnf)
        congr 1
        refine (decide_eq_false fun h3 => ?_).symm
        subst h3
        simp at h2
      · refine ⟨k + 1, ?_⟩
        (conv => whnf)
        refine ⟨⟨⟨?_, ?_, ?_⟩, ?_, rfl, rfl⟩, by kernel_rfl, by kernel_rfl⟩
        · show a.length - (k + 1) < a.length - k; omega
        · omega
        · intro i hi
          by_cases e : i = k
          · subst e; simpa using h2
          · exact hk.2 i (by omega)
        · rw [w64 _ (by omega) (by omega)]; rfl
    · have h := of_decide_eq_false h
      (conv => whnf)
      congr 1
      refine (decide_eq_true ?_).symm
      refine List.ext_getElem hab fun i h1 h2 => ?_
      have := hk.2 i (by omega)
      simpa [List.getD, h1, h2] using this
theorem pc_SameInts_nils : PC Tryz.prog 8 [.nils, .nils] (.bool true) := by
  have h := pc_SameInts [] [] (by simp) (by simp)
  have e : decide (([] : List Int) = []) = true := rfl
  rw [e] at h
  refine h.sub rfl (fun i hi => ?_) (.refl _)
  match i, hi with
  | 0, _ => exact .nils 1 0 eI
  | 1, _ => exact .nils 1 0 eI
theorem pc_Same (a : List Int) (ha : a.length < 2 ^ 40) : PC Tryz.prog 8 [ints a, ints a] (.bool true) := by
  have := pc_SameInts a a ha ha
  rwa [decide_eq_true rfl] at this
end Go.Proofs.Tryz.My
