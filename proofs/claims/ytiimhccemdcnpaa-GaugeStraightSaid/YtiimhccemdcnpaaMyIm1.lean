/- A helper text: contracts of functions of the program, and plain lemmas. -/
import Derived.Test.YtiimhccemdcnpaaEvSix
import Derived.Test.YtiimhccemdcnpaaMyGa1
import Derived.Test.YtiimhccemdcnpaaMyExA
set_option maxRecDepth 100000
set_option maxHeartbeats 0
set_option linter.unusedVariables false
set_option linter.unusedSimpArgs false
namespace Go.Proofs.Try.My
open Go Go.Ev

/-! ### Images -/
theorem pc_imwithin (lo hi : Int) (l : List Int) (hl : l.length < 2 ^ 40) : PC Try.prog 63 [i64 lo, i64 hi, ints l] (.bool (l.all fun n => withB n lo hi)) := by
  have bad : ∀ k, k < l.length → withB (l.getD k 0) lo hi = false → (l.all fun n => withB n lo hi) = false := fun k hk h => by
    rw [List.all_eq_false]
    refine ⟨l.getD k 0, ?_, by rw [h]; decide⟩
    simp only [List.getD, List.getElem?_eq_getElem hk, Option.getD_some]
    exact List.getElem_mem hk
  have good : (∀ j, j < l.length → withB (l.getD j 0) lo hi = true) → (l.all fun n => withB n lo hi) = true := fun h => by
    rw [List.all_eq_true]
    intro v hm
    obtain ⟨i, hi, rfl⟩ := List.getElem_of_mem hm
    have := h i hi
    simpa [List.getD, List.getElem?_eq_getElem hi] using this
  refine pc_of_bodyF hm Try.func63 (by kernel_rfl) ?_
  conv => whnf
  refine Or.inr ⟨Nat, [11], [], [], fun i => [i64 i], fun _ => [], fun _ => [], fun i => l.length - i, fun i => i ≤ l.length ∧ ∀ j, j < i → withB (l.getD j 0) lo hi = true, ?_⟩
  (conv => whnf)
  refine ⟨⟨0, ?_⟩, ?_⟩
  · (conv => whnf)
    exact ⟨⟨⟨Nat.zero_le _, fun j hj => absurd hj (Nat.not_lt_zero j)⟩, rfl, rfl, rfl⟩, by kernel_rfl, by kernel_rfl⟩
  · intro k ⟨hk, hlow⟩
    (conv => whnf)
    refine ⟨fun h => ?_, fun h => ?_⟩
    · have h := of_decide_eq_true h
      have h' : k < l.length := by omega
      have bad := bad k h'
      have e0 : l.getD (Int.toNat (k : Int)) 0 = l.getD k 0 := rfl
      have hw : withB (l.getD k 0) lo hi = (decide (lo ≤ l.getD k 0) && decide (l.getD k 0 ≤ hi)) := rfl
      (conv => whnf)
      (repeat' (first | (refine ⟨by kernel_rfl, ?_⟩; (conv => whnf)) | (refine And.intro (a := _ ∧ _) ⟨by omega, by omega⟩ ?_; (conv => whnf))))
      by_cases c1 : l.getD k 0 < lo
      · have bad := bad (by rw [hw, decide_eq_false (by omega)]; rfl)
        refine ⟨fun _ => ?_, fun h => absurd c1 (of_decide_eq_false h)⟩
        (conv => whnf)
        (repeat' (first | (refine ⟨by kernel_rfl, ?_⟩; (conv => whnf)) | (refine ⟨fun _ => ?_, fun h => absurd h (by first | decide | (simp; done) | fail)⟩; (conv => whnf)) | (refine ⟨fun h => absurd h (by first | decide | (simp; done) | fail), fun _ => ?_⟩; (conv => whnf)) | fail))
        first | rfl | (rw [bad]) | set_option pp.maxSteps 300 in trace_state
      · refine ⟨fun h => absurd (of_decide_eq_true h) c1, fun _ => ?_⟩
        (conv => whnf)
        (repeat' (first | (refine ⟨by kernel_rfl, ?_⟩; (conv => whnf)) | (refine ⟨fun _ => ?_, fun h => absurd h (by first | decide | (simp; done) | fail)⟩; (conv => whnf)) | (refine ⟨fun h => absurd h (by first | decide | (simp; done) | fail), fun _ => ?_⟩; (conv => whnf)) | fail))
        by_cases c2 : l.getD k 0 > hi
        · have bad := bad (by rw [hw, decide_eq_false (show ¬ l.getD k 0 ≤ hi by omega), Bool.and_false])
          refine ⟨fun _ => ?_, fun h => absurd c2 (of_decide_eq_false h)⟩
          (conv => whnf)
          (repeat' (first | (refine ⟨by kernel_rfl, ?_⟩; (conv => whnf)) | (refine ⟨fun _ => ?_, fun h => absurd h (by first | decide | (simp; done) | fail)⟩; (conv => whnf)) | (refine ⟨fun h => absurd h (by first | decide | (simp; done) | fail), fun _ => ?_⟩; (conv => whnf)) | fail))
          first | rfl | (rw [bad]) | set_option pp.maxSteps 300 in trace_state
        · refine ⟨fun h => absurd (of_decide_eq_true h) c2, fun _ => ?_⟩
          (conv => whnf)
          (repeat' (first | (refine ⟨by kernel_rfl, ?_⟩; (conv => whnf)) | (refine ⟨fun _ => ?_, fun h => absurd h (by first | decide | (simp; done) | fail)⟩; (conv => whnf)) | (refine ⟨fun h => absurd h (by first | decide | (simp; done) | fail), fun _ => ?_⟩; (conv => whnf)) | fail))
          refine ⟨k + 1, ?_⟩
          (conv => whnf)
          refine ⟨⟨⟨Nat.sub_lt_sub_left (by omega) (Nat.lt_succ_self k), by omega, fun j hj => ?_⟩, ?_, rfl, rfl⟩, by kernel_rfl, by kernel_rfl⟩
          · by_cases e : j = k
            · subst e; rw [hw, decide_eq_true (by omega), decide_eq_true (by omega)]; rfl
            · exact hlow j (by omega)
          · rw [w64 _ (by omega) (by omega)]; rfl
    · have h := of_decide_eq_false h
      have e4 : k = l.length := by omega
      subst e4
      rw [good hlow]
      (conv => whnf)
      first | rfl | (repeat' (first | (refine ⟨by kernel_rfl, ?_⟩; (conv => whnf)) | fail))
theorem pc_imwithin2 (lo hi a b : Int) : PC Try.prog 63 [i64 lo, i64 hi, .slc 1 [[i64 a], [i64 b]]] (.bool (withB a lo hi && withB b lo hi)) := by
  have h := PC.last (args := [i64 lo, i64 hi]) (pc_imwithin lo hi [a, b] (by simp)) (.slc 1 0 eI [a, b])
  have e : ([a, b].all fun n => withB n lo hi) = (withB a lo hi && withB b lo hi) := by simp
  rw [e] at h
  exact h
abbrev img (W H : Int) (pix : List Int) : AV := .agg [i64 W, i64 H, ints pix]
def imgB (W H : Int) (pix : List Int) : Bool := (withB W 1 16 && withB H 1 16) && (decide ((pix.length : Int) = IntKind.i64.wrap (W * H)) && pix.all fun n => withB n (-2147483648) 2147483648)
theorem pc_imvalid (W H : Int) (pix : List Int) (hl : pix.length < 2 ^ 40) : PC Try.prog 40 [img W H pix] (.bool (imgB W H pix)) := by
  have c1 := pc_imwithin2 1 16 W H
  have c2 := pc_imwithin (-2147483648) 2147483648 pix hl
  unfold imgB
  generalize (withB W 1 16 && withB H 1 16) = b1 at *
  generalize (pix.all fun n => withB n (-2147483648) 2147483648) = b2 at *
  refine pc_of_bodyF hm Try.func40 (by kernel_rfl) ?_
  conv => whnf
  (repeat' (first | (refine ⟨_, by first | exact c1, ?_⟩; (conv => whnf)) | (refine Or.inl ?_; (conv => whnf); refine ⟨_, by first | exact c1, ?_⟩; (conv => whnf)) | (refine Or.inl ?_; (conv => whnf); refine ⟨false, ?_⟩; (conv => whnf); refine ⟨_, by first | exact c1, ?_⟩; (conv => whnf)) | (refine ⟨by kernel_rfl, ?_⟩; (conv => whnf)) | (refine ⟨fun _ => ?_, fun h => absurd h (by first | decide | (simp; done) | fail)⟩; (conv => whnf)) | (refine ⟨fun h => absurd h (by first | decide | (simp; done) | fail), fun _ => ?_⟩; (conv => whnf)) | fail))
  cases b1
  · (repeat' (first | (refine ⟨by kernel_rfl, ?_⟩; (conv => whnf)) | (refine ⟨fun _ => ?_, fun h => absurd h (by first | decide | (simp; done) | fail)⟩; (conv => whnf)) | (refine ⟨fun h => absurd h (by first | decide | (simp; done) | fail), fun _ => ?_⟩; (conv => whnf)) | fail))
    first | rfl | set_option pp.maxSteps 300 in trace_state
  · (repeat' (first | (refine ⟨by kernel_rfl, ?_⟩; (conv => whnf)) | (refine ⟨fun _ => ?_, fun h => absurd h (by first | decide | (simp; done) | fail)⟩; (conv => whnf)) | (refine ⟨fun h => absurd h (by first | decide | (simp; done) | fail), fun _ => ?_⟩; (conv => whnf)) | fail))
    (repeat' (first | (refine ⟨by kernel_rfl, ?_⟩; (conv => whnf)) | (refine And.intro (a := _ ∧ _) ⟨by omega, by omega⟩ ?_; (conv => whnf))))
    refine ⟨fun h => ?_, fun h => ?_⟩
    · rw [show decide ((pix.length : Int) = IntKind.i64.wrap (W * H)) = true from h]
      (conv => whnf)
      (repeat' (first | (refine ⟨_, by first | exact c2, ?_⟩; (conv => whnf)) | (refine Or.inl ?_; (conv => whnf); refine ⟨_, by first | exact c2, ?_⟩; (conv => whnf)) | (refine Or.inl ?_; (conv => whnf); refine ⟨false, ?_⟩; (conv => whnf); refine ⟨_, by first | exact c2, ?_⟩; (conv => whnf)) | (refine ⟨by kernel_rfl, ?_⟩; (conv => whnf)) | (refine ⟨fun _ => ?_, fun h => absurd h (by first | decide | (simp; done) | fail)⟩; (conv => whnf)) | (refine ⟨fun h => absurd h (by first | decide | (simp; done) | fail), fun _ => ?_⟩; (conv => whnf)) | fail))
      first | rfl | set_option pp.maxSteps 300 in trace_state
    · rw [show decide ((pix.length : Int) = IntKind.i64.wrap (W * H)) = false from h]
      (conv => whnf)
      (repeat' (first | (refine ⟨_, by first | exact c2, ?_⟩; (conv => whnf)) | (refine Or.inl ?_; (conv => whnf); refine ⟨_, by first | exact c2, ?_⟩; (conv => whnf)) | (refine Or.inl ?_; (conv => whnf); refine ⟨false, ?_⟩; (conv => whnf); refine ⟨_, by first | exact c2, ?_⟩; (conv => whnf)) | (refine ⟨by kernel_rfl, ?_⟩; (conv => whnf)) | (refine ⟨fun _ => ?_, fun h => absurd h (by first | decide | (simp; done) | fail)⟩; (conv => whnf)) | (refine ⟨fun h => absurd h (by first | decide | (simp; done) | fail), fun _ => ?_⟩; (conv => whnf)) | fail))
      first | rfl | set_option pp.maxSteps 300 in trace_state
theorem pc_imCheck (W H : Int) (pix : List Int) (hl : pix.length < 2 ^ 40) : PC Try.prog 18 [img W H pix] (i64 (if imgB W H pix then 0 else 20)) := by
  have c := pc_imvalid W H pix hl
  generalize imgB W H pix = b at *
  refine pc_of_bodyF hm Try.func18 (by kernel_rfl) ?_
  conv => whnf
  (repeat' (first | (refine ⟨_, by first | exact c, ?_⟩; (conv => whnf)) | (refine Or.inl ?_; (conv => whnf); refine ⟨_, by first | exact c, ?_⟩; (conv => whnf)) | (refine Or.inl ?_; (conv => whnf); refine ⟨false, ?_⟩; (conv => whnf); refine ⟨_, by first | exact c, ?_⟩; (conv => whnf)) | (refine ⟨by kernel_rfl, ?_⟩; (conv => whnf)) | (refine ⟨fun _ => ?_, fun h => absurd h (by first | decide | (simp; done) | fail)⟩; (conv => whnf)) | (refine ⟨fun h => absurd h (by first | decide | (simp; done) | fail), fun _ => ?_⟩; (conv => whnf)) | fail))
  cases b
  · (repeat' (first | (refine ⟨by kernel_rfl, ?_⟩; (conv => whnf)) | (refine ⟨fun _ => ?_, fun h => absurd h (by first | decide | (simp; done) | fail)⟩; (conv => whnf)) | (refine ⟨fun h => absurd h (by first | decide | (simp; done) | fail), fun _ => ?_⟩; (conv => whnf)) | fail))
    first | rfl | set_option pp.maxSteps 300 in trace_state
  · (repeat' (first | (refine ⟨by kernel_rfl, ?_⟩; (conv => whnf)) | (refine ⟨fun _ => ?_, fun h => absurd h (by first | decide | (simp; done) | fail)⟩; (conv => whnf)) | (refine ⟨fun h => absurd h (by first | decide | (simp; done) | fail), fun _ => ?_⟩; (conv => whnf)) | fail))
    first | rfl | set_option pp.maxSteps 300 in trace_state
end Go.Proofs.Try.My
