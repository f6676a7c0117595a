/- A helper text: contracts of functions of the program, and plain lemmas. -/
import Derived.Test.YtblmmhmdnnnidaaGreatEvSix
import Derived.Test.YtblmmhmdnnnidaaGreatMzVw1
import Derived.Test.YtblmmhmdnnnidaaGreatMzVl0
import Derived.Test.YtblmmhmdnnnidaaGreatMzGeA
set_option maxRecDepth 100000
set_option maxHeartbeats 0
set_option linter.unusedVariables false
set_option linter.unusedSimpArgs false
namespace Go.Proofs.Tryz.My
open Go Go.Ev

theorem pc_r2within (n lo hi : Int) : PC Tryz.prog 57 [i64 n, i64 lo, i64 hi] (.bool (withB n lo hi)) := by
  refine pc_of_bodyF hm Tryz.func57 (by kernel_rfl) ?_
  conv => whnf
  refine ⟨fun h => ?_, fun h => ?_⟩ <;> ((conv => whnf); simp_all [-decide_eq_true_eq, -decide_eq_false_iff_not, withB])
theorem pc_rDown (a : Int × Int) (h : validB a = true) : PC Tryz.prog 37 [fr a] (i64 (a.1 / a.2)) := by
  obtain ⟨v1, v2, v3, v4, _⟩ := (validB_iff a).1 h
  obtain ⟨b1, b2⟩ := tdiv_bound (n := a.1) (d := a.2) (by omega) v3 v4
  have f1 := fun k1 k2 => down_up (n := a.1) (d := a.2) (by omega) k1 k2
  have f2 := fun k => down_eq (n := a.1) (d := a.2) (by omega) k
  obtain ⟨n, d⟩ := a
  simp only [] at v1 v2 v3 v4 b1 b2 f1 f2 ⊢
  generalize n / d = q at *
  have d0 : d ≠ 0 := by omega
  have w1 : IntKind.i64.wrap (Int.tdiv n d) = Int.tdiv n d := w64 _ (by omega) (by omega)
  have w3 : IntKind.i64.wrap (Int.tdiv n d - 1) = Int.tdiv n d - 1 := w64 _ (by omega) (by omega)
  by_cases c1 : n < 0
  · by_cases c2 : Int.tmod n d ≠ 0
    · have e := f1 c1 c2
      refine pc_of_bodyF hm Tryz.func37 (by kernel_rfl) ?_
      conv => whnf
      refine ⟨fun _ => ?_, fun h => absurd c1 (of_decide_eq_false h)⟩
      (conv => whnf)
      (repeat' (first | (refine ⟨by kernel_rfl, ?_⟩; (conv => whnf)) | (refine ⟨fun _ => ?_, fun h => absurd h (by first | decide | (simp; done) | fail)⟩; (conv => whnf)) | (refine ⟨fun h => absurd h (by first | decide | (simp; done) | fail), fun _ => ?_⟩; (conv => whnf)) | fail))
      refine ⟨d0, ?_⟩
      (conv => whnf)
      (repeat' (first | (refine ⟨by kernel_rfl, ?_⟩; (conv => whnf)) | (refine ⟨fun _ => ?_, fun h => absurd h (by first | decide | (simp; done) | fail)⟩; (conv => whnf)) | (refine ⟨fun h => absurd h (by first | decide | (simp; done) | fail), fun _ => ?_⟩; (conv => whnf)) | fail))
      refine ⟨fun _ => ?_, fun h => absurd (show Int.tmod n d = 0 by simpa using h) c2⟩
      (conv => whnf)
      (repeat' (first | (refine ⟨by kernel_rfl, ?_⟩; (conv => whnf)) | (refine ⟨fun _ => ?_, fun h => absurd h (by first | decide | (simp; done) | fail)⟩; (conv => whnf)) | (refine ⟨fun h => absurd h (by first | decide | (simp; done) | fail), fun _ => ?_⟩; (conv => whnf)) | fail))
      refine ⟨d0, ?_⟩
      (conv => whnf)
      (repeat' (first | (refine ⟨by kernel_rfl, ?_⟩; (conv => whnf)) | (refine ⟨fun _ => ?_, fun h => absurd h (by first | decide | (simp; done) | fail)⟩; (conv => whnf)) | (refine ⟨fun h => absurd h (by first | decide | (simp; done) | fail), fun _ => ?_⟩; (conv => whnf)) | fail))
      rw [w1, w3, e]
    · have e := f2 (fun k => c2 k.2)
      have c2 : Int.tmod n d = 0 := by
        by_cases z : Int.tmod n d = 0
        · exact z
        · exact absurd z c2
      refine pc_of_bodyF hm Tryz.func37 (by kernel_rfl) ?_
      conv => whnf
      refine ⟨fun _ => ?_, fun h => absurd c1 (of_decide_eq_false h)⟩
      (conv => whnf)
      (repeat' (first | (refine ⟨by kernel_rfl, ?_⟩; (conv => whnf)) | (refine ⟨fun _ => ?_, fun h => absurd h (by first | decide | (simp; done) | fail)⟩; (conv => whnf)) | (refine ⟨fun h => absurd h (by first | decide | (simp; done) | fail), fun _ => ?_⟩; (conv => whnf)) | fail))
      refine ⟨d0, ?_⟩
      (conv => whnf)
      (repeat' (first | (refine ⟨by kernel_rfl, ?_⟩; (conv => whnf)) | (refine ⟨fun _ => ?_, fun h => absurd h (by first | decide | (simp; done) | fail)⟩; (conv => whnf)) | (refine ⟨fun h => absurd h (by first | decide | (simp; done) | fail), fun _ => ?_⟩; (conv => whnf)) | fail))
      refine ⟨fun h => absurd c2 (by simpa using h), fun _ => ?_⟩
      (conv => whnf)
      (repeat' (first | (refine ⟨by kernel_rfl, ?_⟩; (conv => whnf)) | (refine ⟨fun _ => ?_, fun h => absurd h (by first | decide | (simp; done) | fail)⟩; (conv => whnf)) | (refine ⟨fun h => absurd h (by first | decide | (simp; done) | fail), fun _ => ?_⟩; (conv => whnf)) | fail))
      refine ⟨d0, ?_⟩
      (conv => whnf)
      (repeat' (first | (refine ⟨by kernel_rfl, ?_⟩; (conv => whnf)) | (refine ⟨fun _ => ?_, fun h => absurd h (by first | decide | (simp; done) | fail)⟩; (conv => whnf)) | (refine ⟨fun h => absurd h (by first | decide | (simp; done) | fail), fun _ => ?_⟩; (conv => whnf)) | fail))
      rw [w1, e]
  · have e := f2 (fun k => c1 k.1)
    refine pc_of_bodyF hm Tryz.func37 (by kernel_rfl) ?_
    conv => whnf
    refine ⟨fun h => absurd (of_decide_eq_true h) c1, fun _ => ?_⟩
    (conv => whnf)
    (repeat' (first | (refine ⟨by kernel_rfl, ?_⟩; (conv => whnf)) | (refine ⟨fun _ => ?_, fun h => absurd h (by first | decide | (simp; done) | fail)⟩; (conv => whnf)) | (refine ⟨fun h => absurd h (by first | decide | (simp; done) | fail), fun _ => ?_⟩; (conv => whnf)) | fail))
    refine ⟨d0, ?_⟩
    (conv => whnf)
    (repeat' (first | (refine ⟨by kernel_rfl, ?_⟩; (conv => whnf)) | (refine ⟨fun _ => ?_, fun h => absurd h (by first | decide | (simp; done) | fail)⟩; (conv => whnf)) | (refine ⟨fun h => absurd h (by first | decide | (simp; done) | fail), fun _ => ?_⟩; (conv => whnf)) | fail))
    rw [w1, e]
theorem pc_r2Valid (W H : Int) (pix : List Int) (hl : pix.length < 2 ^ 40) : PC Tryz.prog 33 [img W H pix] (.bool (imgB W H pix)) := by
  have c1 := pc_r2within W 1 16
  have c2 := pc_r2within H 1 16
  have bad : ∀ k, k < pix.length → withB (pix.getD k 0) (-2147483648) 2147483648 = false → (pix.all fun n => withB n (-2147483648) 2147483648) = false := fun k hk h => by
    rw [List.all_eq_false]
    refine ⟨pix.getD k 0, ?_, by rw [h]; decide⟩
    simp only [List.getD, List.getElem?_eq_getElem hk, Option.getD_some]
    exact List.getElem_mem hk
  have good : (∀ j, j < pix.length → withB (pix.getD j 0) (-2147483648) 2147483648 = true) → (pix.all fun n => withB n (-2147483648) 2147483648) = true := fun h => by
    rw [List.all_eq_true]
    intro v hm
    obtain ⟨i, hi, rfl⟩ := List.getElem_of_mem hm
    have := h i hi
    simpa [List.getD, List.getElem?_eq_getElem hi] using this
  unfold imgB
  generalize withB W 1 16 = b1 at *
  generalize withB H 1 16 = b2 at *
  generalize (pix.all fun n => withB n (-2147483648) 2147483648) = B at *
  cases b1
  · refine pc_of_bodyF hm Tryz.func33 (by kernel_rfl) ?_
    conv => whnf
    (repeat' (first | (refine ⟨_, by first | exact c1, ?_⟩; (conv => whnf)) | (refine Or.inl ?_; (conv => whnf); refine ⟨_, by first | exact c1, ?_⟩; (conv => whnf)) | (refine Or.inl ?_; (conv => whnf); refine ⟨false, ?_⟩; (conv => whnf); refine ⟨_, by first | exact c1, ?_⟩; (conv => whnf)) | (refine ⟨by kernel_rfl, ?_⟩; (conv => whnf)) | (refine ⟨fun _ => ?_, fun h => absurd h (by first | decide | (simp; done) | fail)⟩; (conv => whnf)) | (refine ⟨fun h => absurd h (by first | decide | (simp; done) | fail), fun _ => ?_⟩; (conv => whnf)) | fail))
    first | rfl | set_option pp.maxSteps 300 in trace_state
  cases b2
  · refine pc_of_bodyF hm Tryz.func33 (by kernel_rfl) ?_
    conv => whnf
    (repeat' (first | (refine ⟨_, by first | exact c1 | exact c2, ?_⟩; (conv => whnf)) | (refine Or.inl ?_; (conv => whnf); refine ⟨_, by first | exact c1 | exact c2, ?_⟩; (conv => whnf)) | (refine Or.inl ?_; (conv => whnf); refine ⟨false, ?_⟩; (conv => whnf); refine ⟨_, by first | exact c1 | exact c2, ?_⟩; (conv => whnf)) | (refine ⟨by kernel_rfl, ?_⟩; (conv => whnf)) | (refine ⟨fun _ => ?_, fun h => absurd h (by first | decide | (simp; done) | fail)⟩; (conv => whnf)) | (refine ⟨fun h => absurd h (by first | decide | (simp; done) | fail), fun _ => ?_⟩; (conv => whnf)) | fail))
    first | rfl | set_option pp.maxSteps 300 in trace_state
  by_cases hp : (pix.length : Int) = IntKind.i64.wrap (W * H)
  rotate_left
  · rw [decide_eq_false hp]
    refine pc_of_bodyF hm Tryz.func33 (by kernel_rfl) ?_
    conv => whnf
    (repeat' (first | (refine ⟨_, by first | exact c1 | exact c2, ?_⟩; (conv => whnf)) | (refine Or.inl ?_; (conv => whnf); refine ⟨_, by first | exact c1 | exact c2, ?_⟩; (conv => whnf)) | (refine Or.inl ?_; (conv => whnf); refine ⟨false, ?_⟩; (conv => whnf); refine ⟨_, by first | exact c1 | exact c2, ?_⟩; (conv => whnf)) | (refine ⟨by kernel_rfl, ?_⟩; (conv => whnf)) | (refine ⟨fun _ => ?_, fun h => absurd h (by first | decide | (simp; done) | fail)⟩; (conv => whnf)) | (refine ⟨fun h => absurd h (by first | decide | (simp; done) | fail), fun _ => ?_⟩; (conv => whnf)) | fail))
    refine ⟨fun _ => ?_, fun h => absurd (by simpa using h) hp⟩
    (conv => whnf)
    (repeat' (first | (refine ⟨by kernel_rfl, ?_⟩; (conv => whnf)) | (refine ⟨fun _ => ?_, fun h => absurd h (by first | decide | (simp; done) | fail)⟩; (conv => whnf)) | (refine ⟨fun h => absurd h (by first | decide | (simp; done) | fail), fun _ => ?_⟩; (conv => whnf)) | fail))
    first | rfl | set_option pp.maxSteps 300 in trace_state
  rw [decide_eq_true hp]
  refine pc_of_bodyF hm Tryz.func33 (by kernel_rfl) ?_
  conv => whnf
  (repeat' (first | (refine ⟨_, by first | exact c1 | exact c2, ?_⟩; (conv => whnf)) | (refine Or.inl ?_; (conv => whnf); refine ⟨_, by first | exact c1 | exact c2, ?_⟩; (conv => whnf)) | (refine Or.inl ?_; (conv => whnf); refine ⟨false, ?_⟩; (conv => whnf); refine ⟨_, by first | exact c1 | exact c2, ?_⟩; (conv => whnf)) | (refine ⟨by kernel_rfl, ?_⟩; (conv => whnf)) | (refine ⟨fun _ => ?_, fun h => absurd h (by first | decide | (simp; done) | fail)⟩; (conv => whnf)) | (refine ⟨fun h => absurd h (by first | decide | (simp; done) | fail), fun _ => ?_⟩; (conv => whnf)) | fail))
  refine ⟨fun h => absurd hp (by simpa using h), fun _ => ?_⟩
  (conv => whnf)
  (repeat' (first | (refine ⟨by kernel_rfl, ?_⟩; (conv => whnf)) | (refine ⟨fun _ => ?_, fun h => absurd h (by first | decide | (simp; done) | fail)⟩; (conv => whnf)) | (refine ⟨fun h => absurd h (by first | decide | (simp; done) | fail), fun _ => ?_⟩; (conv => whnf)) | fail))
  refine Or.inr ⟨Nat, [3], [], [], fun i => [i64 i], fun _ => [], fun _ => [], fun i => pix.length - i, fun i => i ≤ pix.length ∧ ∀ j, j < i → withB (pix.getD j 0) (-2147483648) 2147483648 = true, ?_⟩
  (conv => whnf)
  refine ⟨⟨0, ?_⟩, ?_⟩
  · (conv => whnf)
    exact ⟨⟨⟨Nat.zero_le _, fun j hj => absurd hj (Nat.not_lt_zero j)⟩, rfl, rfl, rfl⟩, by kernel_rfl, by kernel_rfl⟩
  · intro k ⟨hk, hlow⟩
    (conv => whnf)
    refine ⟨fun h => ?_, fun h => ?_⟩
    · have h := of_decide_eq_true h
      have h' : k < pix.length := by omega
      have bad := bad k h'
      have cw := pc_r2within (pix.getD k 0) (-2147483648) 2147483648
      generalize hb : withB (pix.getD k 0) (-2147483648) 2147483648 = b at *
      (conv => whnf)
      (repeat' (first | (refine ⟨by kernel_rfl, ?_⟩; (conv => whnf)) | (refine And.intro (a := _ ∧ _) ⟨by omega, by omega⟩ ?_; (conv => whnf))))
      (repeat' (first | (refine ⟨_, by first | exact cw, ?_⟩; (conv => whnf)) | (refine Or.inl ?_; (conv => whnf); refine ⟨_, by first | exact cw, ?_⟩; (conv => whnf)) | (refine Or.inl ?_; (conv => whnf); refine ⟨false, ?_⟩; (conv => whnf); refine ⟨_, by first | exact cw, ?_⟩; (conv => whnf)) | (refine ⟨by kernel_rfl, ?_⟩; (conv => whnf)) | (refine ⟨fun _ => ?_, fun h => absurd h (by first | decide | (simp; done) | fail)⟩; (conv => whnf)) | (refine ⟨fun h => absurd h (by first | decide | (simp; done) | fail), fun _ => ?_⟩; (conv => whnf)) | fail))
      cases b
      · have bad := bad rfl
        (repeat' (first | (refine ⟨by kernel_rfl, ?_⟩; (conv => whnf)) | (refine ⟨fun _ => ?_, fun h => absurd h (by first | decide | (simp; done) | fail)⟩; (conv => whnf)) | (refine ⟨fun h => absurd h (by first | decide | (simp; done) | fail), fun _ => ?_⟩; (conv => whnf)) | fail))
        first | rfl | (rw [bad]; rfl) | set_option pp.maxSteps 300 in trace_state
      · (repeat' (first | (refine ⟨by kernel_rfl, ?_⟩; (conv => whnf)) | (refine ⟨fun _ => ?_, fun h => absurd h (by first | decide | (simp; done) | fail)⟩; (conv => whnf)) | (refine ⟨fun h => absurd h (by first | decide | (simp; done) | fail), fun _ => ?_⟩; (conv => whnf)) | fail))
        refine ⟨k + 1, ?_⟩
        (conv => whnf)
        refine ⟨⟨⟨Nat.sub_lt_sub_left (by omega) (Nat.lt_succ_self k), by omega, fun j hj => ?_⟩, ?_, rfl, rfl⟩, by kernel_rfl, by kernel_rfl⟩
        · by_cases e : j = k
          · subst e; exact hb
          · exact hlow j (by omega)
        · rw [w64 _ (by omega) (by omega)]; rfl
    · have h := of_decide_eq_false h
      have e4 : k = pix.length := by omega
      subst e4
      rw [good hlow]
      (conv => whnf)
      first | rfl | (repeat' (first | (refine ⟨by kernel_rfl, ?_⟩; (conv => whnf)) | fail))
theorem pc_r2Check (W H : Int) (pix : List Int) (hl : pix.length < 2 ^ 40) : PC Tryz.prog 18 [img W H pix] (i64 (if imgB W H pix then 0 else 20)) := by
  have c := pc_r2Valid W H pix hl
  generalize imgB W H pix = b at *
  refine pc_of_bodyF hm Tryz.func18 (by kernel_rfl) ?_
  conv => whnf
  (repeat' (first | (refine ⟨_, by first | exact c, ?_⟩; (conv => whnf)) | (refine Or.inl ?_; (conv => whnf); refine ⟨_, by first | exact c, ?_⟩; (conv => whnf)) | (refine Or.inl ?_; (conv => whnf); refine ⟨false, ?_⟩; (conv => whnf); refine ⟨_, by first | exact c, ?_⟩; (conv => whnf)) | (refine ⟨by kernel_rfl, ?_⟩; (conv => whnf)) | (refine ⟨fun _ => ?_, fun h => absurd h (by first | decide | (simp; done) | fail)⟩; (conv => whnf)) | (refine ⟨fun h => absurd h (by first | decide | (simp; done) | fail), fun _ => ?_⟩; (conv => whnf)) | fail))
  cases b
  · (repeat' (first | (refine ⟨by kernel_rfl, ?_⟩; (conv => whnf)) | (refine ⟨fun _ => ?_, fun h => absurd h (by first | decide | (simp; done) | fail)⟩; (conv => whnf)) | (refine ⟨fun h => absurd h (by first | decide | (simp; done) | fail), fun _ => ?_⟩; (conv => whnf)) | fail))
    first | rfl | set_option pp.maxSteps 300 in trace_state
  · (repeat' (first | (refine ⟨by kernel_rfl, ?_⟩; (conv => whnf)) | (refine ⟨fun _ => ?_, fun h => absurd h (by first | decide | (simp; done) | fail)⟩; (conv => whnf)) | (refine ⟨fun h => absurd h (by first | decide | (simp; done) | fail), fun _ => ?_⟩; (conv => whnf)) | fail))
    first | rfl | set_option pp.maxSteps 300 in trace_state
theorem pc_pixels (W H : Int) (pix : List Int) (hl : pix.length < 2 ^ 40) : PC Tryz.prog 20 [img W H pix] (.bool (!pix.any fun n => !withB n 0 255)) := by
  have bad : ∀ k, k < pix.length → withB (pix.getD k 0) 0 255 = false → (pix.any fun n => !withB n 0 255) = true := fun k hk h => by
    rw [List.any_eq_true]
    refine ⟨pix.getD k 0, ?_, by rw [h]; decide⟩
    simp only [List.getD, List.getElem?_eq_getElem hk, Option.getD_some]
    exact List.getElem_mem hk
  have good : (∀ j, j < pix.length → withB (pix.getD j 0) 0 255 = true) → (pix.any fun n => !withB n 0 255) = false := fun h => by
    rw [List.any_eq_false]
    intro v hm
    obtain ⟨i, hi, rfl⟩ := List.getElem_of_mem hm
    have := h i hi
    simpa [List.getD, List.getElem?_eq_getElem hi] using this
  generalize (pix.any fun n => !withB n 0 255) = B at *
  refine pc_of_bodyF hm Tryz.func20 (by kernel_rfl) ?_
  conv => whnf
  refine Or.inr ⟨Nat, [3], [], [], fun i => [i64 i], fun _ => [], fun _ => [], fun i => pix.length - i, fun i => i ≤ pix.length ∧ ∀ j, j < i → withB (pix.getD j 0) 0 255 = true, ?_⟩
  (conv => whnf)
  refine ⟨⟨0, ?_⟩, ?_⟩
  · (conv => whnf)
    exact ⟨⟨⟨Nat.zero_le _, fun j hj => absurd hj (Nat.not_lt_zero j)⟩, rfl, rfl, rfl⟩, by kernel_rfl, by kernel_rfl⟩
  · intro k ⟨hk, hlow⟩
    (conv => whnf)
    refine ⟨fun h => ?_, fun h => ?_⟩
    · have h := of_decide_eq_true h
      have h' : k < pix.length := by omega
      have bad := bad k h'
      have cw := pc_within5 (pix.getD k 0) 0 255
      generalize hb : withB (pix.getD k 0) 0 255 = b at *
      (conv => whnf)
      (repeat' (first | (refine ⟨by kernel_rfl, ?_⟩; (conv => whnf)) | (refine And.intro (a := _ ∧ _) ⟨by omega, by omega⟩ ?_; (conv => whnf))))
      (repeat' (first | (refine ⟨_, by first | exact cw, ?_⟩; (conv => whnf)) | (refine Or.inl ?_; (conv => whnf); refine ⟨_, by first | exact cw, ?_⟩; (conv => whnf)) | (refine Or.inl ?_; (conv => whnf); refine ⟨false, ?_⟩; (conv => whnf); refine ⟨_, by first | exact cw, ?_⟩; (conv => whnf)) | (refine ⟨by kernel_rfl, ?_⟩; (conv => whnf)) | (refine ⟨fun _ => ?_, fun h => absurd h (by first | decide | (simp; done) | fail)⟩; (conv => whnf)) | (refine ⟨fun h => absurd h (by first | decide | (simp; done) | fail), fun _ => ?_⟩; (conv => whnf)) | fail))
      cases b
      · have bad := bad rfl
        (repeat' (first | (refine ⟨by kernel_rfl, ?_⟩; (conv => whnf)) | (refine ⟨fun _ => ?_, fun h => absurd h (by first | decide | (simp; done) | fail)⟩; (conv => whnf)) | (refine ⟨fun h => absurd h (by first | decide | (simp; done) | fail), fun _ => ?_⟩; (conv => whnf)) | fail))
        first | rfl | (rw [bad]; rfl) | set_option pp.maxSteps 300 in trace_state
      · (repeat' (first | (refine ⟨by kernel_rfl, ?_⟩; (conv => whnf)) | (refine ⟨fun _ => ?_, fun h => absurd h (by first | decide | (simp; done) | fail)⟩; (conv => whnf)) | (refine ⟨fun h => absurd h (by first | decide | (simp; done) | fail), fun _ => ?_⟩; (conv => whnf)) | fail))
        refine ⟨k + 1, ?_⟩
        (conv => whnf)
        refine ⟨⟨⟨Nat.sub_lt_sub_left (by omega) (Nat.lt_succ_self k), by omega, fun j hj => ?_⟩, ?_, rfl, rfl⟩, by kernel_rfl, by kernel_rfl⟩
        · by_cases e : j = k
          · subst e; exact hb
          · exact hlow j (by omega)
        · rw [w64 _ (by omega) (by omega)]; rfl
    · have h := of_decide_eq_false h
      have e4 : k = pix.length := by omega
      subst e4
      rw [good hlow]
      (conv => whnf)
      first | rfl | (repeat' (first | (refine ⟨by kernel_rfl, ?_⟩; (conv => whnf)) | fail))
theorem cut_row (pix : List Int) (W H y : Nat) (hW2 : W ≤ 16) (hH : H ≤ 16) (hy : y < H) (hlen : pix.length = W * H) :
    (0 ≤ IntKind.i64.wrap ((y : Int) * (W : Int)) ∧ IntKind.i64.wrap ((y : Int) * (W : Int)) ≤ IntKind.i64.wrap (IntKind.i64.wrap ((y : Int) + 1) * (W : Int)) ∧ IntKind.i64.wrap (IntKind.i64.wrap ((y : Int) + 1) * (W : Int)) ≤ pix.length) ∧
    (pix.drop (IntKind.i64.wrap ((y : Int) * (W : Int))).toNat).take (IntKind.i64.wrap (IntKind.i64.wrap ((y : Int) + 1) * (W : Int)) - IntKind.i64.wrap ((y : Int) * (W : Int))).toNat = rowP pix W y := by
  have m1 : y * W ≤ 15 * 16 := Nat.mul_le_mul (by omega) hW2
  have m2 : (y + 1) * W ≤ H * W := Nat.mul_le_mul_right W (by omega)
  have m3 : (y + 1) * W = y * W + W := Nat.succ_mul y W
  have m4 : H * W = W * H := Nat.mul_comm _ _
  have e1 : IntKind.i64.wrap ((y : Int) * (W : Int)) = ((y * W : Nat) : Int) := by rw [← Int.natCast_mul]; exact w64 _ (by omega) (by omega)
  have e2 : IntKind.i64.wrap ((y : Int) + 1) = ((y + 1 : Nat) : Int) := by rw [w64 _ (by omega) (by omega)]; rfl
  have e3 : IntKind.i64.wrap (IntKind.i64.wrap ((y : Int) + 1) * (W : Int)) = (((y + 1) * W : Nat) : Int) := by rw [e2, ← Int.natCast_mul]; exact w64 _ (by omega) (by omega)
  rw [e1, e3]
  refine ⟨by omega, ?_⟩
  unfold rowP
  rw [show (((y * W : Nat) : Int)).toNat = y * W from Int.toNat_natCast _, show ((((y + 1) * W : Nat) : Int) - ((y * W : Nat) : Int)).toNat = W by omega]
theorem pc_clipped (pix : List Int) (W H y : Nat) (hW2 : W ≤ 16) (hH : H ≤ 16) (hy : y < H) (hlen : pix.length = W * H) : PC Tryz.prog 35 [img W H pix, i64 y] (ints (rowP pix W y)) := by
  obtain ⟨b, cut⟩ := cut_row pix W H y hW2 hH hy hlen
  have hr : (rowP pix W y).length ≤ 16 := by unfold rowP; rw [List.length_take]; omega
  rw [← cut] at hr
  rw [← cut]
  refine pc_of_bodyF hm Tryz.func35 (by kernel_rfl) ?_
  conv => whnf
  (repeat' (first | (refine ⟨by kernel_rfl, ?_⟩; (conv => whnf)) | (refine And.intro (a := _ ∧ _) ⟨by omega, by omega⟩ ?_; (conv => whnf))))
  refine ⟨⟨Int, 1, 0, eI, []⟩, _, rfl, ⟨rfl, rfl⟩, rfl, ?_, ?_, fun y _ => ⟨rfl, rfl, rfl⟩, ?_⟩
  · show (0 + _) * 8 ≤ _; omega
  · show 0 + _ ≤ _; omega
  (conv => whnf)
  first | rfl | set_option pp.maxSteps 300 in trace_state
end Go.Proofs.Tryz.My
