/- A helper text: contracts of functions of the program, and plain lemmas. -/
import Derived.Test.YtblmmhmdnnnidaaEvSix
import Derived.Test.YtblmmhmdnnnidaaMyTm0
import Derived.Test.YtblmmhmdnnnidaaMyLv8
import Derived.Test.YtblmmhmdnnnidaaMyGeA
import Derived.Test.YtblmmhmdnnnidaaMyHoA
import Derived.Test.YtblmmhmdnnnidaaMyRc1
set_option maxRecDepth 100000
set_option maxHeartbeats 0
set_option linter.unusedVariables false
set_option linter.unusedSimpArgs false
namespace Go.Proofs.Try.My
open Go Go.Ev

theorem pc_topwhole (n : Int) : PC Try.prog 50 [i64 n] ((.agg [i64 n, i64 1])) := by
  refine pc_of_bodyF hm Try.func50 (by kernel_rfl) ?_
  conv => whnf
  (repeat' (first | (refine ⟨by kernel_rfl, ?_⟩; (conv => whnf)) | fail))
theorem pc_toppoint (x1 x2 : Int) : PC Try.prog 113 [.agg [i64 x1, i64 x2]] ((.agg [i64 x1, i64 x2, i64 x1, i64 x2])) := by
  refine pc_of_bodyF hm Try.func113 (by kernel_rfl) ?_
  conv => whnf
  (repeat' (first | (refine ⟨by kernel_rfl, ?_⟩; (conv => whnf)) | fail))
theorem szBad1 (l : List SpT) (p : List Int) (thr noise z E F1 F2 F3 F4 C1 C2 C3 C4 : Int) (hE : E ≠ 0) (c1 : PC Try.prog 15 [vws l] (.tup [.agg [i64 F1, i64 F2, i64 F3, i64 F4, i64 C1, i64 C2, i64 C3, i64 C4], i64 E])) : PC Try.prog 44 [vws l, ints p, i64 thr, i64 noise, i64 z] (.tup [.agg [i64 0, i64 0, i64 0, i64 0], i64 E]) := by
  refine pc_of_bodyF hm Try.func44 (by kernel_rfl) ?_
  conv => whnf
  (repeat' (first | (refine ⟨_, by first | with_reducible exact c1, ?_⟩; (conv => whnf)) | (refine Or.inl ?_; (conv => whnf); refine ⟨_, by first | with_reducible exact c1, ?_⟩; (conv => whnf)) | (refine Or.inl ?_; (conv => whnf); refine ⟨false, ?_⟩; (conv => whnf); refine ⟨_, by first | with_reducible exact c1, ?_⟩; (conv => whnf)) | (refine ⟨by kernel_rfl, ?_⟩; (conv => whnf)) | (refine ⟨fun _ => ?_, fun h => absurd h (by first | decide | (simp; done) | fail)⟩; (conv => whnf)) | (refine ⟨fun h => absurd h (by first | decide | (simp; done) | fail), fun _ => ?_⟩; (conv => whnf)) | ((with_reducible refine And.intro (a := _ = true → _) (b := _ = false → _) (fun hh => ?_) (fun hh => ?_)) <;> (try simp only [decide_eq_true_eq, decide_eq_false_iff_not, Bool.or_eq_true, Bool.and_eq_true, Bool.or_eq_false_iff, Bool.and_eq_false_iff, Bool.not_eq_true', Bool.not_eq_false', ge_iff_le, gt_iff_lt] at hh) <;> (first | (exfalso; omega) | (conv => whnf))) | fail))
theorem szBad2 (l : List SpT) (p : List Int) (thr noise z E F1 F2 F3 F4 C1 C2 C3 C4 W1 W2 W3 W4 : Int) (hE : E ≠ 0) (c1 : PC Try.prog 15 [vws l] (.tup [.agg [i64 F1, i64 F2, i64 F3, i64 F4, i64 C1, i64 C2, i64 C3, i64 C4], i64 0])) (c2 : PC Try.prog 106 [ints p, i64 thr, i64 noise] (.tup [.agg [i64 W1, i64 W2, i64 W3, i64 W4], i64 E])) : PC Try.prog 44 [vws l, ints p, i64 thr, i64 noise, i64 z] (.tup [.agg [i64 0, i64 0, i64 0, i64 0], i64 E]) := by
  refine pc_of_bodyF hm Try.func44 (by kernel_rfl) ?_
  conv => whnf
  (repeat' (first | (refine ⟨_, by first | with_reducible exact c1 | with_reducible exact c2, ?_⟩; (conv => whnf)) | (refine Or.inl ?_; (conv => whnf); refine ⟨_, by first | with_reducible exact c1 | with_reducible exact c2, ?_⟩; (conv => whnf)) | (refine Or.inl ?_; (conv => whnf); refine ⟨false, ?_⟩; (conv => whnf); refine ⟨_, by first | with_reducible exact c1 | with_reducible exact c2, ?_⟩; (conv => whnf)) | (refine ⟨by kernel_rfl, ?_⟩; (conv => whnf)) | (refine ⟨fun _ => ?_, fun h => absurd h (by first | decide | (simp; done) | fail)⟩; (conv => whnf)) | (refine ⟨fun h => absurd h (by first | decide | (simp; done) | fail), fun _ => ?_⟩; (conv => whnf)) | ((with_reducible refine And.intro (a := _ = true → _) (b := _ = false → _) (fun hh => ?_) (fun hh => ?_)) <;> (try simp only [decide_eq_true_eq, decide_eq_false_iff_not, Bool.or_eq_true, Bool.and_eq_true, Bool.or_eq_false_iff, Bool.and_eq_false_iff, Bool.not_eq_true', Bool.not_eq_false', ge_iff_le, gt_iff_lt] at hh) <;> (first | (exfalso; omega) | (conv => whnf))) | fail))
theorem szBad3 (l : List SpT) (p : List Int) (thr noise z E F1 F2 F3 F4 C1 C2 C3 C4 W1 W2 W3 W4 M1 M2 M3 M4 Z : Int) (hE : E ≠ 0) (c1 : PC Try.prog 15 [vws l] (.tup [.agg [i64 F1, i64 F2, i64 F3, i64 F4, i64 C1, i64 C2, i64 C3, i64 C4], i64 0])) (c2 : PC Try.prog 106 [ints p, i64 thr, i64 noise] (.tup [.agg [i64 W1, i64 W2, i64 W3, i64 W4], i64 0])) (c3 : PC Try.prog 50 [i64 (IntKind.i64.wrap (16 * z))] ((.agg [i64 Z, i64 1]))) (c4 : PC Try.prog 113 [.agg [i64 Z, i64 1]] ((.agg [i64 Z, i64 1, i64 Z, i64 1]))) (c5 : PC Try.prog 98 [.agg [i64 W1, i64 W2, i64 W3, i64 W4], .agg [i64 Z, i64 1, i64 Z, i64 1]] (.tup [.agg [i64 M1, i64 M2, i64 M3, i64 M4], i64 E])) : PC Try.prog 44 [vws l, ints p, i64 thr, i64 noise, i64 z] (.tup [.agg [i64 0, i64 0, i64 0, i64 0], i64 E]) := by
  refine pc_of_bodyF hm Try.func44 (by kernel_rfl) ?_
  conv => whnf
  (repeat' (first | (refine ⟨_, by first | with_reducible exact c1 | with_reducible exact c2 | with_reducible exact c3 | with_reducible exact c4 | with_reducible exact c5, ?_⟩; (conv => whnf)) | (refine Or.inl ?_; (conv => whnf); refine ⟨_, by first | with_reducible exact c1 | with_reducible exact c2 | with_reducible exact c3 | with_reducible exact c4 | with_reducible exact c5, ?_⟩; (conv => whnf)) | (refine Or.inl ?_; (conv => whnf); refine ⟨false, ?_⟩; (conv => whnf); refine ⟨_, by first | with_reducible exact c1 | with_reducible exact c2 | with_reducible exact c3 | with_reducible exact c4 | with_reducible exact c5, ?_⟩; (conv => whnf)) | (refine ⟨by kernel_rfl, ?_⟩; (conv => whnf)) | (refine ⟨fun _ => ?_, fun h => absurd h (by first | decide | (simp; done) | fail)⟩; (conv => whnf)) | (refine ⟨fun h => absurd h (by first | decide | (simp; done) | fail), fun _ => ?_⟩; (conv => whnf)) | ((with_reducible refine And.intro (a := _ = true → _) (b := _ = false → _) (fun hh => ?_) (fun hh => ?_)) <;> (try simp only [decide_eq_true_eq, decide_eq_false_iff_not, Bool.or_eq_true, Bool.and_eq_true, Bool.or_eq_false_iff, Bool.and_eq_false_iff, Bool.not_eq_true', Bool.not_eq_false', ge_iff_le, gt_iff_lt] at hh) <;> (first | (exfalso; omega) | (conv => whnf))) | fail))
theorem szOk (l : List SpT) (p : List Int) (thr noise z E F1 F2 F3 F4 C1 C2 C3 C4 W1 W2 W3 W4 M1 M2 M3 M4 D1 D2 D3 D4 Z : Int) (c1 : PC Try.prog 15 [vws l] (.tup [.agg [i64 F1, i64 F2, i64 F3, i64 F4, i64 C1, i64 C2, i64 C3, i64 C4], i64 0])) (c2 : PC Try.prog 106 [ints p, i64 thr, i64 noise] (.tup [.agg [i64 W1, i64 W2, i64 W3, i64 W4], i64 0])) (c3 : PC Try.prog 50 [i64 (IntKind.i64.wrap (16 * z))] ((.agg [i64 Z, i64 1]))) (c4 : PC Try.prog 113 [.agg [i64 Z, i64 1]] ((.agg [i64 Z, i64 1, i64 Z, i64 1]))) (c5 : PC Try.prog 98 [.agg [i64 W1, i64 W2, i64 W3, i64 W4], .agg [i64 Z, i64 1, i64 Z, i64 1]] (.tup [.agg [i64 M1, i64 M2, i64 M3, i64 M4], i64 0]))
    (c6 : PC Try.prog 93 [.agg [i64 M1, i64 M2, i64 M3, i64 M4], .agg [i64 F1, i64 F2, i64 F3, i64 F4]] (.tup [.agg [i64 D1, i64 D2, i64 D3, i64 D4], i64 E])) : PC Try.prog 44 [vws l, ints p, i64 thr, i64 noise, i64 z] (.tup [.agg [i64 D1, i64 D2, i64 D3, i64 D4], i64 E]) := by
  refine pc_of_bodyF hm Try.func44 (by kernel_rfl) ?_
  conv => whnf
  (repeat' (first | (refine ⟨_, by first | with_reducible exact c1 | with_reducible exact c2 | with_reducible exact c3 | with_reducible exact c4 | with_reducible exact c5 | with_reducible exact c6, ?_⟩; (conv => whnf)) | (refine Or.inl ?_; (conv => whnf); refine ⟨_, by first | with_reducible exact c1 | with_reducible exact c2 | with_reducible exact c3 | with_reducible exact c4 | with_reducible exact c5 | with_reducible exact c6, ?_⟩; (conv => whnf)) | (refine Or.inl ?_; (conv => whnf); refine ⟨false, ?_⟩; (conv => whnf); refine ⟨_, by first | with_reducible exact c1 | with_reducible exact c2 | with_reducible exact c3 | with_reducible exact c4 | with_reducible exact c5 | with_reducible exact c6, ?_⟩; (conv => whnf)) | (refine ⟨by kernel_rfl, ?_⟩; (conv => whnf)) | (refine ⟨fun _ => ?_, fun h => absurd h (by first | decide | (simp; done) | fail)⟩; (conv => whnf)) | (refine ⟨fun h => absurd h (by first | decide | (simp; done) | fail), fun _ => ?_⟩; (conv => whnf)) | ((with_reducible refine And.intro (a := _ = true → _) (b := _ = false → _) (fun hh => ?_) (fun hh => ?_)) <;> (try simp only [decide_eq_true_eq, decide_eq_false_iff_not, Bool.or_eq_true, Bool.and_eq_true, Bool.or_eq_false_iff, Bool.and_eq_false_iff, Bool.not_eq_true', Bool.not_eq_false', ge_iff_le, gt_iff_lt] at hh) <;> (first | (exfalso; omega) | (conv => whnf))) | fail))
theorem pc_size (l : List SpT) (p : List Int) (thr noise z : Int) (hl : l.length < 2 ^ 39) (hp : p.length < 2 ^ 40) (z1 : 1 ≤ z) (z2 : z ≤ 1000) : PC Try.prog 44 [vws l, ints p, i64 thr, i64 noise, i64 z] (.tup [sp (sizF l p thr noise z).1, i64 (sizF l p thr noise z).2]) := by
  have c1 := pc_Calibrate l hl
  have c2 := pc_gWidth p thr noise hp
  have c3 := pc_topwhole (16 * z)
  have wz : IntKind.i64.wrap (16 * z) = 16 * z := w64 _ (by omega) (by omega)
  have c4 := pc_toppoint (16 * z) 1
  have c5 := fun w : SpT => pc_MulSpans w ((16 * z, 1), (16 * z, 1))
  have c6 := fun w F : SpT => pc_DivSpans w F
  rw [← wz] at c3
  unfold sizF sizG
  generalize calF l = c at *
  generalize widE p thr noise = w at *
  have c5 := c5 w.1
  rw [wz] at c3
  rw [← wz] at c3
  by_cases h1 : c.2 = 0
  rotate_left
  · rw [if_neg h1]
    exact szBad1 l p thr noise z _ _ _ _ _ _ _ _ _ h1 c1
  rw [h1] at c1
  by_cases h2 : w.2 = 0
  rotate_left
  · rw [if_pos h1, if_neg h2]
    exact szBad2 l p thr noise z _ _ _ _ _ _ _ _ _ _ _ _ _ h2 c1 c2
  rw [h2] at c2
  rw [if_pos h1, if_pos h2]
  have c3 : PC Try.prog 50 [i64 (IntKind.i64.wrap (16 * z))] (fr (16 * z, 1)) := by
    rw [wz]
    exact pc_topwhole (16 * z)
  have c6 := c6 (mulS w.1 ((16 * z, 1), (16 * z, 1))).1 c.1.1
  generalize hmm : mulS w.1 ((16 * z, 1), (16 * z, 1)) = m at *
  by_cases h3 : m.2 = 0
  rotate_left
  · rw [if_neg h3]
    exact szBad3 l p thr noise z _ _ _ _ _ _ _ _ _ _ _ _ _ _ _ _ _ _ h3 c1 c2 c3 c4 c5
  rw [h3] at c5
  rw [if_pos h3]
  exact szOk l p thr noise z _ _ _ _ _ _ _ _ _ _ _ _ _ _ _ _ _ _ _ _ _ _ c1 c2 c3 c4 c5 c6
end Go.Proofs.Try.My
set_option maxRecDepth 100000
set_option maxHeartbeats 0
set_option linter.unusedVariables false
set_option linter.unusedSimpArgs false
namespace Go.Proofs.Try.My
open Go Go.Ev

theorem tv1 : sizF [((0, 1), (0, 0)), ((1, 1), (32, 32))] [0, 0, 100, 100, 0] 50 0 10 = (((10, 1), (10, 1)), 0) := by kernel_rfl
theorem pc_alive05 : PC Try.prog 42 [] (.bool true) := by
  have c1 : PC Try.prog 44 [.slc 4 [[i64 0, i64 1, i64 0, i64 0], [i64 1, i64 1, i64 32, i64 32]], .slc 1 [[i64 0], [i64 0], [i64 100], [i64 100], [i64 0]], i64 50, i64 0, i64 10] (.tup [sp ((10, 1), (10, 1)), i64 0]) := by
    have a := pc_size [((0, 1), (0, 0)), ((1, 1), (32, 32))] [0, 0, 100, 100, 0] 50 0 10 (by decide) (by decide) (by decide) (by decide)
    rw [tv1] at a
    refine a.sub rfl (fun i hi => ?_) (.refl _)
    match i with
    | 0 => exact .slc 4 z4 eS [((0, 1), (0, 0)), ((1, 1), (32, 32))]
    | 1 => exact .slc 1 0 eI [0, 0, 100, 100, 0]
    | 2 => exact .refl _
    | 3 => exact .refl _
    | 4 => exact .refl _
    | (n + 5) => exact .refl _
  have c2 := pc_topwhole 10
  have c3 := pc_toppoint 10 1
  refine pc_of_bodyF hm Try.func42 (by kernel_rfl) ?_
  conv => whnf
  (repeat' (first | (refine ⟨_, by first | exact c1 | exact c2 | exact c3, ?_⟩; (conv => whnf)) | (refine Or.inl ?_; (conv => whnf); refine ⟨_, by first | exact c1 | exact c2 | exact c3, ?_⟩; (conv => whnf)) | (refine Or.inl ?_; (conv => whnf); refine ⟨false, ?_⟩; (conv => whnf); refine ⟨_, by first | exact c1 | exact c2 | exact c3, ?_⟩; (conv => whnf)) | (refine ⟨by kernel_rfl, ?_⟩; (conv => whnf)) | (refine ⟨fun _ => ?_, fun h => absurd h (by first | decide | (simp; done) | fail)⟩; (conv => whnf)) | (refine ⟨fun h => absurd h (by first | decide | (simp; done) | fail), fun _ => ?_⟩; (conv => whnf)) | fail))
  all_goals (first | rfl | set_option pp.maxSteps 300 in trace_state)
theorem pc_topfirst (q : List Int) (thr : Int) (hq : bigL q) (hl : q.length ≤ 64) : PC Try.prog 47 [ints q, i64 thr] (.tup [i64 (fstN q thr 0).1, i64 (fstN q thr 0).2.1, .bool (fstN q thr 0).2.2]) := by
  have hs : stepsN q.length 0 1 = q.length := by simp [stepsN]
  have at1 : ∀ j : Nat, atK q 0 1 j = q.getD j 0 := fun j => by unfold atK; simp
  refine pc_of_bodyF hm Try.func47 (by kernel_rfl) ?_
  conv => whnf
  refine Or.inr ⟨Nat, [11], [], [], fun i => [i64 i], fun _ => [], fun _ => [], fun i => q.length - i, fun i => i ≤ q.length ∧ ∀ j, j < i → q.getD j 0 < thr, ?_⟩
  (conv => whnf)
  refine ⟨⟨0, ?_⟩, ?_⟩
  · (conv => whnf)
    exact ⟨⟨⟨Nat.zero_le _, fun j hj => absurd hj (Nat.not_lt_zero j)⟩, rfl, rfl, rfl⟩, by kernel_rfl, by kernel_rfl⟩
  · intro k ⟨hk, hlow⟩
    (conv => whnf)
    refine ⟨fun h => ?_, fun h => ?_⟩
    · have h := of_decide_eq_true h
      have h' : k < q.length := by omega
      have b1 := hq k h'
      have e0 : q.getD (Int.toNat (k : Int)) 0 = q.getD k 0 := rfl
      (conv => whnf)
      (repeat' (first | (refine ⟨by kernel_rfl, ?_⟩; (conv => whnf)) | (refine And.intro (a := _ ∧ _) ⟨by omega, by omega⟩ ?_; (conv => whnf))))
      refine ⟨fun h2 => ?_, fun h2 => ?_⟩
      · have h2 := of_decide_eq_true h2
        (conv => whnf)
        refine ⟨k + 1, ?_⟩
        (conv => whnf)
        refine ⟨⟨⟨Nat.sub_lt_sub_left (by omega) (Nat.lt_succ_self k), by omega, fun j hj => ?_⟩, ?_, rfl, rfl⟩, by kernel_rfl, by kernel_rfl⟩
        · by_cases e : j = k
          · subst e; exact h2
          · exact hlow j (by omega)
        · rw [w64 _ (by omega) (by omega)]; rfl
      · have h2 := of_decide_eq_false h2
        have h2 : ¬ q.getD k 0 < thr := h2
        have hbk : brk q thr 0 1 = some k := brk_some.2 ⟨by rw [hs]; exact h', by rw [at1]; omega, fun j hj => by rw [at1]; exact hlow j hj⟩
        by_cases k0 : k = 0
        · subst k0
          have e : fstN q thr 0 = (0, 1, true) := by unfold fstN; rw [hbk]; rfl
          rw [e]
          (conv => whnf)
          refine ⟨fun _ => ?_, fun h => absurd (show ((0 : Nat) : Int) = 0 from rfl) (of_decide_eq_false h)⟩
          (conv => whnf)
          first | rfl | set_option pp.maxSteps 300 in trace_state
        · obtain ⟨m, rfl⟩ : ∃ m, k = m + 1 := ⟨k - 1, by omega⟩
          have e : fstN q thr 0 = ((m : Int) * (q.getD (m + 1) 0 - q.getD m 0) + (thr - q.getD m 0), q.getD (m + 1) 0 - q.getD m 0, true) := by
            unfold fstN
            rw [hbk]
            simp only [placeN]
            rw [at1, at1, Int.one_mul, Int.one_mul, Int.zero_add]
          rw [e]
          have b2 := hq m (by omega)
          have l0 := hlow m (by omega)
          have wd : IntKind.i64.wrap (((m + 1 : Nat) : Int) - 1) = (m : Int) := by rw [w64 _ (by omega) (by omega)]; omega
          (conv => whnf)
          refine ⟨fun h => absurd (of_decide_eq_true h) (by omega), fun _ => ?_⟩
          (conv => whnf)
          (repeat' (first | (refine ⟨by kernel_rfl, ?_⟩; (conv => whnf)) | (refine And.intro (a := _ ∧ _) ⟨by omega, by omega⟩ ?_; (conv => whnf))))
          have f0 : q.getD (Int.toNat (m : Int)) 0 = q.getD m 0 := rfl
          have f1 : q.getD (Int.toNat ((m + 1 : Nat) : Int)) 0 = q.getD (m + 1) 0 := rfl
          rw [wd, f0, f1]
          generalize q.getD (m + 1) 0 = u at *
          generalize q.getD m 0 = v at *
          have ms := mul_size (a := (m : Int)) (b := u - v) (A := 63) (B := 1020) (by omega) (by omega) (by omega) (by omega)
          have w1 : IntKind.i64.wrap (u - v) = u - v := w64 _ (by omega) (by omega)
          rw [w1, w64 ((m : Int) * (u - v)) (by omega) (by omega)]
          generalize (m : Int) * (u - v) = mm at *
          rw [w64 (mm + thr) (by omega) (by omega), w64 _ (by omega) (by omega)]
          rw [show mm + thr - v = mm + (thr - v) by omega]
    · have h := of_decide_eq_false h
      have hbk : brk q thr 0 1 = none := brk_none.2 fun j hj => by rw [hs] at hj; rw [at1]; exact hlow j (by omega)
      rw [fstN_none hbk]
      (conv => whnf)
      first | rfl | set_option pp.maxSteps 300 in trace_state
end Go.Proofs.Try.My
set_option maxRecDepth 100000
set_option maxHeartbeats 0
set_option linter.unusedVariables false
set_option linter.unusedSimpArgs false
namespace Go.Proofs.Try.My
open Go Go.Ev

theorem tmOut (l : List SpT) (p moves : List Int) (f c d thr noise z : Int) (h : 12 < l.length ∨ 64 < p.length ∨ z < 1 ∨ 1000 < z ∨ noise < 0 ∨ 64 < noise ∨ f < 1 ∨ d < 1) : PC Try.prog 7 [vws l, .int .i16 f, .int .i16 c, .int .i16 d, ints p, i16s moves, i64 thr, i64 noise, i64 z] (.bool true) := by
  have al := pc_alive05
  refine pc_of_bodyF hm Try.func7 (by kernel_rfl) ?_
  conv => whnf
  (repeat' (first | (refine ⟨_, by first | with_reducible exact al, ?_⟩; (conv => whnf)) | (refine Or.inl ?_; (conv => whnf); refine ⟨_, by first | with_reducible exact al, ?_⟩; (conv => whnf)) | (refine Or.inl ?_; (conv => whnf); refine ⟨false, ?_⟩; (conv => whnf); refine ⟨_, by first | with_reducible exact al, ?_⟩; (conv => whnf)) | (refine ⟨by kernel_rfl, ?_⟩; (conv => whnf)) | (refine ⟨fun _ => ?_, fun h => absurd h (by first | decide | (simp; done) | fail)⟩; (conv => whnf)) | (refine ⟨fun h => absurd h (by first | decide | (simp; done) | fail), fun _ => ?_⟩; (conv => whnf)) | ((with_reducible refine And.intro (a := _ = true → _) (b := _ = false → _) (fun hh => ?_) (fun hh => ?_)) <;> (try simp only [decide_eq_true_eq, decide_eq_false_iff_not, Bool.or_eq_true, Bool.and_eq_true, Bool.or_eq_false_iff, Bool.and_eq_false_iff, Bool.not_eq_true', Bool.not_eq_false', ge_iff_le, gt_iff_lt] at hh) <;> (first | (exfalso; omega) | (conv => whnf))) | fail))
  all_goals (first | rfl | (exfalso; omega))
theorem tmView (l : List SpT) (p moves : List Int) (f c d thr noise z : Int) (hl : l.length ≤ 12) (hp : p.length ≤ 64) (hz : 1 ≤ z ∧ z ≤ 1000) (hn : 0 ≤ noise ∧ noise ≤ 64) (hf : 1 ≤ f) (hd : 1 ≤ d) (k : Nat) (hk : k < l.length) (hb : viewB (l.getD k z4) = false) (hlow : ∀ j, j < k → viewB (l.getD j z4) = true) : PC Try.prog 7 [vws l, .int .i16 f, .int .i16 c, .int .i16 d, ints p, i16s moves, i64 thr, i64 noise, i64 z] (.bool true) := by
  have al := pc_alive05
  refine pc_of_bodyF hm Try.func7 (by kernel_rfl) ?_
  conv => whnf
  (repeat' (first | (refine ⟨_, by first | with_reducible exact al, ?_⟩; (conv => whnf)) | (refine Or.inl ?_; (conv => whnf); refine ⟨_, by first | with_reducible exact al, ?_⟩; (conv => whnf)) | (refine Or.inl ?_; (conv => whnf); refine ⟨false, ?_⟩; (conv => whnf); refine ⟨_, by first | with_reducible exact al, ?_⟩; (conv => whnf)) | (refine ⟨by kernel_rfl, ?_⟩; (conv => whnf)) | (refine ⟨fun _ => ?_, fun h => absurd h (by first | decide | (simp; done) | fail)⟩; (conv => whnf)) | (refine ⟨fun h => absurd h (by first | decide | (simp; done) | fail), fun _ => ?_⟩; (conv => whnf)) | ((with_reducible refine And.intro (a := _ = true → _) (b := _ = false → _) (fun hh => ?_) (fun hh => ?_)) <;> (try simp only [decide_eq_true_eq, decide_eq_false_iff_not, Bool.or_eq_true, Bool.and_eq_true, Bool.or_eq_false_iff, Bool.and_eq_false_iff, Bool.not_eq_true', Bool.not_eq_false', ge_iff_le, gt_iff_lt] at hh) <;> (first | (exfalso; omega) | (conv => whnf))) | fail))
  refine Or.inr ⟨Nat, [93], [], [], fun i => [i64 i], fun _ => [], fun _ => [], fun i => l.length - i, fun i => i ≤ k, ?_⟩
  (conv => whnf)
  refine ⟨⟨0, ?_⟩, ?_⟩
  · (conv => whnf)
    exact ⟨⟨Nat.zero_le _, rfl, rfl, rfl⟩, by kernel_rfl, by kernel_rfl⟩
  · intro i hi
    (conv => whnf)
    refine ⟨fun h => ?_, fun h => ?_⟩
    · have h := of_decide_eq_true h
      have h' : i < l.length := Int.ofNat_lt.1 h
      have cv := pc_rValidView (l.getD i z4)
      have e1 : viewB (l.getD i z4) = decide (i < k) := by
        by_cases e : i < k
        · rw [hlow i e]; simp [e]
        · obtain rfl : i = k := by omega
          rw [hb]; simp
      rw [e1] at cv
      (conv => whnf)
      (repeat' (first | (refine ⟨by kernel_rfl, ?_⟩; (conv => whnf)) | (refine And.intro (a := _ ∧ _) ⟨by omega, by omega⟩ ?_; (conv => whnf))))
      (repeat' (first | (refine ⟨_, by first | exact cv, ?_⟩; (conv => whnf)) | (refine Or.inl ?_; (conv => whnf); refine ⟨_, by first | exact cv, ?_⟩; (conv => whnf)) | (refine Or.inl ?_; (conv => whnf); refine ⟨false, ?_⟩; (conv => whnf); refine ⟨_, by first | exact cv, ?_⟩; (conv => whnf)) | (refine ⟨by kernel_rfl, ?_⟩; (conv => whnf)) | fail))
      refine ⟨fun h1 => ?_, fun h1 => ?_⟩
      · (conv => whnf)
        first | rfl | (repeat' (first | (refine ⟨by kernel_rfl, ?_⟩; (conv => whnf)) | fail))
      · have h1 : i < k := by simpa using h1
        (conv => whnf)
        refine ⟨i + 1, ?_⟩
        (conv => whnf)
        refine ⟨⟨⟨Nat.sub_lt_sub_left (by omega) (Nat.lt_succ_self i), by omega⟩, ?_, rfl, rfl⟩, by kernel_rfl, by kernel_rfl⟩
        rw [w64 _ (by omega) (by omega)]; rfl
    · have h := of_decide_eq_false h
      exfalso; omega
def topW : PSigma fun P : List SpT → List Int → List Int → Int → Int → Int → Int → Int → Int → Prop => ∀ (l : List SpT) (p moves : List Int) (f c d thr noise z : Int), l.length ≤ 12 → p.length ≤ 64 → (1 ≤ z ∧ z ≤ 1000) → (0 ≤ noise ∧ noise ≤ 64) → 1 ≤ f → 1 ≤ d → (∀ v ∈ l, viewB v = true) → (Unit → P l p moves f c d thr noise z) → PC Try.prog 7 [vws l, .int .i16 f, .int .i16 c, .int .i16 d, ints p, i16s moves, i64 thr, i64 noise, i64 z] (.bool true) := ⟨_, fun l p moves f c d thr noise z hl hp hz hn hf hd hv hP => by
  have al := pc_alive05
  refine pc_of_bodyF hm Try.func7 (by kernel_rfl) ?_
  conv => whnf
  (repeat' (first | (refine ⟨_, by first | with_reducible exact al, ?_⟩; (conv => whnf)) | (refine Or.inl ?_; (conv => whnf); refine ⟨_, by first | with_reducible exact al, ?_⟩; (conv => whnf)) | (refine Or.inl ?_; (conv => whnf); refine ⟨false, ?_⟩; (conv => whnf); refine ⟨_, by first | with_reducible exact al, ?_⟩; (conv => whnf)) | (refine ⟨by kernel_rfl, ?_⟩; (conv => whnf)) | (refine ⟨fun _ => ?_, fun h => absurd h (by first | decide | (simp; done) | fail)⟩; (conv => whnf)) | (refine ⟨fun h => absurd h (by first | decide | (simp; done) | fail), fun _ => ?_⟩; (conv => whnf)) | ((with_reducible refine And.intro (a := _ = true → _) (b := _ = false → _) (fun hh => ?_) (fun hh => ?_)) <;> (try simp only [decide_eq_true_eq, decide_eq_false_iff_not, Bool.or_eq_true, Bool.and_eq_true, Bool.or_eq_false_iff, Bool.and_eq_false_iff, Bool.not_eq_true', Bool.not_eq_false', ge_iff_le, gt_iff_lt] at hh) <;> (first | (exfalso; omega) | (conv => whnf))) | fail))
  refine Or.inr ⟨Nat, [93], [], [], fun i => [i64 i], fun _ => [], fun _ => [], fun i => l.length - i, fun i => i ≤ l.length, ?_⟩
  (conv => whnf)
  refine ⟨⟨0, ?_⟩, ?_⟩
  · (conv => whnf)
    exact ⟨⟨Nat.zero_le _, rfl, rfl, rfl⟩, by kernel_rfl, by kernel_rfl⟩
  · intro i hi
    (conv => whnf)
    refine ⟨fun h => ?_, fun h => ?_⟩
    · have h := of_decide_eq_true h
      have h' : i < l.length := Int.ofNat_lt.1 h
      have cv := pc_rValidView (l.getD i z4)
      have e1 : viewB (l.getD i z4) = true := hv _ (by
        simp only [List.getD, List.getElem?_eq_getElem h', Option.getD_some]
        exact List.getElem_mem h')
      rw [e1] at cv
      (conv => whnf)
      (repeat' (first | (refine ⟨by kernel_rfl, ?_⟩; (conv => whnf)) | (refine And.intro (a := _ ∧ _) ⟨by omega, by omega⟩ ?_; (conv => whnf))))
      (repeat' (first | (refine ⟨_, by first | exact cv, ?_⟩; (conv => whnf)) | (refine Or.inl ?_; (conv => whnf); refine ⟨_, by first | exact cv, ?_⟩; (conv => whnf)) | (refine Or.inl ?_; (conv => whnf); refine ⟨false, ?_⟩; (conv => whnf); refine ⟨_, by first | exact cv, ?_⟩; (conv => whnf)) | (refine ⟨by kernel_rfl, ?_⟩; (conv => whnf)) | (refine ⟨fun _ => ?_, fun h => absurd h (by first | decide | (simp; done) | fail)⟩; (conv => whnf)) | (refine ⟨fun h => absurd h (by first | decide | (simp; done) | fail), fun _ => ?_⟩; (conv => whnf)) | fail))
      refine ⟨i + 1, ?_⟩
      (conv => whnf)
      refine ⟨⟨⟨Nat.sub_lt_sub_left (by omega) (Nat.lt_succ_self i), by omega⟩, ?_, rfl, rfl⟩, by kernel_rfl, by kernel_rfl⟩
      rw [w64 _ (by omega) (by omega)]; rfl
    · have h := of_decide_eq_false h
      have e4 : i = l.length := by omega
      subst e4
      (conv => whnf)
      exact hP ()⟩
end Go.Proofs.Try.My
set_option maxRecDepth 100000
set_option maxHeartbeats 0
set_option linter.unusedVariables false
set_option linter.unusedSimpArgs false
namespace Go.Proofs.Try.My
open Go Go.Ev

theorem tm_e {l : List SpT} {p moves : List Int} {f c d thr noise z S1 S2 S3 S4 : Int} (E : Int) (hE : E ≠ 0) (ks : PC Try.prog 44 [vws l, ints p, i64 thr, i64 noise, i64 z] (.tup [.agg [i64 S1, i64 S2, i64 S3, i64 S4], i64 E])) : topW.1 l p moves f c d thr noise z := by
  conv => whnf
  (repeat' (first | (refine ⟨_, by first | with_reducible exact ks, ?_⟩; (conv => whnf)) | (refine Or.inl ?_; (conv => whnf); refine ⟨_, by first | with_reducible exact ks, ?_⟩; (conv => whnf)) | (refine Or.inl ?_; (conv => whnf); refine ⟨false, ?_⟩; (conv => whnf); refine ⟨_, by first | with_reducible exact ks, ?_⟩; (conv => whnf)) | (refine ⟨by kernel_rfl, ?_⟩; (conv => whnf)) | fail))
  (repeat' (first | (refine ⟨by kernel_rfl, ?_⟩; (conv => whnf)) | (refine ⟨fun _ => ?_, fun h => absurd h (by first | decide | (simp; done) | fail)⟩; (conv => whnf)) | (refine ⟨fun h => absurd h (by first | decide | (simp; done) | fail), fun _ => ?_⟩; (conv => whnf)) | ((with_reducible refine And.intro (a := _ = true → _) (b := _ = false → _) (fun hh => ?_) (fun hh => ?_)) <;> (try simp only [decide_eq_true_eq, decide_eq_false_iff_not, Bool.or_eq_true, Bool.and_eq_true, Bool.or_eq_false_iff, Bool.and_eq_false_iff, Bool.not_eq_true', Bool.not_eq_false', ge_iff_le, gt_iff_lt] at hh) <;> (first | (exfalso; omega) | (conv => whnf))) | fail))
  all_goals (first | rfl | set_option pp.maxSteps 300 in trace_state)
theorem tm_a {l : List SpT} {p moves : List Int} {f c d thr noise z S1 S2 S3 S4 : Int} (ks : PC Try.prog 44 [vws l, ints p, i64 thr, i64 noise, i64 z] (.tup [.agg [i64 S1, i64 S2, i64 S3, i64 S4], i64 0])) (ka : PC Try.prog 45 [.agg [i64 (IntKind.i64.wrap f), i64 (IntKind.i64.wrap c), i64 (IntKind.i64.wrap d)], vws l] (.bool false)) : topW.1 l p moves f c d thr noise z := by
  conv => whnf
  (repeat' (first | (refine ⟨_, by first | with_reducible exact ks | with_reducible exact ka, ?_⟩; (conv => whnf)) | (refine Or.inl ?_; (conv => whnf); refine ⟨_, by first | with_reducible exact ks | with_reducible exact ka, ?_⟩; (conv => whnf)) | (refine Or.inl ?_; (conv => whnf); refine ⟨false, ?_⟩; (conv => whnf); refine ⟨_, by first | with_reducible exact ks | with_reducible exact ka, ?_⟩; (conv => whnf)) | (refine ⟨by kernel_rfl, ?_⟩; (conv => whnf)) | (refine ⟨fun _ => ?_, fun h => absurd h (by first | decide | (simp; done) | fail)⟩; (conv => whnf)) | (refine ⟨fun h => absurd h (by first | decide | (simp; done) | fail), fun _ => ?_⟩; (conv => whnf)) | fail))
  all_goals (first | rfl | set_option pp.maxSteps 300 in trace_state)
theorem tm_v {l : List SpT} {p moves : List Int} {f c d thr noise z S1 S2 S3 S4 : Int} (ks : PC Try.prog 44 [vws l, ints p, i64 thr, i64 noise, i64 z] (.tup [.agg [i64 S1, i64 S2, i64 S3, i64 S4], i64 0])) (ka : PC Try.prog 45 [.agg [i64 (IntKind.i64.wrap f), i64 (IntKind.i64.wrap c), i64 (IntKind.i64.wrap d)], vws l] (.bool true)) (kv : PC Try.prog 46 [ints p] (.bool false)) : topW.1 l p moves f c d thr noise z := by
  conv => whnf
  (repeat' (first | (refine ⟨_, by first | with_reducible exact ks | with_reducible exact ka | with_reducible exact kv, ?_⟩; (conv => whnf)) | (refine Or.inl ?_; (conv => whnf); refine ⟨_, by first | with_reducible exact ks | with_reducible exact ka | with_reducible exact kv, ?_⟩; (conv => whnf)) | (refine Or.inl ?_; (conv => whnf); refine ⟨false, ?_⟩; (conv => whnf); refine ⟨_, by first | with_reducible exact ks | with_reducible exact ka | with_reducible exact kv, ?_⟩; (conv => whnf)) | (refine ⟨by kernel_rfl, ?_⟩; (conv => whnf)) | (refine ⟨fun _ => ?_, fun h => absurd h (by first | decide | (simp; done) | fail)⟩; (conv => whnf)) | (refine ⟨fun h => absurd h (by first | decide | (simp; done) | fail), fun _ => ?_⟩; (conv => whnf)) | fail))
  all_goals (first | rfl | set_option pp.maxSteps 300 in trace_state)
def topV : PSigma fun P : List SpT → List Int → List Int → Int → Int → Int → Int → Int → Int → Int → Int → Int → Int → Prop => ∀ (l : List SpT) (p moves : List Int) (f c d thr noise z S1 S2 S3 S4 : Int), (PC Try.prog 44 [vws l, ints p, i64 thr, i64 noise, i64 z] (.tup [.agg [i64 S1, i64 S2, i64 S3, i64 S4], i64 0])) → (PC Try.prog 45 [.agg [i64 (IntKind.i64.wrap f), i64 (IntKind.i64.wrap c), i64 (IntKind.i64.wrap d)], vws l] (.bool true)) → (PC Try.prog 46 [ints p] (.bool true)) → (Unit → P l p moves f c d thr noise z S1 S2 S3 S4) → topW.1 l p moves f c d thr noise z := ⟨_, fun l p moves f c d thr noise z S1 S2 S3 S4 ks ka kv hP => by
  conv => whnf
  (repeat' (first | (refine ⟨_, by first | with_reducible exact ks | with_reducible exact ka | with_reducible exact kv, ?_⟩; (conv => whnf)) | (refine Or.inl ?_; (conv => whnf); refine ⟨_, by first | with_reducible exact ks | with_reducible exact ka | with_reducible exact kv, ?_⟩; (conv => whnf)) | (refine Or.inl ?_; (conv => whnf); refine ⟨false, ?_⟩; (conv => whnf); refine ⟨_, by first | with_reducible exact ks | with_reducible exact ka | with_reducible exact kv, ?_⟩; (conv => whnf)) | (refine ⟨by kernel_rfl, ?_⟩; (conv => whnf)) | (refine ⟨fun _ => ?_, fun h => absurd h (by first | decide | (simp; done) | fail)⟩; (conv => whnf)) | (refine ⟨fun h => absurd h (by first | decide | (simp; done) | fail), fun _ => ?_⟩; (conv => whnf)) | fail))
  exact hP ()⟩
end Go.Proofs.Try.My
