/- A helper text: contracts of functions of the program, and plain lemmas. -/
import Derived.Test.YtblmmhmdnnnidaaGreatEvSix
import Derived.Test.YtblmmhmdnnnidaaGreatMzVl2
import Derived.Test.YtblmmhmdnnnidaaGreatMzRcB
import Derived.Test.YtblmmhmdnnnidaaGreatMzSame
set_option maxRecDepth 100000
set_option maxHeartbeats 0
set_option linter.unusedVariables false
set_option linter.unusedSimpArgs false
namespace Go.Proofs.Tryz.My
open Go Go.Ev

theorem rvBad (W H thr noise : Int) (pix : List Int) (E : Int) (hE : E ≠ 0) (c1 : PC Tryz.prog 18 [img W H pix] (i64 E)) : PC Tryz.prog 5 [img W H pix, i64 thr, i64 noise] (.tup [.nils, i64 E]) := by
  refine pc_of_bodyF hm Tryz.func5 (by kernel_rfl) ?_
  conv => whnf
  (repeat' (first | (refine ⟨_, by first | exact c1, ?_⟩; (conv => whnf)) | (refine Or.inl ?_; (conv => whnf); refine ⟨_, by first | exact c1, ?_⟩; (conv => whnf)) | (refine Or.inl ?_; (conv => whnf); refine ⟨false, ?_⟩; (conv => whnf); refine ⟨_, by first | exact c1, ?_⟩; (conv => whnf)) | (refine ⟨by kernel_rfl, ?_⟩; (conv => whnf)) | (refine ⟨fun _ => ?_, fun h => absurd h (by first | decide | (simp; done) | fail)⟩; (conv => whnf)) | (refine ⟨fun h => absurd h (by first | decide | (simp; done) | fail), fun _ => ?_⟩; (conv => whnf)) | ((with_reducible refine And.intro (a := _ = true → _) (b := _ = false → _) (fun hh => ?_) (fun hh => ?_)) <;> (try simp only [decide_eq_true_eq, decide_eq_false_iff_not, Bool.or_eq_true, Bool.and_eq_true, Bool.or_eq_false_iff, Bool.and_eq_false_iff, Bool.not_eq_true', Bool.not_eq_false', ge_iff_le, gt_iff_lt] at hh) <;> (first | (exfalso; omega) | (conv => whnf))) | fail))
  all_goals (first | rfl | set_option pp.maxSteps 300 in trace_state)
theorem rvArg (W H thr noise : Int) (pix : List Int) (b1 b2 b3 : Bool) (hb : b1 = false ∨ b2 = false ∨ W < 2 ∨ b3 = false) (c1 : PC Tryz.prog 18 [img W H pix] (i64 0)) (c2 : PC Tryz.prog 19 [i64 thr, i64 1, i64 255] (.bool b1)) (c3 : PC Tryz.prog 19 [i64 noise, i64 0, i64 64] (.bool b2))
    (c4 : PC Tryz.prog 20 [img W H pix] (.bool b3)) : PC Tryz.prog 5 [img W H pix, i64 thr, i64 noise] (.tup [.nils, i64 2]) := by
  cases b1
  · refine pc_of_bodyF hm Tryz.func5 (by kernel_rfl) ?_
    conv => whnf
    (repeat' (first | (refine ⟨_, by first | exact c1 | exact c2, ?_⟩; (conv => whnf)) | (refine Or.inl ?_; (conv => whnf); refine ⟨_, by first | exact c1 | exact c2, ?_⟩; (conv => whnf)) | (refine Or.inl ?_; (conv => whnf); refine ⟨false, ?_⟩; (conv => whnf); refine ⟨_, by first | exact c1 | exact c2, ?_⟩; (conv => whnf)) | (refine ⟨by kernel_rfl, ?_⟩; (conv => whnf)) | (refine ⟨fun _ => ?_, fun h => absurd h (by first | decide | (simp; done) | fail)⟩; (conv => whnf)) | (refine ⟨fun h => absurd h (by first | decide | (simp; done) | fail), fun _ => ?_⟩; (conv => whnf)) | ((with_reducible refine And.intro (a := _ = true → _) (b := _ = false → _) (fun hh => ?_) (fun hh => ?_)) <;> (try simp only [decide_eq_true_eq, decide_eq_false_iff_not, Bool.or_eq_true, Bool.and_eq_true, Bool.or_eq_false_iff, Bool.and_eq_false_iff, Bool.not_eq_true', Bool.not_eq_false', ge_iff_le, gt_iff_lt] at hh) <;> (first | (exfalso; omega) | (conv => whnf))) | fail))
    all_goals (first | rfl | set_option pp.maxSteps 300 in trace_state)
  cases b2
  · refine pc_of_bodyF hm Tryz.func5 (by kernel_rfl) ?_
    conv => whnf
    (repeat' (first | (refine ⟨_, by first | exact c1 | exact c2 | exact c3, ?_⟩; (conv => whnf)) | (refine Or.inl ?_; (conv => whnf); refine ⟨_, by first | exact c1 | exact c2 | exact c3, ?_⟩; (conv => whnf)) | (refine Or.inl ?_; (conv => whnf); refine ⟨false, ?_⟩; (conv => whnf); refine ⟨_, by first | exact c1 | exact c2 | exact c3, ?_⟩; (conv => whnf)) | (refine ⟨by kernel_rfl, ?_⟩; (conv => whnf)) | (refine ⟨fun _ => ?_, fun h => absurd h (by first | decide | (simp; done) | fail)⟩; (conv => whnf)) | (refine ⟨fun h => absurd h (by first | decide | (simp; done) | fail), fun _ => ?_⟩; (conv => whnf)) | ((with_reducible refine And.intro (a := _ = true → _) (b := _ = false → _) (fun hh => ?_) (fun hh => ?_)) <;> (try simp only [decide_eq_true_eq, decide_eq_false_iff_not, Bool.or_eq_true, Bool.and_eq_true, Bool.or_eq_false_iff, Bool.and_eq_false_iff, Bool.not_eq_true', Bool.not_eq_false', ge_iff_le, gt_iff_lt] at hh) <;> (first | (exfalso; omega) | (conv => whnf))) | fail))
    all_goals (first | rfl | set_option pp.maxSteps 300 in trace_state)
  by_cases hW : W < 2
  · refine pc_of_bodyF hm Tryz.func5 (by kernel_rfl) ?_
    conv => whnf
    (repeat' (first | (refine ⟨_, by first | exact c1 | exact c2 | exact c3, ?_⟩; (conv => whnf)) | (refine Or.inl ?_; (conv => whnf); refine ⟨_, by first | exact c1 | exact c2 | exact c3, ?_⟩; (conv => whnf)) | (refine Or.inl ?_; (conv => whnf); refine ⟨false, ?_⟩; (conv => whnf); refine ⟨_, by first | exact c1 | exact c2 | exact c3, ?_⟩; (conv => whnf)) | (refine ⟨by kernel_rfl, ?_⟩; (conv => whnf)) | (refine ⟨fun _ => ?_, fun h => absurd h (by first | decide | (simp; done) | fail)⟩; (conv => whnf)) | (refine ⟨fun h => absurd h (by first | decide | (simp; done) | fail), fun _ => ?_⟩; (conv => whnf)) | ((with_reducible refine And.intro (a := _ = true → _) (b := _ = false → _) (fun hh => ?_) (fun hh => ?_)) <;> (try simp only [decide_eq_true_eq, decide_eq_false_iff_not, Bool.or_eq_true, Bool.and_eq_true, Bool.or_eq_false_iff, Bool.and_eq_false_iff, Bool.not_eq_true', Bool.not_eq_false', ge_iff_le, gt_iff_lt] at hh) <;> (first | (exfalso; omega) | (conv => whnf))) | fail))
    all_goals (first | rfl | set_option pp.maxSteps 300 in trace_state)
  cases b3
  · refine pc_of_bodyF hm Tryz.func5 (by kernel_rfl) ?_
    conv => whnf
    (repeat' (first | (refine ⟨_, by first | exact c1 | exact c2 | exact c3 | exact c4, ?_⟩; (conv => whnf)) | (refine Or.inl ?_; (conv => whnf); refine ⟨_, by first | exact c1 | exact c2 | exact c3 | exact c4, ?_⟩; (conv => whnf)) | (refine Or.inl ?_; (conv => whnf); refine ⟨false, ?_⟩; (conv => whnf); refine ⟨_, by first | exact c1 | exact c2 | exact c3 | exact c4, ?_⟩; (conv => whnf)) | (refine ⟨by kernel_rfl, ?_⟩; (conv => whnf)) | (refine ⟨fun _ => ?_, fun h => absurd h (by first | decide | (simp; done) | fail)⟩; (conv => whnf)) | (refine ⟨fun h => absurd h (by first | decide | (simp; done) | fail), fun _ => ?_⟩; (conv => whnf)) | ((with_reducible refine And.intro (a := _ = true → _) (b := _ = false → _) (fun hh => ?_) (fun hh => ?_)) <;> (try simp only [decide_eq_true_eq, decide_eq_false_iff_not, Bool.or_eq_true, Bool.and_eq_true, Bool.or_eq_false_iff, Bool.and_eq_false_iff, Bool.not_eq_true', Bool.not_eq_false', ge_iff_le, gt_iff_lt] at hh) <;> (first | (exfalso; omega) | (conv => whnf))) | fail))
    all_goals (first | rfl | set_option pp.maxSteps 300 in trace_state)
  · simp [hW] at hb
theorem rvOk (W H thr noise : Int) (pix : List Int) (l : List SpT) (hW : 2 ≤ W) (c1 : PC Tryz.prog 18 [img W H pix] (i64 0)) (c2 : PC Tryz.prog 19 [i64 thr, i64 1, i64 255] (.bool true)) (c3 : PC Tryz.prog 19 [i64 noise, i64 0, i64 64] (.bool true))
    (c4 : PC Tryz.prog 20 [img W H pix] (.bool true)) (c5 : PC Tryz.prog 21 [img W H pix, i64 thr, i64 noise] (vws l)) : PC Tryz.prog 5 [img W H pix, i64 thr, i64 noise] (.tup [vws l, i64 0]) := by
  refine pc_of_bodyF hm Tryz.func5 (by kernel_rfl) ?_
  conv => whnf
  (repeat' (first | (refine ⟨_, by first | exact c1 | exact c2 | exact c3 | exact c4 | exact c5, ?_⟩; (conv => whnf)) | (refine Or.inl ?_; (conv => whnf); refine ⟨_, by first | exact c1 | exact c2 | exact c3 | exact c4 | exact c5, ?_⟩; (conv => whnf)) | (refine Or.inl ?_; (conv => whnf); refine ⟨false, ?_⟩; (conv => whnf); refine ⟨_, by first | exact c1 | exact c2 | exact c3 | exact c4 | exact c5, ?_⟩; (conv => whnf)) | (refine ⟨by kernel_rfl, ?_⟩; (conv => whnf)) | (refine ⟨fun _ => ?_, fun h => absurd h (by first | decide | (simp; done) | fail)⟩; (conv => whnf)) | (refine ⟨fun h => absurd h (by first | decide | (simp; done) | fail), fun _ => ?_⟩; (conv => whnf)) | ((with_reducible refine And.intro (a := _ = true → _) (b := _ = false → _) (fun hh => ?_) (fun hh => ?_)) <;> (try simp only [decide_eq_true_eq, decide_eq_false_iff_not, Bool.or_eq_true, Bool.and_eq_true, Bool.or_eq_false_iff, Bool.and_eq_false_iff, Bool.not_eq_true', Bool.not_eq_false', ge_iff_le, gt_iff_lt] at hh) <;> (first | (exfalso; omega) | (conv => whnf))) | fail))
  all_goals (first | rfl | (exfalso; omega) | set_option pp.maxSteps 300 in trace_state)
theorem pc_rlineBad (W H thr noise : Int) (pix : List Int) (E : Int) (hE : E ≠ 0) (c1 : PC Tryz.prog 5 [img W H pix, i64 thr, i64 noise] (.tup [.nils, i64 E])) : PC Tryz.prog 7 [img W H pix, i64 thr, i64 noise] (.tup [cam (z4, z4), i64 E]) := by
  refine pc_of_bodyF hm Tryz.func7 (by kernel_rfl) ?_
  conv => whnf
  (repeat' (first | (refine ⟨_, by first | exact c1, ?_⟩; (conv => whnf)) | (refine Or.inl ?_; (conv => whnf); refine ⟨_, by first | exact c1, ?_⟩; (conv => whnf)) | (refine Or.inl ?_; (conv => whnf); refine ⟨false, ?_⟩; (conv => whnf); refine ⟨_, by first | exact c1, ?_⟩; (conv => whnf)) | (refine ⟨by kernel_rfl, ?_⟩; (conv => whnf)) | (refine ⟨fun _ => ?_, fun h => absurd h (by first | decide | (simp; done) | fail)⟩; (conv => whnf)) | (refine ⟨fun h => absurd h (by first | decide | (simp; done) | fail), fun _ => ?_⟩; (conv => whnf)) | ((with_reducible refine And.intro (a := _ = true → _) (b := _ = false → _) (fun hh => ?_) (fun hh => ?_)) <;> (try simp only [decide_eq_true_eq, decide_eq_false_iff_not, Bool.or_eq_true, Bool.and_eq_true, Bool.or_eq_false_iff, Bool.and_eq_false_iff, Bool.not_eq_true', Bool.not_eq_false', ge_iff_le, gt_iff_lt] at hh) <;> (first | (exfalso; omega) | (conv => whnf))) | fail))
  all_goals (first | rfl | set_option pp.maxSteps 300 in trace_state)
theorem pc_rlineMany (W H thr noise : Int) (pix : List Int) (l : List SpT) (hk : 12 < l.length) (c1 : PC Tryz.prog 5 [img W H pix, i64 thr, i64 noise] (.tup [vws l, i64 0])) : PC Tryz.prog 7 [img W H pix, i64 thr, i64 noise] (.tup [cam (z4, z4), i64 4]) := by
  have hk2 : (12 : Int) < l.length := by omega
  refine pc_of_bodyF hm Tryz.func7 (by kernel_rfl) ?_
  conv => whnf
  (repeat' (first | (refine ⟨_, by first | exact c1, ?_⟩; (conv => whnf)) | (refine Or.inl ?_; (conv => whnf); refine ⟨_, by first | exact c1, ?_⟩; (conv => whnf)) | (refine Or.inl ?_; (conv => whnf); refine ⟨false, ?_⟩; (conv => whnf); refine ⟨_, by first | exact c1, ?_⟩; (conv => whnf)) | (refine ⟨by kernel_rfl, ?_⟩; (conv => whnf)) | (refine ⟨fun _ => ?_, fun h => absurd h (by first | decide | (simp; done) | fail)⟩; (conv => whnf)) | (refine ⟨fun h => absurd h (by first | decide | (simp; done) | fail), fun _ => ?_⟩; (conv => whnf)) | ((with_reducible refine And.intro (a := _ = true → _) (b := _ = false → _) (fun hh => ?_) (fun hh => ?_)) <;> (try simp only [decide_eq_true_eq, decide_eq_false_iff_not, Bool.or_eq_true, Bool.and_eq_true, Bool.or_eq_false_iff, Bool.and_eq_false_iff, Bool.not_eq_true', Bool.not_eq_false', ge_iff_le, gt_iff_lt] at hh) <;> (first | (exfalso; omega) | (conv => whnf))) | fail))
  all_goals (first | rfl | (exfalso; omega) | set_option pp.maxSteps 300 in trace_state)
theorem pc_rlineOk (W H thr noise : Int) (pix : List Int) (l : List SpT) (hk : l.length ≤ 12) (c : CamT) (e : Int) (c1 : PC Tryz.prog 5 [img W H pix, i64 thr, i64 noise] (.tup [vws l, i64 0])) (c2 : PC Tryz.prog 23 [vws l] (.tup [cam c, i64 e])) : PC Tryz.prog 7 [img W H pix, i64 thr, i64 noise] (.tup [cam c, i64 e]) := by
  have hk2 : (l.length : Int) ≤ 12 := by omega
  refine pc_of_bodyF hm Tryz.func7 (by kernel_rfl) ?_
  conv => whnf
  (repeat' (first | (refine ⟨_, by first | exact c1 | exact c2, ?_⟩; (conv => whnf)) | (refine Or.inl ?_; (conv => whnf); refine ⟨_, by first | exact c1 | exact c2, ?_⟩; (conv => whnf)) | (refine Or.inl ?_; (conv => whnf); refine ⟨false, ?_⟩; (conv => whnf); refine ⟨_, by first | exact c1 | exact c2, ?_⟩; (conv => whnf)) | (refine ⟨by kernel_rfl, ?_⟩; (conv => whnf)) | (refine ⟨fun _ => ?_, fun h => absurd h (by first | decide | (simp; done) | fail)⟩; (conv => whnf)) | (refine ⟨fun h => absurd h (by first | decide | (simp; done) | fail), fun _ => ?_⟩; (conv => whnf)) | ((with_reducible refine And.intro (a := _ = true → _) (b := _ = false → _) (fun hh => ?_) (fun hh => ?_)) <;> (try simp only [decide_eq_true_eq, decide_eq_false_iff_not, Bool.or_eq_true, Bool.and_eq_true, Bool.or_eq_false_iff, Bool.and_eq_false_iff, Bool.not_eq_true', Bool.not_eq_false', ge_iff_le, gt_iff_lt] at hh) <;> (first | (exfalso; omega) | (conv => whnf))) | fail))
  all_goals (first | rfl | (exfalso; omega) | set_option pp.maxSteps 300 in trace_state)
/-- Both Views of an image. -/
theorem views_two (W H thr noise : Int) (pix : List Int) (hl : pix.length ≤ 300) :
    (∃ E, E ≠ 0 ∧ PC Tryz.prog 4 [img W H pix, i64 thr, i64 noise] (.tup [.nils, i64 E]) ∧ PC Tryz.prog 5 [img W H pix, i64 thr, i64 noise] (.tup [.nils, i64 E])) ∨
    (∃ l : List SpT, l.length ≤ 16 ∧ PC Tryz.prog 4 [img W H pix, i64 thr, i64 noise] (.tup [vws l, i64 0]) ∧ PC Tryz.prog 5 [img W H pix, i64 thr, i64 noise] (.tup [vws l, i64 0])) := by
  have c1 := pc_imCheck W H pix (by omega)
  have c2 := pc_gfrom 1 255 thr
  have c3 := pc_gfrom 0 64 noise
  have c4 := pc_ContainsFunc0 10 (fun n => !withB n 0 255) pc_odd pix (by omega)
  have r1 := pc_r2Check W H pix (by omega)
  have r2 := pc_within5 thr 1 255
  have r3 := pc_within5 noise 0 64
  have r4 := pc_pixels W H pix (by omega)
  by_cases hi : imgB W H pix = true
  rotate_left
  · left
    rw [if_neg hi] at c1 r1
    exact ⟨20, by decide, vwBad W H thr noise pix 20 (by decide) c1, rvBad W H thr noise pix 20 (by decide) r1⟩
  rw [if_pos hi] at c1 r1
  by_cases hb : withB thr 1 255 = false ∨ withB noise 0 64 = false ∨ W < 2 ∨ (pix.any fun n => !withB n 0 255) = true
  · left
    refine ⟨2, by decide, vwArg W H thr noise pix _ _ _ hb c1 c2 c3 c4, rvArg W H thr noise pix _ _ _ ?_ r1 r2 r3 r4⟩
    rcases hb with h | h | h | h
    · exact .inl h
    · exact .inr (.inl h)
    · exact .inr (.inr (.inl h))
    · exact .inr (.inr (.inr (by rw [h]; rfl)))
  right
  unfold imgB at hi
  simp only [Bool.and_eq_true, decide_eq_true_eq] at hi
  obtain ⟨⟨hW, hH⟩, hlen, _⟩ := hi
  simp only [withB, Bool.and_eq_true, decide_eq_true_eq] at hW hH
  obtain ⟨w, rfl⟩ : ∃ w : Nat, W = w := ⟨W.toNat, by omega⟩
  obtain ⟨h, rfl⟩ : ∃ h : Nat, H = h := ⟨H.toNat, by omega⟩
  have b1 : withB thr 1 255 = true := by
    cases e : withB thr 1 255
    · exact absurd (.inl e) hb
    · rfl
  have b2 : withB noise 0 64 = true := by
    cases e : withB noise 0 64
    · exact absurd (.inr (.inl e)) hb
    · rfl
  have b3 : (pix.any fun n => !withB n 0 255) = false := by
    cases e : (pix.any fun n => !withB n 0 255)
    · rfl
    · exact absurd (.inr (.inr (.inr e))) hb
  have b4 : 2 ≤ w := by
    have : ¬ (w : Int) < 2 := fun k => hb (.inr (.inr (.inl k)))
    omega
  rw [b1] at c2 r2
  rw [b2] at c3 r3
  rw [b3] at c4 r4
  have m := Nat.mul_le_mul (show w ≤ 16 by omega) (show h ≤ 16 by omega)
  have hl2 : pix.length = w * h := by
    rw [← Int.natCast_mul, w64 _ (by omega) (by omega)] at hlen
    omega
  refine ⟨imV pix w thr noise h, ?_, vwOk w h thr noise pix b4 (by omega) (by omega) hl2 c1 c2 c3 c4, rvOk w h thr noise pix _ (by omega) r1 r2 r3 r4 (pc_rSeen pix w h thr noise (by omega) (by omega) hl2)⟩
  have := imV_len pix w thr noise h
  omega
theorem glOut (W H thr noise : Int) (pix : List Int) (h : 300 < pix.length) : PC Tryz.prog 3 [img W H pix, i64 thr, i64 noise] (.bool true) := by
  refine pc_of_bodyF hm Tryz.func3 (by kernel_rfl) ?_
  conv => whnf
  (repeat' (first | (refine ⟨by kernel_rfl, ?_⟩; (conv => whnf)) | (refine ⟨fun _ => ?_, fun h => absurd h (by first | decide | (simp; done) | fail)⟩; (conv => whnf)) | (refine ⟨fun h => absurd h (by first | decide | (simp; done) | fail), fun _ => ?_⟩; (conv => whnf)) | ((with_reducible refine And.intro (a := _ = true → _) (b := _ = false → _) (fun hh => ?_) (fun hh => ?_)) <;> (try simp only [decide_eq_true_eq, decide_eq_false_iff_not, Bool.or_eq_true, Bool.and_eq_true, Bool.or_eq_false_iff, Bool.and_eq_false_iff, Bool.not_eq_true', Bool.not_eq_false', ge_iff_le, gt_iff_lt] at hh) <;> (first | (exfalso; omega) | (conv => whnf))) | fail))
  all_goals (first | rfl | (exfalso; omega) | set_option pp.maxSteps 300 in trace_state)
theorem glErr (W H thr noise : Int) (pix : List Int) (hl : pix.length ≤ 300) (E : Int) (hE : E ≠ 0) (c1 : PC Tryz.prog 4 [img W H pix, i64 thr, i64 noise] (.tup [.nils, i64 E])) (c2 : PC Tryz.prog 5 [img W H pix, i64 thr, i64 noise] (.tup [.nils, i64 E]))
    (c3 : PC Tryz.prog 6 [img W H pix, i64 thr, i64 noise] (.tup [cam (z4, z4), i64 E])) (c4 : PC Tryz.prog 7 [img W H pix, i64 thr, i64 noise] (.tup [cam (z4, z4), i64 E])) (c5 : PC Tryz.prog 8 [ints pix, ints pix] (.bool true)) : PC Tryz.prog 3 [img W H pix, i64 thr, i64 noise] (.bool true) := by
  refine pc_of_bodyF hm Tryz.func3 (by kernel_rfl) ?_
  conv => whnf
  refine ⟨fun h => absurd (of_decide_eq_true h) (by omega), fun _ => ?_⟩
  (conv => whnf)
  (repeat' (first | (refine ⟨by kernel_rfl, ?_⟩; (conv => whnf)) | (refine And.intro (a := _ ∧ _) ⟨by omega, by omega⟩ ?_; (conv => whnf))))
  refine ⟨⟨Int, 1, 0, eI, []⟩, pix, rfl, ⟨rfl, rfl⟩, rfl, ?_, ?_, fun y _ => ⟨rfl, rfl, rfl⟩, ?_⟩
  · show (0 + pix.length) * 8 ≤ _; omega
  · show 0 + pix.length ≤ _; omega
  (conv => whnf)
  (repeat' (first | (refine ⟨by kernel_rfl, ?_⟩; (conv => whnf)) | (refine And.intro (a := _ ∧ _) ⟨by omega, by omega⟩ ?_; (conv => whnf))))
  (first | (refine Or.inl ?_; (conv => whnf); refine ⟨true, ?_⟩) | refine ⟨true, ?_⟩)
  (conv => whnf)
  (repeat' (first | (refine ⟨_, by first | exact c1 | exact c2 | exact c3 | exact c4, ?_⟩; (conv => whnf)) | (refine Or.inl ?_; (conv => whnf); refine ⟨_, by first | exact c1 | exact c2 | exact c3 | exact c4, ?_⟩; (conv => whnf)) | (refine Or.inl ?_; (conv => whnf); refine ⟨false, ?_⟩; (conv => whnf); refine ⟨_, by first | exact c1 | exact c2 | exact c3 | exact c4, ?_⟩; (conv => whnf)) | (refine ⟨by kernel_rfl, ?_⟩; (conv => whnf)) | fail))
  (repeat' (first | (refine And.intro (a := _ = true → _) (b := _ = false → _) (fun hh => ?_) (fun hh => ?_) <;> (first | simp only [decide_eq_true_eq, decide_eq_false_iff_not, Bool.or_eq_true, Bool.and_eq_true, Bool.or_eq_false_iff, Bool.and_eq_false_iff, Bool.not_eq_true', Bool.not_eq_false', ge_iff_le, gt_iff_lt] at hh | skip) <;> (first | (exfalso; omega) | (exfalso; simp [*] at hh; done) | (exfalso; revert hh; decide) | exact absurd (by assumption) hh | (conv => whnf))) | (refine ⟨by kernel_rfl, ?_⟩; (conv => whnf)) | (refine And.intro (a := _ ∧ _) ⟨by omega, by omega⟩ ?_; (conv => whnf)) | (refine And.intro (a := _ ∧ _) ⟨by decide, by decide⟩ ?_; (conv => whnf)) | (refine And.intro (a := _ ≤ _) (by omega) ?_; (conv => whnf)) | (refine And.intro (a := _ ≠ _) (by omega) ?_; (conv => whnf)) | (refine Or.inl ?_; (conv => whnf); first | (refine ⟨_, by first | exact c5, ?_⟩; (conv => whnf)) | (refine ⟨false, ?_⟩; (conv => whnf); refine ⟨_, by first | exact c5, ?_⟩; (conv => whnf))) | (refine ⟨_, by first | exact c5, ?_⟩; (conv => whnf))))
  all_goals (refine Or.inl ⟨1, ?_⟩; (repeat' (first | (refine And.intro (a := _ = true → _) (b := _ = false → _) (fun hh => ?_) (fun hh => ?_) <;> (first | simp only [decide_eq_true_eq, decide_eq_false_iff_not, Bool.or_eq_true, Bool.and_eq_true, Bool.or_eq_false_iff, Bool.and_eq_false_iff, Bool.not_eq_true', Bool.not_eq_false', ge_iff_le, gt_iff_lt] at hh | skip) <;> (first | (exfalso; omega) | (exfalso; simp [*] at hh; done) | (exfalso; revert hh; decide) | exact absurd (by assumption) hh | (conv => whnf))) | (refine ⟨by kernel_rfl, ?_⟩; (conv => whnf)) | (refine And.intro (a := _ ∧ _) ⟨by omega, by omega⟩ ?_; (conv => whnf)) | (refine And.intro (a := _ ∧ _) ⟨by decide, by decide⟩ ?_; (conv => whnf)) | (refine And.intro (a := _ ≤ _) (by omega) ?_; (conv => whnf)) | (refine And.intro (a := _ ≠ _) (by omega) ?_; (conv => whnf)))))
  all_goals set_option pp.maxSteps 300 in trace_state
theorem glOk (W H thr noise : Int) (pix : List Int) (hl : pix.length ≤ 300) (l : List SpT) (hk : l.length ≤ 16) (c : CamT) (g : Int) (c1 : PC Tryz.prog 4 [img W H pix, i64 thr, i64 noise] (.tup [vws l, i64 0])) (c2 : PC Tryz.prog 5 [img W H pix, i64 thr, i64 noise] (.tup [vws l, i64 0]))
    (c3 : PC Tryz.prog 6 [img W H pix, i64 thr, i64 noise] (.tup [cam c, i64 g])) (c4 : PC Tryz.prog 7 [img W H pix, i64 thr, i64 noise] (.tup [cam c, i64 g])) (c5 : PC Tryz.prog 8 [ints pix, ints pix] (.bool true)) : PC Tryz.prog 3 [img W H pix, i64 thr, i64 noise] (.bool true) := by
  obtain ⟨⟨⟨b1, b2⟩, ⟨b3, b4⟩⟩, ⟨⟨b5, b6⟩, ⟨b7, b8⟩⟩⟩ := c
  refine pc_of_bodyF hm Tryz.func3 (by kernel_rfl) ?_
  conv => whnf
  refine ⟨fun h => absurd (of_decide_eq_true h) (by omega), fun _ => ?_⟩
  (conv => whnf)
  (repeat' (first | (refine ⟨by kernel_rfl, ?_⟩; (conv => whnf)) | (refine And.intro (a := _ ∧ _) ⟨by omega, by omega⟩ ?_; (conv => whnf))))
  refine ⟨⟨Int, 1, 0, eI, []⟩, pix, rfl, ⟨rfl, rfl⟩, rfl, ?_, ?_, fun y _ => ⟨rfl, rfl, rfl⟩, ?_⟩
  · show (0 + pix.length) * 8 ≤ _; omega
  · show 0 + pix.length ≤ _; omega
  (conv => whnf)
  (repeat' (first | (refine ⟨by kernel_rfl, ?_⟩; (conv => whnf)) | (refine And.intro (a := _ ∧ _) ⟨by omega, by omega⟩ ?_; (conv => whnf))))
  (first | (refine Or.inl ?_; (conv => whnf); refine ⟨true, ?_⟩) | refine ⟨true, ?_⟩)
  (conv => whnf)
  (repeat' (first | (refine ⟨_, by first | exact c1 | exact c2 | exact c3 | exact c4, ?_⟩; (conv => whnf)) | (refine Or.inl ?_; (conv => whnf); refine ⟨_, by first | exact c1 | exact c2 | exact c3 | exact c4, ?_⟩; (conv => whnf)) | (refine Or.inl ?_; (conv => whnf); refine ⟨false, ?_⟩; (conv => whnf); refine ⟨_, by first | exact c1 | exact c2 | exact c3 | exact c4, ?_⟩; (conv => whnf)) | (refine ⟨by kernel_rfl, ?_⟩; (conv => whnf)) | fail))
  (repeat' (first | (refine And.intro (a := _ = true → _) (b := _ = false → _) (fun hh => ?_) (fun hh => ?_) <;> (first | simp only [decide_eq_true_eq, decide_eq_false_iff_not, Bool.or_eq_true, Bool.and_eq_true, Bool.or_eq_false_iff, Bool.and_eq_false_iff, Bool.not_eq_true', Bool.not_eq_false', ge_iff_le, gt_iff_lt] at hh | skip) <;> (first | (exfalso; omega) | (exfalso; simp [*] at hh; done) | (exfalso; revert hh; decide) | exact absurd (by assumption) hh | (conv => whnf))) | (refine ⟨by kernel_rfl, ?_⟩; (conv => whnf)) | (refine And.intro (a := _ ∧ _) ⟨by omega, by omega⟩ ?_; (conv => whnf)) | (refine And.intro (a := _ ∧ _) ⟨by decide, by decide⟩ ?_; (conv => whnf)) | (refine And.intro (a := _ ≤ _) (by omega) ?_; (conv => whnf)) | (refine And.intro (a := _ ≠ _) (by omega) ?_; (conv => whnf)) | (refine Or.inl ?_; (conv => whnf); first | (refine ⟨_, by first | exact c5, ?_⟩; (conv => whnf)) | (refine ⟨false, ?_⟩; (conv => whnf); refine ⟨_, by first | exact c5, ?_⟩; (conv => whnf))) | (refine ⟨_, by first | exact c5, ?_⟩; (conv => whnf))))
  refine Or.inr ⟨Nat, [88], [], [], fun k => [i64 k], fun _ => [], fun _ => [], fun k => l.length - k, fun k => k ≤ l.length, ?_⟩
  (conv => whnf)
  refine ⟨⟨0, ?_⟩, ?_⟩
  · (conv => whnf)
    exact ⟨⟨Nat.zero_le _, rfl, rfl, rfl⟩, by kernel_rfl, by kernel_rfl⟩
  · intro k hk
    (conv => whnf)
    refine ⟨fun h => ?_, fun h => ?_⟩
    · have h := of_decide_eq_true h
      (conv => whnf)
      (repeat' (first | (refine And.intro (a := _ = true → _) (b := _ = false → _) (fun hh => ?_) (fun hh => ?_) <;> (first | simp only [decide_eq_true_eq, decide_eq_false_iff_not, Bool.or_eq_true, Bool.and_eq_true, Bool.or_eq_false_iff, Bool.and_eq_false_iff, Bool.not_eq_true', Bool.not_eq_false', ge_iff_le, gt_iff_lt] at hh | skip) <;> (first | (exfalso; omega) | (exfalso; simp [*] at hh; done) | (exfalso; revert hh; decide) | exact absurd (by assumption) hh | (conv => whnf))) | (refine ⟨by kernel_rfl, ?_⟩; (conv => whnf)) | (refine And.intro (a := _ ∧ _) ⟨by omega, by omega⟩ ?_; (conv => whnf)) | (refine And.intro (a := _ ∧ _) ⟨by decide, by decide⟩ ?_; (conv => whnf)) | (refine And.intro (a := _ ≤ _) (by omega) ?_; (conv => whnf)) | (refine And.intro (a := _ ≠ _) (by omega) ?_; (conv => whnf))))
      refine ⟨k + 1, ?_⟩
      (conv => whnf)
      refine ⟨⟨⟨Nat.sub_lt_sub_left (by omega) (Nat.lt_succ_self k), by omega⟩, ?_, rfl, rfl⟩, by kernel_rfl, by kernel_rfl⟩
      rw [w64 _ (by omega) (by omega)]; rfl
    · have h := of_decide_eq_false h
      (conv => whnf)
      first | rfl | set_option pp.maxSteps 300 in trace_state
theorem pc_GaugeLines (W H : Int) (pix : List Int) (thr noise : Int) : PC Tryz.prog 3 [img W H pix, i64 thr, i64 noise] (.bool true) := by
  by_cases hl : pix.length ≤ 300
  rotate_left
  · exact glOut W H thr noise pix (by omega)
  have c5 := pc_Same pix (by omega)
  rcases views_two W H thr noise pix hl with ⟨E, hE, c1, c2⟩ | ⟨l, hk, c1, c2⟩
  · exact glErr W H thr noise pix hl E hE c1 c2 (pc_lineBad W H thr noise pix E hE c1) (pc_rlineBad W H thr noise pix E hE c2) c5
  have c3 := pc_lineOk W H thr noise pix l _ _ c1 (pc_Calibrate l (by omega))
  by_cases h12 : l.length ≤ 12
  · exact glOk W H thr noise pix hl l hk _ _ c1 c2 c3 (pc_rlineOk W H thr noise pix l h12 _ _ c2 (pc_rCalibrate l (by omega))) c5
  · have e : calF l = ((z4, z4), 4) := by
      have hv : viewsE l = 4 := by unfold viewsE; rw [if_neg h12]
      unfold calF
      rw [if_neg (by rw [hv]; decide), hv]
    rw [e] at c3
    exact glOk W H thr noise pix hl l hk _ _ c1 c2 c3 (pc_rlineMany W H thr noise pix l (by omega) c2) c5
end Go.Proofs.Tryz.My
