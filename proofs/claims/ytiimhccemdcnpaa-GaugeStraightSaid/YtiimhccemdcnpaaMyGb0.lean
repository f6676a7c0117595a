/- A helper text: contracts of functions of the program, and plain lemmas. -/
import Derived.Test.YtiimhccemdcnpaaEvSix
import Derived.Test.YtiimhccemdcnpaaMyVw1
import Derived.Test.YtiimhccemdcnpaaMyLvB
set_option maxRecDepth 100000
set_option maxHeartbeats 0
set_option linter.unusedVariables false
set_option linter.unusedSimpArgs false
namespace Go.Proofs.Try.My
open Go Go.Ev

theorem views_all (W H thr noise : Int) (pix : List Int) (hl : pix.length ≤ 300) :
    (∃ E, E ≠ 0 ∧ PC Try.prog 5 [img W H pix, i64 thr, i64 noise] (.tup [.nils, i64 E])) ∨
    (∃ w h : Nat, W = w ∧ H = h ∧ h ≤ 16 ∧ w ≤ 16 ∧ PC Try.prog 5 [img W H pix, i64 thr, i64 noise] (.tup [vws (imV pix w thr noise h), i64 0])) := by
  have c1 := pc_imCheck W H pix (by omega)
  have c2 := pc_gfrom 1 255 thr
  have c3 := pc_gfrom 0 64 noise
  have c4 := pc_ContainsFunc0 19 (fun n => !withB n 0 255) pc_odd pix (by omega)
  by_cases hi : imgB W H pix = true
  rotate_left
  · left
    rw [if_neg hi] at c1
    exact ⟨20, by decide, vwBad W H thr noise pix 20 (by decide) c1⟩
  rw [if_pos hi] at c1
  by_cases hb : withB thr 1 255 = false ∨ withB noise 0 64 = false ∨ W < 2 ∨ (pix.any fun n => !withB n 0 255) = true
  · left
    exact ⟨2, by decide, vwArg W H thr noise pix _ _ _ hb c1 c2 c3 c4⟩
  right
  unfold imgB at hi
  simp only [Bool.and_eq_true, decide_eq_true_eq] at hi
  obtain ⟨⟨hW, hH⟩, hlen, _⟩ := hi
  simp only [withB, Bool.and_eq_true, decide_eq_true_eq] at hW hH
  obtain ⟨w, rfl⟩ : ∃ w : Nat, W = w := ⟨W.toNat, by omega⟩
  obtain ⟨h, rfl⟩ : ∃ h : Nat, H = h := ⟨H.toNat, by omega⟩
  have b1 : withB thr 1 255 = true := by
    cases e : withB thr 1 255
    · exact absurd (.inl e) hb
    · rfl
  have b2 : withB noise 0 64 = true := by
    cases e : withB noise 0 64
    · exact absurd (.inr (.inl e)) hb
    · rfl
  have b3 : (pix.any fun n => !withB n 0 255) = false := by
    cases e : (pix.any fun n => !withB n 0 255)
    · rfl
    · exact absurd (.inr (.inr (.inr e))) hb
  have b4 : 2 ≤ w := by
    have : ¬ (w : Int) < 2 := fun k => hb (.inr (.inr (.inl k)))
    omega
  rw [b1] at c2
  rw [b2] at c3
  rw [b3] at c4
  have m := Nat.mul_le_mul (show w ≤ 16 by omega) (show h ≤ 16 by omega)
  have hl2 : pix.length = w * h := by
    rw [← Int.natCast_mul, w64 _ (by omega) (by omega)] at hlen
    omega
  exact ⟨w, h, rfl, rfl, by omega, by omega, vwOk w h thr noise pix b4 (by omega) (by omega) hl2 c1 c2 c3 c4⟩
theorem pc_lineBad (W H thr noise : Int) (pix : List Int) (E : Int) (hE : E ≠ 0) (c1 : PC Try.prog 5 [img W H pix, i64 thr, i64 noise] (.tup [.nils, i64 E])) : PC Try.prog 6 [img W H pix, i64 thr, i64 noise] (.tup [cam (z4, z4), i64 E]) := by
  refine pc_of_bodyF hm Try.func6 (by kernel_rfl) ?_
  conv => whnf
  (repeat' (first | (refine ⟨_, by first | exact c1, ?_⟩; (conv => whnf)) | (refine Or.inl ?_; (conv => whnf); refine ⟨_, by first | exact c1, ?_⟩; (conv => whnf)) | (refine Or.inl ?_; (conv => whnf); refine ⟨false, ?_⟩; (conv => whnf); refine ⟨_, by first | exact c1, ?_⟩; (conv => whnf)) | (refine ⟨by kernel_rfl, ?_⟩; (conv => whnf)) | (refine ⟨fun _ => ?_, fun h => absurd h (by first | decide | (simp; done) | fail)⟩; (conv => whnf)) | (refine ⟨fun h => absurd h (by first | decide | (simp; done) | fail), fun _ => ?_⟩; (conv => whnf)) | ((with_reducible refine And.intro (a := _ = true → _) (b := _ = false → _) (fun hh => ?_) (fun hh => ?_)) <;> (try simp only [decide_eq_true_eq, decide_eq_false_iff_not, Bool.or_eq_true, Bool.and_eq_true, Bool.or_eq_false_iff, Bool.and_eq_false_iff, Bool.not_eq_true', Bool.not_eq_false', ge_iff_le, gt_iff_lt] at hh) <;> (first | (exfalso; omega) | (conv => whnf))) | fail))
  all_goals (first | rfl | set_option pp.maxSteps 300 in trace_state)
theorem pc_lineOk (W H thr noise : Int) (pix : List Int) (l : List SpT) (c : CamT) (e : Int) (c1 : PC Try.prog 5 [img W H pix, i64 thr, i64 noise] (.tup [vws l, i64 0])) (c2 : PC Try.prog 26 [vws l] (.tup [cam c, i64 e])) : PC Try.prog 6 [img W H pix, i64 thr, i64 noise] (.tup [cam c, i64 e]) := by
  refine pc_of_bodyF hm Try.func6 (by kernel_rfl) ?_
  conv => whnf
  (repeat' (first | (refine ⟨_, by first | exact c1 | exact c2, ?_⟩; (conv => whnf)) | (refine Or.inl ?_; (conv => whnf); refine ⟨_, by first | exact c1 | exact c2, ?_⟩; (conv => whnf)) | (refine Or.inl ?_; (conv => whnf); refine ⟨false, ?_⟩; (conv => whnf); refine ⟨_, by first | exact c1 | exact c2, ?_⟩; (conv => whnf)) | (refine ⟨by kernel_rfl, ?_⟩; (conv => whnf)) | (refine ⟨fun _ => ?_, fun h => absurd h (by first | decide | (simp; done) | fail)⟩; (conv => whnf)) | (refine ⟨fun h => absurd h (by first | decide | (simp; done) | fail), fun _ => ?_⟩; (conv => whnf)) | ((with_reducible refine And.intro (a := _ = true → _) (b := _ = false → _) (fun hh => ?_) (fun hh => ?_)) <;> (try simp only [decide_eq_true_eq, decide_eq_false_iff_not, Bool.or_eq_true, Bool.and_eq_true, Bool.or_eq_false_iff, Bool.and_eq_false_iff, Bool.not_eq_true', Bool.not_eq_false', ge_iff_le, gt_iff_lt] at hh) <;> (first | (exfalso; omega) | (conv => whnf))) | fail))
  all_goals (first | rfl | set_option pp.maxSteps 300 in trace_state)
end Go.Proofs.Try.My
