/- A helper text: contracts of functions of the program, and plain lemmas. -/
import Derived.Test.YtblmmhmdnnnidaaEvSix
import Derived.Test.YtblmmhmdnnnidaaMyGd1
set_option maxRecDepth 100000
set_option maxHeartbeats 0
set_option linter.unusedVariables false
set_option linter.unusedSimpArgs false
namespace Go.Proofs.Try.My
open Go Go.Ev

theorem pc_cg0 (thr noise a1 a2 b1 b2 l1 l2 h1 h2 : Int) (f1 : PC Try.prog 112 [i64 1, i64 255, i64 thr] (.bool false)) :
    PC Try.prog 39 [.agg [i64 thr, i64 noise, i64 a1, i64 a2, i64 b1, i64 b2, i64 l1, i64 l2, i64 h1, i64 h2]] (i64 8) := by
  refine pc_of_bodyF hm Try.func39 (by kernel_rfl) ?_
  conv => whnf
  (repeat' (first | (refine ⟨_, by first | with_reducible exact f1, ?_⟩; (conv => whnf)) | (refine Or.inl ?_; (conv => whnf); refine ⟨_, by first | with_reducible exact f1, ?_⟩; (conv => whnf)) | (refine Or.inl ?_; (conv => whnf); refine ⟨false, ?_⟩; (conv => whnf); refine ⟨_, by first | with_reducible exact f1, ?_⟩; (conv => whnf)) | (refine ⟨by kernel_rfl, ?_⟩; (conv => whnf)) | (refine ⟨fun _ => ?_, fun h => absurd h (by first | decide | (simp; done) | fail)⟩; (conv => whnf)) | (refine ⟨fun h => absurd h (by first | decide | (simp; done) | fail), fun _ => ?_⟩; (conv => whnf)) | fail))
  refine Or.inl ⟨5, ?_⟩
  (conv => whnf)
  refine ⟨fun _ => ?_, fun h => absurd (of_decide_eq_false h) (by simp)⟩
  (conv => whnf)
  refine ⟨⟨by decide, by simp⟩, ?_⟩
  (conv => whnf)
  rw [show IntKind.i64.wrap (0 + 1) = 1 from by decide]
  refine ⟨fun _ => ?_, fun h => absurd (of_decide_eq_false h) (by simp)⟩
  (conv => whnf)
  refine ⟨⟨by decide, by simp⟩, ?_⟩
  (conv => whnf)
  rw [show IntKind.i64.wrap (1 + 1) = 2 from by decide]
  refine ⟨fun _ => ?_, fun h => absurd (of_decide_eq_false h) (by simp)⟩
  (conv => whnf)
  refine ⟨⟨by decide, by simp⟩, ?_⟩
  (conv => whnf)
  rw [show IntKind.i64.wrap (2 + 1) = 3 from by decide]
  refine ⟨fun _ => ?_, fun h => absurd (of_decide_eq_false h) (by simp)⟩
  (conv => whnf)
  refine ⟨⟨by decide, by simp⟩, ?_⟩
  (conv => whnf)
  rw [show IntKind.i64.wrap (3 + 1) = 4 from by decide]
  refine ⟨fun h => absurd (of_decide_eq_true h) (by simp), fun _ => ?_⟩
  (conv => whnf)
theorem pc_cg1 (thr noise a1 a2 b1 b2 l1 l2 h1 h2 : Int) (f1 : PC Try.prog 112 [i64 1, i64 255, i64 thr] (.bool true)) (f2 : PC Try.prog 112 [i64 0, i64 64, i64 noise] (.bool false)) :
    PC Try.prog 39 [.agg [i64 thr, i64 noise, i64 a1, i64 a2, i64 b1, i64 b2, i64 l1, i64 l2, i64 h1, i64 h2]] (i64 8) := by
  refine pc_of_bodyF hm Try.func39 (by kernel_rfl) ?_
  conv => whnf
  (repeat' (first | (refine ⟨_, by first | with_reducible exact f1 | with_reducible exact f2, ?_⟩; (conv => whnf)) | (refine Or.inl ?_; (conv => whnf); refine ⟨_, by first | with_reducible exact f1 | with_reducible exact f2, ?_⟩; (conv => whnf)) | (refine Or.inl ?_; (conv => whnf); refine ⟨false, ?_⟩; (conv => whnf); refine ⟨_, by first | with_reducible exact f1 | with_reducible exact f2, ?_⟩; (conv => whnf)) | (refine ⟨by kernel_rfl, ?_⟩; (conv => whnf)) | (refine ⟨fun _ => ?_, fun h => absurd h (by first | decide | (simp; done) | fail)⟩; (conv => whnf)) | (refine ⟨fun h => absurd h (by first | decide | (simp; done) | fail), fun _ => ?_⟩; (conv => whnf)) | fail))
  refine Or.inl ⟨5, ?_⟩
  (conv => whnf)
  refine ⟨fun _ => ?_, fun h => absurd (of_decide_eq_false h) (by simp)⟩
  (conv => whnf)
  refine ⟨⟨by decide, by simp⟩, ?_⟩
  (conv => whnf)
  rw [show IntKind.i64.wrap (0 + 1) = 1 from by decide]
  refine ⟨fun _ => ?_, fun h => absurd (of_decide_eq_false h) (by simp)⟩
  (conv => whnf)
  refine ⟨⟨by decide, by simp⟩, ?_⟩
  (conv => whnf)
  rw [show IntKind.i64.wrap (1 + 1) = 2 from by decide]
  refine ⟨fun _ => ?_, fun h => absurd (of_decide_eq_false h) (by simp)⟩
  (conv => whnf)
  refine ⟨⟨by decide, by simp⟩, ?_⟩
  (conv => whnf)
  rw [show IntKind.i64.wrap (2 + 1) = 3 from by decide]
  refine ⟨fun _ => ?_, fun h => absurd (of_decide_eq_false h) (by simp)⟩
  (conv => whnf)
  refine ⟨⟨by decide, by simp⟩, ?_⟩
  (conv => whnf)
  rw [show IntKind.i64.wrap (3 + 1) = 4 from by decide]
  refine ⟨fun h => absurd (of_decide_eq_true h) (by simp), fun _ => ?_⟩
  (conv => whnf)
end Go.Proofs.Try.My
