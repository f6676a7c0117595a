/- A helper text: contracts of functions of the program, and plain lemmas. -/
import Derived.Test.YtiimhccemdcnpaaEvSix
import Derived.Test.YtiimhccemdcnpaaMyPcA
set_option maxRecDepth 100000
set_option maxHeartbeats 0
set_option linter.unusedVariables false
set_option linter.unusedSimpArgs false
namespace Go.Proofs.Try.My
open Go Go.Ev

theorem pc_rValidView (v : SpT) : PC Try.prog 9 [sp v] (.bool (viewB v)) := by
  have c1 := pc_within v.1.1 (-1000) 1000
  have c2 := pc_within v.1.2 1 1000
  have c3 := pc_within v.2.1 (-4096) 4096
  have c4 := pc_within v.2.2 v.2.1 4096
  unfold viewB
  generalize withB v.1.1 (-1000) 1000 = x1 at *
  generalize withB v.1.2 1 1000 = x2 at *
  generalize withB v.2.1 (-4096) 4096 = x3 at *
  generalize withB v.2.2 v.2.1 4096 = x4 at *
  obtain ⟨⟨v1, v2⟩, ⟨v3, v4⟩⟩ := v
  refine pc_of_bodyF hm Try.func9 (by kernel_rfl) ?_
  conv => whnf
  (repeat' (first | (refine ⟨_, by first | with_reducible exact c1 | with_reducible exact c2 | with_reducible exact c3 | with_reducible exact c4, ?_⟩; (conv => whnf)) | (refine Or.inl ?_; (conv => whnf); refine ⟨_, by first | with_reducible exact c1 | with_reducible exact c2 | with_reducible exact c3 | with_reducible exact c4, ?_⟩; (conv => whnf)) | (refine Or.inl ?_; (conv => whnf); refine ⟨false, ?_⟩; (conv => whnf); refine ⟨_, by first | with_reducible exact c1 | with_reducible exact c2 | with_reducible exact c3 | with_reducible exact c4, ?_⟩; (conv => whnf)) | (refine ⟨by kernel_rfl, ?_⟩; (conv => whnf)) | (refine ⟨fun _ => ?_, fun h => absurd h (by first | decide | (simp; done) | fail)⟩; (conv => whnf)) | (refine ⟨fun h => absurd h (by first | decide | (simp; done) | fail), fun _ => ?_⟩; (conv => whnf)) | ((with_reducible refine And.intro (a := _ = true → _) (b := _ = false → _) (fun hh => ?_) (fun hh => ?_)) <;> (try simp only [decide_eq_true_eq, decide_eq_false_iff_not, Bool.or_eq_true, Bool.and_eq_true, Bool.or_eq_false_iff, Bool.and_eq_false_iff, Bool.not_eq_true', Bool.not_eq_false', ge_iff_le, gt_iff_lt] at hh) <;> (first | (exfalso; omega) | (conv => whnf))) | fail))
  all_goals (first | rfl | (simp [*]; done))
def alikeB (l : List SpT) : Bool := l.all fun v => decide (v.1.1 * (l.getD 0 z4).1.2 = (l.getD 0 z4).1.1 * v.1.2)
theorem alikeB_iff {l : List SpT} (hv : ∀ v ∈ l, viewB v = true) : alikeB l = true ↔ AlikeP l := by
  unfold alikeB
  rw [List.all_eq_true]
  cases l with
  | nil => exact ⟨fun _ v hv => (by cases hv), fun _ v hv => (by cases hv)⟩
  | cons a l =>
    have ha : (a :: l).getD 0 z4 = a := rfl
    have m : a ∈ a :: l := List.mem_cons_self ..
    rw [ha]
    constructor
    · intro h v h1 w h2
      have k1 := of_decide_eq_true (h v h1)
      have k2 := of_decide_eq_true (h w h2)
      have z1 := (viewB_iff a).1 (hv a m)
      refine Int.eq_of_mul_eq_mul_right (show a.1.2 ≠ 0 by omega) ?_
      have e1 : v.1.1 * a.1.2 * w.1.2 = a.1.1 * v.1.2 * w.1.2 := by rw [k1]
      have e2 : w.1.1 * a.1.2 * v.1.2 = a.1.1 * w.1.2 * v.1.2 := by rw [k2]
      grind
    · intro h v h1
      exact decide_eq_true (h v h1 a m)
end Go.Proofs.Try.My
