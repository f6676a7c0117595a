/- The corner of two lines, or the error, is as the reference says, for all cameras. -/
import Derived.Test.YtblmmhmdnnnidaaEvSix
import Derived.Test.YtblmmhmdnnnidaaMyGkB
import Derived.Test.YtblmmhmdnnnidaaMyGcA
import Derived.Test.YtblmmhmdnnnidaaMyRf5
import Derived.Test.YtblmmhmdnnnidaaEvZ
import Derived.Test.YtblmmhmdnnnidaaEvZa
import Derived.Test.YtblmmhmdnnnidaaMyIniA
import Derived.Test.YtblmmhmdnnnidaaRows
import Derived.WalkKit
import Derived.ProofKit
import Derived.OpenShut
import Derived.ChangeOld
import Derived.Below
set_option maxRecDepth 100000
set_option maxHeartbeats 0
set_option linter.unusedVariables false
set_option linter.unusedSimpArgs false
namespace Go.Proofs.Try.My
open Go Go.Ev

def errS (r : SpT × Int) : SpT × Int := if r.2 = 0 then r else (zS, r.2)
theorem pc_coordinate (a b : CamT) (d : SpT) (h1 : I4 a.1) (h2 : I4 a.2) (h3 : I4 b.2) (h4 : I4 d) : PC Try.prog 103 [sp a.2, sp a.1, sp b.2, sp d] (.tup [sp (errS (corP a b d)).1, i64 (errS (corP a b d)).2]) := by
  have c1 := pc_rMul4 a.1 b.2 h1 h3
  have hp : corP a b d = withF divS (withF addS (mulS a.1 b.2) a.2) d := rfl
  have c2 := fun h => pc_rAdd4 a.2 (mulS a.1 b.2).1 h2 (spanB_i (mulS_ok (a := a.1) (b := b.2) h).2.2)
  rw [hp]
  by_cases e1 : (mulS a.1 b.2).2 = 0
  rotate_left
  · have e : withF divS (withF addS (mulS a.1 b.2) a.2) d = mulS a.1 b.2 := by simp [withF, e1]
    rw [e]
    generalize mulS a.1 b.2 = r at *
    clear c2
    refine pc_of_bodyF hm Try.func103 (by kernel_rfl) ?_
    conv => whnf
    (repeat' (first | (refine And.intro (a := _ = true → _) (b := _ = false → _) (fun hh => ?_) (fun hh => ?_) <;> (first | simp only [decide_eq_true_eq, decide_eq_false_iff_not, Bool.or_eq_true, Bool.and_eq_true, Bool.or_eq_false_iff, Bool.and_eq_false_iff, Bool.not_eq_true', Bool.not_eq_false', ge_iff_le, gt_iff_lt] at hh | skip) <;> (first | (exfalso; omega) | (exfalso; simp [*] at hh; done) | (exfalso; revert hh; decide) | exact absurd (by assumption) hh | (conv => whnf))) | (refine ⟨by kernel_rfl, ?_⟩; (conv => whnf)) | (refine And.intro (a := _ ∧ _) ⟨by omega, by omega⟩ ?_; (conv => whnf)) | (refine And.intro (a := _ ∧ _) ⟨by decide, by decide⟩ ?_; (conv => whnf)) | (refine And.intro (a := _ ≤ _) (by omega) ?_; (conv => whnf)) | (refine And.intro (a := _ ≠ _) (by omega) ?_; (conv => whnf)) | (refine Or.inl ?_; (conv => whnf); first | (refine ⟨_, by first | exact c1, ?_⟩; (conv => whnf)) | (refine ⟨false, ?_⟩; (conv => whnf); refine ⟨_, by first | exact c1, ?_⟩; (conv => whnf))) | (refine ⟨_, by first | exact c1, ?_⟩; (conv => whnf))))
    all_goals simp [errS, e1]
  have c2 := c2 e1
  rw [show withF addS (mulS a.1 b.2) a.2 = addS a.2 (mulS a.1 b.2).1 by simp only [withF, e1, if_true]; exact addS_comm _ _]
  have c3 := fun h => pc_rDiv4 (addS a.2 (mulS a.1 b.2).1).1 d (spanB_i (addS_ok (a := a.2) (b := (mulS a.1 b.2).1) h).2.2) h4
  by_cases e2 : (addS a.2 (mulS a.1 b.2).1).2 = 0
  rotate_left
  · have e : withF divS (addS a.2 (mulS a.1 b.2).1) d = addS a.2 (mulS a.1 b.2).1 := by simp [withF, e2]
    rw [e]
    generalize addS a.2 (mulS a.1 b.2).1 = r2 at *
    generalize mulS a.1 b.2 = r at *
    clear c3
    refine pc_of_bodyF hm Try.func103 (by kernel_rfl) ?_
    conv => whnf
    (repeat' (first | (refine And.intro (a := _ = true → _) (b := _ = false → _) (fun hh => ?_) (fun hh => ?_) <;> (first | simp only [decide_eq_true_eq, decide_eq_false_iff_not, Bool.or_eq_true, Bool.and_eq_true, Bool.or_eq_false_iff, Bool.and_eq_false_iff, Bool.not_eq_true', Bool.not_eq_false', ge_iff_le, gt_iff_lt] at hh | skip) <;> (first | (exfalso; omega) | (exfalso; simp [*] at hh; done) | (exfalso; revert hh; decide) | exact absurd (by assumption) hh | (conv => whnf))) | (refine ⟨by kernel_rfl, ?_⟩; (conv => whnf)) | (refine And.intro (a := _ ∧ _) ⟨by omega, by omega⟩ ?_; (conv => whnf)) | (refine And.intro (a := _ ∧ _) ⟨by decide, by decide⟩ ?_; (conv => whnf)) | (refine And.intro (a := _ ≤ _) (by omega) ?_; (conv => whnf)) | (refine And.intro (a := _ ≠ _) (by omega) ?_; (conv => whnf)) | (refine Or.inl ?_; (conv => whnf); first | (refine ⟨_, by first | exact c1 | exact c2, ?_⟩; (conv => whnf)) | (refine ⟨false, ?_⟩; (conv => whnf); refine ⟨_, by first | exact c1 | exact c2, ?_⟩; (conv => whnf))) | (refine ⟨_, by first | exact c1 | exact c2, ?_⟩; (conv => whnf))))
    all_goals simp [errS, e1, e2]
  have c3 := c3 e2
  have e : withF divS (addS a.2 (mulS a.1 b.2).1) d = divS (addS a.2 (mulS a.1 b.2).1).1 d := by simp [withF, e2]
  rw [e]
  have er : ∀ x y : SpT, errS (divS x y) = divS x y := fun x y => by
    unfold errS
    split
    · rfl
    · rename_i h
      have : (divS x y) = (zS, (divS x y).2) := by
        cases hx : spanB x <;> cases hy : spanB y <;> simp [divS, hx, hy] at h ⊢
        cases hz : hasB y (0, 1) <;> simp [hz] at h ⊢
        obtain ⟨y1, y2, _⟩ := spanB_iff.1 hy
        have := divS_eq hx hy hz
        unfold divS at this
        rw [hx, hy, hz] at this
        simp at this
        rw [this] at h ⊢
        unfold fourF at h ⊢
        split at h
        · simp at h
        · rename_i h5; rw [if_neg h5]
      exact this.symm
  rw [er]
  generalize divS (addS a.2 (mulS a.1 b.2).1).1 d = r3 at *
  generalize addS a.2 (mulS a.1 b.2).1 = r2 at *
  generalize mulS a.1 b.2 = r at *
  refine pc_of_bodyF hm Try.func103 (by kernel_rfl) ?_
  conv => whnf
  (repeat' (first | (refine And.intro (a := _ = true → _) (b := _ = false → _) (fun hh => ?_) (fun hh => ?_) <;> (first | simp only [decide_eq_true_eq, decide_eq_false_iff_not, Bool.or_eq_true, Bool.and_eq_true, Bool.or_eq_false_iff, Bool.and_eq_false_iff, Bool.not_eq_true', Bool.not_eq_false', ge_iff_le, gt_iff_lt] at hh | skip) <;> (first | (exfalso; omega) | (exfalso; simp [*] at hh; done) | (exfalso; revert hh; decide) | exact absurd (by assumption) hh | (conv => whnf))) | (refine ⟨by kernel_rfl, ?_⟩; (conv => whnf)) | (refine And.intro (a := _ ∧ _) ⟨by omega, by omega⟩ ?_; (conv => whnf)) | (refine And.intro (a := _ ∧ _) ⟨by decide, by decide⟩ ?_; (conv => whnf)) | (refine And.intro (a := _ ≤ _) (by omega) ?_; (conv => whnf)) | (refine And.intro (a := _ ≠ _) (by omega) ?_; (conv => whnf)) | (refine Or.inl ?_; (conv => whnf); first | (refine ⟨_, by first | exact c1 | exact c2 | exact c3, ?_⟩; (conv => whnf)) | (refine ⟨false, ?_⟩; (conv => whnf); refine ⟨_, by first | exact c1 | exact c2 | exact c3, ?_⟩; (conv => whnf))) | (refine ⟨_, by first | exact c1 | exact c2 | exact c3, ?_⟩; (conv => whnf))))
  all_goals simp [e1, e2]
theorem hasB_num {d : SpT} (h : spanB d = true) : hasB d (0, 1) = (decide (d.1.1 ≤ 0) && decide (0 ≤ d.2.1)) := by
  obtain ⟨d1, d2, _⟩ := spanB_iff.1 h
  have v0 : validB (0, 1) = true := by decide
  have s1 := (qv_sign d1).1
  have s2 := (qv_sign d2).2.1
  have e1 : decide (cmpF d.1 (0, 1) ≤ 0) = decide (d.1.1 ≤ 0) := by
    rw [decide_eq_decide, cmpF_le d1 v0, qv_zero]
    constructor
    · intro h; refine Int.not_lt.1 fun k => ?_; have := s1.2 k; grind
    · intro h; refine Rat.not_lt.1 fun k => ?_; have := s1.1 k; omega
  have e2 : decide (cmpF (0, 1) d.2 ≤ 0) = decide (0 ≤ d.2.1) := by
    rw [decide_eq_decide, cmpF_le v0 d2, qv_zero]
    constructor
    · intro h; refine Int.not_lt.1 fun k => ?_; have := s2.2 k; grind
    · intro h; refine Rat.not_lt.1 fun k => ?_; have := s2.1 k; omega
  unfold hasB
  rw [e1, e2]
theorem pc_rCorner (a b : CamT) (ha : I4 a.1 ∧ I4 a.2) (hb : I4 b.1 ∧ I4 b.2) : PC Try.prog 34 [cam a, cam b] (.tup [sp (corN a b).1.1, sp (corN a b).1.2, i64 (corN a b).2]) := by
  have c1 := pc_rValidSpan a.1 ha.1.1 ha.1.2.1 ha.1.2.2.1 ha.1.2.2.2
  have c2 := pc_rValidSpan a.2 ha.2.1 ha.2.2.1 ha.2.2.2.1 ha.2.2.2.2
  have c3 := pc_rValidSpan b.1 hb.1.1 hb.1.2.1 hb.1.2.2.1 hb.1.2.2.2
  have c4 := pc_rValidSpan b.2 hb.2.1 hb.2.2.1 hb.2.2.2.1 hb.2.2.2.2
  have no : spanB a.1 = false ∨ spanB a.2 = false ∨ spanB b.1 = false ∨ spanB b.2 = false → corN a b = ((zS, zS), 8) := fun h => by unfold corN; rcases h with h | h | h | h <;> simp [h]
  cases h1 : spanB a.1
  · rw [no (.inl h1)]
    rw [h1] at c1
    refine pc_of_bodyF hm Try.func34 (by kernel_rfl) ?_
    conv => whnf
    (repeat' (first | (refine And.intro (a := _ = true → _) (b := _ = false → _) (fun hh => ?_) (fun hh => ?_) <;> (first | simp only [decide_eq_true_eq, decide_eq_false_iff_not, Bool.or_eq_true, Bool.and_eq_true, Bool.or_eq_false_iff, Bool.and_eq_false_iff, Bool.not_eq_true', Bool.not_eq_false', ge_iff_le, gt_iff_lt] at hh | skip) <;> (first | (exfalso; omega) | (exfalso; simp [*] at hh; done) | (exfalso; revert hh; decide) | exact absurd (by assumption) hh | (conv => whnf))) | (refine ⟨by kernel_rfl, ?_⟩; (conv => whnf)) | (refine And.intro (a := _ ∧ _) ⟨by omega, by omega⟩ ?_; (conv => whnf)) | (refine And.intro (a := _ ∧ _) ⟨by decide, by decide⟩ ?_; (conv => whnf)) | (refine And.intro (a := _ ≤ _) (by omega) ?_; (conv => whnf)) | (refine And.intro (a := _ ≠ _) (by omega) ?_; (conv => whnf)) | (refine Or.inl ?_; (conv => whnf); first | (refine ⟨_, by first | exact c1, ?_⟩; (conv => whnf)) | (refine ⟨false, ?_⟩; (conv => whnf); refine ⟨_, by first | exact c1, ?_⟩; (conv => whnf))) | (refine ⟨_, by first | exact c1, ?_⟩; (conv => whnf))))
  cases h2 : spanB a.2
  · rw [no (.inr (.inl h2))]
    rw [h1] at c1
    rw [h2] at c2
    refine pc_of_bodyF hm Try.func34 (by kernel_rfl) ?_
    conv => whnf
    (repeat' (first | (refine And.intro (a := _ = true → _) (b := _ = false → _) (fun hh => ?_) (fun hh => ?_) <;> (first | simp only [decide_eq_true_eq, decide_eq_false_iff_not, Bool.or_eq_true, Bool.and_eq_true, Bool.or_eq_false_iff, Bool.and_eq_false_iff, Bool.not_eq_true', Bool.not_eq_false', ge_iff_le, gt_iff_lt] at hh | skip) <;> (first | (exfalso; omega) | (exfalso; simp [*] at hh; done) | (exfalso; revert hh; decide) | exact absurd (by assumption) hh | (conv => whnf))) | (refine ⟨by kernel_rfl, ?_⟩; (conv => whnf)) | (refine And.intro (a := _ ∧ _) ⟨by omega, by omega⟩ ?_; (conv => whnf)) | (refine And.intro (a := _ ∧ _) ⟨by decide, by decide⟩ ?_; (conv => whnf)) | (refine And.intro (a := _ ≤ _) (by omega) ?_; (conv => whnf)) | (refine And.intro (a := _ ≠ _) (by omega) ?_; (conv => whnf)) | (refine Or.inl ?_; (conv => whnf); first | (refine ⟨_, by first | exact c1 | exact c2, ?_⟩; (conv => whnf)) | (refine ⟨false, ?_⟩; (conv => whnf); refine ⟨_, by first | exact c1 | exact c2, ?_⟩; (conv => whnf))) | (refine ⟨_, by first | exact c1 | exact c2, ?_⟩; (conv => whnf))))
  cases h3 : spanB b.1
  · rw [no (.inr (.inr (.inl h3)))]
    rw [h1] at c1
    rw [h2] at c2
    rw [h3] at c3
    refine pc_of_bodyF hm Try.func34 (by kernel_rfl) ?_
    conv => whnf
    (repeat' (first | (refine And.intro (a := _ = true → _) (b := _ = false → _) (fun hh => ?_) (fun hh => ?_) <;> (first | simp only [decide_eq_true_eq, decide_eq_false_iff_not, Bool.or_eq_true, Bool.and_eq_true, Bool.or_eq_false_iff, Bool.and_eq_false_iff, Bool.not_eq_true', Bool.not_eq_false', ge_iff_le, gt_iff_lt] at hh | skip) <;> (first | (exfalso; omega) | (exfalso; simp [*] at hh; done) | (exfalso; revert hh; decide) | exact absurd (by assumption) hh | (conv => whnf))) | (refine ⟨by kernel_rfl, ?_⟩; (conv => whnf)) | (refine And.intro (a := _ ∧ _) ⟨by omega, by omega⟩ ?_; (conv => whnf)) | (refine And.intro (a := _ ∧ _) ⟨by decide, by decide⟩ ?_; (conv => whnf)) | (refine And.intro (a := _ ≤ _) (by omega) ?_; (conv => whnf)) | (refine And.intro (a := _ ≠ _) (by omega) ?_; (conv => whnf)) | (refine Or.inl ?_; (conv => whnf); first | (refine ⟨_, by first | exact c1 | exact c2 | exact c3, ?_⟩; (conv => whnf)) | (refine ⟨false, ?_⟩; (conv => whnf); refine ⟨_, by first | exact c1 | exact c2 | exact c3, ?_⟩; (conv => whnf))) | (refine ⟨_, by first | exact c1 | exact c2 | exact c3, ?_⟩; (conv => whnf))))
  cases h4 : spanB b.2
  · rw [no (.inr (.inr (.inr h4)))]
    rw [h1] at c1
    rw [h2] at c2
    rw [h3] at c3
    rw [h4] at c4
    refine pc_of_bodyF hm Try.func34 (by kernel_rfl) ?_
    conv => whnf
    (repeat' (first | (refine And.intro (a := _ = true → _) (b := _ = false → _) (fun hh => ?_) (fun hh => ?_) <;> (first | simp only [decide_eq_true_eq, decide_eq_false_iff_not, Bool.or_eq_true, Bool.and_eq_true, Bool.or_eq_false_iff, Bool.and_eq_false_iff, Bool.not_eq_true', Bool.not_eq_false', ge_iff_le, gt_iff_lt] at hh | skip) <;> (first | (exfalso; omega) | (exfalso; simp [*] at hh; done) | (exfalso; revert hh; decide) | exact absurd (by assumption) hh | (conv => whnf))) | (refine ⟨by kernel_rfl, ?_⟩; (conv => whnf)) | (refine And.intro (a := _ ∧ _) ⟨by omega, by omega⟩ ?_; (conv => whnf)) | (refine And.intro (a := _ ∧ _) ⟨by decide, by decide⟩ ?_; (conv => whnf)) | (refine And.intro (a := _ ≤ _) (by omega) ?_; (conv => whnf)) | (refine And.intro (a := _ ≠ _) (by omega) ?_; (conv => whnf)) | (refine Or.inl ?_; (conv => whnf); first | (refine ⟨_, by first | exact c1 | exact c2 | exact c3 | exact c4, ?_⟩; (conv => whnf)) | (refine ⟨false, ?_⟩; (conv => whnf); refine ⟨_, by first | exact c1 | exact c2 | exact c3 | exact c4, ?_⟩; (conv => whnf))) | (refine ⟨_, by first | exact c1 | exact c2 | exact c3 | exact c4, ?_⟩; (conv => whnf))))
  rw [h1] at c1
  rw [h2] at c2
  rw [h3] at c3
  rw [h4] at c4
  have hc : corN a b = corG (corD a b) (corP a b (corD a b).1) (corP b a (corD a b).1) (hasB (corD a b).1 (0, 1)) := by unfold corN; rw [h1, h2, h3, h4]; rfl
  rw [hc]
  clear no hc
  have m1 := pc_rMul4 a.1 b.1 ha.1 hb.1
  have hD : corD a b = withF bus (mulS a.1 b.1) oneS := rfl
  by_cases e0 : (mulS a.1 b.1).2 = 0
  rotate_left
  · have e : corD a b = mulS a.1 b.1 := by rw [hD]; simp [withF, e0]
    rw [e]
    generalize mulS a.1 b.1 = r at *
    refine pc_of_bodyF hm Try.func34 (by kernel_rfl) ?_
    conv => whnf
    (repeat' (first | (refine And.intro (a := _ = true → _) (b := _ = false → _) (fun hh => ?_) (fun hh => ?_) <;> (first | simp only [decide_eq_true_eq, decide_eq_false_iff_not, Bool.or_eq_true, Bool.and_eq_true, Bool.or_eq_false_iff, Bool.and_eq_false_iff, Bool.not_eq_true', Bool.not_eq_false', ge_iff_le, gt_iff_lt] at hh | skip) <;> (first | (exfalso; omega) | (exfalso; simp [*] at hh; done) | (exfalso; revert hh; decide) | exact absurd (by assumption) hh | (conv => whnf))) | (refine ⟨by kernel_rfl, ?_⟩; (conv => whnf)) | (refine And.intro (a := _ ∧ _) ⟨by omega, by omega⟩ ?_; (conv => whnf)) | (refine And.intro (a := _ ∧ _) ⟨by decide, by decide⟩ ?_; (conv => whnf)) | (refine And.intro (a := _ ≤ _) (by omega) ?_; (conv => whnf)) | (refine And.intro (a := _ ≠ _) (by omega) ?_; (conv => whnf)) | (refine Or.inl ?_; (conv => whnf); first | (refine ⟨_, by first | exact c1 | exact c2 | exact c3 | exact c4 | exact m1, ?_⟩; (conv => whnf)) | (refine ⟨false, ?_⟩; (conv => whnf); refine ⟨_, by first | exact c1 | exact c2 | exact c3 | exact c4 | exact m1, ?_⟩; (conv => whnf))) | (refine ⟨_, by first | exact c1 | exact c2 | exact c3 | exact c4 | exact m1, ?_⟩; (conv => whnf))))
    all_goals simp [corG, e0]
  have e : corD a b = subS oneS (mulS a.1 b.1).1 := by rw [hD]; simp [withF, e0, bus]
  have m2 := pc_rSub4 oneS (mulS a.1 b.1).1 (by unfold I4 I64; simp) (spanB_i (mulS_ok e0).2.2)
  rw [← e] at m2
  have ok := fun h => corD_ok (a := a) (b := b) h
  have m3 := fun h => pc_coordinate a b (corD a b).1 ha.1 ha.2 hb.2 (spanB_i (ok h))
  have m4 := fun h => pc_coordinate b a (corD a b).1 hb.1 hb.2 ha.2 (spanB_i (ok h))
  clear e hD
  generalize mulS a.1 b.1 = r at *
  generalize corP a b (corD a b).1 = P at *
  generalize corP b a (corD a b).1 = Q at *
  generalize corD a b = D at *
  obtain ⟨D, De⟩ := D
  simp only [] at *
  by_cases e1 : De = 0
  rotate_left
  · clear m3 m4
    refine pc_of_bodyF hm Try.func34 (by kernel_rfl) ?_
    conv => whnf
    (repeat' (first | (refine And.intro (a := _ = true → _) (b := _ = false → _) (fun hh => ?_) (fun hh => ?_) <;> (first | simp only [decide_eq_true_eq, decide_eq_false_iff_not, Bool.or_eq_true, Bool.and_eq_true, Bool.or_eq_false_iff, Bool.and_eq_false_iff, Bool.not_eq_true', Bool.not_eq_false', ge_iff_le, gt_iff_lt] at hh | skip) <;> (first | (exfalso; omega) | (exfalso; simp [*] at hh; done) | (exfalso; revert hh; decide) | exact absurd (by assumption) hh | (conv => whnf))) | (refine ⟨by kernel_rfl, ?_⟩; (conv => whnf)) | (refine And.intro (a := _ ∧ _) ⟨by omega, by omega⟩ ?_; (conv => whnf)) | (refine And.intro (a := _ ∧ _) ⟨by decide, by decide⟩ ?_; (conv => whnf)) | (refine And.intro (a := _ ≤ _) (by omega) ?_; (conv => whnf)) | (refine And.intro (a := _ ≠ _) (by omega) ?_; (conv => whnf)) | (refine Or.inl ?_; (conv => whnf); first | (refine ⟨_, by first | exact c1 | exact c2 | exact c3 | exact c4 | exact m1 | exact m2, ?_⟩; (conv => whnf)) | (refine ⟨false, ?_⟩; (conv => whnf); refine ⟨_, by first | exact c1 | exact c2 | exact c3 | exact c4 | exact m1 | exact m2, ?_⟩; (conv => whnf))) | (refine ⟨_, by first | exact c1 | exact c2 | exact c3 | exact c4 | exact m1 | exact m2, ?_⟩; (conv => whnf))))
    all_goals simp [corG, e0, e1]
  have hz := hasB_num (ok e1)
  replace m3 := m3 e1
  replace m4 := m4 e1
  subst e1
  by_cases z1 : D.1.1 ≤ 0 ∧ 0 ≤ D.2.1
  · simp only [z1, decide_true, Bool.and_self] at hz
    refine pc_of_bodyF hm Try.func34 (by kernel_rfl) ?_
    conv => whnf
    (repeat' (first | (refine And.intro (a := _ = true → _) (b := _ = false → _) (fun hh => ?_) (fun hh => ?_) <;> (first | simp only [decide_eq_true_eq, decide_eq_false_iff_not, Bool.or_eq_true, Bool.and_eq_true, Bool.or_eq_false_iff, Bool.and_eq_false_iff, Bool.not_eq_true', Bool.not_eq_false', ge_iff_le, gt_iff_lt] at hh | skip) <;> (first | (exfalso; omega) | (exfalso; simp [*] at hh; done) | (exfalso; revert hh; decide) | exact absurd (by assumption) hh | (conv => whnf))) | (refine ⟨by kernel_rfl, ?_⟩; (conv => whnf)) | (refine And.intro (a := _ ∧ _) ⟨by omega, by omega⟩ ?_; (conv => whnf)) | (refine And.intro (a := _ ∧ _) ⟨by decide, by decide⟩ ?_; (conv => whnf)) | (refine And.intro (a := _ ≤ _) (by omega) ?_; (conv => whnf)) | (refine And.intro (a := _ ≠ _) (by omega) ?_; (conv => whnf)) | (refine Or.inl ?_; (conv => whnf); first | (refine ⟨_, by first | exact c1 | exact c2 | exact c3 | exact c4 | exact m1 | exact m2, ?_⟩; (conv => whnf)) | (refine ⟨false, ?_⟩; (conv => whnf); refine ⟨_, by first | exact c1 | exact c2 | exact c3 | exact c4 | exact m1 | exact m2, ?_⟩; (conv => whnf))) | (refine ⟨_, by first | exact c1 | exact c2 | exact c3 | exact c4 | exact m1 | exact m2, ?_⟩; (conv => whnf))))
    all_goals simp [corG, hz, e0, z1]
  have hz : hasB D (0, 1) = false := by rw [hz, Bool.and_eq_false_iff, decide_eq_false_iff_not, decide_eq_false_iff_not]; omega
  by_cases e2 : P.2 = 0
  rotate_left
  · have eP : errS P = (zS, P.2) := by unfold errS; rw [if_neg e2]
    rw [eP] at m3
    refine pc_of_bodyF hm Try.func34 (by kernel_rfl) ?_
    conv => whnf
    (repeat' (first | (refine And.intro (a := _ = true → _) (b := _ = false → _) (fun hh => ?_) (fun hh => ?_) <;> (first | simp only [decide_eq_true_eq, decide_eq_false_iff_not, Bool.or_eq_true, Bool.and_eq_true, Bool.or_eq_false_iff, Bool.and_eq_false_iff, Bool.not_eq_true', Bool.not_eq_false', ge_iff_le, gt_iff_lt] at hh | skip) <;> (first | (exfalso; omega) | (exfalso; simp [*] at hh; done) | (exfalso; revert hh; decide) | exact absurd (by assumption) hh | (conv => whnf))) | (refine ⟨by kernel_rfl, ?_⟩; (conv => whnf)) | (refine And.intro (a := _ ∧ _) ⟨by omega, by omega⟩ ?_; (conv => whnf)) | (refine And.intro (a := _ ∧ _) ⟨by decide, by decide⟩ ?_; (conv => whnf)) | (refine And.intro (a := _ ≤ _) (by omega) ?_; (conv => whnf)) | (refine And.intro (a := _ ≠ _) (by omega) ?_; (conv => whnf)) | (refine Or.inl ?_; (conv => whnf); first | (refine ⟨_, by first | exact c1 | exact c2 | exact c3 | exact c4 | exact m1 | exact m2 | exact m3, ?_⟩; (conv => whnf)) | (refine ⟨false, ?_⟩; (conv => whnf); refine ⟨_, by first | exact c1 | exact c2 | exact c3 | exact c4 | exact m1 | exact m2 | exact m3, ?_⟩; (conv => whnf))) | (refine ⟨_, by first | exact c1 | exact c2 | exact c3 | exact c4 | exact m1 | exact m2 | exact m3, ?_⟩; (conv => whnf))))
    all_goals simp [corG, hz, e0, e2]
  have eP : errS P = P := by unfold errS; rw [if_pos e2]
  rw [eP] at m3
  by_cases e3 : Q.2 = 0
  rotate_left
  · have eQ : errS Q = (zS, Q.2) := by unfold errS; rw [if_neg e3]
    rw [eQ] at m4
    refine pc_of_bodyF hm Try.func34 (by kernel_rfl) ?_
    conv => whnf
    (repeat' (first | (refine And.intro (a := _ = true → _) (b := _ = false → _) (fun hh => ?_) (fun hh => ?_) <;> (first | simp only [decide_eq_true_eq, decide_eq_false_iff_not, Bool.or_eq_true, Bool.and_eq_true, Bool.or_eq_false_iff, Bool.and_eq_false_iff, Bool.not_eq_true', Bool.not_eq_false', ge_iff_le, gt_iff_lt] at hh | skip) <;> (first | (exfalso; omega) | (exfalso; simp [*] at hh; done) | (exfalso; revert hh; decide) | exact absurd (by assumption) hh | (conv => whnf))) | (refine ⟨by kernel_rfl, ?_⟩; (conv => whnf)) | (refine And.intro (a := _ ∧ _) ⟨by omega, by omega⟩ ?_; (conv => whnf)) | (refine And.intro (a := _ ∧ _) ⟨by decide, by decide⟩ ?_; (conv => whnf)) | (refine And.intro (a := _ ≤ _) (by omega) ?_; (conv => whnf)) | (refine And.intro (a := _ ≠ _) (by omega) ?_; (conv => whnf)) | (refine Or.inl ?_; (conv => whnf); first | (refine ⟨_, by first | exact c1 | exact c2 | exact c3 | exact c4 | exact m1 | exact m2 | exact m3 | exact m4, ?_⟩; (conv => whnf)) | (refine ⟨false, ?_⟩; (conv => whnf); refine ⟨_, by first | exact c1 | exact c2 | exact c3 | exact c4 | exact m1 | exact m2 | exact m3 | exact m4, ?_⟩; (conv => whnf))) | (refine ⟨_, by first | exact c1 | exact c2 | exact c3 | exact c4 | exact m1 | exact m2 | exact m3 | exact m4, ?_⟩; (conv => whnf))))
    all_goals simp [corG, hz, e0, e2, e3]
  have eQ : errS Q = Q := by unfold errS; rw [if_pos e3]
  rw [eQ] at m4
  refine pc_of_bodyF hm Try.func34 (by kernel_rfl) ?_
  conv => whnf
  (repeat' (first | (refine And.intro (a := _ = true → _) (b := _ = false → _) (fun hh => ?_) (fun hh => ?_) <;> (first | simp only [decide_eq_true_eq, decide_eq_false_iff_not, Bool.or_eq_true, Bool.and_eq_true, Bool.or_eq_false_iff, Bool.and_eq_false_iff, Bool.not_eq_true', Bool.not_eq_false', ge_iff_le, gt_iff_lt] at hh | skip) <;> (first | (exfalso; omega) | (exfalso; simp [*] at hh; done) | (exfalso; revert hh; decide) | exact absurd (by assumption) hh | (conv => whnf))) | (refine ⟨by kernel_rfl, ?_⟩; (conv => whnf)) | (refine And.intro (a := _ ∧ _) ⟨by omega, by omega⟩ ?_; (conv => whnf)) | (refine And.intro (a := _ ∧ _) ⟨by decide, by decide⟩ ?_; (conv => whnf)) | (refine And.intro (a := _ ≤ _) (by omega) ?_; (conv => whnf)) | (refine And.intro (a := _ ≠ _) (by omega) ?_; (conv => whnf)) | (refine Or.inl ?_; (conv => whnf); first | (refine ⟨_, by first | exact c1 | exact c2 | exact c3 | exact c4 | exact m1 | exact m2 | exact m3 | exact m4, ?_⟩; (conv => whnf)) | (refine ⟨false, ?_⟩; (conv => whnf); refine ⟨_, by first | exact c1 | exact c2 | exact c3 | exact c4 | exact m1 | exact m2 | exact m3 | exact m4, ?_⟩; (conv => whnf))) | (refine ⟨_, by first | exact c1 | exact c2 | exact c3 | exact c4 | exact m1 | exact m2 | exact m3 | exact m4, ?_⟩; (conv => whnf))))
  all_goals simp [corG, hz, e0, e2, e3]
theorem pc_GaugeCorners (a b : CamT) (ha : I4 a.1 ∧ I4 a.2) (hb : I4 b.1 ∧ I4 b.2) : PC Try.prog 5 [cam a, cam b] (.bool true) := by
  have h1 := pc_Corner a b
  have h2 := pc_rCorner a b ha hb
  generalize corN a b = x at *
  refine pc_of_bodyF hm Try.func5 (by kernel_rfl) ?_
  conv => whnf
  (repeat' (first | (refine And.intro (a := _ = true → _) (b := _ = false → _) (fun hh => ?_) (fun hh => ?_) <;> (first | simp only [decide_eq_true_eq, decide_eq_false_iff_not, Bool.or_eq_true, Bool.and_eq_true, Bool.or_eq_false_iff, Bool.and_eq_false_iff, Bool.not_eq_true', Bool.not_eq_false', ge_iff_le, gt_iff_lt] at hh | skip) <;> (first | (exfalso; omega) | (exfalso; simp [*] at hh; done) | (exfalso; revert hh; decide) | exact absurd (by assumption) hh | (conv => whnf))) | (refine ⟨by kernel_rfl, ?_⟩; (conv => whnf)) | (refine And.intro (a := _ ∧ _) ⟨by omega, by omega⟩ ?_; (conv => whnf)) | (refine And.intro (a := _ ∧ _) ⟨by decide, by decide⟩ ?_; (conv => whnf)) | (refine And.intro (a := _ ≤ _) (by omega) ?_; (conv => whnf)) | (refine And.intro (a := _ ≠ _) (by omega) ?_; (conv => whnf)) | (refine Or.inl ?_; (conv => whnf); first | (refine ⟨_, by first | exact h1 | exact h2, ?_⟩; (conv => whnf)) | (refine ⟨false, ?_⟩; (conv => whnf); refine ⟨_, by first | exact h1 | exact h2, ?_⟩; (conv => whnf))) | (refine ⟨_, by first | exact h1 | exact h2, ?_⟩; (conv => whnf))))
  all_goals simp
end Go.Proofs.Try.My
set_option maxRecDepth 100000
set_option maxHeartbeats 0
set_option linter.unusedVariables false
set_option linter.unusedSimpArgs false
namespace Go.Proofs.Ytblmmhmdnnnidaa.GaugeCornersDone
open Go Go.Ev Go.Proofs.Try.My
open Go.ChangeShapes Go.WideShapes Go.ChangeAt Go.RowKit

theorem own : ownKnob Try.prog.godebug = none := by kernel_rfl
theorem laidOut : laidOutB Try.prog = true := by kernel_rfl

theorem dFrac : Dec Try.prog 29 eF (fun y : Int × Int => I64 y.1 ∧ I64 y.2) :=
  dec_two Try.underlying29 rfl rfl rfl (by kernel_rfl) (by kernel_rfl) (dec_int Try.underlying3 (by kernel_rfl)) (dec_int Try.underlying3 (by kernel_rfl)) (fun _ => by kernel_rfl)
theorem dSpan : Dec Try.prog 31 eS (fun y : SpT => (I64 y.1.1 ∧ I64 y.1.2) ∧ (I64 y.2.1 ∧ I64 y.2.2)) :=
  dec_two Try.underlying31 rfl rfl rfl (by kernel_rfl) (by kernel_rfl) dFrac dFrac (fun _ => by kernel_rfl)
theorem dCamera : Dec Try.prog 33 eC (fun y : CamT => ((I64 y.1.1.1 ∧ I64 y.1.1.2) ∧ (I64 y.1.2.1 ∧ I64 y.1.2.2)) ∧ ((I64 y.2.1.1 ∧ I64 y.2.1.2) ∧ (I64 y.2.2.1 ∧ I64 y.2.2.2))) :=
  dec_two Try.underlying33 rfl rfl rfl (by kernel_rfl) (by kernel_rfl) dSpan dSpan (fun _ => by kernel_rfl)
theorem walk (w : World) (a : CamT) (f0 : ((I64 a.1.1.1 ∧ I64 a.1.1.2) ∧ (I64 a.1.2.1 ∧ I64 a.1.2.2)) ∧ ((I64 a.2.1.1 ∧ I64 a.2.1.2) ∧ (I64 a.2.2.1 ∧ I64 a.2.2.2))) (v0 : Value) (h0 : RepI (fun b => b < w.heap.size) w (.agg (eC a)) v0) (b : CamT) (f1 : ((I64 b.1.1.1 ∧ I64 b.1.1.2) ∧ (I64 b.1.2.1 ∧ I64 b.1.2.2)) ∧ ((I64 b.2.1.1 ∧ I64 b.2.1.2) ∧ (I64 b.2.2.1 ∧ I64 b.2.2.2))) (v1 : Value) (h1 : RepI (fun b => b < w.heap.size) w (.agg (eC b)) v1) :
    Calls Try.prog 5 #[v0, v1] w fun e w' => e = .returned (.bool true) ∧ Below w.heap.size w w' := by
  refine PC.callsTrue (pc_GaugeCorners a  b  ⟨⟨f0.1.1.1, f0.1.1.2, f0.1.2.1, f0.1.2.2⟩, f0.2.1.1, f0.2.1.2, f0.2.2.1, f0.2.2.2⟩ ⟨⟨f1.1.1.1, f1.1.1.2, f1.1.2.1, f1.1.2.2⟩, f1.2.1.1, f1.2.1.2, f1.2.2.1, f1.2.2.2⟩) Try.func5 (by kernel_rfl) rfl rfl fun i hi => ?_
  match i, hi with
  | 0, _ => exact h0
  | 1, _ => exact h1

theorem lifted (os : Os) (started : os.Started) (H : Type) (enc : TypeId × Value → H) :
    ReturnsInHanded {} Try.checked os 5 .any (Rows.gaugeCornersSpec.pre6 enc Try.prog Try.f5 Rows.gaugeCornersRow.domain false) (Rows.gaugeCornersSpec.post enc Try.prog Try.f5 false true false false) := by
  refine returnsInHanded_of_change (C := Try.checked) own started (by kernel_rfl) Try.func5
    (ChangeSpec.witness6 (enc := enc) (C := Try.checked) false ⟨#[], #[.agg #[.int .i64 0, .int .i64 0, .int .i64 0, .int .i64 0, .int .i64 0, .int .i64 0, .int .i64 0, .int .i64 0], .agg #[.int .i64 0, .int .i64 0, .int .i64 0, .int .i64 0, .int .i64 0, .int .i64 0, .int .i64 0, .int .i64 0]], []⟩ 8 (by kernel_rfl) (by kernel_rfl) (by kernel_rfl) (by kernel_rfl)) ?_
  intro W base args ds gs before hval0 hW hcnd _
  have hval : ∀ (j : Nat) t v, Try.f5.params[j]? = some t → args[j]? = some v → Value.okWide Try.prog W .any base t v := hval0
  have hW' := hW
  obtain ⟨p, q, hA0, hV, rfl, hfz, hnd⟩ := hW
  have hA : DataW.TrodAll enc Try.prog W 0 (fun _ => true) true Try.f5.params.toList args.toList ds p := hA0
  rw [Try.params5] at hA hval
  obtain ⟨v0, vs0, d0, ds0, p0, q0, hargs, rfl, rfl, h0, r0⟩ := trodAll_cons hA
  obtain ⟨v1, vs1, d1, ds1, p1, q1, rfl, rfl, rfl, h1, r1⟩ := trodAll_cons r0
  obtain ⟨rfl, rfl, rfl⟩ := trodAll_nil r1
  obtain rfl : args = #[v0, v1] := by cases args; simp_all
  obtain ⟨rfl, rfl⟩ := trodVars_none hV
  have k0 := h0
  have lt0 : ∀ x ∈ p0, x.block < W.heap.size := by obtain ⟨m, hm⟩ := k0; exact DataW.trod_lt m _ _ _ hm
  obtain ⟨a0, fa0, ra0⟩ := repI_struct Try.underlying33 dCamera (fun _ => by kernel_rfl) (hval 0 33 v0 rfl rfl) h0
  have k1 := h1
  have lt1 : ∀ x ∈ p1, x.block < W.heap.size := by obtain ⟨m, hm⟩ := k1; exact DataW.trod_lt m _ _ _ hm
  obtain ⟨a1, fa1, ra1⟩ := repI_struct Try.underlying33 dCamera (fun _ => by kernel_rfl) (hval 1 33 v1 rfl rfl) h1
  clear hA0 hval0
  refine (walk W a0 fa0 _ (ra0 _ _) a1 fa1 _ (ra1 _ _)).mono fun e W' ⟨he, bel⟩ => ?_
  subst he
  exact ⟨_, rfl, _, _, _, [], _, [], hW', trodAll_mk1 (shut_bool Try.underlying4 _), (trodAll_cons_mk (Below.trod laidOut (by kernel_rfl) (of_decide_eq_true (by kernel_rfl)) k0 bel lt0) (trodAll_cons_mk (Below.trod laidOut (by kernel_rfl) (of_decide_eq_true (by kernel_rfl)) k1 bel lt1) trodAll_mk0)), rfl, bel.frame _, fun h => by cases h⟩

theorem closed : joinedFacts Try.pinned.checked.prog 5 Try.f5 Rows.gaugeCornersSpec Rows.gaugeCornersRow = true :=
  (restOf Try.pinned.checked.prog 5 Try.f5 Rows.gaugeCornersSpec Rows.gaugeCornersRow make_eq mayEnter_eq liftsFinal_eq).2 (by kernel_rfl)
theorem over : Rows.gaugeCornersRow.holds Try.pinned (OpenSpec.ofChange Rows.gaugeCornersSpec) :=
  OpenClaim.holds_of_wide 5 Try.f5 rfl rfl rfl rfl rfl rfl rfl ⟨rfl, rfl, rfl, rfl, rfl⟩ rfl rfl rfl rfl rfl (by kernel_rfl) Try.func5 closed
    (of_decide_eq_true (by kernel_rfl)) (by unfold Func.isWrapper; first | (rw [if_pos (by decide +kernel)]; kernel_rfl) | (rw [if_neg (by decide +kernel)]; exact ⟨rfl, rfl⟩))
    (fun os started H enc _ => lifted os started H enc)

theorem proved : Rows.GaugeCornersSaid := over
#print axioms proved
end Go.Proofs.Ytblmmhmdnnnidaa.GaugeCornersDone
