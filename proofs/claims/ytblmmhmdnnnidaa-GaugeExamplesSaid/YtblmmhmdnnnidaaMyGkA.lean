/- A helper text: contracts of functions of the program, and plain lemmas. -/
import Derived.Test.YtblmmhmdnnnidaaMyGcA
import Derived.Test.YtblmmhmdnnnidaaEvSix
set_option maxRecDepth 100000
set_option maxHeartbeats 0
set_option linter.unusedVariables false
set_option linter.unusedSimpArgs false
namespace Go.Proofs.Try.My
open Go Go.Ev

/-! ### Corners -/
abbrev oneS : SpT := ((1, 1), (1, 1))
def corD (a b : CamT) : SpT × Int := withF bus (withF mulS (a.1, 0) b.1) oneS
def corP (a b : CamT) (d : SpT) : SpT × Int := withF divS (withF addS (withF mulS (a.1, 0) b.2) a.2) d
def corG (d p q : SpT × Int) (z : Bool) : (SpT × SpT) × Int :=
  if d.2 = 0 then (if z then ((zS, zS), 6) else if p.2 = 0 then (if q.2 = 0 then ((p.1, q.1), 0) else ((zS, zS), q.2)) else ((zS, zS), p.2)) else ((zS, zS), d.2)
def corN (a b : CamT) : (SpT × SpT) × Int :=
  if spanB a.1 && spanB a.2 && spanB b.1 && spanB b.2 then corG (corD a b) (corP a b (corD a b).1) (corP b a (corD a b).1) (hasB (corD a b).1 (0, 1)) else ((zS, zS), 8)
theorem corD_ok {a b : CamT} (h : (corD a b).2 = 0) : spanB (corD a b).1 = true := by
  unfold corD withF bus at h ⊢
  simp only [if_true] at h ⊢
  by_cases h1 : (mulS a.1 b.1).2 = 0
  · rw [if_pos h1] at h ⊢
    exact (subS_ok h).2.2
  · rw [if_neg h1] at h
    exact absurd h h1
end Go.Proofs.Try.My
set_option maxRecDepth 100000
set_option maxHeartbeats 0
set_option linter.unusedVariables false
set_option linter.unusedSimpArgs false
namespace Go.Proofs.Try.My
open Go Go.Ev

def corW : PSigma fun P : Int → Int → Int → Int → Int → Int → Int → Int → Int → Int → Int → Int → Int → Int → Int → Int → AV → Prop => ∀ (a1 a2 a3 a4 a5 a6 a7 a8 b1 b2 b3 b4 b5 b6 b7 b8 : Int) (res : AV), (PC Try.prog 94 [.agg [i64 a1, i64 a2, i64 a3, i64 a4]] (i64 0)) → (PC Try.prog 94 [.agg [i64 a5, i64 a6, i64 a7, i64 a8]] (i64 0)) → (PC Try.prog 94 [.agg [i64 b1, i64 b2, i64 b3, i64 b4]] (i64 0)) → (PC Try.prog 94 [.agg [i64 b5, i64 b6, i64 b7, i64 b8]] (i64 0)) → (Unit → P a1 a2 a3 a4 a5 a6 a7 a8 b1 b2 b3 b4 b5 b6 b7 b8 res) → PC Try.prog 33 [.agg [i64 a1, i64 a2, i64 a3, i64 a4, i64 a5, i64 a6, i64 a7, i64 a8], .agg [i64 b1, i64 b2, i64 b3, i64 b4, i64 b5, i64 b6, i64 b7, i64 b8]] res := ⟨_, fun a1 a2 a3 a4 a5 a6 a7 a8 b1 b2 b3 b4 b5 b6 b7 b8 res c1 c2 c3 c4 hP => by
  refine pc_of_bodyF hm Try.func33 (by kernel_rfl) ?_
  conv => whnf
  refine Or.inr ⟨Nat, [26], [], [], fun i => [i64 i], fun _ => [], fun _ => [], fun i => 4 - i, fun i => i ≤ 4, ?_⟩
  (conv => whnf)
  refine ⟨⟨0, ?_⟩, ?_⟩
  · (conv => whnf)
    exact ⟨⟨Nat.zero_le _, rfl, rfl, rfl⟩, by kernel_rfl, by kernel_rfl⟩
  · intro i hi
    (conv => whnf)
    refine ⟨fun h => ?_, fun h => ?_⟩
    · have h := of_decide_eq_true h
      have hi' : i = 0 ∨ i = 1 ∨ i = 2 ∨ i = 3 := by
        have : (i : Int) < 4 := h
        omega
      rcases hi' with rfl | rfl | rfl | rfl
      · (conv => whnf)
        (repeat' (first | (refine ⟨by kernel_rfl, ?_⟩; (conv => whnf)) | (refine And.intro (a := _ ∧ _) ⟨by omega, by omega⟩ ?_; (conv => whnf))))
        (repeat' (first | (refine ⟨_, by first | with_reducible exact c1, ?_⟩; (conv => whnf)) | (refine Or.inl ?_; (conv => whnf); refine ⟨_, by first | with_reducible exact c1, ?_⟩; (conv => whnf)) | (refine Or.inl ?_; (conv => whnf); refine ⟨false, ?_⟩; (conv => whnf); refine ⟨_, by first | with_reducible exact c1, ?_⟩; (conv => whnf)) | (refine ⟨by kernel_rfl, ?_⟩; (conv => whnf)) | (refine ⟨fun _ => ?_, fun h => absurd h (by first | decide | (simp; done) | fail)⟩; (conv => whnf)) | (refine ⟨fun h => absurd h (by first | decide | (simp; done) | fail), fun _ => ?_⟩; (conv => whnf)) | fail))
        refine ⟨1, ?_⟩
        (conv => whnf)
        refine ⟨⟨⟨by decide, by decide⟩, ?_, rfl, rfl⟩, by kernel_rfl, by kernel_rfl⟩
        first | rfl | (rw [w64 _ (by omega) (by omega)]; rfl)
      · (conv => whnf)
        (repeat' (first | (refine ⟨by kernel_rfl, ?_⟩; (conv => whnf)) | (refine And.intro (a := _ ∧ _) ⟨by omega, by omega⟩ ?_; (conv => whnf))))
        (repeat' (first | (refine ⟨_, by first | with_reducible exact c2, ?_⟩; (conv => whnf)) | (refine Or.inl ?_; (conv => whnf); refine ⟨_, by first | with_reducible exact c2, ?_⟩; (conv => whnf)) | (refine Or.inl ?_; (conv => whnf); refine ⟨false, ?_⟩; (conv => whnf); refine ⟨_, by first | with_reducible exact c2, ?_⟩; (conv => whnf)) | (refine ⟨by kernel_rfl, ?_⟩; (conv => whnf)) | (refine ⟨fun _ => ?_, fun h => absurd h (by first | decide | (simp; done) | fail)⟩; (conv => whnf)) | (refine ⟨fun h => absurd h (by first | decide | (simp; done) | fail), fun _ => ?_⟩; (conv => whnf)) | fail))
        refine ⟨2, ?_⟩
        (conv => whnf)
        refine ⟨⟨⟨by decide, by decide⟩, ?_, rfl, rfl⟩, by kernel_rfl, by kernel_rfl⟩
        first | rfl | (rw [w64 _ (by omega) (by omega)]; rfl)
      · (conv => whnf)
        (repeat' (first | (refine ⟨by kernel_rfl, ?_⟩; (conv => whnf)) | (refine And.intro (a := _ ∧ _) ⟨by omega, by omega⟩ ?_; (conv => whnf))))
        (repeat' (first | (refine ⟨_, by first | with_reducible exact c3, ?_⟩; (conv => whnf)) | (refine Or.inl ?_; (conv => whnf); refine ⟨_, by first | with_reducible exact c3, ?_⟩; (conv => whnf)) | (refine Or.inl ?_; (conv => whnf); refine ⟨false, ?_⟩; (conv => whnf); refine ⟨_, by first | with_reducible exact c3, ?_⟩; (conv => whnf)) | (refine ⟨by kernel_rfl, ?_⟩; (conv => whnf)) | (refine ⟨fun _ => ?_, fun h => absurd h (by first | decide | (simp; done) | fail)⟩; (conv => whnf)) | (refine ⟨fun h => absurd h (by first | decide | (simp; done) | fail), fun _ => ?_⟩; (conv => whnf)) | fail))
        refine ⟨3, ?_⟩
        (conv => whnf)
        refine ⟨⟨⟨by decide, by decide⟩, ?_, rfl, rfl⟩, by kernel_rfl, by kernel_rfl⟩
        first | rfl | (rw [w64 _ (by omega) (by omega)]; rfl)
      · (conv => whnf)
        (repeat' (first | (refine ⟨by kernel_rfl, ?_⟩; (conv => whnf)) | (refine And.intro (a := _ ∧ _) ⟨by omega, by omega⟩ ?_; (conv => whnf))))
        (repeat' (first | (refine ⟨_, by first | with_reducible exact c4, ?_⟩; (conv => whnf)) | (refine Or.inl ?_; (conv => whnf); refine ⟨_, by first | with_reducible exact c4, ?_⟩; (conv => whnf)) | (refine Or.inl ?_; (conv => whnf); refine ⟨false, ?_⟩; (conv => whnf); refine ⟨_, by first | with_reducible exact c4, ?_⟩; (conv => whnf)) | (refine ⟨by kernel_rfl, ?_⟩; (conv => whnf)) | (refine ⟨fun _ => ?_, fun h => absurd h (by first | decide | (simp; done) | fail)⟩; (conv => whnf)) | (refine ⟨fun h => absurd h (by first | decide | (simp; done) | fail), fun _ => ?_⟩; (conv => whnf)) | fail))
        refine ⟨4, ?_⟩
        (conv => whnf)
        refine ⟨⟨⟨by decide, by decide⟩, ?_, rfl, rfl⟩, by kernel_rfl, by kernel_rfl⟩
        first | rfl | (rw [w64 _ (by omega) (by omega)]; rfl)
    · have h := of_decide_eq_false h
      have e4' : i = 4 := by
        have : ¬ (i : Int) < 4 := h
        omega
      subst e4'
      (conv => whnf)
      exact hP ()⟩
end Go.Proofs.Try.My
set_option maxRecDepth 100000
set_option maxHeartbeats 0
set_option linter.unusedVariables false
set_option linter.unusedSimpArgs false
namespace Go.Proofs.Try.My
open Go Go.Ev

def corV : PSigma fun P : Int → Int → Int → Int → Int → Int → Int → Int → Int → Int → Int → Int → Int → Int → Int → Int → Int → Int → Int → Int → Int → Int → Int → Int → Int → Int → AV → Prop => ∀ (a1 a2 a3 a4 a5 a6 a7 a8 b1 b2 b3 b4 b5 b6 b7 b8 D1 D2 D3 D4 x11 x12 x13 x14 x15 ze : Int) (res : AV), (PC Try.prog 95 [i64 0] ((.agg [i64 0, i64 1]))) → (PC Try.prog 95 [i64 1] ((.agg [i64 1, i64 1]))) → (PC Try.prog 97 [.agg [i64 a1, i64 a2, i64 a3, i64 a4, i64 0], .agg [i64 b1, i64 b2, i64 b3, i64 b4], .fn (.func 98) [] []] ((.agg [i64 x11, i64 x12, i64 x13, i64 x14, i64 x15]))) → (PC Try.prog 97 [.agg [i64 x11, i64 x12, i64 x13, i64 x14, i64 x15], .agg [i64 1, i64 1, i64 1, i64 1], .fn (.func 96) [] []] ((.agg [i64 D1, i64 D2, i64 D3, i64 D4, i64 0]))) → (PC Try.prog 52 [.agg [i64 D1, i64 D2, i64 D3, i64 D4], .agg [i64 0, i64 1]] (.tup [.bool false, i64 ze])) → (Unit → P a1 a2 a3 a4 a5 a6 a7 a8 b1 b2 b3 b4 b5 b6 b7 b8 D1 D2 D3 D4 x11 x12 x13 x14 x15 ze res) → corW.1 a1 a2 a3 a4 a5 a6 a7 a8 b1 b2 b3 b4 b5 b6 b7 b8 res := ⟨_, fun a1 a2 a3 a4 a5 a6 a7 a8 b1 b2 b3 b4 b5 b6 b7 b8 D1 D2 D3 D4 x11 x12 x13 x14 x15 ze res w0 w1 d1 d2 hi hP => by
  conv => whnf
  (repeat' (first | (refine ⟨_, by first | with_reducible exact w1 | with_reducible exact d1 | with_reducible exact d2 | with_reducible exact w0 | with_reducible exact hi, ?_⟩; (conv => whnf)) | (refine Or.inl ?_; (conv => whnf); refine ⟨_, by first | with_reducible exact w1 | with_reducible exact d1 | with_reducible exact d2 | with_reducible exact w0 | with_reducible exact hi, ?_⟩; (conv => whnf)) | (refine Or.inl ?_; (conv => whnf); refine ⟨false, ?_⟩; (conv => whnf); refine ⟨_, by first | with_reducible exact w1 | with_reducible exact d1 | with_reducible exact d2 | with_reducible exact w0 | with_reducible exact hi, ?_⟩; (conv => whnf)) | (refine ⟨by kernel_rfl, ?_⟩; (conv => whnf)) | (refine ⟨fun _ => ?_, fun h => absurd h (by first | decide | (simp; done) | fail)⟩; (conv => whnf)) | (refine ⟨fun h => absurd h (by first | decide | (simp; done) | fail), fun _ => ?_⟩; (conv => whnf)) | fail))
  exact hP ()⟩
end Go.Proofs.Try.My
