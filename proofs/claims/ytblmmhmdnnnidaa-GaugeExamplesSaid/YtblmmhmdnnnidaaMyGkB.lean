/- A helper text: contracts of functions of the program, and plain lemmas. -/
import Derived.Test.YtblmmhmdnnnidaaEvSix
import Derived.Test.YtblmmhmdnnnidaaMyGcA
import Derived.Test.YtblmmhmdnnnidaaMyGkA
set_option maxRecDepth 100000
set_option maxHeartbeats 0
set_option linter.unusedVariables false
set_option linter.unusedSimpArgs false
namespace Go.Proofs.Try.My
open Go Go.Ev

theorem pc_cnBad {a1 a2 a3 a4 a5 a6 a7 a8 b1 b2 b3 b4 b5 b6 b7 b8 e1 e2 e3 e4 : Int} (c1 : PC Try.prog 94 [.agg [i64 a1, i64 a2, i64 a3, i64 a4]] (i64 e1)) (c2 : PC Try.prog 94 [.agg [i64 a5, i64 a6, i64 a7, i64 a8]] (i64 e2)) (c3 : PC Try.prog 94 [.agg [i64 b1, i64 b2, i64 b3, i64 b4]] (i64 e3)) (c4 : PC Try.prog 94 [.agg [i64 b5, i64 b6, i64 b7, i64 b8]] (i64 e4)) (hbad : ¬ (e1 = 0 ∧ e2 = 0 ∧ e3 = 0 ∧ e4 = 0)) : PC Try.prog 33 [.agg [i64 a1, i64 a2, i64 a3, i64 a4, i64 a5, i64 a6, i64 a7, i64 a8], .agg [i64 b1, i64 b2, i64 b3, i64 b4, i64 b5, i64 b6, i64 b7, i64 b8]] (.tup [.agg [i64 0, i64 0, i64 0, i64 0], .agg [i64 0, i64 0, i64 0, i64 0], i64 8]) := by
  refine pc_of_bodyF hm Try.func33 (by kernel_rfl) ?_
  conv => whnf
  refine Or.inr ⟨Nat, [26], [], [], fun i => [i64 i], fun _ => [], fun _ => [], fun i => 4 - i, fun i => i ≤ 4 ∧ (0 < i → e1 = 0) ∧ (1 < i → e2 = 0) ∧ (2 < i → e3 = 0) ∧ (3 < i → e4 = 0), ?_⟩
  (conv => whnf)
  refine ⟨⟨0, ?_⟩, ?_⟩
  · (conv => whnf)
    exact ⟨⟨⟨Nat.zero_le _, fun h => absurd h (by decide), fun h => absurd h (by decide), fun h => absurd h (by decide), fun h => absurd h (by decide)⟩, rfl, rfl, rfl⟩, by kernel_rfl, by kernel_rfl⟩
  · intro i ⟨hi, g1, g2, g3, g4⟩
    (conv => whnf)
    refine ⟨fun h => ?_, fun h => ?_⟩
    · have h := of_decide_eq_true h
      have hi' : i = 0 ∨ i = 1 ∨ i = 2 ∨ i = 3 := by
        have : (i : Int) < 4 := h
        omega
      rcases hi' with rfl | rfl | rfl | rfl
      · (conv => whnf)
        (repeat' (first | (refine ⟨by kernel_rfl, ?_⟩; (conv => whnf)) | (refine And.intro (a := _ ∧ _) ⟨by omega, by omega⟩ ?_; (conv => whnf))))
        by_cases z : e1 = 0
        · rw [z] at c1
          (repeat' (first | (refine ⟨_, by first | with_reducible exact c1, ?_⟩; (conv => whnf)) | (refine Or.inl ?_; (conv => whnf); refine ⟨_, by first | with_reducible exact c1, ?_⟩; (conv => whnf)) | (refine Or.inl ?_; (conv => whnf); refine ⟨false, ?_⟩; (conv => whnf); refine ⟨_, by first | with_reducible exact c1, ?_⟩; (conv => whnf)) | (refine ⟨by kernel_rfl, ?_⟩; (conv => whnf)) | (refine ⟨fun _ => ?_, fun h => absurd h (by first | decide | (simp; done) | fail)⟩; (conv => whnf)) | (refine ⟨fun h => absurd h (by first | decide | (simp; done) | fail), fun _ => ?_⟩; (conv => whnf)) | fail))
          refine ⟨1, ?_⟩
          (conv => whnf)
          refine ⟨⟨⟨by decide, by decide, fun _ => z, fun h => absurd h (by decide), fun h => absurd h (by decide), fun h => absurd h (by decide)⟩, ?_, rfl, rfl⟩, by kernel_rfl, by kernel_rfl⟩
          first | rfl | (rw [w64 _ (by omega) (by omega)]; rfl)
        · (repeat' (first | (refine ⟨_, by first | with_reducible exact c1, ?_⟩; (conv => whnf)) | (refine Or.inl ?_; (conv => whnf); refine ⟨_, by first | with_reducible exact c1, ?_⟩; (conv => whnf)) | (refine Or.inl ?_; (conv => whnf); refine ⟨false, ?_⟩; (conv => whnf); refine ⟨_, by first | with_reducible exact c1, ?_⟩; (conv => whnf)) | (refine ⟨by kernel_rfl, ?_⟩; (conv => whnf)) | fail))
          refine ⟨fun _ => ?_, fun h => absurd (show e1 = 0 by simpa using h) z⟩
          (conv => whnf)
          first | rfl | (repeat' (first | (refine ⟨by kernel_rfl, ?_⟩; (conv => whnf)) | fail)) | set_option pp.maxSteps 300 in trace_state
      · (conv => whnf)
        (repeat' (first | (refine ⟨by kernel_rfl, ?_⟩; (conv => whnf)) | (refine And.intro (a := _ ∧ _) ⟨by omega, by omega⟩ ?_; (conv => whnf))))
        by_cases z : e2 = 0
        · rw [z] at c2
          (repeat' (first | (refine ⟨_, by first | with_reducible exact c2, ?_⟩; (conv => whnf)) | (refine Or.inl ?_; (conv => whnf); refine ⟨_, by first | with_reducible exact c2, ?_⟩; (conv => whnf)) | (refine Or.inl ?_; (conv => whnf); refine ⟨false, ?_⟩; (conv => whnf); refine ⟨_, by first | with_reducible exact c2, ?_⟩; (conv => whnf)) | (refine ⟨by kernel_rfl, ?_⟩; (conv => whnf)) | (refine ⟨fun _ => ?_, fun h => absurd h (by first | decide | (simp; done) | fail)⟩; (conv => whnf)) | (refine ⟨fun h => absurd h (by first | decide | (simp; done) | fail), fun _ => ?_⟩; (conv => whnf)) | fail))
          refine ⟨2, ?_⟩
          (conv => whnf)
          refine ⟨⟨⟨by decide, by decide, fun _ => g1 (by decide), fun _ => z, fun h => absurd h (by decide), fun h => absurd h (by decide)⟩, ?_, rfl, rfl⟩, by kernel_rfl, by kernel_rfl⟩
          first | rfl | (rw [w64 _ (by omega) (by omega)]; rfl)
        · (repeat' (first | (refine ⟨_, by first | with_reducible exact c2, ?_⟩; (conv => whnf)) | (refine Or.inl ?_; (conv => whnf); refine ⟨_, by first | with_reducible exact c2, ?_⟩; (conv => whnf)) | (refine Or.inl ?_; (conv => whnf); refine ⟨false, ?_⟩; (conv => whnf); refine ⟨_, by first | with_reducible exact c2, ?_⟩; (conv => whnf)) | (refine ⟨by kernel_rfl, ?_⟩; (conv => whnf)) | fail))
          refine ⟨fun _ => ?_, fun h => absurd (show e2 = 0 by simpa using h) z⟩
          (conv => whnf)
          first | rfl | (repeat' (first | (refine ⟨by kernel_rfl, ?_⟩; (conv => whnf)) | fail)) | set_option pp.maxSteps 300 in trace_state
      · (conv => whnf)
        (repeat' (first | (refine ⟨by kernel_rfl, ?_⟩; (conv => whnf)) | (refine And.intro (a := _ ∧ _) ⟨by omega, by omega⟩ ?_; (conv => whnf))))
        by_cases z : e3 = 0
        · rw [z] at c3
          (repeat' (first | (refine ⟨_, by first | with_reducible exact c3, ?_⟩; (conv => whnf)) | (refine Or.inl ?_; (conv => whnf); refine ⟨_, by first | with_reducible exact c3, ?_⟩; (conv => whnf)) | (refine Or.inl ?_; (conv => whnf); refine ⟨false, ?_⟩; (conv => whnf); refine ⟨_, by first | with_reducible exact c3, ?_⟩; (conv => whnf)) | (refine ⟨by kernel_rfl, ?_⟩; (conv => whnf)) | (refine ⟨fun _ => ?_, fun h => absurd h (by first | decide | (simp; done) | fail)⟩; (conv => whnf)) | (refine ⟨fun h => absurd h (by first | decide | (simp; done) | fail), fun _ => ?_⟩; (conv => whnf)) | fail))
          refine ⟨3, ?_⟩
          (conv => whnf)
          refine ⟨⟨⟨by decide, by decide, fun _ => g1 (by decide), fun _ => g2 (by decide), fun _ => z, fun h => absurd h (by decide)⟩, ?_, rfl, rfl⟩, by kernel_rfl, by kernel_rfl⟩
          first | rfl | (rw [w64 _ (by omega) (by omega)]; rfl)
        · (repeat' (first | (refine ⟨_, by first | with_reducible exact c3, ?_⟩; (conv => whnf)) | (refine Or.inl ?_; (conv => whnf); refine ⟨_, by first | with_reducible exact c3, ?_⟩; (conv => whnf)) | (refine Or.inl ?_; (conv => whnf); refine ⟨false, ?_⟩; (conv => whnf); refine ⟨_, by first | with_reducible exact c3, ?_⟩; (conv => whnf)) | (refine ⟨by kernel_rfl, ?_⟩; (conv => whnf)) | fail))
          refine ⟨fun _ => ?_, fun h => absurd (show e3 = 0 by simpa using h) z⟩
          (conv => whnf)
          first | rfl | (repeat' (first | (refine ⟨by kernel_rfl, ?_⟩; (conv => whnf)) | fail)) | set_option pp.maxSteps 300 in trace_state
      · (conv => whnf)
        (repeat' (first | (refine ⟨by kernel_rfl, ?_⟩; (conv => whnf)) | (refine And.intro (a := _ ∧ _) ⟨by omega, by omega⟩ ?_; (conv => whnf))))
        by_cases z : e4 = 0
        · rw [z] at c4
          (repeat' (first | (refine ⟨_, by first | with_reducible exact c4, ?_⟩; (conv => whnf)) | (refine Or.inl ?_; (conv => whnf); refine ⟨_, by first | with_reducible exact c4, ?_⟩; (conv => whnf)) | (refine Or.inl ?_; (conv => whnf); refine ⟨false, ?_⟩; (conv => whnf); refine ⟨_, by first | with_reducible exact c4, ?_⟩; (conv => whnf)) | (refine ⟨by kernel_rfl, ?_⟩; (conv => whnf)) | (refine ⟨fun _ => ?_, fun h => absurd h (by first | decide | (simp; done) | fail)⟩; (conv => whnf)) | (refine ⟨fun h => absurd h (by first | decide | (simp; done) | fail), fun _ => ?_⟩; (conv => whnf)) | fail))
          refine ⟨4, ?_⟩
          (conv => whnf)
          refine ⟨⟨⟨by decide, by decide, fun _ => g1 (by decide), fun _ => g2 (by decide), fun _ => g3 (by decide), fun _ => z⟩, ?_, rfl, rfl⟩, by kernel_rfl, by kernel_rfl⟩
          first | rfl | (rw [w64 _ (by omega) (by omega)]; rfl)
        · (repeat' (first | (refine ⟨_, by first | with_reducible exact c4, ?_⟩; (conv => whnf)) | (refine Or.inl ?_; (conv => whnf); refine ⟨_, by first | with_reducible exact c4, ?_⟩; (conv => whnf)) | (refine Or.inl ?_; (conv => whnf); refine ⟨false, ?_⟩; (conv => whnf); refine ⟨_, by first | with_reducible exact c4, ?_⟩; (conv => whnf)) | (refine ⟨by kernel_rfl, ?_⟩; (conv => whnf)) | fail))
          refine ⟨fun _ => ?_, fun h => absurd (show e4 = 0 by simpa using h) z⟩
          (conv => whnf)
          first | rfl | (repeat' (first | (refine ⟨by kernel_rfl, ?_⟩; (conv => whnf)) | fail)) | set_option pp.maxSteps 300 in trace_state
    · have h := of_decide_eq_false h
      have e4' : i = 4 := by
        have : ¬ (i : Int) < 4 := h
        omega
      subst e4'
      exact absurd ⟨g1 (by decide), g2 (by decide), g3 (by decide), g4 (by decide)⟩ hbad
end Go.Proofs.Try.My
set_option maxRecDepth 100000
set_option maxHeartbeats 0
set_option linter.unusedVariables false
set_option linter.unusedSimpArgs false
namespace Go.Proofs.Try.My
open Go Go.Ev

theorem cn_D {a1 a2 a3 a4 a5 a6 a7 a8 b1 b2 b3 b4 b5 b6 b7 b8 D1 D2 D3 D4 x11 x12 x13 x14 x15 : Int} (De : Int) (hD : De ≠ 0) (w1 : PC Try.prog 95 [i64 1] ((.agg [i64 1, i64 1]))) (d1 : PC Try.prog 97 [.agg [i64 a1, i64 a2, i64 a3, i64 a4, i64 0], .agg [i64 b1, i64 b2, i64 b3, i64 b4], .fn (.func 98) [] []] ((.agg [i64 x11, i64 x12, i64 x13, i64 x14, i64 x15]))) (d2 : PC Try.prog 97 [.agg [i64 x11, i64 x12, i64 x13, i64 x14, i64 x15], .agg [i64 1, i64 1, i64 1, i64 1], .fn (.func 96) [] []] ((.agg [i64 D1, i64 D2, i64 D3, i64 D4, i64 De]))) :
    corW.1 a1 a2 a3 a4 a5 a6 a7 a8 b1 b2 b3 b4 b5 b6 b7 b8 (.tup [.agg [i64 0, i64 0, i64 0, i64 0], .agg [i64 0, i64 0, i64 0, i64 0], i64 De]) := by
  conv => whnf
  (repeat' (first | (refine ⟨_, by first | with_reducible exact w1 | with_reducible exact d1 | with_reducible exact d2, ?_⟩; (conv => whnf)) | (refine Or.inl ?_; (conv => whnf); refine ⟨_, by first | with_reducible exact w1 | with_reducible exact d1 | with_reducible exact d2, ?_⟩; (conv => whnf)) | (refine Or.inl ?_; (conv => whnf); refine ⟨false, ?_⟩; (conv => whnf); refine ⟨_, by first | with_reducible exact w1 | with_reducible exact d1 | with_reducible exact d2, ?_⟩; (conv => whnf)) | (refine ⟨by kernel_rfl, ?_⟩; (conv => whnf)) | fail))
  refine ⟨fun _ => ?_, fun h => absurd (show De = 0 by simpa using h) hD⟩
  (conv => whnf)
  (repeat' (first | (refine ⟨by kernel_rfl, ?_⟩; (conv => whnf)) | fail))
theorem cn_Z {a1 a2 a3 a4 a5 a6 a7 a8 b1 b2 b3 b4 b5 b6 b7 b8 D1 D2 D3 D4 x11 x12 x13 x14 x15 : Int} (ze : Int) (w0 : PC Try.prog 95 [i64 0] ((.agg [i64 0, i64 1]))) (w1 : PC Try.prog 95 [i64 1] ((.agg [i64 1, i64 1]))) (d1 : PC Try.prog 97 [.agg [i64 a1, i64 a2, i64 a3, i64 a4, i64 0], .agg [i64 b1, i64 b2, i64 b3, i64 b4], .fn (.func 98) [] []] ((.agg [i64 x11, i64 x12, i64 x13, i64 x14, i64 x15]))) (d2 : PC Try.prog 97 [.agg [i64 x11, i64 x12, i64 x13, i64 x14, i64 x15], .agg [i64 1, i64 1, i64 1, i64 1], .fn (.func 96) [] []] ((.agg [i64 D1, i64 D2, i64 D3, i64 D4, i64 0]))) (hi : PC Try.prog 52 [.agg [i64 D1, i64 D2, i64 D3, i64 D4], .agg [i64 0, i64 1]] (.tup [.bool true, i64 ze])) :
    corW.1 a1 a2 a3 a4 a5 a6 a7 a8 b1 b2 b3 b4 b5 b6 b7 b8 (.tup [.agg [i64 0, i64 0, i64 0, i64 0], .agg [i64 0, i64 0, i64 0, i64 0], i64 6]) := by
  conv => whnf
  (repeat' (first | (refine ⟨_, by first | with_reducible exact w1 | with_reducible exact d1 | with_reducible exact d2 | with_reducible exact w0 | with_reducible exact hi, ?_⟩; (conv => whnf)) | (refine Or.inl ?_; (conv => whnf); refine ⟨_, by first | with_reducible exact w1 | with_reducible exact d1 | with_reducible exact d2 | with_reducible exact w0 | with_reducible exact hi, ?_⟩; (conv => whnf)) | (refine Or.inl ?_; (conv => whnf); refine ⟨false, ?_⟩; (conv => whnf); refine ⟨_, by first | with_reducible exact w1 | with_reducible exact d1 | with_reducible exact d2 | with_reducible exact w0 | with_reducible exact hi, ?_⟩; (conv => whnf)) | (refine ⟨by kernel_rfl, ?_⟩; (conv => whnf)) | (refine ⟨fun _ => ?_, fun h => absurd h (by first | decide | (simp; done) | fail)⟩; (conv => whnf)) | (refine ⟨fun h => absurd h (by first | decide | (simp; done) | fail), fun _ => ?_⟩; (conv => whnf)) | fail))
end Go.Proofs.Try.My
set_option maxRecDepth 100000
set_option maxHeartbeats 0
set_option linter.unusedVariables false
set_option linter.unusedSimpArgs false
namespace Go.Proofs.Try.My
open Go Go.Ev

theorem cn_P {a1 a2 a3 a4 a5 a6 a7 a8 b1 b2 b3 b4 b5 b6 b7 b8 D1 D2 D3 D4 P1 P2 P3 P4 Q1 Q2 Q3 Q4 x11 x12 x13 x14 x15 x21 x22 x23 x24 x25 x31 x32 x33 x34 x35 x41 x42 x43 x44 x45 x51 x52 x53 x54 x55 ze : Int} (Pe Qe : Int) (hP : Pe ≠ 0) (p1 : PC Try.prog 97 [.agg [i64 a1, i64 a2, i64 a3, i64 a4, i64 0], .agg [i64 b5, i64 b6, i64 b7, i64 b8], .fn (.func 98) [] []] ((.agg [i64 x41, i64 x42, i64 x43, i64 x44, i64 x45]))) (p2 : PC Try.prog 97 [.agg [i64 x41, i64 x42, i64 x43, i64 x44, i64 x45], .agg [i64 a5, i64 a6, i64 a7, i64 a8], .fn (.func 99) [] []] ((.agg [i64 x21, i64 x22, i64 x23, i64 x24, i64 x25]))) (p3 : PC Try.prog 97 [.agg [i64 x21, i64 x22, i64 x23, i64 x24, i64 x25], .agg [i64 D1, i64 D2, i64 D3, i64 D4], .fn (.func 93) [] []] ((.agg [i64 P1, i64 P2, i64 P3, i64 P4, i64 Pe]))) (q1 : PC Try.prog 97 [.agg [i64 b1, i64 b2, i64 b3, i64 b4, i64 0], .agg [i64 a5, i64 a6, i64 a7, i64 a8], .fn (.func 98) [] []] ((.agg [i64 x51, i64 x52, i64 x53, i64 x54, i64 x55]))) (q2 : PC Try.prog 97 [.agg [i64 x51, i64 x52, i64 x53, i64 x54, i64 x55], .agg [i64 b5, i64 b6, i64 b7, i64 b8], .fn (.func 99) [] []] ((.agg [i64 x31, i64 x32, i64 x33, i64 x34, i64 x35]))) (q3 : PC Try.prog 97 [.agg [i64 x31, i64 x32, i64 x33, i64 x34, i64 x35], .agg [i64 D1, i64 D2, i64 D3, i64 D4], .fn (.func 93) [] []] ((.agg [i64 Q1, i64 Q2, i64 Q3, i64 Q4, i64 Qe]))) :
    corV.1 a1 a2 a3 a4 a5 a6 a7 a8 b1 b2 b3 b4 b5 b6 b7 b8 D1 D2 D3 D4 x11 x12 x13 x14 x15 ze (.tup [.agg [i64 0, i64 0, i64 0, i64 0], .agg [i64 0, i64 0, i64 0, i64 0], i64 Pe]) := by
  conv => whnf
  (repeat' (first | (refine ⟨_, by first | with_reducible exact p1 | with_reducible exact p2 | with_reducible exact p3 | with_reducible exact q1 | with_reducible exact q2 | with_reducible exact q3, ?_⟩; (conv => whnf)) | (refine Or.inl ?_; (conv => whnf); refine ⟨_, by first | with_reducible exact p1 | with_reducible exact p2 | with_reducible exact p3 | with_reducible exact q1 | with_reducible exact q2 | with_reducible exact q3, ?_⟩; (conv => whnf)) | (refine Or.inl ?_; (conv => whnf); refine ⟨false, ?_⟩; (conv => whnf); refine ⟨_, by first | with_reducible exact p1 | with_reducible exact p2 | with_reducible exact p3 | with_reducible exact q1 | with_reducible exact q2 | with_reducible exact q3, ?_⟩; (conv => whnf)) | (refine ⟨by kernel_rfl, ?_⟩; (conv => whnf)) | fail))
  refine ⟨fun _ => ?_, fun h => absurd (show Pe = 0 by simpa using h) hP⟩
  (conv => whnf)
  (repeat' (first | (refine ⟨by kernel_rfl, ?_⟩; (conv => whnf)) | fail))
end Go.Proofs.Try.My
set_option maxRecDepth 100000
set_option maxHeartbeats 0
set_option linter.unusedVariables false
set_option linter.unusedSimpArgs false
namespace Go.Proofs.Try.My
open Go Go.Ev

theorem cn_Q {a1 a2 a3 a4 a5 a6 a7 a8 b1 b2 b3 b4 b5 b6 b7 b8 D1 D2 D3 D4 P1 P2 P3 P4 Q1 Q2 Q3 Q4 x11 x12 x13 x14 x15 x21 x22 x23 x24 x25 x31 x32 x33 x34 x35 x41 x42 x43 x44 x45 x51 x52 x53 x54 x55 ze : Int} (Qe : Int) (hQ : Qe ≠ 0) (p1 : PC Try.prog 97 [.agg [i64 a1, i64 a2, i64 a3, i64 a4, i64 0], .agg [i64 b5, i64 b6, i64 b7, i64 b8], .fn (.func 98) [] []] ((.agg [i64 x41, i64 x42, i64 x43, i64 x44, i64 x45]))) (p2 : PC Try.prog 97 [.agg [i64 x41, i64 x42, i64 x43, i64 x44, i64 x45], .agg [i64 a5, i64 a6, i64 a7, i64 a8], .fn (.func 99) [] []] ((.agg [i64 x21, i64 x22, i64 x23, i64 x24, i64 x25]))) (p3 : PC Try.prog 97 [.agg [i64 x21, i64 x22, i64 x23, i64 x24, i64 x25], .agg [i64 D1, i64 D2, i64 D3, i64 D4], .fn (.func 93) [] []] ((.agg [i64 P1, i64 P2, i64 P3, i64 P4, i64 0]))) (q1 : PC Try.prog 97 [.agg [i64 b1, i64 b2, i64 b3, i64 b4, i64 0], .agg [i64 a5, i64 a6, i64 a7, i64 a8], .fn (.func 98) [] []] ((.agg [i64 x51, i64 x52, i64 x53, i64 x54, i64 x55]))) (q2 : PC Try.prog 97 [.agg [i64 x51, i64 x52, i64 x53, i64 x54, i64 x55], .agg [i64 b5, i64 b6, i64 b7, i64 b8], .fn (.func 99) [] []] ((.agg [i64 x31, i64 x32, i64 x33, i64 x34, i64 x35]))) (q3 : PC Try.prog 97 [.agg [i64 x31, i64 x32, i64 x33, i64 x34, i64 x35], .agg [i64 D1, i64 D2, i64 D3, i64 D4], .fn (.func 93) [] []] ((.agg [i64 Q1, i64 Q2, i64 Q3, i64 Q4, i64 Qe]))) :
    corV.1 a1 a2 a3 a4 a5 a6 a7 a8 b1 b2 b3 b4 b5 b6 b7 b8 D1 D2 D3 D4 x11 x12 x13 x14 x15 ze (.tup [.agg [i64 0, i64 0, i64 0, i64 0], .agg [i64 0, i64 0, i64 0, i64 0], i64 Qe]) := by
  conv => whnf
  (repeat' (first | (refine ⟨_, by first | with_reducible exact p1 | with_reducible exact p2 | with_reducible exact p3 | with_reducible exact q1 | with_reducible exact q2 | with_reducible exact q3, ?_⟩; (conv => whnf)) | (refine Or.inl ?_; (conv => whnf); refine ⟨_, by first | with_reducible exact p1 | with_reducible exact p2 | with_reducible exact p3 | with_reducible exact q1 | with_reducible exact q2 | with_reducible exact q3, ?_⟩; (conv => whnf)) | (refine Or.inl ?_; (conv => whnf); refine ⟨false, ?_⟩; (conv => whnf); refine ⟨_, by first | with_reducible exact p1 | with_reducible exact p2 | with_reducible exact p3 | with_reducible exact q1 | with_reducible exact q2 | with_reducible exact q3, ?_⟩; (conv => whnf)) | (refine ⟨by kernel_rfl, ?_⟩; (conv => whnf)) | (refine ⟨fun _ => ?_, fun h => absurd h (by first | decide | (simp; done) | fail)⟩; (conv => whnf)) | (refine ⟨fun h => absurd h (by first | decide | (simp; done) | fail), fun _ => ?_⟩; (conv => whnf)) | fail))
  refine ⟨fun _ => ?_, fun h => absurd (show Qe = 0 by simpa using h) hQ⟩
  (conv => whnf)
  (repeat' (first | (refine ⟨by kernel_rfl, ?_⟩; (conv => whnf)) | fail))
end Go.Proofs.Try.My
set_option maxRecDepth 100000
set_option maxHeartbeats 0
set_option linter.unusedVariables false
set_option linter.unusedSimpArgs false
namespace Go.Proofs.Try.My
open Go Go.Ev

theorem cn_O {a1 a2 a3 a4 a5 a6 a7 a8 b1 b2 b3 b4 b5 b6 b7 b8 D1 D2 D3 D4 P1 P2 P3 P4 Q1 Q2 Q3 Q4 x11 x12 x13 x14 x15 x21 x22 x23 x24 x25 x31 x32 x33 x34 x35 x41 x42 x43 x44 x45 x51 x52 x53 x54 x55 ze : Int}  (p1 : PC Try.prog 97 [.agg [i64 a1, i64 a2, i64 a3, i64 a4, i64 0], .agg [i64 b5, i64 b6, i64 b7, i64 b8], .fn (.func 98) [] []] ((.agg [i64 x41, i64 x42, i64 x43, i64 x44, i64 x45]))) (p2 : PC Try.prog 97 [.agg [i64 x41, i64 x42, i64 x43, i64 x44, i64 x45], .agg [i64 a5, i64 a6, i64 a7, i64 a8], .fn (.func 99) [] []] ((.agg [i64 x21, i64 x22, i64 x23, i64 x24, i64 x25]))) (p3 : PC Try.prog 97 [.agg [i64 x21, i64 x22, i64 x23, i64 x24, i64 x25], .agg [i64 D1, i64 D2, i64 D3, i64 D4], .fn (.func 93) [] []] ((.agg [i64 P1, i64 P2, i64 P3, i64 P4, i64 0]))) (q1 : PC Try.prog 97 [.agg [i64 b1, i64 b2, i64 b3, i64 b4, i64 0], .agg [i64 a5, i64 a6, i64 a7, i64 a8], .fn (.func 98) [] []] ((.agg [i64 x51, i64 x52, i64 x53, i64 x54, i64 x55]))) (q2 : PC Try.prog 97 [.agg [i64 x51, i64 x52, i64 x53, i64 x54, i64 x55], .agg [i64 b5, i64 b6, i64 b7, i64 b8], .fn (.func 99) [] []] ((.agg [i64 x31, i64 x32, i64 x33, i64 x34, i64 x35]))) (q3 : PC Try.prog 97 [.agg [i64 x31, i64 x32, i64 x33, i64 x34, i64 x35], .agg [i64 D1, i64 D2, i64 D3, i64 D4], .fn (.func 93) [] []] ((.agg [i64 Q1, i64 Q2, i64 Q3, i64 Q4, i64 0]))) :
    corV.1 a1 a2 a3 a4 a5 a6 a7 a8 b1 b2 b3 b4 b5 b6 b7 b8 D1 D2 D3 D4 x11 x12 x13 x14 x15 ze (.tup [.agg [i64 P1, i64 P2, i64 P3, i64 P4], .agg [i64 Q1, i64 Q2, i64 Q3, i64 Q4], i64 0]) := by
  conv => whnf
  (repeat' (first | (refine ⟨_, by first | with_reducible exact p1 | with_reducible exact p2 | with_reducible exact p3 | with_reducible exact q1 | with_reducible exact q2 | with_reducible exact q3, ?_⟩; (conv => whnf)) | (refine Or.inl ?_; (conv => whnf); refine ⟨_, by first | with_reducible exact p1 | with_reducible exact p2 | with_reducible exact p3 | with_reducible exact q1 | with_reducible exact q2 | with_reducible exact q3, ?_⟩; (conv => whnf)) | (refine Or.inl ?_; (conv => whnf); refine ⟨false, ?_⟩; (conv => whnf); refine ⟨_, by first | with_reducible exact p1 | with_reducible exact p2 | with_reducible exact p3 | with_reducible exact q1 | with_reducible exact q2 | with_reducible exact q3, ?_⟩; (conv => whnf)) | (refine ⟨by kernel_rfl, ?_⟩; (conv => whnf)) | (refine ⟨fun _ => ?_, fun h => absurd h (by first | decide | (simp; done) | fail)⟩; (conv => whnf)) | (refine ⟨fun h => absurd h (by first | decide | (simp; done) | fail), fun _ => ?_⟩; (conv => whnf)) | fail))
end Go.Proofs.Try.My
set_option maxRecDepth 100000
set_option maxHeartbeats 0
set_option linter.unusedVariables false
set_option linter.unusedSimpArgs false
namespace Go.Proofs.Try.My
open Go Go.Ev

theorem pc_Corner (a b : CamT) : PC Try.prog 33 [cam a, cam b] (.tup [sp (corN a b).1.1, sp (corN a b).1.2, i64 (corN a b).2]) := by
  have c1 := pc_CheckSpan a.1
  have c2 := pc_CheckSpan a.2
  have c3 := pc_CheckSpan b.1
  have c4 := pc_CheckSpan b.2
  have no : spanB a.1 = false ∨ spanB a.2 = false ∨ spanB b.1 = false ∨ spanB b.2 = false → corN a b = ((zS, zS), 8) := fun h => by unfold corN; rcases h with h | h | h | h <;> simp [h]
  by_cases hs : spanB a.1 = true ∧ spanB a.2 = true ∧ spanB b.1 = true ∧ spanB b.2 = true
  rotate_left
  · rw [no (by
      cases h1 : spanB a.1
      · exact .inl rfl
      cases h2 : spanB a.2
      · exact .inr (.inl rfl)
      cases h3 : spanB b.1
      · exact .inr (.inr (.inl rfl))
      cases h4 : spanB b.2
      · exact .inr (.inr (.inr rfl))
      exact absurd ⟨h1, h2, h3, h4⟩ hs)]
    refine pc_cnBad c1 c2 c3 c4 fun h => hs ?_
    obtain ⟨g1, g2, g3, g4⟩ := h
    refine ⟨?_, ?_, ?_, ?_⟩
    · cases h : spanB a.1
      · rw [h] at g1; simp at g1
      · rfl
    · cases h : spanB a.2
      · rw [h] at g2; simp at g2
      · rfl
    · cases h : spanB b.1
      · rw [h] at g3; simp at g3
      · rfl
    · cases h : spanB b.2
      · rw [h] at g4; simp at g4
      · rfl
  obtain ⟨h1, h2, h3, h4⟩ := hs
  rw [h1] at c1
  rw [h2] at c2
  rw [h3] at c3
  rw [h4] at c4
  have hc : corN a b = corG (corD a b) (corP a b (corD a b).1) (corP b a (corD a b).1) (hasB (corD a b).1 (0, 1)) := by unfold corN; rw [h1, h2, h3, h4]; rfl
  rw [hc]
  clear no hc
  have w0 := pc_whole 0
  have w1 := pc_whole 1
  have d1 := pc_with 98 mulS pc_MulSpans (a.1, 0) b.1
  have d2 := pc_with 96 bus pc_Corner1 (withF mulS (a.1, 0) b.1) oneS
  rw [show withF bus (withF mulS (a.1, 0) b.1) oneS = corD a b from rfl] at d2
  have p1 := pc_with 98 mulS pc_MulSpans (a.1, 0) b.2
  have p2 := pc_with 99 addS pc_AddSpans (withF mulS (a.1, 0) b.2) a.2
  have p3 := pc_with 93 divS pc_DivSpans (withF addS (withF mulS (a.1, 0) b.2) a.2) (corD a b).1
  rw [show withF divS (withF addS (withF mulS (a.1, 0) b.2) a.2) (corD a b).1 = corP a b (corD a b).1 from rfl] at p3
  have q1 := pc_with 98 mulS pc_MulSpans (b.1, 0) a.2
  have q2 := pc_with 99 addS pc_AddSpans (withF mulS (b.1, 0) a.2) b.2
  have q3 := pc_with 93 divS pc_DivSpans (withF addS (withF mulS (b.1, 0) a.2) b.2) (corD a b).1
  rw [show withF divS (withF addS (withF mulS (b.1, 0) a.2) b.2) (corD a b).1 = corP b a (corD a b).1 from rfl] at q3
  have hi := pc_In (corD a b).1 (0, 1)
  have ok := fun h => corD_ok (a := a) (b := b) h
  generalize corP a b (corD a b).1 = P at *
  generalize corP b a (corD a b).1 = Q at *
  generalize corD a b = D at *
  obtain ⟨D, De⟩ := D
  obtain ⟨P, Pe⟩ := P
  obtain ⟨Q, Qe⟩ := Q
  simp only [] at ok hi p3 q3
  unfold corG
  by_cases e1 : De = 0
  rotate_left
  · rw [if_neg e1]
    exact corW.2 _ _ _ _ _ _ _ _ _ _ _ _ _ _ _ _ _ c1 c2 c3 c4 (fun _ => cn_D De e1 w1 d1 d2)
  rw [ok e1, show validB (0, 1) = true by decide] at hi
  simp only [Bool.true_and] at hi
  subst e1
  cases hz : hasB D (0, 1)
  rotate_left
  · rw [hz] at hi
    simp only [if_true]
    exact corW.2 _ _ _ _ _ _ _ _ _ _ _ _ _ _ _ _ _ c1 c2 c3 c4 (fun _ => cn_Z _ w0 w1 d1 d2 hi)
  rw [hz] at hi
  simp only [if_true]
  by_cases e2 : Pe = 0
  rotate_left
  · rw [if_neg (by simp), if_neg e2]
    exact corW.2 _ _ _ _ _ _ _ _ _ _ _ _ _ _ _ _ _ c1 c2 c3 c4 (fun _ => corV.2 _ _ _ _ _ _ _ _ _ _ _ _ _ _ _ _ _ _ _ _ _ _ _ _ _ _ _ w0 w1 d1 d2 hi (fun _ => cn_P Pe Qe e2 p1 p2 p3 q1 q2 q3))
  subst e2
  by_cases e3 : Qe = 0
  rotate_left
  · rw [if_neg (by simp), if_pos rfl, if_neg e3]
    exact corW.2 _ _ _ _ _ _ _ _ _ _ _ _ _ _ _ _ _ c1 c2 c3 c4 (fun _ => corV.2 _ _ _ _ _ _ _ _ _ _ _ _ _ _ _ _ _ _ _ _ _ _ _ _ _ _ _ w0 w1 d1 d2 hi (fun _ => cn_Q Qe e3 p1 p2 p3 q1 q2 q3))
  subst e3
  rw [if_neg (by simp), if_pos rfl, if_pos rfl]
  exact corW.2 _ _ _ _ _ _ _ _ _ _ _ _ _ _ _ _ _ c1 c2 c3 c4 (fun _ => corV.2 _ _ _ _ _ _ _ _ _ _ _ _ _ _ _ _ _ _ _ _ _ _ _ _ _ _ _ w0 w1 d1 d2 hi (fun _ => cn_O p1 p2 p3 q1 q2 q3))
end Go.Proofs.Try.My
