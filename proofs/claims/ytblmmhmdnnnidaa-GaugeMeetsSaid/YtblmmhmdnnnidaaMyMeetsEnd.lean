/- The corner of lines within the spans is within the spans of the corner, for all cameras and ends. -/
import Derived.Test.YtblmmhmdnnnidaaEvSix
import Derived.Test.YtblmmhmdnnnidaaMyAlA
import Derived.Test.YtblmmhmdnnnidaaMyGkB
import Derived.Test.YtblmmhmdnnnidaaMyGk8
import Derived.Test.YtblmmhmdnnnidaaEvZ
import Derived.Test.YtblmmhmdnnnidaaEvZa
import Derived.Test.YtblmmhmdnnnidaaMyIniA
import Derived.Test.YtblmmhmdnnnidaaRows
import Derived.WalkKit
import Derived.ProofKit
import Derived.OpenShut
import Derived.ChangeOld
import Derived.Below
set_option maxRecDepth 100000
set_option maxHeartbeats 0
set_option linter.unusedVariables false
set_option linter.unusedSimpArgs false
namespace Go.Proofs.Try.My
open Go Go.Ev

theorem pc_endM (s1 s2 s3 s4 e bit : Int) (hb : 0 ≤ bit) : ∃ b : Bool, PC Try.prog 65 [.agg [i64 s1, i64 s2, i64 s3, i64 s4], i64 bit, .pt [.int .u8 e] 0] (sp (if b then ((s3, s4), (s3, s4)) else ((s1, s2), (s1, s2)))) := by
  by_cases hc : (e.fdiv (2 ^ min bit.toNat IntKind.u8.bits)).tmod 2 = 1
  · refine ⟨true, ?_⟩
    refine pc_of_bodyF hm Try.func65 (by kernel_rfl) ?_
    conv => whnf
    (repeat' (first | (refine ⟨by kernel_rfl, ?_⟩; (conv => whnf)) | fail))
    refine ⟨hb, ?_⟩
    (conv => whnf)
    (repeat' (first | (refine ⟨by kernel_rfl, ?_⟩; (conv => whnf)) | fail))
    refine ⟨fun _ => ?_, fun h => absurd hc (of_decide_eq_false h)⟩
    (conv => whnf)
    (repeat' (first | (refine ⟨by kernel_rfl, ?_⟩; (conv => whnf)) | fail))
    first | rfl | set_option pp.maxSteps 300 in trace_state
  · refine ⟨false, ?_⟩
    refine pc_of_bodyF hm Try.func65 (by kernel_rfl) ?_
    conv => whnf
    (repeat' (first | (refine ⟨by kernel_rfl, ?_⟩; (conv => whnf)) | fail))
    refine ⟨hb, ?_⟩
    (conv => whnf)
    (repeat' (first | (refine ⟨by kernel_rfl, ?_⟩; (conv => whnf)) | fail))
    refine ⟨fun h => absurd (of_decide_eq_true h) hc, fun _ => ?_⟩
    (conv => whnf)
    (repeat' (first | (refine ⟨by kernel_rfl, ?_⟩; (conv => whnf)) | fail))
    first | rfl | set_option pp.maxSteps 300 in trace_state
theorem gmBad (a1 a2 a3 a4 a5 a6 a7 a8 b1 b2 b3 b4 b5 b6 b7 b8 e E s1 s2 s3 s4 r1 r2 r3 r4 : Int) (hE : E ≠ 0) (d1 : PC Try.prog 33 [.agg [i64 a1, i64 a2, i64 a3, i64 a4, i64 a5, i64 a6, i64 a7, i64 a8], .agg [i64 b1, i64 b2, i64 b3, i64 b4, i64 b5, i64 b6, i64 b7, i64 b8]] (.tup [.agg [i64 s1, i64 s2, i64 s3, i64 s4], .agg [i64 r1, i64 r2, i64 r3, i64 r4], i64 E])) : PC Try.prog 10 [.agg [i64 a1, i64 a2, i64 a3, i64 a4, i64 a5, i64 a6, i64 a7, i64 a8], .agg [i64 b1, i64 b2, i64 b3, i64 b4, i64 b5, i64 b6, i64 b7, i64 b8], .int .u8 e] (.bool true) := by
  have al := pc_alive
  refine pc_of_bodyF hm Try.func10 (by kernel_rfl) ?_
  conv => whnf
  (repeat' (first | (refine ⟨_, by first | with_reducible exact al | with_reducible exact d1, ?_⟩; (conv => whnf)) | (refine Or.inl ?_; (conv => whnf); refine ⟨_, by first | with_reducible exact al | with_reducible exact d1, ?_⟩; (conv => whnf)) | (refine Or.inl ?_; (conv => whnf); refine ⟨false, ?_⟩; (conv => whnf); refine ⟨_, by first | with_reducible exact al | with_reducible exact d1, ?_⟩; (conv => whnf)) | (refine ⟨by kernel_rfl, ?_⟩; (conv => whnf)) | (refine ⟨fun _ => ?_, fun h => absurd h (by first | decide | (simp; done) | fail)⟩; (conv => whnf)) | (refine ⟨fun h => absurd h (by first | decide | (simp; done) | fail), fun _ => ?_⟩; (conv => whnf)) | ((with_reducible refine And.intro (a := _ = true → _) (b := _ = false → _) (fun hh => ?_) (fun hh => ?_)) <;> (try simp only [decide_eq_true_eq, decide_eq_false_iff_not, Bool.or_eq_true, Bool.and_eq_true, Bool.or_eq_false_iff, Bool.and_eq_false_iff, Bool.not_eq_true', Bool.not_eq_false', ge_iff_le, gt_iff_lt] at hh) <;> (first | (exfalso; omega) | (conv => whnf))) | fail))
theorem gmMany (a1 a2 a3 a4 a5 a6 a7 a8 b1 b2 b3 b4 b5 b6 b7 b8 e s1 s2 s3 s4 r1 r2 r3 r4 fa1 fa2 ca1 ca2 fb1 fb2 cb1 cb2 t1 t2 t3 t4 u1 u2 u3 u4 : Int) (d1 : PC Try.prog 33 [.agg [i64 a1, i64 a2, i64 a3, i64 a4, i64 a5, i64 a6, i64 a7, i64 a8], .agg [i64 b1, i64 b2, i64 b3, i64 b4, i64 b5, i64 b6, i64 b7, i64 b8]] (.tup [.agg [i64 s1, i64 s2, i64 s3, i64 s4], .agg [i64 r1, i64 r2, i64 r3, i64 r4], i64 0])) (n0 : PC Try.prog 65 [.agg [i64 a1, i64 a2, i64 a3, i64 a4], i64 0, .pt [.int .u8 e] 0] ((.agg [i64 fa1, i64 fa2, i64 fa1, i64 fa2]))) (n1 : PC Try.prog 65 [.agg [i64 a5, i64 a6, i64 a7, i64 a8], i64 1, .pt [.int .u8 e] 0] ((.agg [i64 ca1, i64 ca2, i64 ca1, i64 ca2]))) (n2 : PC Try.prog 65 [.agg [i64 b1, i64 b2, i64 b3, i64 b4], i64 2, .pt [.int .u8 e] 0] ((.agg [i64 fb1, i64 fb2, i64 fb1, i64 fb2]))) (n3 : PC Try.prog 65 [.agg [i64 b5, i64 b6, i64 b7, i64 b8], i64 3, .pt [.int .u8 e] 0] ((.agg [i64 cb1, i64 cb2, i64 cb1, i64 cb2]))) (d2 : PC Try.prog 33 [.agg [i64 fa1, i64 fa2, i64 fa1, i64 fa2, i64 ca1, i64 ca2, i64 ca1, i64 ca2], .agg [i64 fb1, i64 fb2, i64 fb1, i64 fb2, i64 cb1, i64 cb2, i64 cb1, i64 cb2]] (.tup [.agg [i64 t1, i64 t2, i64 t3, i64 t4], .agg [i64 u1, i64 u2, i64 u3, i64 u4], i64 4])) : PC Try.prog 10 [.agg [i64 a1, i64 a2, i64 a3, i64 a4, i64 a5, i64 a6, i64 a7, i64 a8], .agg [i64 b1, i64 b2, i64 b3, i64 b4, i64 b5, i64 b6, i64 b7, i64 b8], .int .u8 e] (.bool true) := by
  have al := pc_alive
  refine pc_of_bodyF hm Try.func10 (by kernel_rfl) ?_
  conv => whnf
  (repeat' (first | (refine ⟨_, by first | with_reducible exact al | with_reducible exact d1, ?_⟩; (conv => whnf)) | (refine Or.inl ?_; (conv => whnf); refine ⟨_, by first | with_reducible exact al | with_reducible exact d1, ?_⟩; (conv => whnf)) | (refine Or.inl ?_; (conv => whnf); refine ⟨false, ?_⟩; (conv => whnf); refine ⟨_, by first | with_reducible exact al | with_reducible exact d1, ?_⟩; (conv => whnf)) | (refine ⟨by kernel_rfl, ?_⟩; (conv => whnf)) | (refine ⟨fun _ => ?_, fun h => absurd h (by first | decide | (simp; done) | fail)⟩; (conv => whnf)) | (refine ⟨fun h => absurd h (by first | decide | (simp; done) | fail), fun _ => ?_⟩; (conv => whnf)) | fail))
  (repeat' (first | (refine ⟨_, by first | with_reducible exact n0 | with_reducible exact n1 | with_reducible exact n2 | with_reducible exact n3 | with_reducible exact d2, ?_⟩; (conv => whnf)) | (refine Or.inl ?_; (conv => whnf); refine ⟨_, by first | with_reducible exact n0 | with_reducible exact n1 | with_reducible exact n2 | with_reducible exact n3 | with_reducible exact d2, ?_⟩; (conv => whnf)) | (refine Or.inl ?_; (conv => whnf); refine ⟨false, ?_⟩; (conv => whnf); refine ⟨_, by first | with_reducible exact n0 | with_reducible exact n1 | with_reducible exact n2 | with_reducible exact n3 | with_reducible exact d2, ?_⟩; (conv => whnf)) | (refine ⟨by kernel_rfl, ?_⟩; (conv => whnf)) | (refine ⟨fun _ => ?_, fun h => absurd h (by first | decide | (simp; done) | fail)⟩; (conv => whnf)) | (refine ⟨fun h => absurd h (by first | decide | (simp; done) | fail), fun _ => ?_⟩; (conv => whnf)) | fail))
  all_goals (first | rfl | set_option pp.maxSteps 300 in trace_state)
theorem gmOk (a1 a2 a3 a4 a5 a6 a7 a8 b1 b2 b3 b4 b5 b6 b7 b8 e s1 s2 s3 s4 r1 r2 r3 r4 fa1 fa2 ca1 ca2 fb1 fb2 cb1 cb2 t1 t2 u1 u2 : Int) (d1 : PC Try.prog 33 [.agg [i64 a1, i64 a2, i64 a3, i64 a4, i64 a5, i64 a6, i64 a7, i64 a8], .agg [i64 b1, i64 b2, i64 b3, i64 b4, i64 b5, i64 b6, i64 b7, i64 b8]] (.tup [.agg [i64 s1, i64 s2, i64 s3, i64 s4], .agg [i64 r1, i64 r2, i64 r3, i64 r4], i64 0])) (n0 : PC Try.prog 65 [.agg [i64 a1, i64 a2, i64 a3, i64 a4], i64 0, .pt [.int .u8 e] 0] ((.agg [i64 fa1, i64 fa2, i64 fa1, i64 fa2]))) (n1 : PC Try.prog 65 [.agg [i64 a5, i64 a6, i64 a7, i64 a8], i64 1, .pt [.int .u8 e] 0] ((.agg [i64 ca1, i64 ca2, i64 ca1, i64 ca2]))) (n2 : PC Try.prog 65 [.agg [i64 b1, i64 b2, i64 b3, i64 b4], i64 2, .pt [.int .u8 e] 0] ((.agg [i64 fb1, i64 fb2, i64 fb1, i64 fb2]))) (n3 : PC Try.prog 65 [.agg [i64 b5, i64 b6, i64 b7, i64 b8], i64 3, .pt [.int .u8 e] 0] ((.agg [i64 cb1, i64 cb2, i64 cb1, i64 cb2]))) (d2 : PC Try.prog 33 [.agg [i64 fa1, i64 fa2, i64 fa1, i64 fa2, i64 ca1, i64 ca2, i64 ca1, i64 ca2], .agg [i64 fb1, i64 fb2, i64 fb1, i64 fb2, i64 cb1, i64 cb2, i64 cb1, i64 cb2]] (.tup [.agg [i64 t1, i64 t2, i64 t1, i64 t2], .agg [i64 u1, i64 u2, i64 u1, i64 u2], i64 0])) (w1 : PC Try.prog 66 [.agg [i64 t1, i64 t2, i64 t1, i64 t2], .agg [i64 s1, i64 s2, i64 s3, i64 s4]] (.bool true)) (w2 : PC Try.prog 66 [.agg [i64 u1, i64 u2, i64 u1, i64 u2], .agg [i64 r1, i64 r2, i64 r3, i64 r4]] (.bool true)) : PC Try.prog 10 [.agg [i64 a1, i64 a2, i64 a3, i64 a4, i64 a5, i64 a6, i64 a7, i64 a8], .agg [i64 b1, i64 b2, i64 b3, i64 b4, i64 b5, i64 b6, i64 b7, i64 b8], .int .u8 e] (.bool true) := by
  have al := pc_alive
  refine pc_of_bodyF hm Try.func10 (by kernel_rfl) ?_
  conv => whnf
  (repeat' (first | (refine ⟨_, by first | with_reducible exact al | with_reducible exact d1, ?_⟩; (conv => whnf)) | (refine Or.inl ?_; (conv => whnf); refine ⟨_, by first | with_reducible exact al | with_reducible exact d1, ?_⟩; (conv => whnf)) | (refine Or.inl ?_; (conv => whnf); refine ⟨false, ?_⟩; (conv => whnf); refine ⟨_, by first | with_reducible exact al | with_reducible exact d1, ?_⟩; (conv => whnf)) | (refine ⟨by kernel_rfl, ?_⟩; (conv => whnf)) | (refine ⟨fun _ => ?_, fun h => absurd h (by first | decide | (simp; done) | fail)⟩; (conv => whnf)) | (refine ⟨fun h => absurd h (by first | decide | (simp; done) | fail), fun _ => ?_⟩; (conv => whnf)) | fail))
  (repeat' (first | (refine ⟨_, by first | with_reducible exact n0 | with_reducible exact n1 | with_reducible exact n2 | with_reducible exact n3 | with_reducible exact d2 | with_reducible exact w1 | with_reducible exact w2, ?_⟩; (conv => whnf)) | (refine Or.inl ?_; (conv => whnf); refine ⟨_, by first | with_reducible exact n0 | with_reducible exact n1 | with_reducible exact n2 | with_reducible exact n3 | with_reducible exact d2 | with_reducible exact w1 | with_reducible exact w2, ?_⟩; (conv => whnf)) | (refine Or.inl ?_; (conv => whnf); refine ⟨false, ?_⟩; (conv => whnf); refine ⟨_, by first | with_reducible exact n0 | with_reducible exact n1 | with_reducible exact n2 | with_reducible exact n3 | with_reducible exact d2 | with_reducible exact w1 | with_reducible exact w2, ?_⟩; (conv => whnf)) | (refine ⟨by kernel_rfl, ?_⟩; (conv => whnf)) | (refine ⟨fun _ => ?_, fun h => absurd h (by first | decide | (simp; done) | fail)⟩; (conv => whnf)) | (refine ⟨fun h => absurd h (by first | decide | (simp; done) | fail), fun _ => ?_⟩; (conv => whnf)) | fail))
  all_goals (first | rfl | set_option pp.maxSteps 300 in trace_state)
theorem corN_known {a b : CamT} (h : (corN a b).2 = 0) : spanB a.1 = true ∧ spanB a.2 = true ∧ spanB b.1 = true ∧ spanB b.2 = true := by
  unfold corN at h
  by_cases hs : (spanB a.1 && spanB a.2 && spanB b.1 && spanB b.2) = true
  · simp only [Bool.and_eq_true] at hs
    exact ⟨hs.1.1.1, hs.1.1.2, hs.1.2, hs.2⟩
  · rw [if_neg hs] at h; simp at h
theorem pc_GaugeMeets (a b : CamT) (e : Int) (we : (Lit.int .u8 e).wf = true) : PC Try.prog 10 [cam a, cam b, .int .u8 e] (.bool true) := by
  have d1 := pc_Corner a b
  by_cases hE : (corN a b).2 = 0
  rotate_left
  · exact gmBad _ _ _ _ _ _ _ _ _ _ _ _ _ _ _ _ _ _ _ _ _ _ _ _ _ _ hE d1
  rw [hE] at d1
  obtain ⟨ka1, ka2, kb1, kb2⟩ := corN_known hE
  have pick : ∀ (s : SpT) (b : Bool), spanB s = true → ∃ w : Int × Int, validB w = true ∧ InR s (qv w) ∧ (if b then (s.2, s.2) else (s.1, s.1)) = (w, w) := fun s b hs => by
    obtain ⟨s1, s2, s3⟩ := spanB_qv.1 hs
    cases b
    · exact ⟨s.1, s1, ⟨Rat.le_refl, s3⟩, rfl⟩
    · exact ⟨s.2, s2, ⟨s3, Rat.le_refl⟩, rfl⟩
  obtain ⟨B0, n0⟩ := pc_endM a.1.1.1 a.1.1.2 a.1.2.1 a.1.2.2 e 0 (by decide)
  obtain ⟨fa, v0, i0, q0⟩ := pick a.1 B0 ka1
  rw [show (if B0 = true then ((a.1.2.1, a.1.2.2), (a.1.2.1, a.1.2.2)) else ((a.1.1.1, a.1.1.2), (a.1.1.1, a.1.1.2))) = (fa, fa) from q0] at n0
  obtain ⟨B1, n1⟩ := pc_endM a.2.1.1 a.2.1.2 a.2.2.1 a.2.2.2 e 1 (by decide)
  obtain ⟨ca, v1, i1, q1⟩ := pick a.2 B1 ka2
  rw [show (if B1 = true then ((a.2.2.1, a.2.2.2), (a.2.2.1, a.2.2.2)) else ((a.2.1.1, a.2.1.2), (a.2.1.1, a.2.1.2))) = (ca, ca) from q1] at n1
  obtain ⟨B2, n2⟩ := pc_endM b.1.1.1 b.1.1.2 b.1.2.1 b.1.2.2 e 2 (by decide)
  obtain ⟨fb, v2, i2, q2⟩ := pick b.1 B2 kb1
  rw [show (if B2 = true then ((b.1.2.1, b.1.2.2), (b.1.2.1, b.1.2.2)) else ((b.1.1.1, b.1.1.2), (b.1.1.1, b.1.1.2))) = (fb, fb) from q2] at n2
  obtain ⟨B3, n3⟩ := pc_endM b.2.1.1 b.2.1.2 b.2.2.1 b.2.2.2 e 3 (by decide)
  obtain ⟨cb, v3, i3, q3⟩ := pick b.2 B3 kb2
  rw [show (if B3 = true then ((b.2.2.1, b.2.2.2), (b.2.2.1, b.2.2.2)) else ((b.2.1.1, b.2.1.2), (b.2.1.1, b.2.1.2))) = (cb, cb) from q3] at n3
  have d2 := pc_Corner ((fa, fa), (ca, ca)) ((fb, fb), (cb, cb))
  rcases cor_meets hE v0 v1 v2 v3 i0 i1 i2 i3 with h4 | ⟨u, v, eu, hu, hv⟩
  · rw [h4] at d2
    exact gmMany _ _ _ _ _ _ _ _ _ _ _ _ _ _ _ _ _ _ _ _ _ _ _ _ _ _ _ _ _ _ _ _ _ _ _ _ _ _ _ _ _ d1 n0 n1 n2 n3 d2
  · rw [eu] at d2
    have wi := pc_inside (u, u) (corN a b).1.1
    have wj := pc_inside (v, v) (corN a b).1.2
    rw [hu] at wi
    rw [hv] at wj
    exact gmOk _ _ _ _ _ _ _ _ _ _ _ _ _ _ _ _ _ _ _ _ _ _ _ _ _ _ _ _ _ _ _ _ _ _ _ _ _ d1 n0 n1 n2 n3 d2 wi wj
end Go.Proofs.Try.My
set_option maxRecDepth 100000
set_option maxHeartbeats 0
set_option linter.unusedVariables false
set_option linter.unusedSimpArgs false
namespace Go.Proofs.Ytblmmhmdnnnidaa.GaugeMeetsDone
open Go Go.Ev Go.Proofs.Try.My
open Go.ChangeShapes Go.WideShapes Go.ChangeAt Go.RowKit

theorem own : ownKnob Try.prog.godebug = none := by kernel_rfl
theorem laidOut : laidOutB Try.prog = true := by kernel_rfl

theorem dFrac : Dec Try.prog 29 eF (fun y : Int × Int => I64 y.1 ∧ I64 y.2) :=
  dec_two Try.underlying29 rfl rfl rfl (by kernel_rfl) (by kernel_rfl) (dec_int Try.underlying3 (by kernel_rfl)) (dec_int Try.underlying3 (by kernel_rfl)) (fun _ => by kernel_rfl)
theorem dSpan : Dec Try.prog 31 eS (fun y : SpT => (I64 y.1.1 ∧ I64 y.1.2) ∧ (I64 y.2.1 ∧ I64 y.2.2)) :=
  dec_two Try.underlying31 rfl rfl rfl (by kernel_rfl) (by kernel_rfl) dFrac dFrac (fun _ => by kernel_rfl)
theorem dCamera : Dec Try.prog 33 eC (fun y : CamT => ((I64 y.1.1.1 ∧ I64 y.1.1.2) ∧ (I64 y.1.2.1 ∧ I64 y.1.2.2)) ∧ ((I64 y.2.1.1 ∧ I64 y.2.1.2) ∧ (I64 y.2.2.1 ∧ I64 y.2.2.2))) :=
  dec_two Try.underlying33 rfl rfl rfl (by kernel_rfl) (by kernel_rfl) dSpan dSpan (fun _ => by kernel_rfl)
theorem walk (w : World) (a : CamT) (f0 : ((I64 a.1.1.1 ∧ I64 a.1.1.2) ∧ (I64 a.1.2.1 ∧ I64 a.1.2.2)) ∧ ((I64 a.2.1.1 ∧ I64 a.2.1.2) ∧ (I64 a.2.2.1 ∧ I64 a.2.2.2))) (v0 : Value) (h0 : RepI (fun b => b < w.heap.size) w (.agg (eC a)) v0) (b : CamT) (f1 : ((I64 b.1.1.1 ∧ I64 b.1.1.2) ∧ (I64 b.1.2.1 ∧ I64 b.1.2.2)) ∧ ((I64 b.2.1.1 ∧ I64 b.2.1.2) ∧ (I64 b.2.2.1 ∧ I64 b.2.2.2))) (v1 : Value) (h1 : RepI (fun b => b < w.heap.size) w (.agg (eC b)) v1) (e : Int) (f2 : (Lit.int .u8 e).wf = true) :
    Calls Try.prog 10 #[v0, v1, .int .u8 e] w fun e w' => e = .returned (.bool true) ∧ Below w.heap.size w w' := by
  refine PC.callsTrue (pc_GaugeMeets a  b  e f2) Try.func10 (by kernel_rfl) rfl rfl fun i hi => ?_
  match i, hi with
  | 0, _ => exact h0
  | 1, _ => exact h1
  | 2, _ => exact .int _ _

theorem lifted (os : Os) (started : os.Started) (H : Type) (enc : TypeId × Value → H) :
    ReturnsInHanded {} Try.checked os 10 .any (Rows.gaugeMeetsSpec.pre6 enc Try.prog Try.f10 Rows.gaugeMeetsRow.domain false) (Rows.gaugeMeetsSpec.post enc Try.prog Try.f10 false true false false) := by
  refine returnsInHanded_of_change (C := Try.checked) own started (by kernel_rfl) Try.func10
    (ChangeSpec.witness6 (enc := enc) (C := Try.checked) false ⟨#[], #[.agg #[.int .i64 0, .int .i64 0, .int .i64 0, .int .i64 0, .int .i64 0, .int .i64 0, .int .i64 0, .int .i64 0], .agg #[.int .i64 0, .int .i64 0, .int .i64 0, .int .i64 0, .int .i64 0, .int .i64 0, .int .i64 0, .int .i64 0], .int .u8 0], []⟩ 8 (by kernel_rfl) (by kernel_rfl) (by kernel_rfl) (by kernel_rfl)) ?_
  intro W base args ds gs before hval0 hW hcnd _
  have hval : ∀ (j : Nat) t v, Try.f10.params[j]? = some t → args[j]? = some v → Value.okWide Try.prog W .any base t v := hval0
  have hW' := hW
  obtain ⟨p, q, hA0, hV, rfl, hfz, hnd⟩ := hW
  have hA : DataW.TrodAll enc Try.prog W 0 (fun _ => true) true Try.f10.params.toList args.toList ds p := hA0
  rw [Try.params10] at hA hval
  obtain ⟨v0, vs0, d0, ds0, p0, q0, hargs, rfl, rfl, h0, r0⟩ := trodAll_cons hA
  obtain ⟨v1, vs1, d1, ds1, p1, q1, rfl, rfl, rfl, h1, r1⟩ := trodAll_cons r0
  obtain ⟨v2, vs2, d2, ds2, p2, q2, rfl, rfl, rfl, h2, r2⟩ := trodAll_cons r1
  obtain ⟨rfl, rfl, rfl⟩ := trodAll_nil r2
  obtain rfl : args = #[v0, v1, v2] := by cases args; simp_all
  obtain ⟨rfl, rfl⟩ := trodVars_none hV
  have k0 := h0
  have lt0 : ∀ x ∈ p0, x.block < W.heap.size := by obtain ⟨m, hm⟩ := k0; exact DataW.trod_lt m _ _ _ hm
  obtain ⟨a0, fa0, ra0⟩ := repI_struct Try.underlying33 dCamera (fun _ => by kernel_rfl) (hval 0 33 v0 rfl rfl) h0
  have k1 := h1
  have lt1 : ∀ x ∈ p1, x.block < W.heap.size := by obtain ⟨m, hm⟩ := k1; exact DataW.trod_lt m _ _ _ hm
  obtain ⟨a1, fa1, ra1⟩ := repI_struct Try.underlying33 dCamera (fun _ => by kernel_rfl) (hval 1 33 v1 rfl rfl) h1
  obtain ⟨a2, rfl, rfl, rfl, w2⟩ := open_int Try.underlying5 (hval 2 5 v2 rfl rfl) h2
  clear hA0 hval0
  refine (walk W a0 fa0 _ (ra0 _ _) a1 fa1 _ (ra1 _ _) a2 w2).mono fun e W' ⟨he, bel⟩ => ?_
  subst he
  exact ⟨_, rfl, _, _, _, [], _, [], hW', trodAll_mk1 (shut_bool Try.underlying4 _), (trodAll_cons_mk (Below.trod laidOut (by kernel_rfl) (of_decide_eq_true (by kernel_rfl)) k0 bel lt0) (trodAll_cons_mk (Below.trod laidOut (by kernel_rfl) (of_decide_eq_true (by kernel_rfl)) k1 bel lt1) (trodAll_cons_mk (shut_int Try.underlying5 w2) trodAll_mk0))), rfl, bel.frame _, fun h => by cases h⟩

theorem closed : joinedFacts Try.pinned.checked.prog 10 Try.f10 Rows.gaugeMeetsSpec Rows.gaugeMeetsRow = true :=
  (restOf Try.pinned.checked.prog 10 Try.f10 Rows.gaugeMeetsSpec Rows.gaugeMeetsRow make_eq mayEnter_eq liftsFinal_eq).2 (by kernel_rfl)
theorem over : Rows.gaugeMeetsRow.holds Try.pinned (OpenSpec.ofChange Rows.gaugeMeetsSpec) :=
  OpenClaim.holds_of_wide 10 Try.f10 rfl rfl rfl rfl rfl rfl rfl ⟨rfl, rfl, rfl, rfl, rfl⟩ rfl rfl rfl rfl rfl (by kernel_rfl) Try.func10 closed
    (of_decide_eq_true (by kernel_rfl)) (by unfold Func.isWrapper; first | (rw [if_pos (by decide +kernel)]; kernel_rfl) | (rw [if_neg (by decide +kernel)]; exact ⟨rfl, rfl⟩))
    (fun os started H enc _ => lifted os started H enc)

theorem proved : Rows.GaugeMeetsSaid := over
#print axioms proved
end Go.Proofs.Ytblmmhmdnnnidaa.GaugeMeetsDone
