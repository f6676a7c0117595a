/- LensDeep holds for every input: depths of places and cameras within spans lie in the span of depths. No conditions. -/
import Derived.Test.YtpcipgblegdeeaaMzAm2
import Derived.Test.YtpcipgblegdeeaaMzLw1
import Derived.Test.YtpcipgblegdeeaaMzRf2
import Derived.Test.YtpcipgblegdeeaaEvZ
import Derived.Test.YtpcipgblegdeeaaEvZa
import Derived.Test.YtpcipgblegdeeaaMzIniA
import Derived.Test.YtpcipgblegdeeaaRows
import Derived.WalkKit
import Derived.ProofKit
import Derived.OpenShut
import Derived.ChangeOld
import Derived.Below
set_option maxRecDepth 100000
set_option maxHeartbeats 0
set_option linter.unusedVariables false
set_option linter.unusedSimpArgs false
namespace Go.Proofs.Try.My
open Go Go.Ev

theorem ldBad (a1 a2 a3 a4 a5 a6 a7 a8 b1 b2 b3 b4 b5 b6 b7 b8 base u1 u2 u3 u4 v1 v2 v3 v4 e E s1 s2 s3 s4 : Int) (hE : E ≠ 0) (d1 : PC Try.prog 39 [cam (((a1, a2), (a3, a4)), ((a5, a6), (a7, a8))), cam (((b1, b2), (b3, b4)), ((b5, b6), (b7, b8))), i64 base, sp ((u1, u2), (u3, u4)), sp ((v1, v2), (v3, v4))] (.tup [sp ((s1, s2), (s3, s4)), i64 E])) : PC Try.prog 10 [cam (((a1, a2), (a3, a4)), ((a5, a6), (a7, a8))), cam (((b1, b2), (b3, b4)), ((b5, b6), (b7, b8))), i64 base, sp ((u1, u2), (u3, u4)), sp ((v1, v2), (v3, v4)), .int .u8 e] (.bool true) := by
  have al := pc_alive4
  refine pc_of_body hm Try.func10 (by kernel_rfl) ?_
  conv => whnf
  (repeat' (first | (refine ⟨_, by first | with_reducible exact al | with_reducible exact d1, ?_⟩; (conv => whnf)) | (refine Or.inl ?_; (conv => whnf); refine ⟨_, by first | with_reducible exact al | with_reducible exact d1, ?_⟩; (conv => whnf)) | (refine Or.inl ?_; (conv => whnf); refine ⟨false, ?_⟩; (conv => whnf); refine ⟨_, by first | with_reducible exact al | with_reducible exact d1, ?_⟩; (conv => whnf)) | (refine ⟨by kernel_rfl, ?_⟩; (conv => whnf)) | (refine ⟨fun _ => ?_, fun h => absurd h (by first | decide | (simp; done) | fail)⟩; (conv => whnf)) | (refine ⟨fun h => absurd h (by first | decide | (simp; done) | fail), fun _ => ?_⟩; (conv => whnf)) | ((with_reducible refine And.intro (a := _ = true → _) (b := _ = false → _) (fun hh => ?_) (fun hh => ?_)) <;> (try simp only [decide_eq_true_eq, decide_eq_false_iff_not, Bool.or_eq_true, Bool.and_eq_true, Bool.or_eq_false_iff, Bool.and_eq_false_iff, Bool.not_eq_true', Bool.not_eq_false', ge_iff_le, gt_iff_lt] at hh) <;> (first | (exfalso; omega) | (conv => whnf))) | fail))
theorem ldMany (a1 a2 a3 a4 a5 a6 a7 a8 b1 b2 b3 b4 b5 b6 b7 b8 base u1 u2 u3 u4 v1 v2 v3 v4 e s1 s2 s3 s4 fa1 fa2 ca1 ca2 fb1 fb2 cb1 cb2 pu1 pu2 pv1 pv2 t1 t2 t3 t4 : Int) (d1 : PC Try.prog 39 [cam (((a1, a2), (a3, a4)), ((a5, a6), (a7, a8))), cam (((b1, b2), (b3, b4)), ((b5, b6), (b7, b8))), i64 base, sp ((u1, u2), (u3, u4)), sp ((v1, v2), (v3, v4))] (.tup [sp ((s1, s2), (s3, s4)), i64 0])) (n0 : PC Try.prog 40 [sp ((a1, a2), (a3, a4)), i64 0, .pt [.int .u8 e] 0] (fr (fa1, fa2))) (n1 : PC Try.prog 40 [sp ((a5, a6), (a7, a8)), i64 1, .pt [.int .u8 e] 0] (fr (ca1, ca2))) (n2 : PC Try.prog 40 [sp ((b1, b2), (b3, b4)), i64 2, .pt [.int .u8 e] 0] (fr (fb1, fb2))) (n3 : PC Try.prog 40 [sp ((b5, b6), (b7, b8)), i64 3, .pt [.int .u8 e] 0] (fr (cb1, cb2))) (n4 : PC Try.prog 40 [sp ((u1, u2), (u3, u4)), i64 4, .pt [.int .u8 e] 0] (fr (pu1, pu2))) (n5 : PC Try.prog 40 [sp ((v1, v2), (v3, v4)), i64 5, .pt [.int .u8 e] 0] (fr (pv1, pv2))) (o0 : PC Try.prog 41 [fr (fa1, fa2)] (sp ((fa1, fa2), (fa1, fa2)))) (o1 : PC Try.prog 41 [fr (ca1, ca2)] (sp ((ca1, ca2), (ca1, ca2)))) (o2 : PC Try.prog 41 [fr (fb1, fb2)] (sp ((fb1, fb2), (fb1, fb2)))) (o3 : PC Try.prog 41 [fr (cb1, cb2)] (sp ((cb1, cb2), (cb1, cb2)))) (o4 : PC Try.prog 41 [fr (pu1, pu2)] (sp ((pu1, pu2), (pu1, pu2)))) (o5 : PC Try.prog 41 [fr (pv1, pv2)] (sp ((pv1, pv2), (pv1, pv2)))) (d2 : PC Try.prog 39 [cam (((fa1, fa2), (fa1, fa2)), ((ca1, ca2), (ca1, ca2))), cam (((fb1, fb2), (fb1, fb2)), ((cb1, cb2), (cb1, cb2))), i64 base, sp ((pu1, pu2), (pu1, pu2)), sp ((pv1, pv2), (pv1, pv2))] (.tup [sp ((t1, t2), (t3, t4)), i64 4])) : PC Try.prog 10 [cam (((a1, a2), (a3, a4)), ((a5, a6), (a7, a8))), cam (((b1, b2), (b3, b4)), ((b5, b6), (b7, b8))), i64 base, sp ((u1, u2), (u3, u4)), sp ((v1, v2), (v3, v4)), .int .u8 e] (.bool true) := by
  have al := pc_alive4
  refine pc_of_body hm Try.func10 (by kernel_rfl) ?_
  conv => whnf
  (repeat' (first | (refine ⟨_, by first | with_reducible exact al | with_reducible exact d1, ?_⟩; (conv => whnf)) | (refine Or.inl ?_; (conv => whnf); refine ⟨_, by first | with_reducible exact al | with_reducible exact d1, ?_⟩; (conv => whnf)) | (refine Or.inl ?_; (conv => whnf); refine ⟨false, ?_⟩; (conv => whnf); refine ⟨_, by first | with_reducible exact al | with_reducible exact d1, ?_⟩; (conv => whnf)) | (refine ⟨by kernel_rfl, ?_⟩; (conv => whnf)) | (refine ⟨fun _ => ?_, fun h => absurd h (by first | decide | (simp; done) | fail)⟩; (conv => whnf)) | (refine ⟨fun h => absurd h (by first | decide | (simp; done) | fail), fun _ => ?_⟩; (conv => whnf)) | fail))
  (repeat' (first | (refine ⟨_, by first | with_reducible exact n0 | with_reducible exact o0 | with_reducible exact n1 | with_reducible exact o1 | with_reducible exact n2 | with_reducible exact o2 | with_reducible exact n3 | with_reducible exact o3 | with_reducible exact n4 | with_reducible exact o4 | with_reducible exact n5 | with_reducible exact o5 | with_reducible exact d2, ?_⟩; (conv => whnf)) | (refine Or.inl ?_; (conv => whnf); refine ⟨_, by first | with_reducible exact n0 | with_reducible exact o0 | with_reducible exact n1 | with_reducible exact o1 | with_reducible exact n2 | with_reducible exact o2 | with_reducible exact n3 | with_reducible exact o3 | with_reducible exact n4 | with_reducible exact o4 | with_reducible exact n5 | with_reducible exact o5 | with_reducible exact d2, ?_⟩; (conv => whnf)) | (refine Or.inl ?_; (conv => whnf); refine ⟨false, ?_⟩; (conv => whnf); refine ⟨_, by first | with_reducible exact n0 | with_reducible exact o0 | with_reducible exact n1 | with_reducible exact o1 | with_reducible exact n2 | with_reducible exact o2 | with_reducible exact n3 | with_reducible exact o3 | with_reducible exact n4 | with_reducible exact o4 | with_reducible exact n5 | with_reducible exact o5 | with_reducible exact d2, ?_⟩; (conv => whnf)) | (refine ⟨by kernel_rfl, ?_⟩; (conv => whnf)) | (refine ⟨fun _ => ?_, fun h => absurd h (by first | decide | (simp; done) | fail)⟩; (conv => whnf)) | (refine ⟨fun h => absurd h (by first | decide | (simp; done) | fail), fun _ => ?_⟩; (conv => whnf)) | fail))
  all_goals (first | rfl | set_option pp.maxSteps 300 in trace_state)
theorem ldOk (a1 a2 a3 a4 a5 a6 a7 a8 b1 b2 b3 b4 b5 b6 b7 b8 base u1 u2 u3 u4 v1 v2 v3 v4 e s1 s2 s3 s4 fa1 fa2 ca1 ca2 fb1 fb2 cb1 cb2 pu1 pu2 pv1 pv2 t1 t2 : Int) (d1 : PC Try.prog 39 [cam (((a1, a2), (a3, a4)), ((a5, a6), (a7, a8))), cam (((b1, b2), (b3, b4)), ((b5, b6), (b7, b8))), i64 base, sp ((u1, u2), (u3, u4)), sp ((v1, v2), (v3, v4))] (.tup [sp ((s1, s2), (s3, s4)), i64 0])) (n0 : PC Try.prog 40 [sp ((a1, a2), (a3, a4)), i64 0, .pt [.int .u8 e] 0] (fr (fa1, fa2))) (n1 : PC Try.prog 40 [sp ((a5, a6), (a7, a8)), i64 1, .pt [.int .u8 e] 0] (fr (ca1, ca2))) (n2 : PC Try.prog 40 [sp ((b1, b2), (b3, b4)), i64 2, .pt [.int .u8 e] 0] (fr (fb1, fb2))) (n3 : PC Try.prog 40 [sp ((b5, b6), (b7, b8)), i64 3, .pt [.int .u8 e] 0] (fr (cb1, cb2))) (n4 : PC Try.prog 40 [sp ((u1, u2), (u3, u4)), i64 4, .pt [.int .u8 e] 0] (fr (pu1, pu2))) (n5 : PC Try.prog 40 [sp ((v1, v2), (v3, v4)), i64 5, .pt [.int .u8 e] 0] (fr (pv1, pv2))) (o0 : PC Try.prog 41 [fr (fa1, fa2)] (sp ((fa1, fa2), (fa1, fa2)))) (o1 : PC Try.prog 41 [fr (ca1, ca2)] (sp ((ca1, ca2), (ca1, ca2)))) (o2 : PC Try.prog 41 [fr (fb1, fb2)] (sp ((fb1, fb2), (fb1, fb2)))) (o3 : PC Try.prog 41 [fr (cb1, cb2)] (sp ((cb1, cb2), (cb1, cb2)))) (o4 : PC Try.prog 41 [fr (pu1, pu2)] (sp ((pu1, pu2), (pu1, pu2)))) (o5 : PC Try.prog 41 [fr (pv1, pv2)] (sp ((pv1, pv2), (pv1, pv2)))) (d2 : PC Try.prog 39 [cam (((fa1, fa2), (fa1, fa2)), ((ca1, ca2), (ca1, ca2))), cam (((fb1, fb2), (fb1, fb2)), ((cb1, cb2), (cb1, cb2))), i64 base, sp ((pu1, pu2), (pu1, pu2)), sp ((pv1, pv2), (pv1, pv2))] (.tup [sp ((t1, t2), (t1, t2)), i64 0])) (w : PC Try.prog 42 [sp ((t1, t2), (t1, t2)), sp ((s1, s2), (s3, s4))] (.bool true)) (va : PC Try.prog 43 [sp ((s1, s2), (s3, s4))] (.bool true)) : PC Try.prog 10 [cam (((a1, a2), (a3, a4)), ((a5, a6), (a7, a8))), cam (((b1, b2), (b3, b4)), ((b5, b6), (b7, b8))), i64 base, sp ((u1, u2), (u3, u4)), sp ((v1, v2), (v3, v4)), .int .u8 e] (.bool true) := by
  have al := pc_alive4
  refine pc_of_body hm Try.func10 (by kernel_rfl) ?_
  conv => whnf
  (repeat' (first | (refine ⟨_, by first | with_reducible exact al | with_reducible exact d1, ?_⟩; (conv => whnf)) | (refine Or.inl ?_; (conv => whnf); refine ⟨_, by first | with_reducible exact al | with_reducible exact d1, ?_⟩; (conv => whnf)) | (refine Or.inl ?_; (conv => whnf); refine ⟨false, ?_⟩; (conv => whnf); refine ⟨_, by first | with_reducible exact al | with_reducible exact d1, ?_⟩; (conv => whnf)) | (refine ⟨by kernel_rfl, ?_⟩; (conv => whnf)) | (refine ⟨fun _ => ?_, fun h => absurd h (by first | decide | (simp; done) | fail)⟩; (conv => whnf)) | (refine ⟨fun h => absurd h (by first | decide | (simp; done) | fail), fun _ => ?_⟩; (conv => whnf)) | fail))
  (repeat' (first | (refine ⟨_, by first | with_reducible exact n0 | with_reducible exact o0 | with_reducible exact n1 | with_reducible exact o1 | with_reducible exact n2 | with_reducible exact o2 | with_reducible exact n3 | with_reducible exact o3 | with_reducible exact n4 | with_reducible exact o4 | with_reducible exact n5 | with_reducible exact o5 | with_reducible exact d2 | with_reducible exact w | with_reducible exact va, ?_⟩; (conv => whnf)) | (refine Or.inl ?_; (conv => whnf); refine ⟨_, by first | with_reducible exact n0 | with_reducible exact o0 | with_reducible exact n1 | with_reducible exact o1 | with_reducible exact n2 | with_reducible exact o2 | with_reducible exact n3 | with_reducible exact o3 | with_reducible exact n4 | with_reducible exact o4 | with_reducible exact n5 | with_reducible exact o5 | with_reducible exact d2 | with_reducible exact w | with_reducible exact va, ?_⟩; (conv => whnf)) | (refine Or.inl ?_; (conv => whnf); refine ⟨false, ?_⟩; (conv => whnf); refine ⟨_, by first | with_reducible exact n0 | with_reducible exact o0 | with_reducible exact n1 | with_reducible exact o1 | with_reducible exact n2 | with_reducible exact o2 | with_reducible exact n3 | with_reducible exact o3 | with_reducible exact n4 | with_reducible exact o4 | with_reducible exact n5 | with_reducible exact o5 | with_reducible exact d2 | with_reducible exact w | with_reducible exact va, ?_⟩; (conv => whnf)) | (refine ⟨by kernel_rfl, ?_⟩; (conv => whnf)) | (refine ⟨fun _ => ?_, fun h => absurd h (by first | decide | (simp; done) | fail)⟩; (conv => whnf)) | (refine ⟨fun h => absurd h (by first | decide | (simp; done) | fail), fun _ => ?_⟩; (conv => whnf)) | fail))
  all_goals (first | rfl | set_option pp.maxSteps 300 in trace_state)
theorem pc_LensDeep (a b : CamT) (base : Int) (u v : SpT) (e : Int) (we : (Lit.int .u8 e).wf = true) : PC Try.prog 10 [cam a, cam b, i64 base, sp u, sp v, .int .u8 e] (.bool true) := by
  have d1 := pc_Depth a b base u v
  by_cases hE : (depF a b base u v).2 = 0
  rotate_left
  · exact ldBad _ _ _ _ _ _ _ _ _ _ _ _ _ _ _ _ _ _ _ _ _ _ _ _ _ _ _ _ _ _ _ hE d1
  rw [hE] at d1
  obtain ⟨_, t1, t2, s0, _, ed⟩ := dep_known hE
  obtain ⟨ka1, ka2, ku⟩ := tan_known t1
  obtain ⟨kb1, kb2, kv⟩ := tan_known t2
  have pick : ∀ (s : SpT) (b : Bool), spanB s = true → ∃ w : Int × Int, validB w = true ∧ InR s (qv w) ∧ (if b then s.2 else s.1) = w := fun s b hs => by
    obtain ⟨s1, s2, s3⟩ := spanB_qv.1 hs
    cases b
    · exact ⟨s.1, s1, ⟨Rat.le_refl, s3⟩, rfl⟩
    · exact ⟨s.2, s2, ⟨s3, Rat.le_refl⟩, rfl⟩
  obtain ⟨B0, n0⟩ := pc_end a.1.1.1 a.1.1.2 a.1.2.1 a.1.2.2 e 0 (by decide)
  obtain ⟨fa, v0, i0, q0⟩ := pick a.1 B0 ka1
  rw [show (if B0 = true then (a.1.2.1, a.1.2.2) else (a.1.1.1, a.1.1.2)) = fa from q0] at n0
  obtain ⟨B1, n1⟩ := pc_end a.2.1.1 a.2.1.2 a.2.2.1 a.2.2.2 e 1 (by decide)
  obtain ⟨ca, v1, i1, q1⟩ := pick a.2 B1 ka2
  rw [show (if B1 = true then (a.2.2.1, a.2.2.2) else (a.2.1.1, a.2.1.2)) = ca from q1] at n1
  obtain ⟨B2, n2⟩ := pc_end b.1.1.1 b.1.1.2 b.1.2.1 b.1.2.2 e 2 (by decide)
  obtain ⟨fb, v2, i2, q2⟩ := pick b.1 B2 kb1
  rw [show (if B2 = true then (b.1.2.1, b.1.2.2) else (b.1.1.1, b.1.1.2)) = fb from q2] at n2
  obtain ⟨B3, n3⟩ := pc_end b.2.1.1 b.2.1.2 b.2.2.1 b.2.2.2 e 3 (by decide)
  obtain ⟨cb, v3, i3, q3⟩ := pick b.2 B3 kb2
  rw [show (if B3 = true then (b.2.2.1, b.2.2.2) else (b.2.1.1, b.2.1.2)) = cb from q3] at n3
  obtain ⟨B4, n4⟩ := pc_end u.1.1 u.1.2 u.2.1 u.2.2 e 4 (by decide)
  obtain ⟨pu, v4, i4, q4⟩ := pick u B4 ku
  rw [show (if B4 = true then (u.2.1, u.2.2) else (u.1.1, u.1.2)) = pu from q4] at n4
  obtain ⟨B5, n5⟩ := pc_end v.1.1 v.1.2 v.2.1 v.2.2 e 5 (by decide)
  obtain ⟨pv, v5, i5, q5⟩ := pick v B5 kv
  rw [show (if B5 = true then (v.2.1, v.2.2) else (v.1.1, v.1.2)) = pv from q5] at n5
  have d2 := pc_Depth ((fa, fa), (ca, ca)) ((fb, fb), (cb, cb)) base (pu, pu) (pv, pv)
  rcases dep_law hE v0 v1 v2 v3 v4 v5 i0 i1 i2 i3 i4 i5 with h4 | ⟨w, ew, hw⟩
  · rw [h4] at d2
    exact ldMany _ _ _ _ _ _ _ _ _ _ _ _ _ _ _ _ _ _ _ _ _ _ _ _ _ _ _ _ _ _ _ _ _ _ _ _ _ _ _ _ _ _ _ _ _ _ d1 n0 n1 n2 n3 n4 n5 (pc_one _ _) (pc_one _ _) (pc_one _ _) (pc_one _ _) (pc_one _ _) (pc_one _ _) d2
  · rw [ew] at d2
    have hs : spanB (depF a b base u v).1 = true := by rw [ed] at hE ⊢; exact (divS_ok hE).2.2.2
    have wi := pc_within4 (w, w) (depF a b base u v).1
    rw [hw] at wi
    obtain ⟨z1, z2, z3, z4⟩ := spanB_i hs
    have va := pc_rValidSpan (depF a b base u v).1 z1 z2 z3 z4
    rw [hs] at va
    exact ldOk _ _ _ _ _ _ _ _ _ _ _ _ _ _ _ _ _ _ _ _ _ _ _ _ _ _ _ _ _ _ _ _ _ _ _ _ _ _ _ _ _ _ _ _ d1 n0 n1 n2 n3 n4 n5 (pc_one _ _) (pc_one _ _) (pc_one _ _) (pc_one _ _) (pc_one _ _) (pc_one _ _) d2 wi va
end Go.Proofs.Try.My
set_option maxRecDepth 100000
set_option maxHeartbeats 0
set_option linter.unusedVariables false
set_option linter.unusedSimpArgs false
namespace Go.Proofs.Ytpcipgblegdeeaa.LensDeepDone
open Go Go.Ev Go.Proofs.Try.My
open Go.ChangeShapes Go.WideShapes Go.ChangeAt Go.RowKit

theorem own : ownKnob Try.prog.godebug = none := by kernel_rfl
theorem laidOut : laidOutB Try.prog = true := by kernel_rfl

theorem dFrac : Dec Try.prog 25 eF (fun y : Int × Int => I64 y.1 ∧ I64 y.2) :=
  dec_two Try.underlying25 rfl rfl rfl (by kernel_rfl) (by kernel_rfl) (dec_int Try.underlying3 (by kernel_rfl)) (dec_int Try.underlying3 (by kernel_rfl)) (fun _ => by kernel_rfl)
theorem dSpan : Dec Try.prog 36 eS (fun y : SpT => (I64 y.1.1 ∧ I64 y.1.2) ∧ (I64 y.2.1 ∧ I64 y.2.2)) :=
  dec_two Try.underlying36 rfl rfl rfl (by kernel_rfl) (by kernel_rfl) dFrac dFrac (fun _ => by kernel_rfl)
theorem dCamera : Dec Try.prog 43 eC (fun y : CamT => ((I64 y.1.1.1 ∧ I64 y.1.1.2) ∧ (I64 y.1.2.1 ∧ I64 y.1.2.2)) ∧ ((I64 y.2.1.1 ∧ I64 y.2.1.2) ∧ (I64 y.2.2.1 ∧ I64 y.2.2.2))) :=
  dec_two Try.underlying43 rfl rfl rfl (by kernel_rfl) (by kernel_rfl) dSpan dSpan (fun _ => by kernel_rfl)
theorem walk (w : World) (a : CamT) (f0 : ((I64 a.1.1.1 ∧ I64 a.1.1.2) ∧ (I64 a.1.2.1 ∧ I64 a.1.2.2)) ∧ ((I64 a.2.1.1 ∧ I64 a.2.1.2) ∧ (I64 a.2.2.1 ∧ I64 a.2.2.2))) (v0 : Value) (h0 : RepI (fun b => b < w.heap.size) w (.agg (eC a)) v0) (b : CamT) (f1 : ((I64 b.1.1.1 ∧ I64 b.1.1.2) ∧ (I64 b.1.2.1 ∧ I64 b.1.2.2)) ∧ ((I64 b.2.1.1 ∧ I64 b.2.1.2) ∧ (I64 b.2.2.1 ∧ I64 b.2.2.2))) (v1 : Value) (h1 : RepI (fun b => b < w.heap.size) w (.agg (eC b)) v1) (base : Int) (u : SpT) (f3 : (I64 u.1.1 ∧ I64 u.1.2) ∧ (I64 u.2.1 ∧ I64 u.2.2)) (v3 : Value) (h3 : RepI (fun b => b < w.heap.size) w (.agg (eS u)) v3) (v : SpT) (f4 : (I64 v.1.1 ∧ I64 v.1.2) ∧ (I64 v.2.1 ∧ I64 v.2.2)) (v4 : Value) (h4 : RepI (fun b => b < w.heap.size) w (.agg (eS v)) v4) (e : Int) (f5 : (Lit.int .u8 e).wf = true) :
    Calls Try.prog 10 #[v0, v1, .int .i64 base, v3, v4, .int .u8 e] w fun e w' => e = .returned (.bool true) ∧ Below w.heap.size w w' := by
  refine PC.callsTrue (pc_LensDeep a  b  base u  v  e f5) Try.func10 (by kernel_rfl) rfl rfl fun i hi => ?_
  match i, hi with
  | 0, _ => exact h0
  | 1, _ => exact h1
  | 2, _ => exact .int _ _
  | 3, _ => exact h3
  | 4, _ => exact h4
  | 5, _ => exact .int _ _

theorem lifted (os : Os) (started : os.Started) (H : Type) (enc : TypeId × Value → H) :
    ReturnsInHanded {} Try.checked os 10 .any (Rows.lensDeepSpec.pre6 enc Try.prog Try.f10 Rows.lensDeepRow.domain false) (Rows.lensDeepSpec.post enc Try.prog Try.f10 false true false false) := by
  refine returnsInHanded_of_change (C := Try.checked) own started (by kernel_rfl) Try.func10
    (ChangeSpec.witness6 (enc := enc) (C := Try.checked) false ⟨#[], #[.agg #[.int .i64 0, .int .i64 0, .int .i64 0, .int .i64 0, .int .i64 0, .int .i64 0, .int .i64 0, .int .i64 0], .agg #[.int .i64 0, .int .i64 0, .int .i64 0, .int .i64 0, .int .i64 0, .int .i64 0, .int .i64 0, .int .i64 0], .int .i64 0, .agg #[.int .i64 0, .int .i64 0, .int .i64 0, .int .i64 0], .agg #[.int .i64 0, .int .i64 0, .int .i64 0, .int .i64 0], .int .u8 0], []⟩ 8 (by kernel_rfl) (by kernel_rfl) (by kernel_rfl) (by kernel_rfl)) ?_
  intro W base args ds gs before hval0 hW hcnd _
  have hval : ∀ (j : Nat) t v, Try.f10.params[j]? = some t → args[j]? = some v → Value.okWide Try.prog W .any base t v := hval0
  have hW' := hW
  obtain ⟨p, q, hA0, hV, rfl, hfz, hnd⟩ := hW
  have hA : DataW.TrodAll enc Try.prog W 0 (fun _ => true) true Try.f10.params.toList args.toList ds p := hA0
  rw [Try.params10] at hA hval
  obtain ⟨v0, vs0, d0, ds0, p0, q0, hargs, rfl, rfl, h0, r0⟩ := trodAll_cons hA
  obtain ⟨v1, vs1, d1, ds1, p1, q1, rfl, rfl, rfl, h1, r1⟩ := trodAll_cons r0
  obtain ⟨v2, vs2, d2, ds2, p2, q2, rfl, rfl, rfl, h2, r2⟩ := trodAll_cons r1
  obtain ⟨v3, vs3, d3, ds3, p3, q3, rfl, rfl, rfl, h3, r3⟩ := trodAll_cons r2
  obtain ⟨v4, vs4, d4, ds4, p4, q4, rfl, rfl, rfl, h4, r4⟩ := trodAll_cons r3
  obtain ⟨v5, vs5, d5, ds5, p5, q5, rfl, rfl, rfl, h5, r5⟩ := trodAll_cons r4
  obtain ⟨rfl, rfl, rfl⟩ := trodAll_nil r5
  obtain rfl : args = #[v0, v1, v2, v3, v4, v5] := by cases args; simp_all
  obtain ⟨rfl, rfl⟩ := trodVars_none hV
  have k0 := h0
  have lt0 : ∀ x ∈ p0, x.block < W.heap.size := by obtain ⟨m, hm⟩ := k0; exact DataW.trod_lt m _ _ _ hm
  obtain ⟨a0, fa0, ra0⟩ := repI_struct Try.underlying43 dCamera (fun _ => by kernel_rfl) (hval 0 43 v0 rfl rfl) h0
  have k1 := h1
  have lt1 : ∀ x ∈ p1, x.block < W.heap.size := by obtain ⟨m, hm⟩ := k1; exact DataW.trod_lt m _ _ _ hm
  obtain ⟨a1, fa1, ra1⟩ := repI_struct Try.underlying43 dCamera (fun _ => by kernel_rfl) (hval 1 43 v1 rfl rfl) h1
  obtain ⟨a2, rfl, rfl, rfl, w2⟩ := open_int Try.underlying3 (hval 2 3 v2 rfl rfl) h2
  have k3 := h3
  have lt3 : ∀ x ∈ p3, x.block < W.heap.size := by obtain ⟨m, hm⟩ := k3; exact DataW.trod_lt m _ _ _ hm
  obtain ⟨a3, fa3, ra3⟩ := repI_struct Try.underlying36 dSpan (fun _ => by kernel_rfl) (hval 3 36 v3 rfl rfl) h3
  have k4 := h4
  have lt4 : ∀ x ∈ p4, x.block < W.heap.size := by obtain ⟨m, hm⟩ := k4; exact DataW.trod_lt m _ _ _ hm
  obtain ⟨a4, fa4, ra4⟩ := repI_struct Try.underlying36 dSpan (fun _ => by kernel_rfl) (hval 4 36 v4 rfl rfl) h4
  obtain ⟨a5, rfl, rfl, rfl, w5⟩ := open_int Try.underlying5 (hval 5 5 v5 rfl rfl) h5
  clear hA0 hval0
  refine (walk W a0 fa0 _ (ra0 _ _) a1 fa1 _ (ra1 _ _) a2 a3 fa3 _ (ra3 _ _) a4 fa4 _ (ra4 _ _) a5 w5).mono fun e W' ⟨he, bel⟩ => ?_
  subst he
  exact ⟨_, rfl, _, _, _, [], _, [], hW', trodAll_mk1 (shut_bool Try.underlying4 _), (trodAll_cons_mk (Below.trod laidOut (by kernel_rfl) (of_decide_eq_true (by kernel_rfl)) k0 bel lt0) (trodAll_cons_mk (Below.trod laidOut (by kernel_rfl) (of_decide_eq_true (by kernel_rfl)) k1 bel lt1) (trodAll_cons_mk (shut_int Try.underlying3 w2) (trodAll_cons_mk (Below.trod laidOut (by kernel_rfl) (of_decide_eq_true (by kernel_rfl)) k3 bel lt3) (trodAll_cons_mk (Below.trod laidOut (by kernel_rfl) (of_decide_eq_true (by kernel_rfl)) k4 bel lt4) (trodAll_cons_mk (shut_int Try.underlying5 w5) trodAll_mk0)))))), rfl, bel.frame _, fun h => by cases h⟩

theorem closed : joinedFacts Try.pinned.checked.prog 10 Try.f10 Rows.lensDeepSpec Rows.lensDeepRow = true :=
  (restOf Try.pinned.checked.prog 10 Try.f10 Rows.lensDeepSpec Rows.lensDeepRow make_eq mayEnter_eq liftsFinal_eq).2 (by kernel_rfl)
theorem over : Rows.lensDeepRow.holds Try.pinned (OpenSpec.ofChange Rows.lensDeepSpec) :=
  OpenClaim.holds_of_wide 10 Try.f10 rfl rfl rfl rfl rfl rfl rfl ⟨rfl, rfl, rfl, rfl, rfl⟩ rfl rfl rfl rfl rfl (by kernel_rfl) Try.func10 closed
    (of_decide_eq_true (by kernel_rfl)) (by unfold Func.isWrapper; first | (rw [if_pos (by decide +kernel)]; kernel_rfl) | (rw [if_neg (by decide +kernel)]; exact ⟨rfl, rfl⟩))
    (fun os started H enc _ => lifted os started H enc)

theorem proved : Rows.LensDeepSaid := over
#print axioms proved
end Go.Proofs.Ytpcipgblegdeeaa.LensDeepDone
