/- The limits, the numbers of errors and the examples of chapter 5. -/
import Derived.Test.YtblmmhmdnnnidaaEvSix
import Derived.Test.YtblmmhmdnnnidaaMyAlA
import Derived.Test.YtblmmhmdnnnidaaMyGkB
import Derived.Test.YtblmmhmdnnnidaaEvZ
import Derived.Test.YtblmmhmdnnnidaaEvZa
import Derived.Test.YtblmmhmdnnnidaaMyIniA
import Derived.Test.YtblmmhmdnnnidaaRows
import Derived.WalkKit
import Derived.ProofKit
import Derived.OpenShut
import Derived.ChangeOld
import Derived.Below
set_option maxRecDepth 100000
set_option maxHeartbeats 0
set_option linter.unusedVariables false
set_option linter.unusedSimpArgs false
namespace Go.Proofs.Try.My
open Go Go.Ev

theorem x1 : firF [10, 10, 60, 110, 110, 30] 60 0 1 = ((2, 1), 0) := by kernel_rfl
theorem x2 : firF [10, 10, 60, 110, 110, 30] 85 5 (-1) = ((69, 16), 0) := by kernel_rfl
theorem x3 : edgF [10, 10, 60, 110, 110, 30] 60 5 10 (-1) = (((9, 2), (19, 4)), 0) := by kernel_rfl
theorem x4 : firF [10, 10, 60, 110, 110, 30] 111 0 1 = ((0, 0), 6) := by kernel_rfl
theorem x5 : firF [10, 10, 60, 110, 110, 30] 0 0 1 = ((0, 0), 2) := by kernel_rfl
theorem x6 : firF [1] 1 0 1 = ((0, 0), 50) := by kernel_rfl
theorem x7 : edgF [10, 10, 60, 110, 110, 30] 105 0 10 1 = (((0, 0), (0, 0)), 6) := by kernel_rfl
theorem x8 : corN (((0, 1), (0, 1)), ((3, 1), (3, 1))) (((0, 1), (0, 1)), ((5, 1), (5, 1))) = ((((3, 1), (3, 1)), ((5, 1), (5, 1))), 0) := by kernel_rfl
theorem x9 : corN (((1, 1), (1, 1)), ((3, 1), (3, 1))) (((1, 1), (1, 1)), ((5, 1), (5, 1))) = ((((0, 0), (0, 0)), ((0, 0), (0, 0))), 6) := by kernel_rfl
abbrev twX (thr : Int) : GauT := ((((thr, 10), ((2, 1), (2, 1))), (1, 1)), (2, 1))
theorem xa : meaF (twX 200) [10, 10, 60, 110, 110, 30] = (((0, 1), (0, 1)), 2, 0) := by kernel_rfl
theorem xb : meaF (twX 105) [10, 10, 60, 110, 110, 30] = (((0, 1), (0, 1)), 3, 0) := by kernel_rfl
theorem pc_one5 (n : Int) (h1 : 0 ≤ n) (h2 : n < 100) : PC Try.prog 63 [i64 n] (sp ((n, 1), (n, 1))) := by
  have f := twL n h1 h2
  refine pc_of_bodyF hm Try.func63 (by kernel_rfl) ?_
  conv => whnf
  (repeat' (first | (refine ⟨_, by first | with_reducible exact f, ?_⟩; (conv => whnf)) | (refine Or.inl ?_; (conv => whnf); refine ⟨_, by first | with_reducible exact f, ?_⟩; (conv => whnf)) | (refine Or.inl ?_; (conv => whnf); refine ⟨false, ?_⟩; (conv => whnf); refine ⟨_, by first | with_reducible exact f, ?_⟩; (conv => whnf)) | (refine ⟨by kernel_rfl, ?_⟩; (conv => whnf)) | fail))
theorem pc_GaugeExamples : PC Try.prog 9 [] (.bool true) := by
  have s0 := pc_sample
  have al := pc_alive
  have a1 := pc_gFirst samL 60 0 (by decide)
  rw [x1] at a1
  have a2 := pc_gLast samL 85 5 (by decide)
  rw [x2] at a2
  have a3 := pc_gFall samL 60 5 10 (by decide)
  rw [x3] at a3
  have a4 := pc_gFirst samL 111 0 (by decide)
  rw [x4] at a4
  have a5 := pc_gFirst samL 0 0 (by decide)
  rw [x5] at a5
  have a6 : PC Try.prog 54 [.slc 1 [[i64 1]], i64 1, i64 0] (.tup [fr (0, 0), i64 50]) := by
    have a6 := pc_gFirst [1] 1 0 (by decide)
    rw [x6] at a6
    refine a6.sub rfl (fun i hi => ?_) (.refl _)
    match i with
    | 0 => exact .slc 1 0 eI [1]
    | 1 => exact .refl _
    | 2 => exact .refl _
    | (n + 3) => exact .refl _
  have a7 := pc_gRise samL 105 0 10 (by decide)
  rw [x7] at a7
  have f1 := fr_lit 2 1 2 1 (by unfold I64; omega) (by unfold I64; omega) (by kernel_rfl)
  have f2 := fr_lit 69 16 69 16 (by unfold I64; omega) (by unfold I64; omega) (by kernel_rfl)
  have f3 := fr_lit 9 2 9 2 (by unfold I64; omega) (by unfold I64; omega) (by kernel_rfl)
  have f4 := fr_lit 19 4 19 4 (by unfold I64; omega) (by unfold I64; omega) (by kernel_rfl)
  have o0 := pc_one5 0 (by decide) (by decide)
  have o1 := pc_one5 1 (by decide) (by decide)
  have o3 := pc_one5 3 (by decide) (by decide)
  have o5 := pc_one5 5 (by decide) (by decide)
  have c1 := pc_Corner (((0, 1), (0, 1)), ((3, 1), (3, 1))) (((0, 1), (0, 1)), ((5, 1), (5, 1)))
  rw [x8] at c1
  have c2 := pc_Corner (((1, 1), (1, 1)), ((3, 1), (3, 1))) (((1, 1), (1, 1)), ((5, 1), (5, 1)))
  rw [x9] at c2
  have t1 := pc_twice 1 2 (twL 2 (by decide) (by decide)) (twL 1 (by decide) (by decide)) (twL 2 (by decide) (by decide))
  have m1 := pc_Measure (twX 200) samL (by decide)
  rw [xa] at m1
  have m2 := pc_Measure (twX 105) samL (by decide)
  rw [xb] at m2
  dsimp only at a1 a2 a3 a4 a5 a7 c1 c2 m1 m2
  refine pc_of_bodyF hm Try.func9 (by kernel_rfl) ?_
  conv => whnf
  (repeat' (first | (refine ⟨_, by first | exact s0 | exact a1 | exact a2 | exact a3 | exact a4 | exact a5 | exact a7 | exact al | exact f1 | exact f2 | exact f3 | exact f4 | exact o0 | exact o1 | exact o3 | exact o5 | exact c1 | exact c2 | exact t1 | exact m1 | exact m2 | exact a6, ?_⟩; (conv => whnf)) | (refine Or.inl ?_; (conv => whnf); refine ⟨_, by first | exact s0 | exact a1 | exact a2 | exact a3 | exact a4 | exact a5 | exact a7 | exact al | exact f1 | exact f2 | exact f3 | exact f4 | exact o0 | exact o1 | exact o3 | exact o5 | exact c1 | exact c2 | exact t1 | exact m1 | exact m2 | exact a6, ?_⟩; (conv => whnf)) | (refine Or.inl ?_; (conv => whnf); refine ⟨false, ?_⟩; (conv => whnf); refine ⟨_, by first | exact s0 | exact a1 | exact a2 | exact a3 | exact a4 | exact a5 | exact a7 | exact al | exact f1 | exact f2 | exact f3 | exact f4 | exact o0 | exact o1 | exact o3 | exact o5 | exact c1 | exact c2 | exact t1 | exact m1 | exact m2 | exact a6, ?_⟩; (conv => whnf)) | (refine ⟨by kernel_rfl, ?_⟩; (conv => whnf)) | (refine ⟨fun _ => ?_, fun h => absurd h (by first | decide | (simp; done) | fail)⟩; (conv => whnf)) | (refine ⟨fun h => absurd h (by first | decide | (simp; done) | fail), fun _ => ?_⟩; (conv => whnf)) | fail))
  all_goals (first | rfl | set_option pp.maxSteps 300 in trace_state)
end Go.Proofs.Try.My
set_option maxRecDepth 100000
set_option maxHeartbeats 0
set_option linter.unusedVariables false
set_option linter.unusedSimpArgs false
namespace Go.Proofs.Ytblmmhmdnnnidaa.GaugeExamplesDone
open Go Go.Ev Go.Proofs.Try.My
open Go.ChangeShapes Go.WideShapes Go.ChangeAt Go.RowKit

theorem own : ownKnob Try.prog.godebug = none := by kernel_rfl
theorem laidOut : laidOutB Try.prog = true := by kernel_rfl

theorem walk (w : World)  :
    Calls Try.prog 9 #[] w fun e w' => e = .returned (.bool true) ∧ Below w.heap.size w w' := by
  refine PC.callsTrue (pc_GaugeExamples ) Try.func9 (by kernel_rfl) rfl rfl fun i hi => ?_
  exact absurd hi (Nat.not_lt_zero i)


theorem lifted (os : Os) (started : os.Started) (H : Type) (enc : TypeId × Value → H) :
    ReturnsInHanded {} Try.checked os 9 .any (Rows.gaugeExamplesSpec.pre6 enc Try.prog Try.f9 Rows.gaugeExamplesRow.domain false) (Rows.gaugeExamplesSpec.post enc Try.prog Try.f9 false true false false) := by
  refine returnsInHanded_of_change (C := Try.checked) own started (by kernel_rfl) Try.func9
    (ChangeSpec.witness6 (enc := enc) (C := Try.checked) false ⟨#[], #[], []⟩ 8 (by kernel_rfl) (by kernel_rfl) (by kernel_rfl) (by kernel_rfl)) ?_
  intro W base args ds gs before hval0 hW hcnd _
  have hval : ∀ (j : Nat) t v, Try.f9.params[j]? = some t → args[j]? = some v → Value.okWide Try.prog W .any base t v := hval0
  have hW' := hW
  obtain ⟨p, q, hA0, hV, rfl, hfz, hnd⟩ := hW
  have hA : DataW.TrodAll enc Try.prog W 0 (fun _ => true) true Try.f9.params.toList args.toList ds p := hA0
  rw [Try.params9] at hA hval
  obtain ⟨ha, rfl, rfl⟩ := trodAll_nil hA
  obtain rfl : args = #[] := by cases args; simp_all
  obtain ⟨rfl, rfl⟩ := trodVars_none hV
  clear hA0 hval0
  refine (walk W ).mono fun e W' ⟨he, bel⟩ => ?_
  subst he
  exact ⟨_, rfl, _, _, _, [], _, [], hW', trodAll_mk1 (shut_bool Try.underlying4 _), trodAll_mk0, rfl, bel.frame _, fun h => by cases h⟩

theorem closed : joinedFacts Try.pinned.checked.prog 9 Try.f9 Rows.gaugeExamplesSpec Rows.gaugeExamplesRow = true :=
  (restOf Try.pinned.checked.prog 9 Try.f9 Rows.gaugeExamplesSpec Rows.gaugeExamplesRow make_eq mayEnter_eq liftsFinal_eq).2 (by kernel_rfl)
theorem over : Rows.gaugeExamplesRow.holds Try.pinned (OpenSpec.ofChange Rows.gaugeExamplesSpec) :=
  OpenClaim.holds_of_wide 9 Try.f9 rfl rfl rfl rfl rfl rfl rfl ⟨rfl, rfl, rfl, rfl, rfl⟩ rfl rfl rfl rfl rfl (by kernel_rfl) Try.func9 closed
    (of_decide_eq_true (by kernel_rfl)) (by unfold Func.isWrapper; first | (rw [if_pos (by decide +kernel)]; kernel_rfl) | (rw [if_neg (by decide +kernel)]; exact ⟨rfl, rfl⟩))
    (fun os started H enc _ => lifted os started H enc)

theorem proved : Rows.GaugeExamplesSaid := over
#print axioms proved
end Go.Proofs.Ytblmmhmdnnnidaa.GaugeExamplesDone
