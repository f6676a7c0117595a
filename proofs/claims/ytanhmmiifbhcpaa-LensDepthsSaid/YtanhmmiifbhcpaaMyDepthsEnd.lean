/- The tangents of a camera and the depths that two cameras see, or the errors, are as the document says, for all cameras, bases and spans. -/
import Derived.Test.YtanhmmiifbhcpaaMyDe2
import Derived.Test.YtanhmmiifbhcpaaEvZ
import Derived.Test.YtanhmmiifbhcpaaMyInit2
import Derived.Test.YtanhmmiifbhcpaaRows
import Derived.WalkKit
import Derived.ProofKit
import Derived.OpenShut
import Derived.ChangeOld
import Derived.Below
set_option maxRecDepth 100000
set_option maxHeartbeats 0
set_option linter.unusedVariables false
set_option linter.unusedSimpArgs false
namespace Go.Proofs.Ytanhmmiifbhcpaa.LensDepthsDone
open Go Go.Ev Go.Proofs.Try.My
open Go.ChangeShapes Go.WideShapes Go.ChangeAt Go.RowKit

theorem own : ownKnob Try.prog.godebug = none := by kernel_rfl
theorem laidOut : laidOutB Try.prog = true := by kernel_rfl

theorem dFrac : Dec Try.prog 36 eF (fun y : Int × Int => I64 y.1 ∧ I64 y.2) :=
  dec_two Try.underlying36 rfl rfl rfl (by kernel_rfl) (by kernel_rfl) (dec_int Try.underlying3 (by kernel_rfl)) (dec_int Try.underlying3 (by kernel_rfl)) (fun _ => by kernel_rfl)
theorem dSpan : Dec Try.prog 38 eS (fun y : SpT => (I64 y.1.1 ∧ I64 y.1.2) ∧ (I64 y.2.1 ∧ I64 y.2.2)) :=
  dec_two Try.underlying38 rfl rfl rfl (by kernel_rfl) (by kernel_rfl) dFrac dFrac (fun _ => by kernel_rfl)
theorem dCamera : Dec Try.prog 56 eC (fun y : CamT => ((I64 y.1.1.1 ∧ I64 y.1.1.2) ∧ (I64 y.1.2.1 ∧ I64 y.1.2.2)) ∧ ((I64 y.2.1.1 ∧ I64 y.2.1.2) ∧ (I64 y.2.2.1 ∧ I64 y.2.2.2))) :=
  dec_two Try.underlying56 rfl rfl rfl (by kernel_rfl) (by kernel_rfl) dSpan dSpan (fun _ => by kernel_rfl)
theorem walk (w : World) (a : CamT) (f0 : ((I64 a.1.1.1 ∧ I64 a.1.1.2) ∧ (I64 a.1.2.1 ∧ I64 a.1.2.2)) ∧ ((I64 a.2.1.1 ∧ I64 a.2.1.2) ∧ (I64 a.2.2.1 ∧ I64 a.2.2.2))) (v0 : Value) (h0 : RepI (fun b => b < w.heap.size) w (.agg (eC a)) v0) (b : CamT) (f1 : ((I64 b.1.1.1 ∧ I64 b.1.1.2) ∧ (I64 b.1.2.1 ∧ I64 b.1.2.2)) ∧ ((I64 b.2.1.1 ∧ I64 b.2.1.2) ∧ (I64 b.2.2.1 ∧ I64 b.2.2.2))) (v1 : Value) (h1 : RepI (fun b => b < w.heap.size) w (.agg (eC b)) v1) (base : Int) (u : SpT) (f3 : (I64 u.1.1 ∧ I64 u.1.2) ∧ (I64 u.2.1 ∧ I64 u.2.2)) (v3 : Value) (h3 : RepI (fun b => b < w.heap.size) w (.agg (eS u)) v3) (v : SpT) (f4 : (I64 v.1.1 ∧ I64 v.1.2) ∧ (I64 v.2.1 ∧ I64 v.2.2)) (v4 : Value) (h4 : RepI (fun b => b < w.heap.size) w (.agg (eS v)) v4) :
    Calls Try.prog 6 #[v0, v1, .int .i64 base, v3, v4] w fun e w' => e = .returned (.bool true) ∧ Below w.heap.size w w' := by
  refine PC.callsTrue (pc_LensDepths a  b  base u  v  ⟨⟨f0.1.1.1, f0.1.1.2, f0.1.2.1, f0.1.2.2⟩, f0.2.1.1, f0.2.1.2, f0.2.2.1, f0.2.2.2⟩ ⟨⟨f1.1.1.1, f1.1.1.2, f1.1.2.1, f1.1.2.2⟩, f1.2.1.1, f1.2.1.2, f1.2.2.1, f1.2.2.2⟩ ⟨f3.1.1, f3.1.2, f3.2.1, f3.2.2⟩ ⟨f4.1.1, f4.1.2, f4.2.1, f4.2.2⟩) Try.func6 (by kernel_rfl) rfl rfl fun i hi => ?_
  match i, hi with
  | 0, _ => exact h0
  | 1, _ => exact h1
  | 2, _ => exact .int _ _
  | 3, _ => exact h3
  | 4, _ => exact h4

theorem lifted (os : Os) (started : os.Started) (H : Type) (enc : TypeId × Value → H) :
    ReturnsInHanded {} Try.checked os 6 .any (Rows.lensDepthsSpec.pre6 enc Try.prog Try.f6 Rows.lensDepthsRow.domain false) (Rows.lensDepthsSpec.post enc Try.prog Try.f6 false true false false) := by
  refine returnsInHanded_of_change (C := Try.checked) own started (by kernel_rfl) Try.func6
    (ChangeSpec.witness6 (enc := enc) (C := Try.checked) false ⟨#[], #[.agg #[.int .i64 0, .int .i64 0, .int .i64 0, .int .i64 0, .int .i64 0, .int .i64 0, .int .i64 0, .int .i64 0], .agg #[.int .i64 0, .int .i64 0, .int .i64 0, .int .i64 0, .int .i64 0, .int .i64 0, .int .i64 0, .int .i64 0], .int .i64 0, .agg #[.int .i64 0, .int .i64 0, .int .i64 0, .int .i64 0], .agg #[.int .i64 0, .int .i64 0, .int .i64 0, .int .i64 0]], []⟩ 8 (by kernel_rfl) (by kernel_rfl) (by kernel_rfl) (by kernel_rfl)) ?_
  intro W base args ds gs before hval0 hW hcnd _
  have hval : ∀ (j : Nat) t v, Try.f6.params[j]? = some t → args[j]? = some v → Value.okWide Try.prog W .any base t v := hval0
  have hW' := hW
  obtain ⟨p, q, hA0, hV, rfl, hfz, hnd⟩ := hW
  have hA : DataW.TrodAll enc Try.prog W 0 (fun _ => true) true Try.f6.params.toList args.toList ds p := hA0
  rw [Try.params6] at hA hval
  obtain ⟨v0, vs0, d0, ds0, p0, q0, hargs, rfl, rfl, h0, r0⟩ := trodAll_cons hA
  obtain ⟨v1, vs1, d1, ds1, p1, q1, rfl, rfl, rfl, h1, r1⟩ := trodAll_cons r0
  obtain ⟨v2, vs2, d2, ds2, p2, q2, rfl, rfl, rfl, h2, r2⟩ := trodAll_cons r1
  obtain ⟨v3, vs3, d3, ds3, p3, q3, rfl, rfl, rfl, h3, r3⟩ := trodAll_cons r2
  obtain ⟨v4, vs4, d4, ds4, p4, q4, rfl, rfl, rfl, h4, r4⟩ := trodAll_cons r3
  obtain ⟨rfl, rfl, rfl⟩ := trodAll_nil r4
  obtain rfl : args = #[v0, v1, v2, v3, v4] := by cases args; simp_all
  obtain ⟨rfl, rfl⟩ := trodVars_none hV
  have k0 := h0
  have lt0 : ∀ x ∈ p0, x.block < W.heap.size := by obtain ⟨m, hm⟩ := k0; exact DataW.trod_lt m _ _ _ hm
  obtain ⟨a0, fa0, ra0⟩ := repI_struct Try.underlying56 dCamera (fun _ => by kernel_rfl) (hval 0 56 v0 rfl rfl) h0
  have k1 := h1
  have lt1 : ∀ x ∈ p1, x.block < W.heap.size := by obtain ⟨m, hm⟩ := k1; exact DataW.trod_lt m _ _ _ hm
  obtain ⟨a1, fa1, ra1⟩ := repI_struct Try.underlying56 dCamera (fun _ => by kernel_rfl) (hval 1 56 v1 rfl rfl) h1
  obtain ⟨a2, rfl, rfl, rfl, w2⟩ := open_int Try.underlying3 (hval 2 3 v2 rfl rfl) h2
  have k3 := h3
  have lt3 : ∀ x ∈ p3, x.block < W.heap.size := by obtain ⟨m, hm⟩ := k3; exact DataW.trod_lt m _ _ _ hm
  obtain ⟨a3, fa3, ra3⟩ := repI_struct Try.underlying38 dSpan (fun _ => by kernel_rfl) (hval 3 38 v3 rfl rfl) h3
  have k4 := h4
  have lt4 : ∀ x ∈ p4, x.block < W.heap.size := by obtain ⟨m, hm⟩ := k4; exact DataW.trod_lt m _ _ _ hm
  obtain ⟨a4, fa4, ra4⟩ := repI_struct Try.underlying38 dSpan (fun _ => by kernel_rfl) (hval 4 38 v4 rfl rfl) h4
  clear hA0 hval0
  refine (walk W a0 fa0 _ (ra0 _ _) a1 fa1 _ (ra1 _ _) a2 a3 fa3 _ (ra3 _ _) a4 fa4 _ (ra4 _ _)).mono fun e W' ⟨he, bel⟩ => ?_
  subst he
  exact ⟨_, rfl, _, _, _, [], _, [], hW', trodAll_mk1 (shut_bool Try.underlying4 _), (trodAll_cons_mk (Below.trod laidOut (by kernel_rfl) (of_decide_eq_true (by kernel_rfl)) k0 bel lt0) (trodAll_cons_mk (Below.trod laidOut (by kernel_rfl) (of_decide_eq_true (by kernel_rfl)) k1 bel lt1) (trodAll_cons_mk (shut_int Try.underlying3 w2) (trodAll_cons_mk (Below.trod laidOut (by kernel_rfl) (of_decide_eq_true (by kernel_rfl)) k3 bel lt3) (trodAll_cons_mk (Below.trod laidOut (by kernel_rfl) (of_decide_eq_true (by kernel_rfl)) k4 bel lt4) trodAll_mk0))))), rfl, bel.frame _, fun h => by cases h⟩

theorem closed : joinedFacts Try.pinned.checked.prog 6 Try.f6 Rows.lensDepthsSpec Rows.lensDepthsRow = true :=
  (restOf Try.pinned.checked.prog 6 Try.f6 Rows.lensDepthsSpec Rows.lensDepthsRow make_eq mayEnter_eq liftsFinal_eq).2 (by kernel_rfl)
theorem over : Rows.lensDepthsRow.holds Try.pinned (OpenSpec.ofChange Rows.lensDepthsSpec) :=
  OpenClaim.holds_of_wide 6 Try.f6 rfl rfl rfl rfl rfl rfl rfl ⟨rfl, rfl, rfl, rfl, rfl⟩ rfl rfl rfl rfl rfl (by kernel_rfl) Try.func6 closed
    (of_decide_eq_true (by kernel_rfl)) (by unfold Func.isWrapper; first | (rw [if_pos (by decide +kernel)]; kernel_rfl) | (rw [if_neg (by decide +kernel)]; exact ⟨rfl, rfl⟩))
    (fun os started H enc _ => lifted os started H enc)

theorem proved : Rows.LensDepthsSaid := over
#print axioms proved
end Go.Proofs.Ytanhmmiifbhcpaa.LensDepthsDone
