/- LensSpans holds for every input: corrected spans hold the corrected places of their places. No conditions. -/
import Derived.Test.YtpcipgblegdeeaaMzIv1
import Derived.Test.YtpcipgblegdeeaaEvZ
import Derived.Test.YtpcipgblegdeeaaEvZa
import Derived.Test.YtpcipgblegdeeaaMzIniA
import Derived.Test.YtpcipgblegdeeaaRows
import Derived.WalkKit
import Derived.ProofKit
import Derived.OpenShut
import Derived.ChangeOld
import Derived.Below
set_option maxRecDepth 100000
set_option maxHeartbeats 0
set_option linter.unusedVariables false
set_option linter.unusedSimpArgs false
namespace Go.Proofs.Ytpcipgblegdeeaa.LensSpansDone
open Go Go.Ev Go.Proofs.Try.My
open Go.ChangeShapes Go.WideShapes Go.ChangeAt Go.RowKit

theorem own : ownKnob Try.prog.godebug = none := by kernel_rfl
theorem laidOut : laidOutB Try.prog = true := by kernel_rfl

theorem dKnot : Dec Try.prog 129 eF (fun y : Int × Int => I64 y.1 ∧ I64 y.2) :=
  dec_two Try.underlying129 rfl rfl rfl (by kernel_rfl) (by kernel_rfl) (dec_int Try.underlying3 (by kernel_rfl)) (dec_int Try.underlying3 (by kernel_rfl)) (fun _ => by kernel_rfl)
theorem dFrac : Dec Try.prog 25 eF (fun y : Int × Int => I64 y.1 ∧ I64 y.2) :=
  dec_two Try.underlying25 rfl rfl rfl (by kernel_rfl) (by kernel_rfl) (dec_int Try.underlying3 (by kernel_rfl)) (dec_int Try.underlying3 (by kernel_rfl)) (fun _ => by kernel_rfl)
theorem dSpan : Dec Try.prog 36 eS (fun y : SpT => (I64 y.1.1 ∧ I64 y.1.2) ∧ (I64 y.2.1 ∧ I64 y.2.2)) :=
  dec_two Try.underlying36 rfl rfl rfl (by kernel_rfl) (by kernel_rfl) dFrac dFrac (fun _ => by kernel_rfl)
theorem walk (w : World) (l : List (Int × Int)) (g0 : ∀ n ∈ l, I64 n.1 ∧ I64 n.2) (v0 : Value) (h0 : RepI (fun b => b < w.heap.size) w (.sl (Try.prog.cellsOf 129) (0, 0) eF l) v0) (s : SpT) (f1 : (I64 s.1.1 ∧ I64 s.1.2) ∧ (I64 s.2.1 ∧ I64 s.2.2)) (v1 : Value) (h1 : RepI (fun b => b < w.heap.size) w (.agg (eS s)) v1) (x : Int × Int) (f2 : I64 x.1 ∧ I64 x.2) (v2 : Value) (h2 : RepI (fun b => b < w.heap.size) w (.agg (eF x)) v2) :
    Calls Try.prog 11 #[v0, v1, v2] w fun e w' => e = .returned (.bool true) ∧ Below w.heap.size w w' := by
  refine PC.callsTrue (pc_LensSpans l s  x  f1.1.1 f1.1.2 f1.2.1 f1.2.2 f2.1 f2.2) Try.func11 (by kernel_rfl) rfl rfl fun i hi => ?_
  match i, hi with
  | 0, _ => have e : Try.prog.cellsOf 129 = 2 := (by kernel_rfl); rw [e] at h0; exact h0
  | 1, _ => exact h1
  | 2, _ => exact h2

theorem lifted (os : Os) (started : os.Started) (H : Type) (enc : TypeId × Value → H) :
    ReturnsInHanded {} Try.checked os 11 .any (Rows.lensSpansSpec.pre6 enc Try.prog Try.f11 Rows.lensSpansRow.domain false) (Rows.lensSpansSpec.post enc Try.prog Try.f11 false true false false) := by
  refine returnsInHanded_of_change (C := Try.checked) own started (by kernel_rfl) Try.func11
    (ChangeSpec.witness6 (enc := enc) (C := Try.checked) false ⟨#[], #[.slice none 0 0, .agg #[.int .i64 0, .int .i64 0, .int .i64 0, .int .i64 0], .agg #[.int .i64 0, .int .i64 0]], []⟩ 8 (by kernel_rfl) (by kernel_rfl) (by kernel_rfl) (by kernel_rfl)) ?_
  intro W base args ds gs before hval0 hW hcnd _
  have hval : ∀ (j : Nat) t v, Try.f11.params[j]? = some t → args[j]? = some v → Value.okWide Try.prog W .any base t v := hval0
  have hW' := hW
  obtain ⟨p, q, hA0, hV, rfl, hfz, hnd⟩ := hW
  have hA : DataW.TrodAll enc Try.prog W 0 (fun _ => true) true Try.f11.params.toList args.toList ds p := hA0
  rw [Try.params11] at hA hval
  obtain ⟨v0, vs0, d0, ds0, p0, q0, hargs, rfl, rfl, h0, r0⟩ := trodAll_cons hA
  obtain ⟨v1, vs1, d1, ds1, p1, q1, rfl, rfl, rfl, h1, r1⟩ := trodAll_cons r0
  obtain ⟨v2, vs2, d2, ds2, p2, q2, rfl, rfl, rfl, h2, r2⟩ := trodAll_cons r1
  obtain ⟨rfl, rfl, rfl⟩ := trodAll_nil r2
  obtain rfl : args = #[v0, v1, v2] := by cases args; simp_all
  obtain ⟨rfl, rfl⟩ := trodVars_none hV
  obtain ⟨a0, len0, cap0, rfl⟩ := okWide_slice Try.underlying52 (hval 0 52 v0 rfl rfl)
  have k0 := h0
  have lt0 : ∀ x ∈ p0, x.block < W.heap.size := by obtain ⟨m, hm⟩ := k0; exact DataW.trod_lt m _ _ _ hm
  obtain ⟨fuel0, hf0⟩ := h0
  obtain ⟨l0, i0, g0, n0⟩ := repI_slice (d := (0, 0)) Try.underlying52 dKnot (hval 0 52 _ rfl rfl) hf0
  have k1 := h1
  have lt1 : ∀ x ∈ p1, x.block < W.heap.size := by obtain ⟨m, hm⟩ := k1; exact DataW.trod_lt m _ _ _ hm
  obtain ⟨a1, fa1, ra1⟩ := repI_struct Try.underlying36 dSpan (fun _ => by kernel_rfl) (hval 1 36 v1 rfl rfl) h1
  have k2 := h2
  have lt2 : ∀ x ∈ p2, x.block < W.heap.size := by obtain ⟨m, hm⟩ := k2; exact DataW.trod_lt m _ _ _ hm
  obtain ⟨a2, fa2, ra2⟩ := repI_struct Try.underlying25 dFrac (fun _ => by kernel_rfl) (hval 2 25 v2 rfl rfl) h2
  clear hA0 hval0
  refine (walk W l0 g0 _ i0 a1 fa1 _ (ra1 _ _) a2 fa2 _ (ra2 _ _)).mono fun e W' ⟨he, bel⟩ => ?_
  subst he
  exact ⟨_, rfl, _, _, _, [], _, [], hW', trodAll_mk1 (shut_bool Try.underlying4 _), (trodAll_cons_mk (Below.trod laidOut (by kernel_rfl) (of_decide_eq_true (by kernel_rfl)) k0 bel lt0) (trodAll_cons_mk (Below.trod laidOut (by kernel_rfl) (of_decide_eq_true (by kernel_rfl)) k1 bel lt1) (trodAll_cons_mk (Below.trod laidOut (by kernel_rfl) (of_decide_eq_true (by kernel_rfl)) k2 bel lt2) trodAll_mk0))), rfl, bel.frame _, fun h => by cases h⟩

theorem closed : joinedFacts Try.pinned.checked.prog 11 Try.f11 Rows.lensSpansSpec Rows.lensSpansRow = true :=
  (restOf Try.pinned.checked.prog 11 Try.f11 Rows.lensSpansSpec Rows.lensSpansRow make_eq mayEnter_eq liftsFinal_eq).2 (by kernel_rfl)
theorem over : Rows.lensSpansRow.holds Try.pinned (OpenSpec.ofChange Rows.lensSpansSpec) :=
  OpenClaim.holds_of_wide 11 Try.f11 rfl rfl rfl rfl rfl rfl rfl ⟨rfl, rfl, rfl, rfl, rfl⟩ rfl rfl rfl rfl rfl (by kernel_rfl) Try.func11 closed
    (of_decide_eq_true (by kernel_rfl)) (by unfold Func.isWrapper; first | (rw [if_pos (by decide +kernel)]; kernel_rfl) | (rw [if_neg (by decide +kernel)]; exact ⟨rfl, rfl⟩))
    (fun os started H enc _ => lifted os started H enc)

theorem proved : Rows.LensSpansSaid := over
#print axioms proved
end Go.Proofs.Ytpcipgblegdeeaa.LensSpansDone
