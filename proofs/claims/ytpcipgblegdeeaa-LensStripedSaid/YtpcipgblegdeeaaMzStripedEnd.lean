/- LensStriped holds for every input: the true stripe is among those that are returned, whatever the noise. No conditions. -/
import Derived.Test.YtpcipgblegdeeaaMzLs2
import Derived.Test.YtpcipgblegdeeaaEvZ
import Derived.Test.YtpcipgblegdeeaaEvZa
import Derived.Test.YtpcipgblegdeeaaMzIniA
import Derived.Test.YtpcipgblegdeeaaRows
import Derived.WalkKit
import Derived.ProofKit
import Derived.OpenShut
import Derived.ChangeOld
import Derived.Below
set_option maxRecDepth 100000
set_option maxHeartbeats 0
set_option linter.unusedVariables false
set_option linter.unusedSimpArgs false
namespace Go.Proofs.Ytpcipgblegdeeaa.LensStripedDone
open Go Go.Ev Go.Proofs.Try.My
open Go.ChangeShapes Go.WideShapes Go.ChangeAt Go.RowKit

theorem own : ownKnob Try.prog.godebug = none := by kernel_rfl
theorem laidOut : laidOutB Try.prog = true := by kernel_rfl

theorem walk (w : World) (k : Int) (f0 : (Lit.int .u8 k).wf = true) (ideal : List Int) (g1 : ∀ n ∈ ideal, (Lit.int .u8 n).wf = true) (v1 : Value) (h1 : RepI (fun b => b < w.heap.size) w (.sl (Try.prog.cellsOf 5) 0 (fun n => [.int .u8 n]) ideal) v1) (more : List Int) (g2 : ∀ n ∈ more, (Lit.int .u8 n).wf = true) (v2 : Value) (h2 : RepI (fun b => b < w.heap.size) w (.sl (Try.prog.cellsOf 5) 0 (fun n => [.int .u8 n]) more) v2) (noises : List Int) (g3 : ∀ n ∈ noises, (Lit.int .u8 n).wf = true) (v3 : Value) (h3 : RepI (fun b => b < w.heap.size) w (.sl (Try.prog.cellsOf 5) 0 (fun n => [.int .u8 n]) noises) v3) (N : Int) :
    Calls Try.prog 9 #[.int .u8 k, v1, v2, v3, .int .i64 N] w fun e w' => e = .returned (.bool true) ∧ Below w.heap.size w w' := by
  refine PC.callsTrue (pc_LensStriped k f0 ideal g1 more g2 noises g3 N) Try.func9 (by kernel_rfl) rfl rfl fun i hi => ?_
  match i, hi with
  | 0, _ => exact .int _ _
  | 1, _ => have e : Try.prog.cellsOf 5 = 1 := (by kernel_rfl); rw [e] at h1; exact h1
  | 2, _ => have e : Try.prog.cellsOf 5 = 1 := (by kernel_rfl); rw [e] at h2; exact h2
  | 3, _ => have e : Try.prog.cellsOf 5 = 1 := (by kernel_rfl); rw [e] at h3; exact h3
  | 4, _ => exact .int _ _

theorem lifted (os : Os) (started : os.Started) (H : Type) (enc : TypeId × Value → H) :
    ReturnsInHanded {} Try.checked os 9 .any (Rows.lensStripedSpec.pre6 enc Try.prog Try.f9 Rows.lensStripedRow.domain false) (Rows.lensStripedSpec.post enc Try.prog Try.f9 false true false false) := by
  refine returnsInHanded_of_change (C := Try.checked) own started (by kernel_rfl) Try.func9
    (ChangeSpec.witness6 (enc := enc) (C := Try.checked) false ⟨#[], #[.int .u8 0, .slice none 0 0, .slice none 0 0, .slice none 0 0, .int .i64 0], []⟩ 8 (by kernel_rfl) (by kernel_rfl) (by kernel_rfl) (by kernel_rfl)) ?_
  intro W base args ds gs before hval0 hW hcnd _
  have hval : ∀ (j : Nat) t v, Try.f9.params[j]? = some t → args[j]? = some v → Value.okWide Try.prog W .any base t v := hval0
  have hW' := hW
  obtain ⟨p, q, hA0, hV, rfl, hfz, hnd⟩ := hW
  have hA : DataW.TrodAll enc Try.prog W 0 (fun _ => true) true Try.f9.params.toList args.toList ds p := hA0
  rw [Try.params9] at hA hval
  obtain ⟨v0, vs0, d0, ds0, p0, q0, hargs, rfl, rfl, h0, r0⟩ := trodAll_cons hA
  obtain ⟨v1, vs1, d1, ds1, p1, q1, rfl, rfl, rfl, h1, r1⟩ := trodAll_cons r0
  obtain ⟨v2, vs2, d2, ds2, p2, q2, rfl, rfl, rfl, h2, r2⟩ := trodAll_cons r1
  obtain ⟨v3, vs3, d3, ds3, p3, q3, rfl, rfl, rfl, h3, r3⟩ := trodAll_cons r2
  obtain ⟨v4, vs4, d4, ds4, p4, q4, rfl, rfl, rfl, h4, r4⟩ := trodAll_cons r3
  obtain ⟨rfl, rfl, rfl⟩ := trodAll_nil r4
  obtain rfl : args = #[v0, v1, v2, v3, v4] := by cases args; simp_all
  obtain ⟨rfl, rfl⟩ := trodVars_none hV
  obtain ⟨a0, rfl, rfl, rfl, w0⟩ := open_int Try.underlying5 (hval 0 5 v0 rfl rfl) h0
  obtain ⟨a1, len1, cap1, rfl⟩ := okWide_slice Try.underlying64 (hval 1 64 v1 rfl rfl)
  have k1 := h1
  have lt1 : ∀ x ∈ p1, x.block < W.heap.size := by obtain ⟨m, hm⟩ := k1; exact DataW.trod_lt m _ _ _ hm
  obtain ⟨fuel1, hf1⟩ := h1
  obtain ⟨l1, i1, g1, n1⟩ := repI_slice (d := (0 : Int)) Try.underlying64 (dec_num Try.underlying5 (by kernel_rfl)) (hval 1 64 _ rfl rfl) hf1
  obtain ⟨a2, len2, cap2, rfl⟩ := okWide_slice Try.underlying64 (hval 2 64 v2 rfl rfl)
  have k2 := h2
  have lt2 : ∀ x ∈ p2, x.block < W.heap.size := by obtain ⟨m, hm⟩ := k2; exact DataW.trod_lt m _ _ _ hm
  obtain ⟨fuel2, hf2⟩ := h2
  obtain ⟨l2, i2, g2, n2⟩ := repI_slice (d := (0 : Int)) Try.underlying64 (dec_num Try.underlying5 (by kernel_rfl)) (hval 2 64 _ rfl rfl) hf2
  obtain ⟨a3, len3, cap3, rfl⟩ := okWide_slice Try.underlying64 (hval 3 64 v3 rfl rfl)
  have k3 := h3
  have lt3 : ∀ x ∈ p3, x.block < W.heap.size := by obtain ⟨m, hm⟩ := k3; exact DataW.trod_lt m _ _ _ hm
  obtain ⟨fuel3, hf3⟩ := h3
  obtain ⟨l3, i3, g3, n3⟩ := repI_slice (d := (0 : Int)) Try.underlying64 (dec_num Try.underlying5 (by kernel_rfl)) (hval 3 64 _ rfl rfl) hf3
  obtain ⟨a4, rfl, rfl, rfl, w4⟩ := open_int Try.underlying3 (hval 4 3 v4 rfl rfl) h4
  clear hA0 hval0
  refine (walk W a0 w0 l1 g1 _ i1 l2 g2 _ i2 l3 g3 _ i3 a4).mono fun e W' ⟨he, bel⟩ => ?_
  subst he
  exact ⟨_, rfl, _, _, _, [], _, [], hW', trodAll_mk1 (shut_bool Try.underlying4 _), (trodAll_cons_mk (shut_int Try.underlying5 w0) (trodAll_cons_mk (Below.trod laidOut (by kernel_rfl) (of_decide_eq_true (by kernel_rfl)) k1 bel lt1) (trodAll_cons_mk (Below.trod laidOut (by kernel_rfl) (of_decide_eq_true (by kernel_rfl)) k2 bel lt2) (trodAll_cons_mk (Below.trod laidOut (by kernel_rfl) (of_decide_eq_true (by kernel_rfl)) k3 bel lt3) (trodAll_cons_mk (shut_int Try.underlying3 w4) trodAll_mk0))))), rfl, bel.frame _, fun h => by cases h⟩

theorem closed : joinedFacts Try.pinned.checked.prog 9 Try.f9 Rows.lensStripedSpec Rows.lensStripedRow = true :=
  (restOf Try.pinned.checked.prog 9 Try.f9 Rows.lensStripedSpec Rows.lensStripedRow make_eq mayEnter_eq liftsFinal_eq).2 (by kernel_rfl)
theorem over : Rows.lensStripedRow.holds Try.pinned (OpenSpec.ofChange Rows.lensStripedSpec) :=
  OpenClaim.holds_of_wide 9 Try.f9 rfl rfl rfl rfl rfl rfl rfl ⟨rfl, rfl, rfl, rfl, rfl⟩ rfl rfl rfl rfl rfl (by kernel_rfl) Try.func9 closed
    (of_decide_eq_true (by kernel_rfl)) (by unfold Func.isWrapper; first | (rw [if_pos (by decide +kernel)]; kernel_rfl) | (rw [if_neg (by decide +kernel)]; exact ⟨rfl, rfl⟩))
    (fun os started H enc _ => lifted os started H enc)

theorem proved : Rows.LensStripedSaid := over
#print axioms proved
end Go.Proofs.Ytpcipgblegdeeaa.LensStripedDone
