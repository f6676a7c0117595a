/- GaugeMirror: a profile in reverse order. -/
import Derived.Test.YtjkoeomndepolaaMyMr1
import Derived.Test.YtjkoeomndepolaaEvZ
import Derived.Test.YtjkoeomndepolaaEvZa
import Derived.Test.YtjkoeomndepolaaMyIniA
import Derived.Test.YtjkoeomndepolaaRows
import Derived.WalkKit
import Derived.ProofKit
import Derived.OpenShut
import Derived.ChangeOld
import Derived.Below
set_option maxRecDepth 100000
set_option maxHeartbeats 0
set_option linter.unusedVariables false
set_option linter.unusedSimpArgs false
namespace Go.Proofs.Try.My
open Go Go.Ev

theorem sub_is {E x y : Int × Int} (hE : validB E = true) (hx : validB x = true) (hy : validB y = true) (h : qv y = qv E - qv x) : subF E x = (y, 0) :=
  (subF_fits hE hx).unique (.inl ⟨hy, rfl, h⟩)
theorem sub_is' {E x y : Int × Int} (hE : validB E = true) (hx : validB x = true) (hy : validB y = true) (h : qv y = qv E - qv x) : bothF subF E x = (y, 0) := by
  unfold bothF
  rw [hE, hx]
  exact sub_is hE hx hy h
theorem pc_GaugeMirror (p : List Int) (thr a : Int) (hat : I64 a) (noise : Int) : PC Try.prog 9 [ints p, i64 thr, i64 a, i64 noise] (.bool true) := by
  by_cases hl : p.length ≤ 64
  rotate_left
  · exact mrOut p thr a noise hl
  have hl2 : p.length < 2 ^ 40 := by omega
  have hlr : p.reverse.length < 2 ^ 40 := by rw [List.length_reverse]; exact hl2
  have rv := pc_reversed p (by omega)
  have f1 := pc_gFirst p thr a hl2
  have f2 := pc_gLast p.reverse thr (toM p.length a) hlr
  have r1 := pc_gRise p thr a noise hl2
  have r2 := pc_gFall p.reverse thr (toM p.length a) noise hlr
  have w1 := pc_gWidth p thr noise hl2
  have w2 := pc_gWidth p.reverse thr noise hlr
  rw [wid_rev] at w2
  have e1 : IntKind.i64.wrap ((p.length : Int) - 1) = (p.length : Int) - 1 := w64 _ (by omega) (by omega)
  have fe := pc_frac (IntKind.i64.wrap ((p.length : Int) - 1)) 1 (by rw [e1]; unfold I64; omega) (by unfold I64; omega)
  have hE : (makeF (IntKind.i64.wrap ((p.length : Int) - 1)) 1).1 = ((p.length : Int) - 1, 1) := by rw [e1, makeF_one (by omega) (by omega)]
  rw [hE] at fe
  have vE : validB ((p.length : Int) - 1, 1) = true := valid_one (by omega) (by omega)
  have qE : qv ((p.length : Int) - 1, 1) = (((p.length : Int) - 1 : Int) : Rat) := qv_one _
  by_cases ha : 0 ≤ a ∧ a < p.length
  · have hto : toM p.length a = (p.length : Int) - 1 - a := by unfold toM; rw [e1, w64 _ (by omega) (by omega)]
    obtain ⟨g1, g2⟩ := @fir_rev p thr a 1 (.inl rfl)
    obtain ⟨h1, h2⟩ := @edg_rev p thr a noise 1 (.inl rfl)
    rw [← hto] at g1 g2 h1 h2
    rw [← g1] at f1
    rw [← h1] at r1
    rw [← g1] at g2
    rw [← h1] at h2
    have z1 := pc_Sub ((p.length : Int) - 1, 1) (firF p thr a 1).1
    have z2 := pc_Sub ((p.length : Int) - 1, 1) (edgF p thr a noise 1).1.2
    have z3 := pc_Sub ((p.length : Int) - 1, 1) (edgF p thr a noise 1).1.1
    by_cases he : (firF p.reverse thr (toM p.length a) (-1)).2 = 0
    · obtain ⟨v1, v2, q1⟩ := g2 he
      rw [sub_is' vE v1 v2 (by rw [qE]; exact q1)] at z1
      rw [he] at f1 f2
      by_cases hg : (edgF p.reverse thr (toM p.length a) noise (-1)).2 = 0
      · obtain ⟨s1, s2, q2, q3⟩ := h2 hg
        obtain ⟨s11, s12, _⟩ := spanB_qv.1 s1
        obtain ⟨s21, s22, _⟩ := spanB_qv.1 s2
        rw [sub_is' vE s12 s21 (by rw [qE]; exact q2)] at z2
        rw [sub_is' vE s11 s22 (by rw [qE]; exact q3)] at z3
        rw [hg] at r1 r2
        exact mr00 p _ thr a noise _ 0 0 0 _ _ (0, 0) _ _ _ _ _ (0, 0) (0, 0) _ hl rv f1 f2 r1 r2 w1 w2 fe z1 z2 z3
      · exact mr01 p _ thr a noise _ 0 _ _ _ _ (0, 0) _ _ _ _ _ _ _ _ _ hg hl rv f1 f2 r1 r2 w1 w2 fe z1 z2 z3
    · by_cases hg : (edgF p.reverse thr (toM p.length a) noise (-1)).2 = 0
      · obtain ⟨s1, s2, q2, q3⟩ := h2 hg
        obtain ⟨s11, s12, _⟩ := spanB_qv.1 s1
        obtain ⟨s21, s22, _⟩ := spanB_qv.1 s2
        rw [sub_is' vE s12 s21 (by rw [qE]; exact q2)] at z2
        rw [sub_is' vE s11 s22 (by rw [qE]; exact q3)] at z3
        rw [hg] at r1 r2
        exact mr10 p _ thr a noise _ _ 0 0 _ _ _ _ _ _ _ _ (0, 0) (0, 0) _ _ he hl rv f1 f2 r1 r2 w1 w2 fe z1 z2 z3
      · exact mr11 p _ thr a noise _ _ _ _ _ _ _ _ _ _ _ _ _ _ _ _ he _ hg hl rv f1 f2 r1 r2 w1 w2 fe z1 z2 z3
  · have hto : ¬ (0 ≤ toM p.length a ∧ toM p.length a < p.length) := by
      unfold toM
      unfold I64 at hat
      rw [e1, IntKind.wrap_i64]
      omega
    have q1 : ∀ n, askE p thr a n = false := fun n => Bool.eq_false_iff.2 fun h => ha (by have := ask_known h; omega)
    have q2 : ∀ n, askE p.reverse thr (toM p.length a) n = false := fun n => Bool.eq_false_iff.2 fun h => hto (by have := ask_known h; rw [List.length_reverse] at this; omega)
    have c1 : firF p thr a 1 = ((0, 0), if profB p then 2 else 50) := by unfold firF; rw [q1]; cases profB p <;> rfl
    have c2 : firF p.reverse thr (toM p.length a) (-1) = ((0, 0), if profB p then 2 else 50) := by unfold firF; rw [q2, prof_rev]; cases profB p <;> rfl
    have c3 : edgF p thr a noise 1 = (zS, if profB p then 2 else 50) := by unfold edgF; rw [q1]; cases profB p <;> rfl
    have c4 : edgF p.reverse thr (toM p.length a) noise (-1) = (zS, if profB p then 2 else 50) := by unfold edgF; rw [q2, prof_rev]; cases profB p <;> rfl
    rw [c1] at f1
    rw [c2] at f2
    rw [c3] at r1
    rw [c4] at r2
    have hne : (if profB p then (2 : Int) else 50) ≠ 0 := by split <;> decide
    exact mr11 p _ thr a noise _ _ _ _ _ _ _ _ _ _ _ _ _ _ _ _ hne _ hne hl rv f1 f2 r1 r2 w1 w2 fe (pc_Sub _ _) (pc_Sub _ _) (pc_Sub _ _)
end Go.Proofs.Try.My
set_option maxRecDepth 100000
set_option maxHeartbeats 0
set_option linter.unusedVariables false
set_option linter.unusedSimpArgs false
namespace Go.Proofs.Ytjkoeomndepolaa.GaugeMirrorDone
open Go Go.Ev Go.Proofs.Try.My
open Go.ChangeShapes Go.WideShapes Go.ChangeAt Go.RowKit

theorem own : ownKnob Try.prog.godebug = none := by kernel_rfl
theorem laidOut : laidOutB Try.prog = true := by kernel_rfl

theorem walk (w : World) (p : List Int) (v0 : Value) (h0 : RepI (fun b => b < w.heap.size) w (ints p) v0) (thr : Int) (a : Int) (f2 : I64 a) (noise : Int) :
    Calls Try.prog 9 #[v0, .int .i64 thr, .int .i64 a, .int .i64 noise] w fun e w' => e = .returned (.bool true) ∧ Below w.heap.size w w' := by
  refine PC.callsTrue (pc_GaugeMirror p thr a f2 noise) Try.func9 (by kernel_rfl) rfl rfl fun i hi => ?_
  match i, hi with
  | 0, _ => exact h0
  | 1, _ => exact .int _ _
  | 2, _ => exact .int _ _
  | 3, _ => exact .int _ _

theorem lifted (os : Os) (started : os.Started) (H : Type) (enc : TypeId × Value → H) :
    ReturnsInHanded {} Try.checked os 9 .any (Rows.gaugeMirrorSpec.pre6 enc Try.prog Try.f9 Rows.gaugeMirrorRow.domain false) (Rows.gaugeMirrorSpec.post enc Try.prog Try.f9 false true false false) := by
  refine returnsInHanded_of_change (C := Try.checked) own started (by kernel_rfl) Try.func9
    (ChangeSpec.witness6 (enc := enc) (C := Try.checked) false ⟨#[], #[.slice none 0 0, .int .i64 0, .int .i64 0, .int .i64 0], []⟩ 8 (by kernel_rfl) (by kernel_rfl) (by kernel_rfl) (by kernel_rfl)) ?_
  intro W base args ds gs before hval0 hW hcnd _
  have hval : ∀ (j : Nat) t v, Try.f9.params[j]? = some t → args[j]? = some v → Value.okWide Try.prog W .any base t v := hval0
  have hW' := hW
  obtain ⟨p, q, hA0, hV, rfl, hfz, hnd⟩ := hW
  have hA : DataW.TrodAll enc Try.prog W 0 (fun _ => true) true Try.f9.params.toList args.toList ds p := hA0
  rw [Try.params9] at hA hval
  obtain ⟨v0, vs0, d0, ds0, p0, q0, hargs, rfl, rfl, h0, r0⟩ := trodAll_cons hA
  obtain ⟨v1, vs1, d1, ds1, p1, q1, rfl, rfl, rfl, h1, r1⟩ := trodAll_cons r0
  obtain ⟨v2, vs2, d2, ds2, p2, q2, rfl, rfl, rfl, h2, r2⟩ := trodAll_cons r1
  obtain ⟨v3, vs3, d3, ds3, p3, q3, rfl, rfl, rfl, h3, r3⟩ := trodAll_cons r2
  obtain ⟨rfl, rfl, rfl⟩ := trodAll_nil r3
  obtain rfl : args = #[v0, v1, v2, v3] := by cases args; simp_all
  obtain ⟨rfl, rfl⟩ := trodVars_none hV
  obtain ⟨a0, len0, cap0, rfl⟩ := okWide_slice Try.underlying22 (hval 0 22 v0 rfl rfl)
  have k0 := h0
  have lt0 : ∀ x ∈ p0, x.block < W.heap.size := by obtain ⟨m, hm⟩ := k0; exact DataW.trod_lt m _ _ _ hm
  obtain ⟨l0, i0, _, n0⟩ : ∃ l : List Int, RepI (fun b => b < W.heap.size) W (ints l) (.slice a0 len0 cap0) ∧ (∀ n ∈ l, I64 n) ∧ l.length ≤ maxLen := by
    obtain ⟨fuel, hf⟩ := h0
    exact repI_ints Try.underlying22 Try.underlying3 (by kernel_rfl) (hval 0 22 _ rfl rfl) hf
  obtain ⟨a1, rfl, rfl, rfl, w1⟩ := open_int Try.underlying3 (hval 1 3 v1 rfl rfl) h1
  obtain ⟨a2, rfl, rfl, rfl, w2⟩ := open_int Try.underlying3 (hval 2 3 v2 rfl rfl) h2
  obtain ⟨a3, rfl, rfl, rfl, w3⟩ := open_int Try.underlying3 (hval 3 3 v3 rfl rfl) h3
  clear hA0 hval0
  refine (walk W l0 _ i0 a1 a2 (wf_i64 w2) a3).mono fun e W' ⟨he, bel⟩ => ?_
  subst he
  exact ⟨_, rfl, _, _, _, [], _, [], hW', trodAll_mk1 (shut_bool Try.underlying4 _), (trodAll_cons_mk (Below.trod laidOut (by kernel_rfl) (of_decide_eq_true (by kernel_rfl)) k0 bel lt0) (trodAll_cons_mk (shut_int Try.underlying3 w1) (trodAll_cons_mk (shut_int Try.underlying3 w2) (trodAll_cons_mk (shut_int Try.underlying3 w3) trodAll_mk0)))), rfl, bel.frame _, fun h => by cases h⟩

theorem closed : joinedFacts Try.pinned.checked.prog 9 Try.f9 Rows.gaugeMirrorSpec Rows.gaugeMirrorRow = true :=
  (restOf Try.pinned.checked.prog 9 Try.f9 Rows.gaugeMirrorSpec Rows.gaugeMirrorRow make_eq mayEnter_eq liftsFinal_eq).2 (by kernel_rfl)
theorem over : Rows.gaugeMirrorRow.holds Try.pinned (OpenSpec.ofChange Rows.gaugeMirrorSpec) :=
  OpenClaim.holds_of_wide 9 Try.f9 rfl rfl rfl rfl rfl rfl rfl ⟨rfl, rfl, rfl, rfl, rfl⟩ rfl rfl rfl rfl rfl (by kernel_rfl) Try.func9 closed
    (of_decide_eq_true (by kernel_rfl)) (by unfold Func.isWrapper; first | (rw [if_pos (by decide +kernel)]; kernel_rfl) | (rw [if_neg (by decide +kernel)]; exact ⟨rfl, rfl⟩))
    (fun os started H enc _ => lifted os started H enc)

theorem proved : Rows.GaugeMirrorSaid := over
#print axioms proved
end Go.Proofs.Ytjkoeomndepolaa.GaugeMirrorDone
