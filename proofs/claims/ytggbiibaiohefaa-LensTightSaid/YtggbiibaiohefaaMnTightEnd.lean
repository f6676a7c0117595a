/- LensTight holds for every input: a view that is added contradicts exactly if its places do not meet the range of its tangent, and else the new range is what they have in common. No conditions. -/
import Derived.Test.YtggbiibaiohefaaMnPvA
import Derived.Test.YtggbiibaiohefaaMnAm2
import Derived.Test.YtggbiibaiohefaaMnLvB
import Derived.Test.YtggbiibaiohefaaMnEa
import Derived.Test.YtggbiibaiohefaaEvZ
import Derived.Test.YtggbiibaiohefaaEvZa
import Derived.Test.YtggbiibaiohefaaMnIniA
import Derived.Test.YtggbiibaiohefaaRows
import Derived.WalkKit
import Derived.ProofKit
import Derived.OpenShut
import Derived.ChangeOld
import Derived.Below
set_option maxRecDepth 100000
set_option maxHeartbeats 0
set_option linter.unusedVariables false
set_option linter.unusedSimpArgs false
namespace Go.Proofs.Try.My
open Go Go.Ev

theorem lkOut (l : List SpT) (v1 v2 v3 v4 : Int) (h : 11 < l.length) : PC Try.prog 5 [vws l, sp ((v1, v2), (v3, v4))] (.bool true) := by
  have al := pc_alive4
  refine pc_of_body hm Try.func5 (by kernel_rfl) ?_
  conv => whnf
  (repeat' (first | (refine ⟨_, by first | with_reducible exact al, ?_⟩; (conv => whnf)) | (refine Or.inl ?_; (conv => whnf); refine ⟨_, by first | with_reducible exact al, ?_⟩; (conv => whnf)) | (refine Or.inl ?_; (conv => whnf); refine ⟨false, ?_⟩; (conv => whnf); refine ⟨_, by first | with_reducible exact al, ?_⟩; (conv => whnf)) | (refine ⟨by kernel_rfl, ?_⟩; (conv => whnf)) | (refine ⟨fun _ => ?_, fun h => absurd h (by first | decide | (simp; done) | fail)⟩; (conv => whnf)) | (refine ⟨fun h => absurd h (by first | decide | (simp; done) | fail), fun _ => ?_⟩; (conv => whnf)) | ((with_reducible refine And.intro (a := _ = true → _) (b := _ = false → _) (fun hh => ?_) (fun hh => ?_)) <;> (try simp only [decide_eq_true_eq, decide_eq_false_iff_not, Bool.or_eq_true, Bool.and_eq_true, Bool.or_eq_false_iff, Bool.and_eq_false_iff, Bool.not_eq_true', Bool.not_eq_false', ge_iff_le, gt_iff_lt] at hh) <;> (first | (exfalso; omega) | (conv => whnf))) | fail))
  all_goals (first | rfl | (exfalso; omega))
theorem lkErr (l : List SpT) (v1 v2 v3 v4 e : Int) (R : SpT) (hl : l.length ≤ 11) (he : e ≠ 0) (k0 : PC Try.prog 15 [vws l, i64 v1, i64 v2] (.tup [sp R, i64 e])) : PC Try.prog 5 [vws l, sp ((v1, v2), (v3, v4))] (.bool true) := by
  have al := pc_alive4
  refine pc_of_body hm Try.func5 (by kernel_rfl) ?_
  conv => whnf
  (repeat' (first | (refine ⟨_, by first | with_reducible exact al | with_reducible exact k0, ?_⟩; (conv => whnf)) | (refine Or.inl ?_; (conv => whnf); refine ⟨_, by first | with_reducible exact al | with_reducible exact k0, ?_⟩; (conv => whnf)) | (refine Or.inl ?_; (conv => whnf); refine ⟨false, ?_⟩; (conv => whnf); refine ⟨_, by first | with_reducible exact al | with_reducible exact k0, ?_⟩; (conv => whnf)) | (refine ⟨by kernel_rfl, ?_⟩; (conv => whnf)) | (refine ⟨fun _ => ?_, fun h => absurd h (by first | decide | (simp; done) | fail)⟩; (conv => whnf)) | (refine ⟨fun h => absurd h (by first | decide | (simp; done) | fail), fun _ => ?_⟩; (conv => whnf)) | ((with_reducible refine And.intro (a := _ = true → _) (b := _ = false → _) (fun hh => ?_) (fun hh => ?_)) <;> (try simp only [decide_eq_true_eq, decide_eq_false_iff_not, Bool.or_eq_true, Bool.and_eq_true, Bool.or_eq_false_iff, Bool.and_eq_false_iff, Bool.not_eq_true', Bool.not_eq_false', ge_iff_le, gt_iff_lt] at hh) <;> (first | (exfalso; omega) | (conv => whnf))) | fail))
  all_goals (first | rfl | (exfalso; omega))
theorem lkBad (l : List SpT) (v1 v2 v3 v4 e : Int) (R : SpT) (hl : l.length ≤ 11) (he : e ≠ 0) (k0 : PC Try.prog 15 [vws l, i64 v1, i64 v2] (.tup [sp R, i64 0])) (kv : PC Try.prog 17 [.slc 4 [[i64 v1, i64 v2, i64 v3, i64 v4]]] (i64 e)) :
    PC Try.prog 5 [vws l, sp ((v1, v2), (v3, v4))] (.bool true) := by
  have al := pc_alive4
  refine pc_of_body hm Try.func5 (by kernel_rfl) ?_
  conv => whnf
  (repeat' (first | (refine ⟨_, by first | exact al | exact k0 | exact kv, ?_⟩; (conv => whnf)) | (refine Or.inl ?_; (conv => whnf); refine ⟨_, by first | exact al | exact k0 | exact kv, ?_⟩; (conv => whnf)) | (refine Or.inl ?_; (conv => whnf); refine ⟨false, ?_⟩; (conv => whnf); refine ⟨_, by first | exact al | exact k0 | exact kv, ?_⟩; (conv => whnf)) | (refine ⟨by kernel_rfl, ?_⟩; (conv => whnf)) | (refine ⟨fun _ => ?_, fun h => absurd h (by first | decide | (simp; done) | fail)⟩; (conv => whnf)) | (refine ⟨fun h => absurd h (by first | decide | (simp; done) | fail), fun _ => ?_⟩; (conv => whnf)) | ((with_reducible refine And.intro (a := _ = true → _) (b := _ = false → _) (fun hh => ?_) (fun hh => ?_)) <;> (try simp only [decide_eq_true_eq, decide_eq_false_iff_not, Bool.or_eq_true, Bool.and_eq_true, Bool.or_eq_false_iff, Bool.and_eq_false_iff, Bool.not_eq_true', Bool.not_eq_false', ge_iff_le, gt_iff_lt] at hh) <;> (first | (exfalso; omega) | (conv => whnf))) | fail))
  all_goals (first | rfl | (exfalso; omega))
theorem lkOk (l : List SpT) (v1 v2 v3 v4 n g h : Int) (R1 R2 R3 R4 M1 M2 M3 M4 : Int) (S : SpT) (hl : l.length ≤ 11) (hcase : (n = (l.length : Int) ∧ g = 6 ∧ h = 6) ∨ (n = -1 ∧ g = 0 ∧ h = 0 ∧ S = ((M1, M2), (M3, M4)))) (k0 : PC Try.prog 15 [vws l, i64 v1, i64 v2] (.tup [sp ((R1, R2), (R3, R4)), i64 0])) (kv : PC Try.prog 17 [.slc 4 [[i64 v1, i64 v2, i64 v3, i64 v4]]] (i64 0))
    (kf : PC Try.prog 11 [vws (l ++ [((v1, v2), (v3, v4))])] (.tup [i64 n, i64 0])) (ks : PC Try.prog 27 [i64 v3, i64 v4] (sp ((v3, 1), (v4, 1)))) (km : PC Try.prog 26 [sp ((R1, R2), (R3, R4)), sp ((v3, 1), (v4, 1))] (.tup [sp ((M1, M2), (M3, M4)), i64 g]))
    (kr : PC Try.prog 15 [vws (l ++ [((v1, v2), (v3, v4))]), i64 v1, i64 v2] (.tup [sp S, i64 h])) : PC Try.prog 5 [vws l, sp ((v1, v2), (v3, v4))] (.bool true) := by
  have al := pc_alive4
  refine pc_of_body hm Try.func5 (by kernel_rfl) ?_
  conv => whnf
  (repeat' (first | (refine ⟨_, by first | exact al | exact k0 | exact kv, ?_⟩; (conv => whnf)) | (refine Or.inl ?_; (conv => whnf); refine ⟨_, by first | exact al | exact k0 | exact kv, ?_⟩; (conv => whnf)) | (refine Or.inl ?_; (conv => whnf); refine ⟨false, ?_⟩; (conv => whnf); refine ⟨_, by first | exact al | exact k0 | exact kv, ?_⟩; (conv => whnf)) | (refine ⟨by kernel_rfl, ?_⟩; (conv => whnf)) | (refine ⟨fun _ => ?_, fun h => absurd h (by first | decide | (simp; done) | fail)⟩; (conv => whnf)) | (refine ⟨fun h => absurd h (by first | decide | (simp; done) | fail), fun _ => ?_⟩; (conv => whnf)) | ((with_reducible refine And.intro (a := _ = true → _) (b := _ = false → _) (fun hh => ?_) (fun hh => ?_)) <;> (try simp only [decide_eq_true_eq, decide_eq_false_iff_not, Bool.or_eq_true, Bool.and_eq_true, Bool.or_eq_false_iff, Bool.and_eq_false_iff, Bool.not_eq_true', Bool.not_eq_false', ge_iff_le, gt_iff_lt] at hh) <;> (first | (exfalso; omega) | (conv => whnf))) | fail))
  refine ⟨⟨SpT, 4, z4, eS, []⟩, l, rfl, ⟨rfl, rfl⟩, rfl, ?_, ?_, fun y _ => ⟨rfl, rfl, rfl⟩, ?_⟩
  · show (0 + l.length) * 32 ≤ _; omega
  · show 0 + l.length ≤ _; omega
  (conv => whnf)
  (repeat' (first | (refine ⟨by kernel_rfl, ?_⟩; (conv => whnf)) | fail))
  refine ⟨⟨SpT, 4, z4, eS, l⟩, [((v1, v2), (v3, v4))], rfl, rfl, ⟨rfl, rfl⟩, ?_, ?_, fun y _ => ⟨rfl, rfl, rfl⟩, ?_⟩
  · show (l.length + 1) * 32 ≤ _; omega
  · show l.length + 1 ≤ _; omega
  (conv => whnf)
  rcases hcase with ⟨rfl, rfl, rfl⟩ | ⟨rfl, rfl, rfl, rfl⟩
  · (repeat' (first | (refine ⟨_, by first | with_reducible exact kf | with_reducible exact ks | with_reducible exact km | with_reducible exact kr, ?_⟩; (conv => whnf)) | (refine Or.inl ?_; (conv => whnf); refine ⟨_, by first | with_reducible exact kf | with_reducible exact ks | with_reducible exact km | with_reducible exact kr, ?_⟩; (conv => whnf)) | (refine Or.inl ?_; (conv => whnf); refine ⟨false, ?_⟩; (conv => whnf); refine ⟨_, by first | with_reducible exact kf | with_reducible exact ks | with_reducible exact km | with_reducible exact kr, ?_⟩; (conv => whnf)) | (refine ⟨by kernel_rfl, ?_⟩; (conv => whnf)) | (refine ⟨fun _ => ?_, fun h => absurd h (by first | decide | (simp; done) | fail)⟩; (conv => whnf)) | (refine ⟨fun h => absurd h (by first | decide | (simp; done) | fail), fun _ => ?_⟩; (conv => whnf)) | fail))
    all_goals (first | rfl | (simp; done) | set_option pp.maxSteps 300 in trace_state)
  · (repeat' (first | (refine ⟨_, by first | with_reducible exact kf | with_reducible exact ks | with_reducible exact km | with_reducible exact kr, ?_⟩; (conv => whnf)) | (refine Or.inl ?_; (conv => whnf); refine ⟨_, by first | with_reducible exact kf | with_reducible exact ks | with_reducible exact km | with_reducible exact kr, ?_⟩; (conv => whnf)) | (refine Or.inl ?_; (conv => whnf); refine ⟨false, ?_⟩; (conv => whnf); refine ⟨_, by first | with_reducible exact kf | with_reducible exact ks | with_reducible exact km | with_reducible exact kr, ?_⟩; (conv => whnf)) | (refine ⟨by kernel_rfl, ?_⟩; (conv => whnf)) | (refine ⟨fun _ => ?_, fun h => absurd h (by first | decide | (simp; done) | fail)⟩; (conv => whnf)) | (refine ⟨fun h => absurd h (by first | decide | (simp; done) | fail), fun _ => ?_⟩; (conv => whnf)) | fail))
    all_goals (first | rfl | (simp; done) | set_option pp.maxSteps 300 in trace_state)
theorem pc_LensTight (l : List SpT) (v : SpT) : PC Try.prog 5 [vws l, sp v] (.bool true) := by
  obtain ⟨⟨v1, v2⟩, ⟨v3, v4⟩⟩ := v
  by_cases ho : 11 < l.length
  · exact lkOut l _ _ _ _ ho
  have hl : l.length ≤ 11 := by omega
  have k0 := pc_Range l v1 v2 (by omega)
  by_cases he : (ranF l v1 v2).2 = 0
  rotate_left
  · exact lkErr l _ _ _ _ _ _ hl he k0
  have kv : PC Try.prog 17 [.slc 4 [[i64 v1, i64 v2, i64 v3, i64 v4]]] (i64 (viewsE [((v1, v2), (v3, v4))])) :=
    PC.last (args := []) (pc_CheckViews [((v1, v2), (v3, v4))] (by simp)) (Sub.slc 4 z4 eS [((v1, v2), (v3, v4))])
  rw [he] at k0
  by_cases hv : viewB ((v1, v2), (v3, v4)) = true
  rotate_left
  · refine lkBad l _ _ _ _ _ _ hl ?_ k0 kv
    rw [viewsE_bad (l := [((v1, v2), (v3, v4))]) (i := 0) (by simp) (by simp) (by simpa using hv)]
    decide
  rw [viewsE_of (l := [((v1, v2), (v3, v4))]) (by simp) (fun w hw => by rw [List.mem_singleton.1 hw]; exact hv)] at kv
  obtain ⟨hE, hs, hc⟩ := tight_law (l := l) (v := ((v1, v2), (v3, v4))) hl hv he
  have kf := pc_FirstBad (l ++ [((v1, v2), (v3, v4))]) (by rw [List.length_append]; simp; omega)
  rw [show badF (l ++ [((v1, v2), (v3, v4))]) = (badI (l ++ [((v1, v2), (v3, v4))]), 0) by unfold badF; rw [if_pos hE]] at kf
  have km := pc_Meet (ranF l v1 v2).1 ((v3, 1), (v4, 1))
  have kr := pc_Range (l ++ [((v1, v2), (v3, v4))]) v1 v2 (by rw [List.length_append]; simp; omega)
  refine lkOk l v1 v2 v3 v4 _ _ _ _ _ _ _ _ _ _ _ _ hl ?_ k0 kv kf (pc_span4 v3 v4) km kr
  rcases hc with ⟨h1, h2, h3⟩ | ⟨h1, h2, h3⟩
  · left
    simp only [] at h2 h3
    exact ⟨h1, h3, by rw [h2]⟩
  · right
    simp only [] at h2 h3
    exact ⟨h1, h2, by rw [h3]; exact h2, by rw [h3]⟩
end Go.Proofs.Try.My
set_option maxRecDepth 100000
set_option maxHeartbeats 0
set_option linter.unusedVariables false
set_option linter.unusedSimpArgs false
namespace Go.Proofs.Ytggbiibaiohefaa.LensTightDone
open Go Go.Ev Go.Proofs.Try.My
open Go.ChangeShapes Go.WideShapes Go.ChangeAt Go.RowKit

theorem own : ownKnob Try.prog.godebug = none := by kernel_rfl
theorem laidOut : laidOutB Try.prog = true := by kernel_rfl

theorem dView0 : Dec Try.prog 43 (fun y : (((Int × Int) × Int) × Int) => [i64 y.1.1.1, i64 y.1.1.2, i64 y.1.2, i64 y.2]) (fun y => ((I64 y.1.1.1 ∧ I64 y.1.1.2) ∧ I64 y.1.2) ∧ I64 y.2) :=
  dec_all Try.underlying43 rfl (by kernel_rfl)
    (dec_more (k := 3) Try.underlying43 rfl (by kernel_rfl) (dec_more (k := 2) Try.underlying43 rfl (by kernel_rfl) (dec_more (k := 1) Try.underlying43 rfl (by kernel_rfl)
      (dec_one Try.underlying43 rfl (by kernel_rfl) (dec_int Try.underlying3 (by kernel_rfl))) (dec_int Try.underlying3 (by kernel_rfl)) (fun _ => by kernel_rfl)) (dec_int Try.underlying3 (by kernel_rfl)) (fun _ => by kernel_rfl)) (dec_int Try.underlying3 (by kernel_rfl)) (fun _ => by kernel_rfl))
theorem dView : Dec Try.prog 43 eS (fun y : SpT => (I64 y.1.1 ∧ I64 y.1.2) ∧ (I64 y.2.1 ∧ I64 y.2.2)) := by
  intro H enc w base spare held fuel cs x h
  obtain ⟨⟨⟨⟨a, b⟩, c⟩, d⟩, ⟨⟨⟨q1, q2⟩, q3⟩, q4⟩, l, r⟩ := dView0 h
  exact ⟨((a, b), (c, d)), ⟨⟨q1, q2⟩, q3, q4⟩, l, r⟩
theorem walk (w : World) (l : List (SpT)) (g0 : ∀ n ∈ l, (I64 n.1.1 ∧ I64 n.1.2) ∧ (I64 n.2.1 ∧ I64 n.2.2)) (v0 : Value) (h0 : RepI (fun b => b < w.heap.size) w (.sl (Try.prog.cellsOf 43) ((0, 0), (0, 0)) eS l) v0) (v : SpT) (f1 : (I64 v.1.1 ∧ I64 v.1.2) ∧ (I64 v.2.1 ∧ I64 v.2.2)) (v1 : Value) (h1 : RepI (fun b => b < w.heap.size) w (.agg (eS v)) v1) :
    Calls Try.prog 5 #[v0, v1] w fun e w' => e = .returned (.bool true) ∧ Below w.heap.size w w' := by
  refine PC.callsTrue (pc_LensTight l v ) Try.func5 (by kernel_rfl) rfl rfl fun i hi => ?_
  match i, hi with
  | 0, _ => have e : Try.prog.cellsOf 43 = 4 := (by kernel_rfl); rw [e] at h0; exact h0
  | 1, _ => exact h1

theorem lifted (os : Os) (started : os.Started) (H : Type) (enc : TypeId × Value → H) :
    ReturnsInHanded {} Try.checked os 5 .any (Rows.lensTightSpec.pre6 enc Try.prog Try.f5 Rows.lensTightRow.domain false) (Rows.lensTightSpec.post enc Try.prog Try.f5 false true false false) := by
  refine returnsInHanded_of_change (C := Try.checked) own started (by kernel_rfl) Try.func5
    (ChangeSpec.witness6 (enc := enc) (C := Try.checked) false ⟨#[], #[.slice none 0 0, .agg #[.int .i64 0, .int .i64 0, .int .i64 0, .int .i64 0]], []⟩ 8 (by kernel_rfl) (by kernel_rfl) (by kernel_rfl) (by kernel_rfl)) ?_
  intro W base args ds gs before hval0 hW hcnd _
  have hval : ∀ (j : Nat) t v, Try.f5.params[j]? = some t → args[j]? = some v → Value.okWide Try.prog W .any base t v := hval0
  have hW' := hW
  obtain ⟨p, q, hA0, hV, rfl, hfz, hnd⟩ := hW
  have hA : DataW.TrodAll enc Try.prog W 0 (fun _ => true) true Try.f5.params.toList args.toList ds p := hA0
  rw [Try.params5] at hA hval
  obtain ⟨v0, vs0, d0, ds0, p0, q0, hargs, rfl, rfl, h0, r0⟩ := trodAll_cons hA
  obtain ⟨v1, vs1, d1, ds1, p1, q1, rfl, rfl, rfl, h1, r1⟩ := trodAll_cons r0
  obtain ⟨rfl, rfl, rfl⟩ := trodAll_nil r1
  obtain rfl : args = #[v0, v1] := by cases args; simp_all
  obtain ⟨rfl, rfl⟩ := trodVars_none hV
  obtain ⟨a0, len0, cap0, rfl⟩ := okWide_slice Try.underlying22 (hval 0 22 v0 rfl rfl)
  have k0 := h0
  have lt0 : ∀ x ∈ p0, x.block < W.heap.size := by obtain ⟨m, hm⟩ := k0; exact DataW.trod_lt m _ _ _ hm
  obtain ⟨fuel0, hf0⟩ := h0
  obtain ⟨l0, i0, g0, n0⟩ := repI_slice (d := ((0, 0), (0, 0))) Try.underlying22 dView (hval 0 22 _ rfl rfl) hf0
  have k1 := h1
  have lt1 : ∀ x ∈ p1, x.block < W.heap.size := by obtain ⟨m, hm⟩ := k1; exact DataW.trod_lt m _ _ _ hm
  obtain ⟨a1, fa1, ra1⟩ := repI_struct Try.underlying43 dView (fun _ => by kernel_rfl) (hval 1 43 v1 rfl rfl) h1
  clear hA0 hval0
  refine (walk W l0 g0 _ i0 a1 fa1 _ (ra1 _ _)).mono fun e W' ⟨he, bel⟩ => ?_
  subst he
  exact ⟨_, rfl, _, _, _, [], _, [], hW', trodAll_mk1 (shut_bool Try.underlying4 _), (trodAll_cons_mk (Below.trod laidOut (by kernel_rfl) (of_decide_eq_true (by kernel_rfl)) k0 bel lt0) (trodAll_cons_mk (Below.trod laidOut (by kernel_rfl) (of_decide_eq_true (by kernel_rfl)) k1 bel lt1) trodAll_mk0)), rfl, bel.frame _, fun h => by cases h⟩

theorem closed : joinedFacts Try.pinned.checked.prog 5 Try.f5 Rows.lensTightSpec Rows.lensTightRow = true :=
  (restOf Try.pinned.checked.prog 5 Try.f5 Rows.lensTightSpec Rows.lensTightRow make_eq mayEnter_eq liftsFinal_eq).2 (by kernel_rfl)
theorem over : Rows.lensTightRow.holds Try.pinned (OpenSpec.ofChange Rows.lensTightSpec) :=
  OpenClaim.holds_of_wide 5 Try.f5 rfl rfl rfl rfl rfl rfl rfl ⟨rfl, rfl, rfl, rfl, rfl⟩ rfl rfl rfl rfl rfl (by kernel_rfl) Try.func5 closed
    (of_decide_eq_true (by kernel_rfl)) (by unfold Func.isWrapper; first | (rw [if_pos (by decide +kernel)]; kernel_rfl) | (rw [if_neg (by decide +kernel)]; exact ⟨rfl, rfl⟩))
    (fun os started H enc _ => lifted os started H enc)

theorem proved : Rows.LensTightSaid := over
#print axioms proved
end Go.Proofs.Ytggbiibaiohefaa.LensTightDone
