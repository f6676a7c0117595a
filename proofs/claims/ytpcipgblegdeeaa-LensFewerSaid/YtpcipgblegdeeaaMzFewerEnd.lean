/- LensFewer holds for every input: without one of its views, views that have a camera have wider spans or are loose, and in reverse order they have the same camera. No conditions. -/
import Derived.Test.YtpcipgblegdeeaaMzPvA
import Derived.Test.YtpcipgblegdeeaaMzAm2
import Derived.Test.YtpcipgblegdeeaaMzLvB
import Derived.Test.YtpcipgblegdeeaaMzLw1
import Derived.Test.YtpcipgblegdeeaaMzLf2a
import Derived.Test.YtpcipgblegdeeaaMzLf2b
import Derived.Test.YtpcipgblegdeeaaMzLf2c
import Derived.Test.YtpcipgblegdeeaaMzLf2d
import Derived.Test.YtpcipgblegdeeaaEvZ
import Derived.Test.YtpcipgblegdeeaaEvZa
import Derived.Test.YtpcipgblegdeeaaMzIniA
import Derived.Test.YtpcipgblegdeeaaRows
import Derived.WalkKit
import Derived.ProofKit
import Derived.OpenShut
import Derived.ChangeOld
import Derived.Below
set_option maxRecDepth 100000
set_option maxHeartbeats 0
set_option linter.unusedVariables false
set_option linter.unusedSimpArgs false
namespace Go.Proofs.Try.My
open Go Go.Ev

theorem lfOut (l : List SpT) (a x z : Int) (h : 12 < l.length ∨ a < 0 ∨ l.length ≤ a) : PC Try.prog 14 [vws l, i64 a, i64 x, i64 z] (.bool true) := by
  have al := pc_alive4
  refine pc_of_body hm Try.func14 (by kernel_rfl) ?_
  conv => whnf
  (repeat' (first | (refine ⟨_, by first | with_reducible exact al, ?_⟩; (conv => whnf)) | (refine Or.inl ?_; (conv => whnf); refine ⟨_, by first | with_reducible exact al, ?_⟩; (conv => whnf)) | (refine Or.inl ?_; (conv => whnf); refine ⟨false, ?_⟩; (conv => whnf); refine ⟨_, by first | with_reducible exact al, ?_⟩; (conv => whnf)) | (refine ⟨by kernel_rfl, ?_⟩; (conv => whnf)) | (refine ⟨fun _ => ?_, fun h => absurd h (by first | decide | (simp; done) | fail)⟩; (conv => whnf)) | (refine ⟨fun h => absurd h (by first | decide | (simp; done) | fail), fun _ => ?_⟩; (conv => whnf)) | ((with_reducible refine And.intro (a := _ = true → _) (b := _ = false → _) (fun hh => ?_) (fun hh => ?_)) <;> (try simp only [decide_eq_true_eq, decide_eq_false_iff_not, Bool.or_eq_true, Bool.and_eq_true, Bool.or_eq_false_iff, Bool.and_eq_false_iff, Bool.not_eq_true', Bool.not_eq_false', ge_iff_le, gt_iff_lt] at hh) <;> (first | (exfalso; omega) | (conv => whnf))) | fail))
  all_goals (first | rfl | (exfalso; omega))
theorem lfErr (l : List SpT) (a x z e f : Int) (K : CamT) (R : SpT) (hl : l.length ≤ 12) (a1 : 0 ≤ a) (a2 : a < l.length) (he : e ≠ 0) (k1 : PC Try.prog 51 [vws l] (.tup [cam K, i64 e])) (k2 : PC Try.prog 49 [vws l, i64 x, i64 z] (.tup [sp R, i64 f])) :
    PC Try.prog 14 [vws l, i64 a, i64 x, i64 z] (.bool true) := by
  have al := pc_alive4
  refine pc_of_body hm Try.func14 (by kernel_rfl) ?_
  conv => whnf
  (repeat' (first | (refine ⟨_, by first | with_reducible exact al | with_reducible exact k1 | with_reducible exact k2, ?_⟩; (conv => whnf)) | (refine Or.inl ?_; (conv => whnf); refine ⟨_, by first | with_reducible exact al | with_reducible exact k1 | with_reducible exact k2, ?_⟩; (conv => whnf)) | (refine Or.inl ?_; (conv => whnf); refine ⟨false, ?_⟩; (conv => whnf); refine ⟨_, by first | with_reducible exact al | with_reducible exact k1 | with_reducible exact k2, ?_⟩; (conv => whnf)) | (refine ⟨by kernel_rfl, ?_⟩; (conv => whnf)) | (refine ⟨fun _ => ?_, fun h => absurd h (by first | decide | (simp; done) | fail)⟩; (conv => whnf)) | (refine ⟨fun h => absurd h (by first | decide | (simp; done) | fail), fun _ => ?_⟩; (conv => whnf)) | ((with_reducible refine And.intro (a := _ = true → _) (b := _ = false → _) (fun hh => ?_) (fun hh => ?_)) <;> (try simp only [decide_eq_true_eq, decide_eq_false_iff_not, Bool.or_eq_true, Bool.and_eq_true, Bool.or_eq_false_iff, Bool.and_eq_false_iff, Bool.not_eq_true', Bool.not_eq_false', ge_iff_le, gt_iff_lt] at hh) <;> (first | (exfalso; omega) | (conv => whnf))) | fail))
  all_goals (first | rfl | (exfalso; omega))
-- gen_fewer: the four cases
theorem lfOk (l L1 L2 : List SpT) (a x z f g h : Int) (K1 K2 K3 K4 K5 K6 K7 K8 R1 R2 R3 R4 C1 C2 C3 C4 C5 C6 C7 C8 S1 S2 S3 S4 : Int) (b1 b2 b3 : Bool) (hl : l.length ≤ 12) (a1 : 0 ≤ a) (a2 : a < l.length)
    (e1 : (l.drop (Int.toNat 0)).take (a - 0).toNat = L1) (e2 : (l.drop (IntKind.i64.wrap (a + 1)).toNat).take ((l.length : Int) - IntKind.i64.wrap (a + 1)).toNat = L2) (hL : L1.length + L2.length ≤ 12)
    (hg : g = 0 ∨ g = 43) (hf : f = 0 ∨ f = 2) (hok : g = 0 → f = 0 → h = 0 ∧ b1 = true ∧ b2 = true ∧ b3 = true)
    (k1 : PC Try.prog 51 [vws l] (.tup [cam (((K1, K2), (K3, K4)), ((K5, K6), (K7, K8))), i64 0])) (k2 : PC Try.prog 49 [vws l, i64 x, i64 z] (.tup [sp ((R1, R2), (R3, R4)), i64 f]))
    (k3 : PC Try.prog 51 [vws (L1 ++ L2)] (.tup [cam (((C1, C2), (C3, C4)), ((C5, C6), (C7, C8))), i64 g])) (k4 : PC Try.prog 49 [vws (L1 ++ L2), i64 x, i64 z] (.tup [sp ((S1, S2), (S3, S4)), i64 h]))
    (k5 : PC Try.prog 51 [vws l.reverse] (.tup [cam (((K1, K2), (K3, K4)), ((K5, K6), (K7, K8))), i64 0]))
    (w1 : PC Try.prog 42 [sp ((K1, K2), (K3, K4)), sp ((C1, C2), (C3, C4))] (.bool b1)) (w2 : PC Try.prog 42 [sp ((K5, K6), (K7, K8)), sp ((C5, C6), (C7, C8))] (.bool b2)) (w3 : PC Try.prog 42 [sp ((R1, R2), (R3, R4)), sp ((S1, S2), (S3, S4))] (.bool b3)) :
    PC Try.prog 14 [vws l, i64 a, i64 x, i64 z] (.bool true) := by
  rcases hf with rfl | rfl
  · rcases hg with rfl | rfl
    · obtain ⟨rfl, rfl, rfl, rfl⟩ := hok rfl rfl
      exact lfOka l L1 L2 a x z _ _ _ _ _ _ _ _ _ _ _ _ _ _ _ _ _ _ _ _ _ _ _ _ hl a1 a2 e1 e2 hL k1 k2 k3 k4 k5 w1 w2 w3
    · exact lfOkb l L1 L2 a x z h _ _ _ _ _ _ _ _ _ _ _ _ _ _ _ _ _ _ _ _ _ _ _ _ b1 b2 b3 hl a1 a2 e1 e2 hL k1 k2 k3 k4 k5 w1 w2 w3
  · rcases hg with rfl | rfl
    · exact lfOkc l L1 L2 a x z h _ _ _ _ _ _ _ _ _ _ _ _ _ _ _ _ _ _ _ _ _ _ _ _ b1 b2 b3 hl a1 a2 e1 e2 hL k1 k2 k3 k4 k5 w1 w2 w3
    · exact lfOkd l L1 L2 a x z h _ _ _ _ _ _ _ _ _ _ _ _ _ _ _ _ _ _ _ _ _ _ _ _ b1 b2 b3 hl a1 a2 e1 e2 hL k1 k2 k3 k4 k5 w1 w2 w3
theorem pc_LensFewer (l : List SpT) (a x z : Int) : PC Try.prog 14 [vws l, i64 a, i64 x, i64 z] (.bool true) := by
  by_cases ho : 12 < l.length ∨ a < 0 ∨ l.length ≤ a
  · exact lfOut l _ _ _ ho
  have hl : l.length ≤ 12 := by omega
  have a1 : 0 ≤ a := by omega
  have a2 : a < l.length := by omega
  have k1 := pc_Calibrate l (by omega)
  have k2 := pc_Range l x z (by omega)
  by_cases he : (calF l).2 = 0
  rotate_left
  · exact lfErr l a x z _ _ _ _ hl a1 a2 he k1 k2
  obtain ⟨L1, e1⟩ : ∃ L1, (l.drop (Int.toNat 0)).take (a - 0).toNat = L1 := ⟨_, rfl⟩
  obtain ⟨L2, e2⟩ : ∃ L2, (l.drop (IntKind.i64.wrap (a + 1)).toNat).take ((l.length : Int) - IntKind.i64.wrap (a + 1)).toNat = L2 := ⟨_, rfl⟩
  have m1 : ∀ v ∈ L1, v ∈ l := fun v hv => by rw [← e1] at hv; exact List.mem_of_mem_drop (List.mem_of_mem_take hv)
  have m2 : ∀ v ∈ L2, v ∈ l := fun v hv => by rw [← e2] at hv; exact List.mem_of_mem_drop (List.mem_of_mem_take hv)
  have wa : IntKind.i64.wrap (a + 1) = a + 1 := w64 _ (by omega) (by omega)
  have hL : L1.length + L2.length ≤ 12 := by
    rw [← e1, ← e2, wa, List.length_take, List.length_take, List.length_drop, List.length_drop]
    show min _ (l.length - 0) + _ ≤ 12
    omega
  have hLL : (L1 ++ L2).length ≤ 12 := by rw [List.length_append]; exact hL
  have mm : ∀ v ∈ L1 ++ L2, v ∈ l := fun v hv => by
    rcases List.mem_append.1 hv with k | k
    · exact m1 v k
    · exact m2 v k
  have k3 := pc_Calibrate (L1 ++ L2) (by omega)
  have k4 := pc_Range (L1 ++ L2) x z (by omega)
  have k5 := pc_Calibrate l.reverse (by rw [List.length_reverse]; omega)
  rw [cal_same (l := l) (m := l.reverse) (by rw [List.length_reverse]; omega) (fun v => (List.mem_reverse).symm) he] at k5
  rw [he] at k1 k5
  have hf : (ranF l x z).2 = 0 ∨ (ranF l x z).2 = 2 := by
    obtain ⟨hE, ⟨f, c, hf⟩, ha, _, _⟩ := cal_ok he
    rw [ran_of hE hf, (foc_span (viewsE_mem hE).2 hf ha).1]
    split <;> simp
  have less := cal_less (l := l) hLL mm he
  refine lfOk l L1 L2 a x z _ _ _ _ _ _ _ _ _ _ _ _ _ _ _ _ _ _ _ _ _ _ _ _ _ _ _ _ _ _ hl a1 a2 e1 e2 hL ?_ hf ?_ k1 k2 k3 k4 k5 (pc_within4 _ _) (pc_within4 _ _) (pc_within4 _ _)
  · rcases less with h | ⟨h, _⟩
    · exact .inr h
    · exact .inl h
  · intro hg hf0
    rcases less with h | ⟨h, h1, h2, h3⟩
    · rw [h] at hg; cases hg
    · have hb : argB x z = true := by
        cases hb : argB x z
        · obtain ⟨hE, ⟨f, c, hf⟩, ha, _, _⟩ := cal_ok he
          rw [ran_of hE hf, hb] at hf0
          simp at hf0
        · rfl
      obtain ⟨_, j1, j2⟩ := h3 x z hb
      exact ⟨j1, h1, h2, j2⟩
end Go.Proofs.Try.My
set_option maxRecDepth 100000
set_option maxHeartbeats 0
set_option linter.unusedVariables false
set_option linter.unusedSimpArgs false
namespace Go.Proofs.Ytpcipgblegdeeaa.LensFewerDone
open Go Go.Ev Go.Proofs.Try.My
open Go.ChangeShapes Go.WideShapes Go.ChangeAt Go.RowKit

theorem own : ownKnob Try.prog.godebug = none := by kernel_rfl
theorem laidOut : laidOutB Try.prog = true := by kernel_rfl

theorem dView0 : Dec Try.prog 85 (fun y : (((Int × Int) × Int) × Int) => [i64 y.1.1.1, i64 y.1.1.2, i64 y.1.2, i64 y.2]) (fun y => ((I64 y.1.1.1 ∧ I64 y.1.1.2) ∧ I64 y.1.2) ∧ I64 y.2) :=
  dec_all Try.underlying85 rfl (by kernel_rfl)
    (dec_more (k := 3) Try.underlying85 rfl (by kernel_rfl) (dec_more (k := 2) Try.underlying85 rfl (by kernel_rfl) (dec_more (k := 1) Try.underlying85 rfl (by kernel_rfl)
      (dec_one Try.underlying85 rfl (by kernel_rfl) (dec_int Try.underlying3 (by kernel_rfl))) (dec_int Try.underlying3 (by kernel_rfl)) (fun _ => by kernel_rfl)) (dec_int Try.underlying3 (by kernel_rfl)) (fun _ => by kernel_rfl)) (dec_int Try.underlying3 (by kernel_rfl)) (fun _ => by kernel_rfl))
theorem dView : Dec Try.prog 85 eS (fun y : SpT => (I64 y.1.1 ∧ I64 y.1.2) ∧ (I64 y.2.1 ∧ I64 y.2.2)) := by
  intro H enc w base spare held fuel cs x h
  obtain ⟨⟨⟨⟨a, b⟩, c⟩, d⟩, ⟨⟨⟨q1, q2⟩, q3⟩, q4⟩, l, r⟩ := dView0 h
  exact ⟨((a, b), (c, d)), ⟨⟨q1, q2⟩, q3, q4⟩, l, r⟩
theorem walk (w : World) (l : List (SpT)) (g0 : ∀ n ∈ l, (I64 n.1.1 ∧ I64 n.1.2) ∧ (I64 n.2.1 ∧ I64 n.2.2)) (v0 : Value) (h0 : RepI (fun b => b < w.heap.size) w (.sl (Try.prog.cellsOf 85) ((0, 0), (0, 0)) eS l) v0) (a : Int) (x : Int) (z : Int) :
    Calls Try.prog 14 #[v0, .int .i64 a, .int .i64 x, .int .i64 z] w fun e w' => e = .returned (.bool true) ∧ Below w.heap.size w w' := by
  refine PC.callsTrue (pc_LensFewer l a x z) Try.func14 (by kernel_rfl) rfl rfl fun i hi => ?_
  match i, hi with
  | 0, _ => have e : Try.prog.cellsOf 85 = 4 := (by kernel_rfl); rw [e] at h0; exact h0
  | 1, _ => exact .int _ _
  | 2, _ => exact .int _ _
  | 3, _ => exact .int _ _

theorem lifted (os : Os) (started : os.Started) (H : Type) (enc : TypeId × Value → H) :
    ReturnsInHanded {} Try.checked os 14 .any (Rows.lensFewerSpec.pre6 enc Try.prog Try.f14 Rows.lensFewerRow.domain false) (Rows.lensFewerSpec.post enc Try.prog Try.f14 false true false false) := by
  refine returnsInHanded_of_change (C := Try.checked) own started (by kernel_rfl) Try.func14
    (ChangeSpec.witness6 (enc := enc) (C := Try.checked) false ⟨#[], #[.slice none 0 0, .int .i64 0, .int .i64 0, .int .i64 0], []⟩ 8 (by kernel_rfl) (by kernel_rfl) (by kernel_rfl) (by kernel_rfl)) ?_
  intro W base args ds gs before hval0 hW hcnd _
  have hval : ∀ (j : Nat) t v, Try.f14.params[j]? = some t → args[j]? = some v → Value.okWide Try.prog W .any base t v := hval0
  have hW' := hW
  obtain ⟨p, q, hA0, hV, rfl, hfz, hnd⟩ := hW
  have hA : DataW.TrodAll enc Try.prog W 0 (fun _ => true) true Try.f14.params.toList args.toList ds p := hA0
  rw [Try.params14] at hA hval
  obtain ⟨v0, vs0, d0, ds0, p0, q0, hargs, rfl, rfl, h0, r0⟩ := trodAll_cons hA
  obtain ⟨v1, vs1, d1, ds1, p1, q1, rfl, rfl, rfl, h1, r1⟩ := trodAll_cons r0
  obtain ⟨v2, vs2, d2, ds2, p2, q2, rfl, rfl, rfl, h2, r2⟩ := trodAll_cons r1
  obtain ⟨v3, vs3, d3, ds3, p3, q3, rfl, rfl, rfl, h3, r3⟩ := trodAll_cons r2
  obtain ⟨rfl, rfl, rfl⟩ := trodAll_nil r3
  obtain rfl : args = #[v0, v1, v2, v3] := by cases args; simp_all
  obtain ⟨rfl, rfl⟩ := trodVars_none hV
  obtain ⟨a0, len0, cap0, rfl⟩ := okWide_slice Try.underlying80 (hval 0 80 v0 rfl rfl)
  have k0 := h0
  have lt0 : ∀ x ∈ p0, x.block < W.heap.size := by obtain ⟨m, hm⟩ := k0; exact DataW.trod_lt m _ _ _ hm
  obtain ⟨fuel0, hf0⟩ := h0
  obtain ⟨l0, i0, g0, n0⟩ := repI_slice (d := ((0, 0), (0, 0))) Try.underlying80 dView (hval 0 80 _ rfl rfl) hf0
  obtain ⟨a1, rfl, rfl, rfl, w1⟩ := open_int Try.underlying3 (hval 1 3 v1 rfl rfl) h1
  obtain ⟨a2, rfl, rfl, rfl, w2⟩ := open_int Try.underlying3 (hval 2 3 v2 rfl rfl) h2
  obtain ⟨a3, rfl, rfl, rfl, w3⟩ := open_int Try.underlying3 (hval 3 3 v3 rfl rfl) h3
  clear hA0 hval0
  refine (walk W l0 g0 _ i0 a1 a2 a3).mono fun e W' ⟨he, bel⟩ => ?_
  subst he
  exact ⟨_, rfl, _, _, _, [], _, [], hW', trodAll_mk1 (shut_bool Try.underlying4 _), (trodAll_cons_mk (Below.trod laidOut (by kernel_rfl) (of_decide_eq_true (by kernel_rfl)) k0 bel lt0) (trodAll_cons_mk (shut_int Try.underlying3 w1) (trodAll_cons_mk (shut_int Try.underlying3 w2) (trodAll_cons_mk (shut_int Try.underlying3 w3) trodAll_mk0)))), rfl, bel.frame _, fun h => by cases h⟩

theorem closed : joinedFacts Try.pinned.checked.prog 14 Try.f14 Rows.lensFewerSpec Rows.lensFewerRow = true :=
  (restOf Try.pinned.checked.prog 14 Try.f14 Rows.lensFewerSpec Rows.lensFewerRow make_eq mayEnter_eq liftsFinal_eq).2 (by kernel_rfl)
theorem over : Rows.lensFewerRow.holds Try.pinned (OpenSpec.ofChange Rows.lensFewerSpec) :=
  OpenClaim.holds_of_wide 14 Try.f14 rfl rfl rfl rfl rfl rfl rfl ⟨rfl, rfl, rfl, rfl, rfl⟩ rfl rfl rfl rfl rfl (by kernel_rfl) Try.func14 closed
    (of_decide_eq_true (by kernel_rfl)) (by unfold Func.isWrapper; first | (rw [if_pos (by decide +kernel)]; kernel_rfl) | (rw [if_neg (by decide +kernel)]; exact ⟨rfl, rfl⟩))
    (fun os started H enc _ => lifted os started H enc)

theorem proved : Rows.LensFewerSaid := over
#print axioms proved
end Go.Proofs.Ytpcipgblegdeeaa.LensFewerDone
