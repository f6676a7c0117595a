/- LensBad holds for every input: the first view that contradicts does, and those before it do not. No conditions. -/
import Derived.Test.YtpcipgblegdeeaaMzLvB
import Derived.Test.YtpcipgblegdeeaaMzAm2
import Derived.Test.YtpcipgblegdeeaaMzPvA
import Derived.Test.YtpcipgblegdeeaaEvZ
import Derived.Test.YtpcipgblegdeeaaEvZa
import Derived.Test.YtpcipgblegdeeaaMzIniA
import Derived.Test.YtpcipgblegdeeaaRows
import Derived.WalkKit
import Derived.ProofKit
import Derived.OpenShut
import Derived.ChangeOld
import Derived.Below
set_option maxRecDepth 100000
set_option maxHeartbeats 0
set_option linter.unusedVariables false
set_option linter.unusedSimpArgs false
namespace Go.Proofs.Try.My
open Go Go.Ev

theorem lbOut (l : List SpT) (hl : ¬ l.length ≤ 12) : PC Try.prog 13 [vws l] (.bool true) := by
  have al := pc_alive4
  refine pc_of_body hm Try.func13 (by kernel_rfl) ?_
  conv => whnf
  (repeat' (first | (refine ⟨_, by first | with_reducible exact al, ?_⟩; (conv => whnf)) | (refine Or.inl ?_; (conv => whnf); refine ⟨_, by first | with_reducible exact al, ?_⟩; (conv => whnf)) | (refine Or.inl ?_; (conv => whnf); refine ⟨false, ?_⟩; (conv => whnf); refine ⟨_, by first | with_reducible exact al, ?_⟩; (conv => whnf)) | (refine ⟨by kernel_rfl, ?_⟩; (conv => whnf)) | (refine ⟨fun _ => ?_, fun h => absurd h (by first | decide | (simp; done) | fail)⟩; (conv => whnf)) | (refine ⟨fun h => absurd h (by first | decide | (simp; done) | fail), fun _ => ?_⟩; (conv => whnf)) | ((with_reducible refine And.intro (a := _ = true → _) (b := _ = false → _) (fun hh => ?_) (fun hh => ?_)) <;> (try simp only [decide_eq_true_eq, decide_eq_false_iff_not, Bool.or_eq_true, Bool.and_eq_true, Bool.or_eq_false_iff, Bool.and_eq_false_iff, Bool.not_eq_true', Bool.not_eq_false', ge_iff_le, gt_iff_lt] at hh) <;> (first | (exfalso; omega) | (conv => whnf))) | fail))
  all_goals (first | rfl | (exfalso; omega))
theorem lbErr (l : List SpT) (e : Int) (he : e ≠ 0) (hl : l.length ≤ 12) (c : PC Try.prog 52 [vws l] (.tup [i64 0, i64 e])) : PC Try.prog 13 [vws l] (.bool true) := by
  have al := pc_alive4
  refine pc_of_body hm Try.func13 (by kernel_rfl) ?_
  conv => whnf
  (repeat' (first | (refine ⟨_, by first | with_reducible exact al | with_reducible exact c, ?_⟩; (conv => whnf)) | (refine Or.inl ?_; (conv => whnf); refine ⟨_, by first | with_reducible exact al | with_reducible exact c, ?_⟩; (conv => whnf)) | (refine Or.inl ?_; (conv => whnf); refine ⟨false, ?_⟩; (conv => whnf); refine ⟨_, by first | with_reducible exact al | with_reducible exact c, ?_⟩; (conv => whnf)) | (refine ⟨by kernel_rfl, ?_⟩; (conv => whnf)) | (refine ⟨fun _ => ?_, fun h => absurd h (by first | decide | (simp; done) | fail)⟩; (conv => whnf)) | (refine ⟨fun h => absurd h (by first | decide | (simp; done) | fail), fun _ => ?_⟩; (conv => whnf)) | ((with_reducible refine And.intro (a := _ = true → _) (b := _ = false → _) (fun hh => ?_) (fun hh => ?_)) <;> (try simp only [decide_eq_true_eq, decide_eq_false_iff_not, Bool.or_eq_true, Bool.and_eq_true, Bool.or_eq_false_iff, Bool.and_eq_false_iff, Bool.not_eq_true', Bool.not_eq_false', ge_iff_le, gt_iff_lt] at hh) <;> (first | (exfalso; omega) | (conv => whnf))) | fail))
  all_goals (first | rfl | (exfalso; omega))
theorem lbOk (l : List SpT) (n : Int) (hl : l.length ≤ 12) (n1 : -1 ≤ n) (n2 : n < l.length) (c : PC Try.prog 52 [vws l] (.tup [i64 n, i64 0])) (C : Nat → CamT) (E : Nat → Int)
    (ck : ∀ k, k < l.length → PC Try.prog 51 [vws (l.take (k + 1))] (.tup [cam (C k), i64 (E k)])) (hE : ∀ k, k < l.length → (E k = 6 ↔ 0 ≤ n ∧ n ≤ (k : Int))) : PC Try.prog 13 [vws l] (.bool true) := by
  have al := pc_alive4
  refine pc_of_body hm Try.func13 (by kernel_rfl) ?_
  conv => whnf
  (repeat' (first | (refine ⟨_, by first | with_reducible exact al, ?_⟩; (conv => whnf)) | (refine Or.inl ?_; (conv => whnf); refine ⟨_, by first | with_reducible exact al, ?_⟩; (conv => whnf)) | (refine Or.inl ?_; (conv => whnf); refine ⟨false, ?_⟩; (conv => whnf); refine ⟨_, by first | with_reducible exact al, ?_⟩; (conv => whnf)) | (refine ⟨by kernel_rfl, ?_⟩; (conv => whnf)) | (refine ⟨fun _ => ?_, fun h => absurd h (by first | decide | (simp; done) | fail)⟩; (conv => whnf)) | (refine ⟨fun h => absurd h (by first | decide | (simp; done) | fail), fun _ => ?_⟩; (conv => whnf)) | fail))
  (refine ⟨fun h => absurd (of_decide_eq_true h) (by omega), fun _ => ?_⟩; (conv => whnf))
  (repeat' (first | (refine ⟨_, by first | with_reducible exact c, ?_⟩; (conv => whnf)) | (refine Or.inl ?_; (conv => whnf); refine ⟨_, by first | with_reducible exact c, ?_⟩; (conv => whnf)) | (refine Or.inl ?_; (conv => whnf); refine ⟨false, ?_⟩; (conv => whnf); refine ⟨_, by first | with_reducible exact c, ?_⟩; (conv => whnf)) | (refine ⟨by kernel_rfl, ?_⟩; (conv => whnf)) | (refine ⟨fun _ => ?_, fun h => absurd h (by first | decide | (simp; done) | fail)⟩; (conv => whnf)) | (refine ⟨fun h => absurd h (by first | decide | (simp; done) | fail), fun _ => ?_⟩; (conv => whnf)) | fail))
  (refine ⟨fun h => absurd (of_decide_eq_true h) (by omega), fun _ => ?_⟩; (conv => whnf))
  (refine ⟨fun h => absurd (of_decide_eq_true h) (by omega), fun _ => ?_⟩; (conv => whnf))
  (repeat' (first | (refine ⟨by kernel_rfl, ?_⟩; (conv => whnf)) | (refine ⟨fun _ => ?_, fun h => absurd h (by first | decide | (simp; done) | fail)⟩; (conv => whnf)) | (refine ⟨fun h => absurd h (by first | decide | (simp; done) | fail), fun _ => ?_⟩; (conv => whnf)) | fail))
  refine Or.inr ⟨Nat, [40], [], [], fun i => [i64 i], fun _ => [], fun _ => [], fun i => l.length - i, fun i => i ≤ l.length, ?_⟩
  (conv => whnf)
  refine ⟨⟨0, ?_⟩, ?_⟩
  · (conv => whnf)
    exact ⟨⟨Nat.zero_le _, rfl, rfl, rfl⟩, by kernel_rfl, by kernel_rfl⟩
  · intro i hi
    (conv => whnf)
    refine ⟨fun h => ?_, fun h => ?_⟩
    · have h := of_decide_eq_true h
      have h' : i < l.length := Int.ofNat_lt.1 h
      have ca := ck i h'
      have he := hE i h'
      have w1 : IntKind.i64.wrap ((i : Int) + 1) = ((i + 1 : Nat) : Int) := by rw [w64 _ (by omega) (by omega)]; rfl
      rw [← cut_take l i (by omega)] at ca
      generalize E i = e at *
      generalize C i = K at *
      obtain ⟨⟨⟨k1, k2⟩, ⟨k3, k4⟩⟩, ⟨⟨k5, k6⟩, ⟨k7, k8⟩⟩⟩ := K
      (conv => whnf)
      (repeat' (first | (refine ⟨by kernel_rfl, ?_⟩; (conv => whnf)) | fail))
      refine ⟨⟨by omega, by rw [w1]; omega, by rw [w1]; omega⟩, ?_⟩
      (conv => whnf)
      (repeat' (first | (refine ⟨_, by first | with_reducible exact ca, ?_⟩; (conv => whnf)) | (refine Or.inl ?_; (conv => whnf); refine ⟨_, by first | with_reducible exact ca, ?_⟩; (conv => whnf)) | (refine Or.inl ?_; (conv => whnf); refine ⟨false, ?_⟩; (conv => whnf); refine ⟨_, by first | with_reducible exact ca, ?_⟩; (conv => whnf)) | (refine ⟨by kernel_rfl, ?_⟩; (conv => whnf)) | fail))
      refine ⟨fun h1 => ?_, fun h1 => ?_⟩
      · have h1 := of_decide_eq_true h1
        (conv => whnf)
        refine ⟨fun h2 => ?_, fun h2 => ?_⟩
        · exfalso
          by_cases h6 : e = 6
          · have := he.1 h6
            simp [h6] at h2
            omega
          · have h7 : ¬ n ≤ (i : Int) := fun k => h6 (he.2 ⟨by omega, k⟩)
            simp [h6] at h2
            omega
        · (conv => whnf)
          refine ⟨i + 1, ?_⟩
          (conv => whnf)
          refine ⟨⟨⟨Nat.sub_lt_sub_left (by omega) (Nat.lt_succ_self i), by omega⟩, ?_, rfl, rfl⟩, by kernel_rfl, by kernel_rfl⟩
          rw [w64 _ (by omega) (by omega)]; rfl
      · have h1 := of_decide_eq_false h1
        have h6 : e ≠ 6 := fun k => by have := he.1 k; omega
        (conv => whnf)
        refine ⟨fun h2 => ?_, fun h2 => ?_⟩
        · exfalso
          simp [h6] at h2
          try omega
        · (conv => whnf)
          refine ⟨i + 1, ?_⟩
          (conv => whnf)
          refine ⟨⟨⟨Nat.sub_lt_sub_left (by omega) (Nat.lt_succ_self i), by omega⟩, ?_, rfl, rfl⟩, by kernel_rfl, by kernel_rfl⟩
          rw [w64 _ (by omega) (by omega)]; rfl
    · (conv => whnf)
      first | rfl | (repeat' (first | (refine ⟨by kernel_rfl, ?_⟩; (conv => whnf)) | fail))
theorem pc_LensBad (l : List SpT) : PC Try.prog 13 [vws l] (.bool true) := by
  by_cases hl : l.length ≤ 12
  rotate_left
  · exact lbOut l hl
  have c := pc_FirstBad l (by omega)
  unfold badF at c
  by_cases hE : viewsE l = 0
  rotate_left
  · rw [if_neg hE] at c
    exact lbErr l _ hE hl c
  rw [if_pos hE] at c
  have vl := (viewsE_mem hE).2
  refine lbOk l _ hl ?_ ?_ c _ _ (fun k hk => pc_Calibrate (l.take (k + 1)) (by rw [List.length_take]; omega)) fun k hk => ?_
  · rcases badI_cases vl with ⟨e, _⟩ | ⟨k, k1, e, _⟩ <;> rw [e] <;> omega
  · rcases badI_cases vl with ⟨e, _⟩ | ⟨k, k1, e, _⟩ <;> rw [e] <;> omega
  · have hE2 : viewsE (l.take (k + 1)) = 0 := viewsE_of (by rw [List.length_take]; omega) fun v hv => vl v (List.mem_of_mem_take hv)
    rw [cal_six hE2]
    rcases badI_cases vl with ⟨e, a⟩ | ⟨j, j1, e, a, b⟩
    · rw [e, a k]
      constructor
      · intro h; cases h
      · intro h; omega
    · rw [e]
      constructor
      · intro h
        refine ⟨by omega, ?_⟩
        by_cases hk2 : k < j
        · rw [a k hk2] at h; cases h
        · omega
      · intro h
        exact b k (by omega)
end Go.Proofs.Try.My
set_option maxRecDepth 100000
set_option maxHeartbeats 0
set_option linter.unusedVariables false
set_option linter.unusedSimpArgs false
namespace Go.Proofs.Ytpcipgblegdeeaa.LensBadDone
open Go Go.Ev Go.Proofs.Try.My
open Go.ChangeShapes Go.WideShapes Go.ChangeAt Go.RowKit

theorem own : ownKnob Try.prog.godebug = none := by kernel_rfl
theorem laidOut : laidOutB Try.prog = true := by kernel_rfl

theorem dView0 : Dec Try.prog 85 (fun y : (((Int × Int) × Int) × Int) => [i64 y.1.1.1, i64 y.1.1.2, i64 y.1.2, i64 y.2]) (fun y => ((I64 y.1.1.1 ∧ I64 y.1.1.2) ∧ I64 y.1.2) ∧ I64 y.2) :=
  dec_all Try.underlying85 rfl (by kernel_rfl)
    (dec_more (k := 3) Try.underlying85 rfl (by kernel_rfl) (dec_more (k := 2) Try.underlying85 rfl (by kernel_rfl) (dec_more (k := 1) Try.underlying85 rfl (by kernel_rfl)
      (dec_one Try.underlying85 rfl (by kernel_rfl) (dec_int Try.underlying3 (by kernel_rfl))) (dec_int Try.underlying3 (by kernel_rfl)) (fun _ => by kernel_rfl)) (dec_int Try.underlying3 (by kernel_rfl)) (fun _ => by kernel_rfl)) (dec_int Try.underlying3 (by kernel_rfl)) (fun _ => by kernel_rfl))
theorem dView : Dec Try.prog 85 eS (fun y : SpT => (I64 y.1.1 ∧ I64 y.1.2) ∧ (I64 y.2.1 ∧ I64 y.2.2)) := by
  intro H enc w base spare held fuel cs x h
  obtain ⟨⟨⟨⟨a, b⟩, c⟩, d⟩, ⟨⟨⟨q1, q2⟩, q3⟩, q4⟩, l, r⟩ := dView0 h
  exact ⟨((a, b), (c, d)), ⟨⟨q1, q2⟩, q3, q4⟩, l, r⟩
theorem walk (w : World) (l : List (SpT)) (g0 : ∀ n ∈ l, (I64 n.1.1 ∧ I64 n.1.2) ∧ (I64 n.2.1 ∧ I64 n.2.2)) (v0 : Value) (h0 : RepI (fun b => b < w.heap.size) w (.sl (Try.prog.cellsOf 85) ((0, 0), (0, 0)) eS l) v0) :
    Calls Try.prog 13 #[v0] w fun e w' => e = .returned (.bool true) ∧ Below w.heap.size w w' := by
  refine PC.callsTrue (pc_LensBad l) Try.func13 (by kernel_rfl) rfl rfl fun i hi => ?_
  match i, hi with
  | 0, _ => have e : Try.prog.cellsOf 85 = 4 := (by kernel_rfl); rw [e] at h0; exact h0

theorem lifted (os : Os) (started : os.Started) (H : Type) (enc : TypeId × Value → H) :
    ReturnsInHanded {} Try.checked os 13 .any (Rows.lensBadSpec.pre6 enc Try.prog Try.f13 Rows.lensBadRow.domain false) (Rows.lensBadSpec.post enc Try.prog Try.f13 false true false false) := by
  refine returnsInHanded_of_change (C := Try.checked) own started (by kernel_rfl) Try.func13
    (ChangeSpec.witness6 (enc := enc) (C := Try.checked) false ⟨#[], #[.slice none 0 0], []⟩ 8 (by kernel_rfl) (by kernel_rfl) (by kernel_rfl) (by kernel_rfl)) ?_
  intro W base args ds gs before hval0 hW hcnd _
  have hval : ∀ (j : Nat) t v, Try.f13.params[j]? = some t → args[j]? = some v → Value.okWide Try.prog W .any base t v := hval0
  have hW' := hW
  obtain ⟨p, q, hA0, hV, rfl, hfz, hnd⟩ := hW
  have hA : DataW.TrodAll enc Try.prog W 0 (fun _ => true) true Try.f13.params.toList args.toList ds p := hA0
  rw [Try.params13] at hA hval
  obtain ⟨v0, vs0, d0, ds0, p0, q0, hargs, rfl, rfl, h0, r0⟩ := trodAll_cons hA
  obtain ⟨rfl, rfl, rfl⟩ := trodAll_nil r0
  obtain rfl : args = #[v0] := by cases args; simp_all
  obtain ⟨rfl, rfl⟩ := trodVars_none hV
  obtain ⟨a0, len0, cap0, rfl⟩ := okWide_slice Try.underlying80 (hval 0 80 v0 rfl rfl)
  have k0 := h0
  have lt0 : ∀ x ∈ p0, x.block < W.heap.size := by obtain ⟨m, hm⟩ := k0; exact DataW.trod_lt m _ _ _ hm
  obtain ⟨fuel0, hf0⟩ := h0
  obtain ⟨l0, i0, g0, n0⟩ := repI_slice (d := ((0, 0), (0, 0))) Try.underlying80 dView (hval 0 80 _ rfl rfl) hf0
  clear hA0 hval0
  refine (walk W l0 g0 _ i0).mono fun e W' ⟨he, bel⟩ => ?_
  subst he
  exact ⟨_, rfl, _, _, _, [], _, [], hW', trodAll_mk1 (shut_bool Try.underlying4 _), (trodAll_cons_mk (Below.trod laidOut (by kernel_rfl) (of_decide_eq_true (by kernel_rfl)) k0 bel lt0) trodAll_mk0), rfl, bel.frame _, fun h => by cases h⟩

theorem closed : joinedFacts Try.pinned.checked.prog 13 Try.f13 Rows.lensBadSpec Rows.lensBadRow = true :=
  (restOf Try.pinned.checked.prog 13 Try.f13 Rows.lensBadSpec Rows.lensBadRow make_eq mayEnter_eq liftsFinal_eq).2 (by kernel_rfl)
theorem over : Rows.lensBadRow.holds Try.pinned (OpenSpec.ofChange Rows.lensBadSpec) :=
  OpenClaim.holds_of_wide 13 Try.f13 rfl rfl rfl rfl rfl rfl rfl ⟨rfl, rfl, rfl, rfl, rfl⟩ rfl rfl rfl rfl rfl (by kernel_rfl) Try.func13 closed
    (of_decide_eq_true (by kernel_rfl)) (by unfold Func.isWrapper; first | (rw [if_pos (by decide +kernel)]; kernel_rfl) | (rw [if_neg (by decide +kernel)]; exact ⟨rfl, rfl⟩))
    (fun os started H enc _ => lifted os started H enc)

theorem proved : Rows.LensBadSaid := over
#print axioms proved
end Go.Proofs.Ytpcipgblegdeeaa.LensBadDone
