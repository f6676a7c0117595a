/- The verdict is Pass if both ends of a span lie in the tolerance, Fail if they lie on one side of it, and Undecided in all other cases, for all spans and tolerances. -/
import Derived.Test.YtjkoeomndepolaaMnAlA
import Derived.Test.YtjkoeomndepolaaMnGcA
import Derived.Test.YtjkoeomndepolaaEvZnine
import Derived.Test.YtjkoeomndepolaaEvZanine
import Derived.Test.YtjkoeomndepolaaMnIniA
import Derived.Test.YtjkoeomndepolaaRows
import Derived.WalkKit
import Derived.ProofKit
import Derived.OpenShut
import Derived.ChangeOld
import Derived.Below
set_option maxRecDepth 100000
set_option maxHeartbeats 0
set_option linter.unusedVariables false
set_option linter.unusedSimpArgs false
namespace Go.Proofs.Try.My
open Go Go.Ev

theorem ddBad (s : SpT) (lo hi : Int × Int) (k1 : PC Try.prog 34 [sp s, fr lo, fr hi] (.tup [u8 0, i64 2])) : PC Try.prog 11 [sp s, fr lo, fr hi] (.bool true) := by
  have al := pc_alive
  refine pc_of_body hm Try.func11 (by kernel_rfl) ?_
  conv => whnf
  (repeat' (first | (refine ⟨_, by first | with_reducible exact al | with_reducible exact k1, ?_⟩; (conv => whnf)) | (refine Or.inl ?_; (conv => whnf); refine ⟨_, by first | with_reducible exact al | with_reducible exact k1, ?_⟩; (conv => whnf)) | (refine Or.inl ?_; (conv => whnf); refine ⟨false, ?_⟩; (conv => whnf); refine ⟨_, by first | with_reducible exact al | with_reducible exact k1, ?_⟩; (conv => whnf)) | (refine ⟨by kernel_rfl, ?_⟩; (conv => whnf)) | (refine ⟨fun _ => ?_, fun h => absurd h (by first | decide | (simp; done) | fail)⟩; (conv => whnf)) | (refine ⟨fun h => absurd h (by first | decide | (simp; done) | fail), fun _ => ?_⟩; (conv => whnf)) | fail))
  all_goals (first | rfl | simp)
theorem ddA (s : SpT) (lo hi : Int × Int) (m : SpT) (h : Int) (k1 : PC Try.prog 34 [sp s, fr lo, fr hi] (.tup [u8 1, i64 0])) (k2 : PC Try.prog 49 [sp (lo, hi), fr s.1] (.tup [.bool true, i64 0]))
    (k3 : PC Try.prog 49 [sp (lo, hi), fr s.2] (.tup [.bool true, i64 0])) (k4 : PC Try.prog 50 [sp s, sp (lo, hi)] (.tup [sp m, i64 h])) : PC Try.prog 11 [sp s, fr lo, fr hi] (.bool true) := by
  have al := pc_alive
  refine pc_of_body hm Try.func11 (by kernel_rfl) ?_
  conv => whnf
  (repeat' (first | (refine ⟨_, by first | with_reducible exact al | with_reducible exact k1 | with_reducible exact k2 | with_reducible exact k3 | with_reducible exact k4, ?_⟩; (conv => whnf)) | (refine Or.inl ?_; (conv => whnf); refine ⟨_, by first | with_reducible exact al | with_reducible exact k1 | with_reducible exact k2 | with_reducible exact k3 | with_reducible exact k4, ?_⟩; (conv => whnf)) | (refine Or.inl ?_; (conv => whnf); refine ⟨false, ?_⟩; (conv => whnf); refine ⟨_, by first | with_reducible exact al | with_reducible exact k1 | with_reducible exact k2 | with_reducible exact k3 | with_reducible exact k4, ?_⟩; (conv => whnf)) | (refine ⟨by kernel_rfl, ?_⟩; (conv => whnf)) | (refine ⟨fun _ => ?_, fun h => absurd h (by first | decide | (simp; done) | fail)⟩; (conv => whnf)) | (refine ⟨fun h => absurd h (by first | decide | (simp; done) | fail), fun _ => ?_⟩; (conv => whnf)) | fail))
  all_goals (first | rfl | simp)
theorem ddB1 (s : SpT) (lo hi : Int × Int) (m : SpT) (b : Bool) (k1 : PC Try.prog 34 [sp s, fr lo, fr hi] (.tup [u8 2, i64 0])) (k2 : PC Try.prog 49 [sp (lo, hi), fr s.1] (.tup [.bool false, i64 0]))
    (k3 : PC Try.prog 49 [sp (lo, hi), fr s.2] (.tup [.bool b, i64 0])) (k4 : PC Try.prog 50 [sp s, sp (lo, hi)] (.tup [sp m, i64 6])) : PC Try.prog 11 [sp s, fr lo, fr hi] (.bool true) := by
  have al := pc_alive
  refine pc_of_body hm Try.func11 (by kernel_rfl) ?_
  conv => whnf
  (repeat' (first | (refine ⟨_, by first | with_reducible exact al | with_reducible exact k1 | with_reducible exact k2 | with_reducible exact k3 | with_reducible exact k4, ?_⟩; (conv => whnf)) | (refine Or.inl ?_; (conv => whnf); refine ⟨_, by first | with_reducible exact al | with_reducible exact k1 | with_reducible exact k2 | with_reducible exact k3 | with_reducible exact k4, ?_⟩; (conv => whnf)) | (refine Or.inl ?_; (conv => whnf); refine ⟨false, ?_⟩; (conv => whnf); refine ⟨_, by first | with_reducible exact al | with_reducible exact k1 | with_reducible exact k2 | with_reducible exact k3 | with_reducible exact k4, ?_⟩; (conv => whnf)) | (refine ⟨by kernel_rfl, ?_⟩; (conv => whnf)) | (refine ⟨fun _ => ?_, fun h => absurd h (by first | decide | (simp; done) | fail)⟩; (conv => whnf)) | (refine ⟨fun h => absurd h (by first | decide | (simp; done) | fail), fun _ => ?_⟩; (conv => whnf)) | fail))
  all_goals (first | rfl | simp)
theorem ddB2 (s : SpT) (lo hi : Int × Int) (m : SpT) (k1 : PC Try.prog 34 [sp s, fr lo, fr hi] (.tup [u8 2, i64 0])) (k2 : PC Try.prog 49 [sp (lo, hi), fr s.1] (.tup [.bool true, i64 0]))
    (k3 : PC Try.prog 49 [sp (lo, hi), fr s.2] (.tup [.bool false, i64 0])) (k4 : PC Try.prog 50 [sp s, sp (lo, hi)] (.tup [sp m, i64 6])) : PC Try.prog 11 [sp s, fr lo, fr hi] (.bool true) := by
  have al := pc_alive
  refine pc_of_body hm Try.func11 (by kernel_rfl) ?_
  conv => whnf
  (repeat' (first | (refine ⟨_, by first | with_reducible exact al | with_reducible exact k1 | with_reducible exact k2 | with_reducible exact k3 | with_reducible exact k4, ?_⟩; (conv => whnf)) | (refine Or.inl ?_; (conv => whnf); refine ⟨_, by first | with_reducible exact al | with_reducible exact k1 | with_reducible exact k2 | with_reducible exact k3 | with_reducible exact k4, ?_⟩; (conv => whnf)) | (refine Or.inl ?_; (conv => whnf); refine ⟨false, ?_⟩; (conv => whnf); refine ⟨_, by first | with_reducible exact al | with_reducible exact k1 | with_reducible exact k2 | with_reducible exact k3 | with_reducible exact k4, ?_⟩; (conv => whnf)) | (refine ⟨by kernel_rfl, ?_⟩; (conv => whnf)) | (refine ⟨fun _ => ?_, fun h => absurd h (by first | decide | (simp; done) | fail)⟩; (conv => whnf)) | (refine ⟨fun h => absurd h (by first | decide | (simp; done) | fail), fun _ => ?_⟩; (conv => whnf)) | fail))
  all_goals (first | rfl | simp)
theorem ddC1 (s : SpT) (lo hi : Int × Int) (m : SpT) (b : Bool) (k1 : PC Try.prog 34 [sp s, fr lo, fr hi] (.tup [u8 3, i64 0])) (k2 : PC Try.prog 49 [sp (lo, hi), fr s.1] (.tup [.bool false, i64 0]))
    (k3 : PC Try.prog 49 [sp (lo, hi), fr s.2] (.tup [.bool b, i64 0])) (k4 : PC Try.prog 50 [sp s, sp (lo, hi)] (.tup [sp m, i64 0])) : PC Try.prog 11 [sp s, fr lo, fr hi] (.bool true) := by
  have al := pc_alive
  refine pc_of_body hm Try.func11 (by kernel_rfl) ?_
  conv => whnf
  (repeat' (first | (refine ⟨_, by first | with_reducible exact al | with_reducible exact k1 | with_reducible exact k2 | with_reducible exact k3 | with_reducible exact k4, ?_⟩; (conv => whnf)) | (refine Or.inl ?_; (conv => whnf); refine ⟨_, by first | with_reducible exact al | with_reducible exact k1 | with_reducible exact k2 | with_reducible exact k3 | with_reducible exact k4, ?_⟩; (conv => whnf)) | (refine Or.inl ?_; (conv => whnf); refine ⟨false, ?_⟩; (conv => whnf); refine ⟨_, by first | with_reducible exact al | with_reducible exact k1 | with_reducible exact k2 | with_reducible exact k3 | with_reducible exact k4, ?_⟩; (conv => whnf)) | (refine ⟨by kernel_rfl, ?_⟩; (conv => whnf)) | (refine ⟨fun _ => ?_, fun h => absurd h (by first | decide | (simp; done) | fail)⟩; (conv => whnf)) | (refine ⟨fun h => absurd h (by first | decide | (simp; done) | fail), fun _ => ?_⟩; (conv => whnf)) | fail))
  all_goals (first | rfl | simp)
theorem ddC2 (s : SpT) (lo hi : Int × Int) (m : SpT) (k1 : PC Try.prog 34 [sp s, fr lo, fr hi] (.tup [u8 3, i64 0])) (k2 : PC Try.prog 49 [sp (lo, hi), fr s.1] (.tup [.bool true, i64 0]))
    (k3 : PC Try.prog 49 [sp (lo, hi), fr s.2] (.tup [.bool false, i64 0])) (k4 : PC Try.prog 50 [sp s, sp (lo, hi)] (.tup [sp m, i64 0])) : PC Try.prog 11 [sp s, fr lo, fr hi] (.bool true) := by
  have al := pc_alive
  refine pc_of_body hm Try.func11 (by kernel_rfl) ?_
  conv => whnf
  (repeat' (first | (refine ⟨_, by first | with_reducible exact al | with_reducible exact k1 | with_reducible exact k2 | with_reducible exact k3 | with_reducible exact k4, ?_⟩; (conv => whnf)) | (refine Or.inl ?_; (conv => whnf); refine ⟨_, by first | with_reducible exact al | with_reducible exact k1 | with_reducible exact k2 | with_reducible exact k3 | with_reducible exact k4, ?_⟩; (conv => whnf)) | (refine Or.inl ?_; (conv => whnf); refine ⟨false, ?_⟩; (conv => whnf); refine ⟨_, by first | with_reducible exact al | with_reducible exact k1 | with_reducible exact k2 | with_reducible exact k3 | with_reducible exact k4, ?_⟩; (conv => whnf)) | (refine ⟨by kernel_rfl, ?_⟩; (conv => whnf)) | (refine ⟨fun _ => ?_, fun h => absurd h (by first | decide | (simp; done) | fail)⟩; (conv => whnf)) | (refine ⟨fun h => absurd h (by first | decide | (simp; done) | fail), fun _ => ?_⟩; (conv => whnf)) | fail))
  all_goals (first | rfl | simp)
theorem hasB_qv {s : SpT} {x : Int × Int} (h1 : validB s.1 = true) (h2 : validB s.2 = true) (hx : validB x = true) : hasB s x = true ↔ qv s.1 ≤ qv x ∧ qv x ≤ qv s.2 := by
  unfold hasB
  rw [Bool.and_eq_true, decide_eq_true_eq, decide_eq_true_eq, cmpF_le h1 hx, cmpF_le hx h2]
theorem verV_in {s t : SpT} (hs : spanB s = true) (ht : spanB t = true) :
    (hasB t s.1 = true ∧ hasB t s.2 = true ∧ verV s t = 1) ∨ (¬ (hasB t s.1 = true ∧ hasB t s.2 = true) ∧ (meetF s t).2 = 6 ∧ verV s t = 2) ∨ (¬ (hasB t s.1 = true ∧ hasB t s.2 = true) ∧ (meetF s t).2 = 0 ∧ verV s t = 3) := by
  obtain ⟨s1, s2, s3⟩ := spanB_qv.1 hs
  obtain ⟨t1, t2, t3⟩ := spanB_qv.1 ht
  obtain ⟨g1, g2, g3⟩ := greF_qv s1 t1
  obtain ⟨l1, l2, l3⟩ := lesF_qv s2 t2
  rw [hasB_qv t1 t2 s1, hasB_qv t1 t2 s2]
  by_cases hA : qv t.1 ≤ qv s.1 ∧ qv s.2 ≤ qv t.2
  · left
    have hi := insB_true hs ht hA.1 hA.2
    simp only [insB, Bool.and_eq_true, decide_eq_true_eq] at hi
    refine ⟨⟨hA.1, by grind⟩, ⟨by grind, hA.2⟩, ?_⟩
    unfold verV
    rw [if_pos hi.1, if_pos hi.2]
  · right
    have hn : ¬ ((qv t.1 ≤ qv s.1 ∧ qv s.1 ≤ qv t.2) ∧ (qv t.1 ≤ qv s.2 ∧ qv s.2 ≤ qv t.2)) := fun h => hA ⟨h.1.1, h.2.2⟩
    have hm : meetF s t = if spanB (greF s.1 t.1, lesF s.2 t.2) then ((greF s.1 t.1, lesF s.2 t.2), 0) else (zS, 6) := by unfold meetF; rw [hs, ht]; rfl
    cases hc : spanB (greF s.1 t.1, lesF s.2 t.2)
    · left
      have e : meetF s t = (zS, 6) := by rw [hm, hc]; rfl
      refine ⟨hn, by rw [e], ?_⟩
      unfold verV
      rw [e]; rfl
    · right
      have e : meetF s t = ((greF s.1 t.1, lesF s.2 t.2), 0) := by rw [hm, hc]; rfl
      refine ⟨hn, by rw [e], ?_⟩
      unfold verV
      rw [e, if_pos rfl, if_neg]
      intro h
      refine hA ⟨?_, ?_⟩
      · have e1 : greF s.1 t.1 = s.1 := congrArg Prod.fst h
        rw [e1] at g2; exact g2
      · have e2 : lesF s.2 t.2 = s.2 := congrArg Prod.snd h
        rw [e2] at l2; exact l2
theorem pc_GaugeDecided (s : SpT) (lo hi : Int × Int) : PC Try.prog 11 [sp s, fr lo, fr hi] (.bool true) := by
  have k1 := pc_Decide s lo hi
  by_cases hv : spanB s = true ∧ spanB (lo, hi) = true
  rotate_left
  · have e : decF s (lo, hi) = (0, 2) := by
      unfold decF
      cases h1 : spanB s <;> cases h2 : spanB (lo, hi) <;> simp_all
    rw [e] at k1
    exact ddBad s lo hi k1
  obtain ⟨h1, h2⟩ := hv
  have e : decF s (lo, hi) = (verV s (lo, hi), 0) := by unfold decF; rw [h1, h2]; rfl
  rw [e] at k1
  have k2 := pc_In (lo, hi) s.1
  have k3 := pc_In (lo, hi) s.2
  have k4 := pc_Meet s (lo, hi)
  obtain ⟨v1, v2, _⟩ := spanB_iff.1 h1
  rw [h2, v1] at k2
  rw [h2, v2] at k3
  simp only [Bool.true_and, if_true] at k2 k3
  rcases verV_in h1 h2 with ⟨a, b, v⟩ | ⟨n, m, v⟩ | ⟨n, m, v⟩
  · rw [v] at k1
    rw [a] at k2
    rw [b] at k3
    exact ddA s lo hi _ _ k1 k2 k3 k4
  · rw [v] at k1
    rw [m] at k4
    cases a : hasB (lo, hi) s.1
    · rw [a] at k2
      exact ddB1 s lo hi _ _ k1 k2 k3 k4
    · cases b : hasB (lo, hi) s.2
      · rw [a] at k2
        rw [b] at k3
        exact ddB2 s lo hi _ k1 k2 k3 k4
      · exact absurd ⟨a, b⟩ n
  · rw [v] at k1
    rw [m] at k4
    cases a : hasB (lo, hi) s.1
    · rw [a] at k2
      exact ddC1 s lo hi _ _ k1 k2 k3 k4
    · cases b : hasB (lo, hi) s.2
      · rw [a] at k2
        rw [b] at k3
        exact ddC2 s lo hi _ k1 k2 k3 k4
      · exact absurd ⟨a, b⟩ n
end Go.Proofs.Try.My
set_option maxRecDepth 100000
set_option maxHeartbeats 0
set_option linter.unusedVariables false
set_option linter.unusedSimpArgs false
namespace Go.Proofs.Ytjkoeomndepolaa.GaugeDecidedDone
open Go Go.Ev Go.Proofs.Try.My
open Go.ChangeShapes Go.WideShapes Go.ChangeAt Go.RowKit

theorem own : ownKnob Try.prog.godebug = none := by kernel_rfl
theorem laidOut : laidOutB Try.prog = true := by kernel_rfl

theorem dFrac : Dec Try.prog 24 eF (fun y : Int × Int => I64 y.1 ∧ I64 y.2) :=
  dec_two Try.underlying24 rfl rfl rfl (by kernel_rfl) (by kernel_rfl) (dec_int Try.underlying3 (by kernel_rfl)) (dec_int Try.underlying3 (by kernel_rfl)) (fun _ => by kernel_rfl)
theorem dSpan : Dec Try.prog 39 eS (fun y : SpT => (I64 y.1.1 ∧ I64 y.1.2) ∧ (I64 y.2.1 ∧ I64 y.2.2)) :=
  dec_two Try.underlying39 rfl rfl rfl (by kernel_rfl) (by kernel_rfl) dFrac dFrac (fun _ => by kernel_rfl)
theorem walk (w : World) (s : SpT) (f0 : (I64 s.1.1 ∧ I64 s.1.2) ∧ (I64 s.2.1 ∧ I64 s.2.2)) (v0 : Value) (h0 : RepI (fun b => b < w.heap.size) w (.agg (eS s)) v0) (lo : Int × Int) (f1 : I64 lo.1 ∧ I64 lo.2) (v1 : Value) (h1 : RepI (fun b => b < w.heap.size) w (.agg (eF lo)) v1) (hi : Int × Int) (f2 : I64 hi.1 ∧ I64 hi.2) (v2 : Value) (h2 : RepI (fun b => b < w.heap.size) w (.agg (eF hi)) v2) :
    Calls Try.prog 11 #[v0, v1, v2] w fun e w' => e = .returned (.bool true) ∧ Below w.heap.size w w' := by
  refine PC.callsTrue (pc_GaugeDecided s  lo  hi ) Try.func11 (by kernel_rfl) rfl rfl fun i hi => ?_
  match i, hi with
  | 0, _ => exact h0
  | 1, _ => exact h1
  | 2, _ => exact h2

theorem lifted (os : Os) (started : os.Started) (H : Type) (enc : TypeId × Value → H) :
    ReturnsInHanded {} Try.checked os 11 .any (Rows.gaugeDecidedSpec.pre6 enc Try.prog Try.f11 Rows.gaugeDecidedRow.domain false) (Rows.gaugeDecidedSpec.post enc Try.prog Try.f11 false true false false) := by
  refine returnsInHanded_of_change (C := Try.checked) own started (by kernel_rfl) Try.func11
    (ChangeSpec.witness6 (enc := enc) (C := Try.checked) false ⟨#[], #[.agg #[.int .i64 0, .int .i64 0, .int .i64 0, .int .i64 0], .agg #[.int .i64 0, .int .i64 0], .agg #[.int .i64 0, .int .i64 0]], []⟩ 8 (by kernel_rfl) (by kernel_rfl) (by kernel_rfl) (by kernel_rfl)) ?_
  intro W base args ds gs before hval0 hW hcnd _
  have hval : ∀ (j : Nat) t v, Try.f11.params[j]? = some t → args[j]? = some v → Value.okWide Try.prog W .any base t v := hval0
  have hW' := hW
  obtain ⟨p, q, hA0, hV, rfl, hfz, hnd⟩ := hW
  have hA : DataW.TrodAll enc Try.prog W 0 (fun _ => true) true Try.f11.params.toList args.toList ds p := hA0
  rw [Try.params11] at hA hval
  obtain ⟨v0, vs0, d0, ds0, p0, q0, hargs, rfl, rfl, h0, r0⟩ := trodAll_cons hA
  obtain ⟨v1, vs1, d1, ds1, p1, q1, rfl, rfl, rfl, h1, r1⟩ := trodAll_cons r0
  obtain ⟨v2, vs2, d2, ds2, p2, q2, rfl, rfl, rfl, h2, r2⟩ := trodAll_cons r1
  obtain ⟨rfl, rfl, rfl⟩ := trodAll_nil r2
  obtain rfl : args = #[v0, v1, v2] := by cases args; simp_all
  obtain ⟨rfl, rfl⟩ := trodVars_none hV
  have k0 := h0
  have lt0 : ∀ x ∈ p0, x.block < W.heap.size := by obtain ⟨m, hm⟩ := k0; exact DataW.trod_lt m _ _ _ hm
  obtain ⟨a0, fa0, ra0⟩ := repI_struct Try.underlying39 dSpan (fun _ => by kernel_rfl) (hval 0 39 v0 rfl rfl) h0
  have k1 := h1
  have lt1 : ∀ x ∈ p1, x.block < W.heap.size := by obtain ⟨m, hm⟩ := k1; exact DataW.trod_lt m _ _ _ hm
  obtain ⟨a1, fa1, ra1⟩ := repI_struct Try.underlying24 dFrac (fun _ => by kernel_rfl) (hval 1 24 v1 rfl rfl) h1
  have k2 := h2
  have lt2 : ∀ x ∈ p2, x.block < W.heap.size := by obtain ⟨m, hm⟩ := k2; exact DataW.trod_lt m _ _ _ hm
  obtain ⟨a2, fa2, ra2⟩ := repI_struct Try.underlying24 dFrac (fun _ => by kernel_rfl) (hval 2 24 v2 rfl rfl) h2
  clear hA0 hval0
  refine (walk W a0 fa0 _ (ra0 _ _) a1 fa1 _ (ra1 _ _) a2 fa2 _ (ra2 _ _)).mono fun e W' ⟨he, bel⟩ => ?_
  subst he
  exact ⟨_, rfl, _, _, _, [], _, [], hW', trodAll_mk1 (shut_bool Try.underlying4 _), (trodAll_cons_mk (Below.trod laidOut (by kernel_rfl) (of_decide_eq_true (by kernel_rfl)) k0 bel lt0) (trodAll_cons_mk (Below.trod laidOut (by kernel_rfl) (of_decide_eq_true (by kernel_rfl)) k1 bel lt1) (trodAll_cons_mk (Below.trod laidOut (by kernel_rfl) (of_decide_eq_true (by kernel_rfl)) k2 bel lt2) trodAll_mk0))), rfl, bel.frame _, fun h => by cases h⟩

theorem closed : joinedFacts Try.pinned.checked.prog 11 Try.f11 Rows.gaugeDecidedSpec Rows.gaugeDecidedRow = true :=
  (restOf Try.pinned.checked.prog 11 Try.f11 Rows.gaugeDecidedSpec Rows.gaugeDecidedRow make_eq mayEnter_eq liftsFinal_eq).2 (by kernel_rfl)
theorem over : Rows.gaugeDecidedRow.holds Try.pinned (OpenSpec.ofChange Rows.gaugeDecidedSpec) :=
  OpenClaim.holds_of_wide 11 Try.f11 rfl rfl rfl rfl rfl rfl rfl ⟨rfl, rfl, rfl, rfl, rfl⟩ rfl rfl rfl rfl rfl (by kernel_rfl) Try.func11 closed
    (of_decide_eq_true (by kernel_rfl)) (by unfold Func.isWrapper; first | (rw [if_pos (by decide +kernel)]; kernel_rfl) | (rw [if_neg (by decide +kernel)]; exact ⟨rfl, rfl⟩))
    (fun os started H enc _ => lifted os started H enc)

theorem proved : Rows.GaugeDecidedSaid := over
#print axioms proved
end Go.Proofs.Ytjkoeomndepolaa.GaugeDecidedDone
