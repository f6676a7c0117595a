/- LensSees holds for every input: a value may be that of a radiance exactly if this is from the least to the greatest of its radiances, and brighter radiances have no lesser ideal values. No conditions. -/
import Derived.Test.YtpcipgblegdeeaaMzAm2
import Derived.Test.YtpcipgblegdeeaaEvZ
import Derived.Test.YtpcipgblegdeeaaEvZa
import Derived.Test.YtpcipgblegdeeaaMzIniA
import Derived.Test.YtpcipgblegdeeaaRows
import Derived.WalkKit
import Derived.ProofKit
import Derived.OpenShut
import Derived.ChangeOld
import Derived.Below
set_option maxRecDepth 100000
set_option maxHeartbeats 0
set_option linter.unusedVariables false
set_option linter.unusedSimpArgs false
namespace Go.Proofs.Try.My
open Go Go.Ev

theorem first_true (p : Nat → Bool) (mono : ∀ i j, i ≤ j → p i = true → p j = true) : ∀ n, ∃ k, k ≤ n ∧ (∀ j, j < k → p j = false) ∧ (∀ j, k ≤ j → j < n → p j = true)
  | 0 => ⟨0, Nat.le_refl _, fun j h => absurd h (Nat.not_lt_zero j), fun j _ h => absurd h (Nat.not_lt_zero j)⟩
  | n + 1 => by
    obtain ⟨k, h1, h2, h3⟩ := first_true p mono n
    by_cases hk : k < n
    · refine ⟨k, by omega, h2, fun j a b => mono k j a (h3 k (Nat.le_refl _) hk)⟩
    · obtain rfl : k = n := by omega
      cases hp : p k
      · refine ⟨k + 1, Nat.le_refl _, fun j hj => ?_, fun j a b => by omega⟩
        by_cases e : j = k
        · subst e; exact hp
        · exact h2 j (by omega)
      · refine ⟨k, by omega, h2, fun j a b => mono k j a hp⟩
theorem idl_mono {E D r s : Int} (hE : 0 ≤ E) (h : r ≤ s) : idl E D r ≤ idl E D s := by
  have m := Int.mul_le_mul_of_nonneg_left h hE
  unfold idl
  generalize E * r = a at *
  generalize E * s = b at *
  split <;> split <;> omega
theorem radE {E D N V : Int} (h : litE E D N V 255 = 0) : ∃ a b : Nat, a ≤ 4096 ∧ b ≤ 4096 ∧ (∀ r : Nat, r < 4096 → (a ≤ r ↔ V - N ≤ idl E D r)) ∧ (∀ r : Nat, r < 4096 → (b ≤ r ↔ V + N < idl E D r)) ∧
    PC Try.prog 36 [lig E D N, i64 V] (.tup [i64 (if (b : Int) ≤ a then 0 else a), i64 (if (b : Int) ≤ a then 0 else b - 1), i64 (if (b : Int) ≤ a then 6 else 0)]) := by
  have c := pc_lit E D N V 255
  rw [h] at c
  obtain ⟨⟨e1, e2, d1, d2, n1, n2⟩, v1, v2⟩ := litE_ok h
  obtain ⟨a, a1, a2, a3⟩ := first_true (fun i => decide (V - N ≤ idl E D i)) (fun i j hij hp => by
    simp only [decide_eq_true_eq] at hp ⊢
    have := idl_mono (E := E) (D := D) (r := i) (s := j) (by omega) (by omega)
    omega) 4096
  obtain ⟨b, b1, b2, b3⟩ := first_true (fun i => decide (V + N < idl E D i)) (fun i j hij hp => by
    simp only [decide_eq_true_eq] at hp ⊢
    have := idl_mono (E := E) (D := D) (r := i) (s := j) (by omega) (by omega)
    omega) 4096
  have s1 := pc_SearchN 89 E D N V 4096 _ (by decide) (fun i hi => pc_rad1 E D N V i (by omega) (by omega) (by omega) (by omega) (by omega)) a a1 a2 a3
  have s2 := pc_SearchN 90 E D N V 4096 _ (by decide) (fun i hi => pc_rad2 E D N V i (by omega) (by omega) (by omega) (by omega) (by omega)) b b1 b2 b3
  refine ⟨a, b, a1, b1, fun r hr => ?_, fun r hr => ?_, pc_radOk E D N V a b (by omega) (by omega) c s1 s2⟩
  · constructor
    · intro h; exact of_decide_eq_true (a3 r h hr)
    · intro h
      by_cases k : a ≤ r
      · exact k
      · exact absurd h (of_decide_eq_false (a2 r (by omega)))
  · constructor
    · intro h; exact of_decide_eq_true (b3 r h hr)
    · intro h
      by_cases k : b ≤ r
      · exact k
      · exact absurd h (of_decide_eq_false (b2 r (by omega)))
theorem seBad1 (E D N r V v e lo hi f : Int) (he : e ≠ 0) (k1 : PC Try.prog 35 [lig E D N, i64 r] (.tup [i64 v, i64 e])) (k2 : PC Try.prog 36 [lig E D N, i64 V] (.tup [i64 lo, i64 hi, i64 f])) :
    PC Try.prog 7 [lig E D N, i64 r, i64 V] (.bool true) := by
  have al := pc_alive4
  refine pc_of_body hm Try.func7 (by kernel_rfl) ?_
  conv => whnf
  (repeat' (first | (refine ⟨_, by first | with_reducible exact al | with_reducible exact k1 | with_reducible exact k2, ?_⟩; (conv => whnf)) | (refine Or.inl ?_; (conv => whnf); refine ⟨_, by first | with_reducible exact al | with_reducible exact k1 | with_reducible exact k2, ?_⟩; (conv => whnf)) | (refine Or.inl ?_; (conv => whnf); refine ⟨false, ?_⟩; (conv => whnf); refine ⟨_, by first | with_reducible exact al | with_reducible exact k1 | with_reducible exact k2, ?_⟩; (conv => whnf)) | (refine ⟨by kernel_rfl, ?_⟩; (conv => whnf)) | (refine ⟨fun _ => ?_, fun h => absurd h (by first | decide | (simp; done) | fail)⟩; (conv => whnf)) | (refine ⟨fun h => absurd h (by first | decide | (simp; done) | fail), fun _ => ?_⟩; (conv => whnf)) | ((with_reducible refine And.intro (a := _ = true → _) (b := _ = false → _) (fun hh => ?_) (fun hh => ?_)) <;> (try simp only [decide_eq_true_eq, decide_eq_false_iff_not, Bool.or_eq_true, Bool.and_eq_true, Bool.or_eq_false_iff, Bool.and_eq_false_iff, Bool.not_eq_true', Bool.not_eq_false', ge_iff_le, gt_iff_lt] at hh) <;> (first | (exfalso; omega) | (conv => whnf))) | fail))
theorem seBad2 (E D N r V v lo hi f : Int) (hf : f ≠ 0) (hf6 : f ≠ 6) (k1 : PC Try.prog 35 [lig E D N, i64 r] (.tup [i64 v, i64 0])) (k2 : PC Try.prog 36 [lig E D N, i64 V] (.tup [i64 lo, i64 hi, i64 f])) :
    PC Try.prog 7 [lig E D N, i64 r, i64 V] (.bool true) := by
  have al := pc_alive4
  refine pc_of_body hm Try.func7 (by kernel_rfl) ?_
  conv => whnf
  (repeat' (first | (refine ⟨_, by first | with_reducible exact al | with_reducible exact k1 | with_reducible exact k2, ?_⟩; (conv => whnf)) | (refine Or.inl ?_; (conv => whnf); refine ⟨_, by first | with_reducible exact al | with_reducible exact k1 | with_reducible exact k2, ?_⟩; (conv => whnf)) | (refine Or.inl ?_; (conv => whnf); refine ⟨false, ?_⟩; (conv => whnf); refine ⟨_, by first | with_reducible exact al | with_reducible exact k1 | with_reducible exact k2, ?_⟩; (conv => whnf)) | (refine ⟨by kernel_rfl, ?_⟩; (conv => whnf)) | (refine ⟨fun _ => ?_, fun h => absurd h (by first | decide | (simp; done) | fail)⟩; (conv => whnf)) | (refine ⟨fun h => absurd h (by first | decide | (simp; done) | fail), fun _ => ?_⟩; (conv => whnf)) | ((with_reducible refine And.intro (a := _ = true → _) (b := _ = false → _) (fun hh => ?_) (fun hh => ?_)) <;> (try simp only [decide_eq_true_eq, decide_eq_false_iff_not, Bool.or_eq_true, Bool.and_eq_true, Bool.or_eq_false_iff, Bool.and_eq_false_iff, Bool.not_eq_true', Bool.not_eq_false', ge_iff_le, gt_iff_lt] at hh) <;> (first | (exfalso; omega) | (conv => whnf))) | fail))
theorem seNone (E D N r V v : Int) (hv : 0 ≤ v ∧ v ≤ 255) (hV : 0 ≤ V ∧ V ≤ 255) (hmay : ¬ (v - V ≤ N ∧ V - v ≤ N)) (k1 : PC Try.prog 35 [lig E D N, i64 r] (.tup [i64 v, i64 0])) (k2 : PC Try.prog 36 [lig E D N, i64 V] (.tup [i64 0, i64 0, i64 6])) :
    PC Try.prog 7 [lig E D N, i64 r, i64 V] (.bool true) := by
  have al := pc_alive4
  have w1 : IntKind.i64.wrap (v - V) = v - V := w64 _ (by omega) (by omega)
  have w2 : IntKind.i64.wrap (V - v) = V - v := w64 _ (by omega) (by omega)
  refine pc_of_body hm Try.func7 (by kernel_rfl) ?_
  conv => whnf
  (repeat' (first | (refine ⟨_, by first | with_reducible exact al | with_reducible exact k1 | with_reducible exact k2, ?_⟩; (conv => whnf)) | (refine Or.inl ?_; (conv => whnf); refine ⟨_, by first | with_reducible exact al | with_reducible exact k1 | with_reducible exact k2, ?_⟩; (conv => whnf)) | (refine Or.inl ?_; (conv => whnf); refine ⟨false, ?_⟩; (conv => whnf); refine ⟨_, by first | with_reducible exact al | with_reducible exact k1 | with_reducible exact k2, ?_⟩; (conv => whnf)) | (refine ⟨by kernel_rfl, ?_⟩; (conv => whnf)) | (refine ⟨fun _ => ?_, fun h => absurd h (by first | decide | (simp; done) | fail)⟩; (conv => whnf)) | (refine ⟨fun h => absurd h (by first | decide | (simp; done) | fail), fun _ => ?_⟩; (conv => whnf)) | ((with_reducible refine And.intro (a := _ = true → _) (b := _ = false → _) (fun hh => ?_) (fun hh => ?_)) <;> (try simp only [decide_eq_true_eq, decide_eq_false_iff_not, Bool.or_eq_true, Bool.and_eq_true, Bool.or_eq_false_iff, Bool.and_eq_false_iff, Bool.not_eq_true', Bool.not_eq_false', ge_iff_le, gt_iff_lt] at hh) <;> (first | (exfalso; omega) | (conv => whnf))) | fail))
  all_goals (first | rfl | (exfalso; omega) | (simp [*]; done) | (congr 1; simp; omega))
theorem seOk (E D N r V v lo hi m g : Int) (hv : 0 ≤ v ∧ v ≤ 255) (hV : 0 ≤ V ∧ V ≤ 255) (hmay : (v - V ≤ N ∧ V - v ≤ N) ↔ (lo ≤ r ∧ r ≤ hi)) (hg : g = 0 → v ≤ m) (k1 : PC Try.prog 35 [lig E D N, i64 r] (.tup [i64 v, i64 0])) (k2 : PC Try.prog 36 [lig E D N, i64 V] (.tup [i64 lo, i64 hi, i64 0]))
    (k3 : PC Try.prog 35 [lig E D N, i64 (IntKind.i64.wrap (r + 1))] (.tup [i64 m, i64 g])) :
    PC Try.prog 7 [lig E D N, i64 r, i64 V] (.bool true) := by
  have al := pc_alive4
  have w1 : IntKind.i64.wrap (v - V) = v - V := w64 _ (by omega) (by omega)
  have w2 : IntKind.i64.wrap (V - v) = V - v := w64 _ (by omega) (by omega)
  refine pc_of_body hm Try.func7 (by kernel_rfl) ?_
  conv => whnf
  (repeat' (first | (refine ⟨_, by first | with_reducible exact al | with_reducible exact k1 | with_reducible exact k2 | with_reducible exact k3, ?_⟩; (conv => whnf)) | (refine Or.inl ?_; (conv => whnf); refine ⟨_, by first | with_reducible exact al | with_reducible exact k1 | with_reducible exact k2 | with_reducible exact k3, ?_⟩; (conv => whnf)) | (refine Or.inl ?_; (conv => whnf); refine ⟨false, ?_⟩; (conv => whnf); refine ⟨_, by first | with_reducible exact al | with_reducible exact k1 | with_reducible exact k2 | with_reducible exact k3, ?_⟩; (conv => whnf)) | (refine ⟨by kernel_rfl, ?_⟩; (conv => whnf)) | (refine ⟨fun _ => ?_, fun h => absurd h (by first | decide | (simp; done) | fail)⟩; (conv => whnf)) | (refine ⟨fun h => absurd h (by first | decide | (simp; done) | fail), fun _ => ?_⟩; (conv => whnf)) | ((with_reducible refine And.intro (a := _ = true → _) (b := _ = false → _) (fun hh => ?_) (fun hh => ?_)) <;> (try simp only [decide_eq_true_eq, decide_eq_false_iff_not, Bool.or_eq_true, Bool.and_eq_true, Bool.or_eq_false_iff, Bool.and_eq_false_iff, Bool.not_eq_true', Bool.not_eq_false', ge_iff_le, gt_iff_lt] at hh) <;> (first | (exfalso; omega) | (conv => whnf))) | fail))
  all_goals (first | rfl | (exfalso; omega) | (simp [*]; done) | (congr 1; simp; omega))
theorem idl_bounds {E D r : Int} (hE : 0 ≤ E) (hD : 0 ≤ D) (hr : 0 ≤ r) : 0 ≤ idl E D r ∧ idl E D r ≤ 255 := by
  have m := Int.mul_nonneg hE hr
  unfold idl
  generalize E * r = a at *
  split <;> omega
theorem pc_LensSees (L : (Int × Int) × Int) (r V : Int) : PC Try.prog 7 [lig L.1.1 L.1.2 L.2, i64 r, i64 V] (.bool true) := by
  obtain ⟨⟨E, D⟩, N⟩ := L
  show PC Try.prog 7 [lig E D N, i64 r, i64 V] (.bool true)
  have k1 := pc_Value E D N r
  by_cases hR : litE E D N V 255 = 0
  rotate_left
  · have k2 := pc_radBad E D N V _ hR (pc_lit E D N V 255)
    by_cases he : (valF E D N r).2 = 0
    · rw [he] at k1
      refine seBad2 E D N r V _ _ _ _ hR ?_ k1 k2
      unfold litE
      split <;> (try split) <;> decide
    · exact seBad1 E D N r V _ _ _ _ _ he k1 k2
  obtain ⟨a, b, a1, b1, ha, hb, k2⟩ := radE hR
  by_cases he : litE E D N r 4095 = 0
  rotate_left
  · have : valF E D N r = (0, litE E D N r 4095) := if_neg he
    rw [this] at k1
    exact seBad1 E D N r V _ _ _ _ _ he k1 k2
  have ev : valF E D N r = (idl E D r, 0) := if_pos he
  rw [ev] at k1
  obtain ⟨⟨e1, e2, d1, d2, n1, n2⟩, r1, r2⟩ := litE_ok he
  obtain ⟨_, v1, v2⟩ := litE_ok hR
  have hi := idl_bounds (E := E) (D := D) (r := r) (by omega) (by omega) r1
  have har := ha r.toNat (by omega)
  have hbr := hb r.toNat (by omega)
  rw [show ((r.toNat : Nat) : Int) = r by omega] at har hbr
  by_cases hn : (b : Int) ≤ a
  · rw [if_pos hn, if_pos hn, if_pos hn] at k2
    exact seNone E D N r V _ hi ⟨v1, v2⟩ (by omega) k1 k2
  · rw [if_neg hn, if_neg hn, if_neg hn] at k2
    have k3 := pc_Value E D N (IntKind.i64.wrap (r + 1))
    refine seOk E D N r V _ _ _ _ _ hi ⟨v1, v2⟩ (by omega) (fun hg => ?_) k1 k2 k3
    rw [w64 (r + 1) (by omega) (by omega)] at hg ⊢
    by_cases h3 : litE E D N (r + 1) 4095 = 0
    · rw [show valF E D N (r + 1) = (idl E D (r + 1), 0) from if_pos h3]
      exact idl_mono (by omega) (by omega)
    · rw [show valF E D N (r + 1) = (0, litE E D N (r + 1) 4095) from if_neg h3] at hg
      exact absurd hg h3
end Go.Proofs.Try.My
set_option maxRecDepth 100000
set_option maxHeartbeats 0
set_option linter.unusedVariables false
set_option linter.unusedSimpArgs false
namespace Go.Proofs.Ytpcipgblegdeeaa.LensSeesDone
open Go Go.Ev Go.Proofs.Try.My
open Go.ChangeShapes Go.WideShapes Go.ChangeAt Go.RowKit

theorem own : ownKnob Try.prog.godebug = none := by kernel_rfl
theorem laidOut : laidOutB Try.prog = true := by kernel_rfl

abbrev eL3 (y : (Int × Int) × Int) : List AV := [i64 y.1.1, i64 y.1.2, i64 y.2]
theorem dLight : Dec Try.prog 57 eL3 (fun y : (Int × Int) × Int => (I64 y.1.1 ∧ I64 y.1.2) ∧ I64 y.2) :=
  dec_all Try.underlying57 rfl (by kernel_rfl)
    (dec_more (k := 2) Try.underlying57 rfl (by kernel_rfl) (dec_more (k := 1) Try.underlying57 rfl (by kernel_rfl)
      (dec_one Try.underlying57 rfl (by kernel_rfl) (dec_int Try.underlying3 (by kernel_rfl))) (dec_int Try.underlying3 (by kernel_rfl)) (fun _ => by kernel_rfl)) (dec_int Try.underlying3 (by kernel_rfl)) (fun _ => by kernel_rfl))
theorem walk (w : World) (L : (Int × Int) × Int) (f0 : (I64 L.1.1 ∧ I64 L.1.2) ∧ I64 L.2) (v0 : Value) (h0 : RepI (fun b => b < w.heap.size) w (.agg (eL3 L)) v0) (r : Int) (V : Int) :
    Calls Try.prog 7 #[v0, .int .i64 r, .int .i64 V] w fun e w' => e = .returned (.bool true) ∧ Below w.heap.size w w' := by
  refine PC.callsTrue (pc_LensSees L  r V) Try.func7 (by kernel_rfl) rfl rfl fun i hi => ?_
  match i, hi with
  | 0, _ => exact h0
  | 1, _ => exact .int _ _
  | 2, _ => exact .int _ _

theorem lifted (os : Os) (started : os.Started) (H : Type) (enc : TypeId × Value → H) :
    ReturnsInHanded {} Try.checked os 7 .any (Rows.lensSeesSpec.pre6 enc Try.prog Try.f7 Rows.lensSeesRow.domain false) (Rows.lensSeesSpec.post enc Try.prog Try.f7 false true false false) := by
  refine returnsInHanded_of_change (C := Try.checked) own started (by kernel_rfl) Try.func7
    (ChangeSpec.witness6 (enc := enc) (C := Try.checked) false ⟨#[], #[.agg #[.int .i64 0, .int .i64 0, .int .i64 0], .int .i64 0, .int .i64 0], []⟩ 8 (by kernel_rfl) (by kernel_rfl) (by kernel_rfl) (by kernel_rfl)) ?_
  intro W base args ds gs before hval0 hW hcnd _
  have hval : ∀ (j : Nat) t v, Try.f7.params[j]? = some t → args[j]? = some v → Value.okWide Try.prog W .any base t v := hval0
  have hW' := hW
  obtain ⟨p, q, hA0, hV, rfl, hfz, hnd⟩ := hW
  have hA : DataW.TrodAll enc Try.prog W 0 (fun _ => true) true Try.f7.params.toList args.toList ds p := hA0
  rw [Try.params7] at hA hval
  obtain ⟨v0, vs0, d0, ds0, p0, q0, hargs, rfl, rfl, h0, r0⟩ := trodAll_cons hA
  obtain ⟨v1, vs1, d1, ds1, p1, q1, rfl, rfl, rfl, h1, r1⟩ := trodAll_cons r0
  obtain ⟨v2, vs2, d2, ds2, p2, q2, rfl, rfl, rfl, h2, r2⟩ := trodAll_cons r1
  obtain ⟨rfl, rfl, rfl⟩ := trodAll_nil r2
  obtain rfl : args = #[v0, v1, v2] := by cases args; simp_all
  obtain ⟨rfl, rfl⟩ := trodVars_none hV
  have k0 := h0
  have lt0 : ∀ x ∈ p0, x.block < W.heap.size := by obtain ⟨m, hm⟩ := k0; exact DataW.trod_lt m _ _ _ hm
  obtain ⟨a0, fa0, ra0⟩ := repI_struct Try.underlying57 dLight (fun _ => by kernel_rfl) (hval 0 57 v0 rfl rfl) h0
  obtain ⟨a1, rfl, rfl, rfl, w1⟩ := open_int Try.underlying3 (hval 1 3 v1 rfl rfl) h1
  obtain ⟨a2, rfl, rfl, rfl, w2⟩ := open_int Try.underlying3 (hval 2 3 v2 rfl rfl) h2
  clear hA0 hval0
  refine (walk W a0 fa0 _ (ra0 _ _) a1 a2).mono fun e W' ⟨he, bel⟩ => ?_
  subst he
  exact ⟨_, rfl, _, _, _, [], _, [], hW', trodAll_mk1 (shut_bool Try.underlying4 _), (trodAll_cons_mk (Below.trod laidOut (by kernel_rfl) (of_decide_eq_true (by kernel_rfl)) k0 bel lt0) (trodAll_cons_mk (shut_int Try.underlying3 w1) (trodAll_cons_mk (shut_int Try.underlying3 w2) trodAll_mk0))), rfl, bel.frame _, fun h => by cases h⟩

theorem closed : joinedFacts Try.pinned.checked.prog 7 Try.f7 Rows.lensSeesSpec Rows.lensSeesRow = true :=
  (restOf Try.pinned.checked.prog 7 Try.f7 Rows.lensSeesSpec Rows.lensSeesRow make_eq mayEnter_eq liftsFinal_eq).2 (by kernel_rfl)
theorem over : Rows.lensSeesRow.holds Try.pinned (OpenSpec.ofChange Rows.lensSeesSpec) :=
  OpenClaim.holds_of_wide 7 Try.f7 rfl rfl rfl rfl rfl rfl rfl ⟨rfl, rfl, rfl, rfl, rfl⟩ rfl rfl rfl rfl rfl (by kernel_rfl) Try.func7 closed
    (of_decide_eq_true (by kernel_rfl)) (by unfold Func.isWrapper; first | (rw [if_pos (by decide +kernel)]; kernel_rfl) | (rw [if_neg (by decide +kernel)]; exact ⟨rfl, rfl⟩))
    (fun os started H enc _ => lifted os started H enc)

theorem proved : Rows.LensSeesSaid := over
#print axioms proved
end Go.Proofs.Ytpcipgblegdeeaa.LensSeesDone
