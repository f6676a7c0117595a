/- LensGray holds for every input: the Gray codes of two numbers that follow each other differ in one bit, and different numbers have different codes. No conditions. -/
import Derived.Test.YtpcipgblegdeeaaMzAm2
import Derived.Test.YtpcipgblegdeeaaMzSp3
import Derived.Test.YtpcipgblegdeeaaEvZ
import Derived.Test.YtpcipgblegdeeaaEvZa
import Derived.Test.YtpcipgblegdeeaaMzIniA
import Derived.Test.YtpcipgblegdeeaaRows
import Derived.WalkKit
import Derived.ProofKit
import Derived.OpenShut
import Derived.ChangeOld
import Derived.Below
set_option maxRecDepth 100000
set_option maxHeartbeats 0
set_option linter.unusedVariables false
set_option linter.unusedSimpArgs false
namespace Go.Proofs.Try.My
open Go Go.Ev

def decN (g : Nat) : Nat := g ^^^ (g >>> 1) ^^^ (g >>> 2) ^^^ (g >>> 3) ^^^ (g >>> 4) ^^^ (g >>> 5) ^^^ (g >>> 6) ^^^ (g >>> 7)
theorem decN_gN : ∀ k, k < 256 → decN (gN k) = k := by decide +kernel
theorem gN_small : ∀ k, k < 256 → gN k < 256 := by decide +kernel
theorem gN_step : ∀ k, k < 255 → 0 < gN k ^^^ gN (k + 1) ∧ (gN k ^^^ gN (k + 1)) &&& ((gN k ^^^ gN (k + 1)) - 1) = 0 := by decide +kernel
theorem gray_nat {k : Int} (h : 0 ≤ k ∧ k ≤ 255) : grayF k = ((gN k.toNat : Nat) : Int) := by
  obtain ⟨m, rfl⟩ : ∃ m : Nat, k = m := ⟨k.toNat, by omega⟩
  rw [gray_code _ (by simp only [withB, Bool.and_eq_true, decide_eq_true_eq]; exact h), codeF_nat m (by omega)]
  rfl
theorem gray_facts {k n : Int} (hk : 0 ≤ k ∧ k ≤ 255) (hn : 0 ≤ n ∧ n ≤ 255) : (grayF k = grayF n ↔ k = n) ∧ (0 ≤ grayF k ∧ grayF k ≤ 255) ∧
    (n = k + 1 → 0 < bits .xor .i64 (grayF k) (grayF n) ∧ bits .and .i64 (bits .xor .i64 (grayF k) (grayF n)) (IntKind.i64.wrap (bits .xor .i64 (grayF k) (grayF n) - 1)) = 0) := by
  rw [gray_nat hk, gray_nat hn]
  have s1 := gN_small k.toNat (by omega)
  have s2 := gN_small n.toNat (by omega)
  have d1 := decN_gN k.toNat (by omega)
  have d2 := decN_gN n.toNat (by omega)
  refine ⟨⟨fun h => ?_, fun h => by rw [h]⟩, by omega, fun h => ?_⟩
  · have h := Int.ofNat.inj h
    rw [h, d2] at d1
    omega
  · have st := gN_step k.toNat (by omega)
    rw [show n.toNat = k.toNat + 1 by omega] at s2 ⊢
    rw [bits_xor_nat _ _ (by omega) (by omega)]
    have hx : gN k.toNat ^^^ gN (k.toNat + 1) < 2 ^ 8 := Nat.xor_lt_two_pow s1 s2
    generalize gN k.toNat ^^^ gN (k.toNat + 1) = x at *
    have e : IntKind.i64.wrap ((x : Int) - 1) = ((x - 1 : Nat) : Int) := by rw [w64 _ (by omega) (by omega)]; omega
    rw [e, bits_and_nat _ _ (by omega) (by omega), st.2]
    exact ⟨by omega, rfl⟩
theorem lgBad1 (k n a e b f : Int) (he : e ≠ 0) (g1 : PC Try.prog 37 [i64 k] (.tup [i64 a, i64 e])) (g2 : PC Try.prog 37 [i64 n] (.tup [i64 b, i64 f])) : PC Try.prog 8 [i64 k, i64 n] (.bool true) := by
  have al := pc_alive4
  refine pc_of_body hm Try.func8 (by kernel_rfl) ?_
  conv => whnf
  (repeat' (first | (refine ⟨_, by first | with_reducible exact al | with_reducible exact g1 | with_reducible exact g2, ?_⟩; (conv => whnf)) | (refine Or.inl ?_; (conv => whnf); refine ⟨_, by first | with_reducible exact al | with_reducible exact g1 | with_reducible exact g2, ?_⟩; (conv => whnf)) | (refine Or.inl ?_; (conv => whnf); refine ⟨false, ?_⟩; (conv => whnf); refine ⟨_, by first | with_reducible exact al | with_reducible exact g1 | with_reducible exact g2, ?_⟩; (conv => whnf)) | (refine ⟨by kernel_rfl, ?_⟩; (conv => whnf)) | (refine ⟨fun _ => ?_, fun h => absurd h (by first | decide | (simp; done) | fail)⟩; (conv => whnf)) | (refine ⟨fun h => absurd h (by first | decide | (simp; done) | fail), fun _ => ?_⟩; (conv => whnf)) | ((with_reducible refine And.intro (a := _ = true → _) (b := _ = false → _) (fun hh => ?_) (fun hh => ?_)) <;> (try simp only [decide_eq_true_eq, decide_eq_false_iff_not, Bool.or_eq_true, Bool.and_eq_true, Bool.or_eq_false_iff, Bool.and_eq_false_iff, Bool.not_eq_true', Bool.not_eq_false', ge_iff_le, gt_iff_lt] at hh) <;> (first | (exfalso; omega) | (conv => whnf))) | fail))
theorem lgBad2 (k n a b f : Int) (hf : f ≠ 0) (g1 : PC Try.prog 37 [i64 k] (.tup [i64 a, i64 0])) (g2 : PC Try.prog 37 [i64 n] (.tup [i64 b, i64 f])) : PC Try.prog 8 [i64 k, i64 n] (.bool true) := by
  have al := pc_alive4
  refine pc_of_body hm Try.func8 (by kernel_rfl) ?_
  conv => whnf
  (repeat' (first | (refine ⟨_, by first | with_reducible exact al | with_reducible exact g1 | with_reducible exact g2, ?_⟩; (conv => whnf)) | (refine Or.inl ?_; (conv => whnf); refine ⟨_, by first | with_reducible exact al | with_reducible exact g1 | with_reducible exact g2, ?_⟩; (conv => whnf)) | (refine Or.inl ?_; (conv => whnf); refine ⟨false, ?_⟩; (conv => whnf); refine ⟨_, by first | with_reducible exact al | with_reducible exact g1 | with_reducible exact g2, ?_⟩; (conv => whnf)) | (refine ⟨by kernel_rfl, ?_⟩; (conv => whnf)) | (refine ⟨fun _ => ?_, fun h => absurd h (by first | decide | (simp; done) | fail)⟩; (conv => whnf)) | (refine ⟨fun h => absurd h (by first | decide | (simp; done) | fail), fun _ => ?_⟩; (conv => whnf)) | ((with_reducible refine And.intro (a := _ = true → _) (b := _ = false → _) (fun hh => ?_) (fun hh => ?_)) <;> (try simp only [decide_eq_true_eq, decide_eq_false_iff_not, Bool.or_eq_true, Bool.and_eq_true, Bool.or_eq_false_iff, Bool.and_eq_false_iff, Bool.not_eq_true', Bool.not_eq_false', ge_iff_le, gt_iff_lt] at hh) <;> (first | (exfalso; omega) | (conv => whnf))) | fail))
theorem lgOk (k n a b : Int) (hk : 0 ≤ k ∧ k ≤ 255) (h1 : a = b ↔ k = n) (ha : 0 ≤ a ∧ a ≤ 255) (hx : n = k + 1 → 0 < bits .xor .i64 a b ∧ bits .and .i64 (bits .xor .i64 a b) (IntKind.i64.wrap (bits .xor .i64 a b - 1)) = 0)
    (g1 : PC Try.prog 37 [i64 k] (.tup [i64 a, i64 0])) (g2 : PC Try.prog 37 [i64 n] (.tup [i64 b, i64 0])) : PC Try.prog 8 [i64 k, i64 n] (.bool true) := by
  have al := pc_alive4
  have w : IntKind.i64.wrap (k + 1) = k + 1 := w64 _ (by omega) (by omega)
  refine pc_of_body hm Try.func8 (by kernel_rfl) ?_
  conv => whnf
  (repeat' (first | (refine ⟨_, by first | with_reducible exact al | with_reducible exact g1 | with_reducible exact g2, ?_⟩; (conv => whnf)) | (refine Or.inl ?_; (conv => whnf); refine ⟨_, by first | with_reducible exact al | with_reducible exact g1 | with_reducible exact g2, ?_⟩; (conv => whnf)) | (refine Or.inl ?_; (conv => whnf); refine ⟨false, ?_⟩; (conv => whnf); refine ⟨_, by first | with_reducible exact al | with_reducible exact g1 | with_reducible exact g2, ?_⟩; (conv => whnf)) | (refine ⟨by kernel_rfl, ?_⟩; (conv => whnf)) | (refine ⟨fun _ => ?_, fun h => absurd h (by first | decide | (simp; done) | fail)⟩; (conv => whnf)) | (refine ⟨fun h => absurd h (by first | decide | (simp; done) | fail), fun _ => ?_⟩; (conv => whnf)) | ((with_reducible refine And.intro (a := _ = true → _) (b := _ = false → _) (fun hh => ?_) (fun hh => ?_)) <;> (try simp only [decide_eq_true_eq, decide_eq_false_iff_not, Bool.or_eq_true, Bool.and_eq_true, Bool.or_eq_false_iff, Bool.and_eq_false_iff, Bool.not_eq_true', Bool.not_eq_false', ge_iff_le, gt_iff_lt] at hh) <;> (first | (exfalso; omega) | (conv => whnf))) | fail))
  · exfalso
    simp [h1] at hh
  · rw [(hx (by omega)).2]
    rfl
theorem pc_LensGray (k n : Int) : PC Try.prog 8 [i64 k, i64 n] (.bool true) := by
  have g1 := pc_lensGray k
  have g2 := pc_lensGray n
  by_cases hk : outB 0 255 k = true
  · rw [hk] at g1
    exact lgBad1 k n _ 2 _ _ (by decide) g1 g2
  · by_cases hn : outB 0 255 n = true
    · rw [hn] at g2
      rw [Bool.not_eq_true] at hk
      rw [hk] at g1
      exact lgBad2 k n _ _ 2 (by decide) g1 g2
    · rw [Bool.not_eq_true] at hk hn
      rw [hk] at g1
      rw [hn] at g2
      have k1 : 0 ≤ k ∧ k ≤ 255 := by simp only [outB, Bool.or_eq_false_iff, decide_eq_false_iff_not] at hk; omega
      have n1 : 0 ≤ n ∧ n ≤ 255 := by simp only [outB, Bool.or_eq_false_iff, decide_eq_false_iff_not] at hn; omega
      obtain ⟨f1, f2, f3⟩ := gray_facts k1 n1
      exact lgOk k n _ _ k1 f1 f2 f3 g1 g2
end Go.Proofs.Try.My
set_option maxRecDepth 100000
set_option maxHeartbeats 0
set_option linter.unusedVariables false
set_option linter.unusedSimpArgs false
namespace Go.Proofs.Ytpcipgblegdeeaa.LensGrayDone
open Go Go.Ev Go.Proofs.Try.My
open Go.ChangeShapes Go.WideShapes Go.ChangeAt Go.RowKit

theorem own : ownKnob Try.prog.godebug = none := by kernel_rfl
theorem laidOut : laidOutB Try.prog = true := by kernel_rfl

theorem walk (w : World) (k : Int) (n : Int) :
    Calls Try.prog 8 #[.int .i64 k, .int .i64 n] w fun e w' => e = .returned (.bool true) ∧ Below w.heap.size w w' := by
  refine PC.callsTrue (pc_LensGray k n) Try.func8 (by kernel_rfl) rfl rfl fun i hi => ?_
  match i, hi with
  | 0, _ => exact .int _ _
  | 1, _ => exact .int _ _

theorem lifted (os : Os) (started : os.Started) (H : Type) (enc : TypeId × Value → H) :
    ReturnsInHanded {} Try.checked os 8 .any (Rows.lensGraySpec.pre6 enc Try.prog Try.f8 Rows.lensGrayRow.domain false) (Rows.lensGraySpec.post enc Try.prog Try.f8 false true false false) := by
  refine returnsInHanded_of_change (C := Try.checked) own started (by kernel_rfl) Try.func8
    (ChangeSpec.witness6 (enc := enc) (C := Try.checked) false ⟨#[], #[.int .i64 0, .int .i64 0], []⟩ 8 (by kernel_rfl) (by kernel_rfl) (by kernel_rfl) (by kernel_rfl)) ?_
  intro W base args ds gs before hval0 hW hcnd _
  have hval : ∀ (j : Nat) t v, Try.f8.params[j]? = some t → args[j]? = some v → Value.okWide Try.prog W .any base t v := hval0
  have hW' := hW
  obtain ⟨p, q, hA0, hV, rfl, hfz, hnd⟩ := hW
  have hA : DataW.TrodAll enc Try.prog W 0 (fun _ => true) true Try.f8.params.toList args.toList ds p := hA0
  rw [Try.params8] at hA hval
  obtain ⟨v0, vs0, d0, ds0, p0, q0, hargs, rfl, rfl, h0, r0⟩ := trodAll_cons hA
  obtain ⟨v1, vs1, d1, ds1, p1, q1, rfl, rfl, rfl, h1, r1⟩ := trodAll_cons r0
  obtain ⟨rfl, rfl, rfl⟩ := trodAll_nil r1
  obtain rfl : args = #[v0, v1] := by cases args; simp_all
  obtain ⟨rfl, rfl⟩ := trodVars_none hV
  obtain ⟨a0, rfl, rfl, rfl, w0⟩ := open_int Try.underlying3 (hval 0 3 v0 rfl rfl) h0
  obtain ⟨a1, rfl, rfl, rfl, w1⟩ := open_int Try.underlying3 (hval 1 3 v1 rfl rfl) h1
  clear hA0 hval0
  refine (walk W a0 a1).mono fun e W' ⟨he, bel⟩ => ?_
  subst he
  exact ⟨_, rfl, _, _, _, [], _, [], hW', trodAll_mk1 (shut_bool Try.underlying4 _), (trodAll_cons_mk (shut_int Try.underlying3 w0) (trodAll_cons_mk (shut_int Try.underlying3 w1) trodAll_mk0)), rfl, bel.frame _, fun h => by cases h⟩

theorem closed : joinedFacts Try.pinned.checked.prog 8 Try.f8 Rows.lensGraySpec Rows.lensGrayRow = true :=
  (restOf Try.pinned.checked.prog 8 Try.f8 Rows.lensGraySpec Rows.lensGrayRow make_eq mayEnter_eq liftsFinal_eq).2 (by kernel_rfl)
theorem over : Rows.lensGrayRow.holds Try.pinned (OpenSpec.ofChange Rows.lensGraySpec) :=
  OpenClaim.holds_of_wide 8 Try.f8 rfl rfl rfl rfl rfl rfl rfl ⟨rfl, rfl, rfl, rfl, rfl⟩ rfl rfl rfl rfl rfl (by kernel_rfl) Try.func8 closed
    (of_decide_eq_true (by kernel_rfl)) (by unfold Func.isWrapper; first | (rw [if_pos (by decide +kernel)]; kernel_rfl) | (rw [if_neg (by decide +kernel)]; exact ⟨rfl, rfl⟩))
    (fun os started H enc _ => lifted os started H enc)

theorem proved : Rows.LensGraySaid := over
#print axioms proved
end Go.Proofs.Ytpcipgblegdeeaa.LensGrayDone
