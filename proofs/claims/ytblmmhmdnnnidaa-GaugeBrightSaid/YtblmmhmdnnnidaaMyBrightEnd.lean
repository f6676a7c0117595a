/- What a first bright place is, for every profile, threshold and index. -/
import Derived.Test.YtblmmhmdnnnidaaEvSix
import Derived.Test.YtblmmhmdnnnidaaMyAlA
import Derived.Test.YtblmmhmdnnnidaaMyBr0
import Derived.Test.YtblmmhmdnnnidaaMyFl
import Derived.Test.YtblmmhmdnnnidaaMyLv1
import Derived.Test.YtblmmhmdnnnidaaEvZ
import Derived.Test.YtblmmhmdnnnidaaEvZa
import Derived.Test.YtblmmhmdnnnidaaMyIniA
import Derived.Test.YtblmmhmdnnnidaaRows
import Derived.WalkKit
import Derived.ProofKit
import Derived.OpenShut
import Derived.ChangeOld
import Derived.Below
set_option maxRecDepth 100000
set_option maxHeartbeats 0
set_option linter.unusedVariables false
set_option linter.unusedSimpArgs false
namespace Go.Proofs.Try.My
open Go Go.Ev

theorem brOut (p : List Int) (thr a : Int) (h : 100 < p.length) : PC Try.prog 8 [ints p, i64 thr, i64 a] (.bool true) := by
  have al := pc_alive
  refine pc_of_bodyF hm Try.func8 (by kernel_rfl) ?_
  conv => whnf
  (repeat' (first | (refine ⟨_, by first | with_reducible exact al, ?_⟩; (conv => whnf)) | (refine Or.inl ?_; (conv => whnf); refine ⟨_, by first | with_reducible exact al, ?_⟩; (conv => whnf)) | (refine Or.inl ?_; (conv => whnf); refine ⟨false, ?_⟩; (conv => whnf); refine ⟨_, by first | with_reducible exact al, ?_⟩; (conv => whnf)) | (refine ⟨by kernel_rfl, ?_⟩; (conv => whnf)) | (refine ⟨fun _ => ?_, fun h => absurd h (by first | decide | (simp; done) | fail)⟩; (conv => whnf)) | (refine ⟨fun h => absurd h (by first | decide | (simp; done) | fail), fun _ => ?_⟩; (conv => whnf)) | ((with_reducible refine And.intro (a := _ = true → _) (b := _ = false → _) (fun hh => ?_) (fun hh => ?_)) <;> (try simp only [decide_eq_true_eq, decide_eq_false_iff_not, Bool.or_eq_true, Bool.and_eq_true, Bool.or_eq_false_iff, Bool.and_eq_false_iff, Bool.not_eq_true', Bool.not_eq_false', ge_iff_le, gt_iff_lt] at hh) <;> (first | (exfalso; omega) | (conv => whnf))) | fail))
  all_goals (first | rfl | (exfalso; omega) | set_option pp.maxSteps 300 in trace_state)
theorem brNone (p : List Int) (thr a : Int) (hl : p.length ≤ 100) (c1 : PC Try.prog 54 [ints p, i64 thr, i64 a] (.tup [fr (0, 0), i64 6])) (hall : ∀ j : Nat, a ≤ (j : Int) → j < p.length → p.getD j 0 < thr) : PC Try.prog 8 [ints p, i64 thr, i64 a] (.bool true) := by
  have al := pc_alive
  obtain ⟨s, hs⟩ : ∃ s : Nat, (s : Int) = if 0 > a then 0 else a := ⟨(if 0 > a then 0 else a).toNat, by split <;> omega⟩
  have hs2 : a ≤ (s : Int) := by rw [hs]; split <;> omega
  refine pc_of_bodyF hm Try.func8 (by kernel_rfl) ?_
  conv => whnf
  (repeat' (first | (refine ⟨_, by first | with_reducible exact al | with_reducible exact c1, ?_⟩; (conv => whnf)) | (refine Or.inl ?_; (conv => whnf); refine ⟨_, by first | with_reducible exact al | with_reducible exact c1, ?_⟩; (conv => whnf)) | (refine Or.inl ?_; (conv => whnf); refine ⟨false, ?_⟩; (conv => whnf); refine ⟨_, by first | with_reducible exact al | with_reducible exact c1, ?_⟩; (conv => whnf)) | (refine ⟨by kernel_rfl, ?_⟩; (conv => whnf)) | (refine ⟨fun _ => ?_, fun h => absurd h (by first | decide | (simp; done) | fail)⟩; (conv => whnf)) | (refine ⟨fun h => absurd h (by first | decide | (simp; done) | fail), fun _ => ?_⟩; (conv => whnf)) | ((with_reducible refine And.intro (a := _ = true → _) (b := _ = false → _) (fun hh => ?_) (fun hh => ?_)) <;> (try simp only [decide_eq_true_eq, decide_eq_false_iff_not, Bool.or_eq_true, Bool.and_eq_true, Bool.or_eq_false_iff, Bool.and_eq_false_iff, Bool.not_eq_true', Bool.not_eq_false', ge_iff_le, gt_iff_lt] at hh) <;> (first | (exfalso; omega) | (conv => whnf))) | fail))
  refine Or.inr ⟨Nat, [10], [], [], fun k => [i64 ((s + k : Nat) : Int)], fun _ => [], fun _ => [], fun k => p.length - (s + k), fun k => True, ?_⟩
  (conv => whnf)
  refine ⟨⟨0, ?_⟩, ?_⟩
  · (conv => whnf)
    refine ⟨⟨trivial, ?_, rfl, rfl⟩, by kernel_rfl, by kernel_rfl⟩
    show [i64 (if 0 > a then 0 else a)] = [i64 ((s + 0 : Nat) : Int)]
    rw [← hs]
    rfl
  · intro k _
    (conv => whnf)
    refine ⟨fun h => ?_, fun h => ?_⟩
    · have h := of_decide_eq_true h
      have h' : s + k < p.length := by omega
      have hlow := hall (s + k) (by omega) h'
      (conv => whnf)
      (repeat' (first | (refine ⟨by kernel_rfl, ?_⟩; (conv => whnf)) | (refine And.intro (a := _ ∧ _) ⟨by omega, by omega⟩ ?_; (conv => whnf))))
      refine ⟨fun h2 => absurd (of_decide_eq_true h2) (by show ¬ thr ≤ p.getD (s + k) 0; omega), fun _ => ?_⟩
      (conv => whnf)
      refine ⟨k + 1, ?_⟩
      (conv => whnf)
      refine ⟨⟨⟨Nat.sub_lt_sub_left (by omega) (Nat.lt_succ_self _), trivial⟩, ?_, rfl, rfl⟩, by kernel_rfl, by kernel_rfl⟩
      rw [w64 _ (by omega) (by omega)]; rfl
    · (conv => whnf)
      first | rfl | (repeat' (first | (refine ⟨by kernel_rfl, ?_⟩; (conv => whnf)) | fail))
theorem brErr (p : List Int) (thr a : Int) (hl : p.length ≤ 100) (c1 : PC Try.prog 54 [ints p, i64 thr, i64 a] (.tup [fr (0, 0), i64 50])) (c2 : PC Try.prog 55 [ints p] (i64 50)) : PC Try.prog 8 [ints p, i64 thr, i64 a] (.bool true) := by
  have al := pc_alive
  refine pc_of_bodyF hm Try.func8 (by kernel_rfl) ?_
  conv => whnf
  (repeat' (first | (refine ⟨_, by first | with_reducible exact al | with_reducible exact c1 | with_reducible exact c2, ?_⟩; (conv => whnf)) | (refine Or.inl ?_; (conv => whnf); refine ⟨_, by first | with_reducible exact al | with_reducible exact c1 | with_reducible exact c2, ?_⟩; (conv => whnf)) | (refine Or.inl ?_; (conv => whnf); refine ⟨false, ?_⟩; (conv => whnf); refine ⟨_, by first | with_reducible exact al | with_reducible exact c1 | with_reducible exact c2, ?_⟩; (conv => whnf)) | (refine ⟨by kernel_rfl, ?_⟩; (conv => whnf)) | (refine ⟨fun _ => ?_, fun h => absurd h (by first | decide | (simp; done) | fail)⟩; (conv => whnf)) | (refine ⟨fun h => absurd h (by first | decide | (simp; done) | fail), fun _ => ?_⟩; (conv => whnf)) | ((with_reducible refine And.intro (a := _ = true → _) (b := _ = false → _) (fun hh => ?_) (fun hh => ?_)) <;> (try simp only [decide_eq_true_eq, decide_eq_false_iff_not, Bool.or_eq_true, Bool.and_eq_true, Bool.or_eq_false_iff, Bool.and_eq_false_iff, Bool.not_eq_true', Bool.not_eq_false', ge_iff_le, gt_iff_lt] at hh) <;> (first | (exfalso; omega) | (conv => whnf))) | fail))
  all_goals (first | rfl | set_option pp.maxSteps 300 in trace_state)
theorem brArg (p : List Int) (thr a : Int) (hl : p.length ≤ 100) (c1 : PC Try.prog 54 [ints p, i64 thr, i64 a] (.tup [fr (0, 0), i64 2])) (c2 : PC Try.prog 55 [ints p] (i64 0)) : PC Try.prog 8 [ints p, i64 thr, i64 a] (.bool true) := by
  have al := pc_alive
  refine pc_of_bodyF hm Try.func8 (by kernel_rfl) ?_
  conv => whnf
  (repeat' (first | (refine ⟨_, by first | with_reducible exact al | with_reducible exact c1 | with_reducible exact c2, ?_⟩; (conv => whnf)) | (refine Or.inl ?_; (conv => whnf); refine ⟨_, by first | with_reducible exact al | with_reducible exact c1 | with_reducible exact c2, ?_⟩; (conv => whnf)) | (refine Or.inl ?_; (conv => whnf); refine ⟨false, ?_⟩; (conv => whnf); refine ⟨_, by first | with_reducible exact al | with_reducible exact c1 | with_reducible exact c2, ?_⟩; (conv => whnf)) | (refine ⟨by kernel_rfl, ?_⟩; (conv => whnf)) | (refine ⟨fun _ => ?_, fun h => absurd h (by first | decide | (simp; done) | fail)⟩; (conv => whnf)) | (refine ⟨fun h => absurd h (by first | decide | (simp; done) | fail), fun _ => ?_⟩; (conv => whnf)) | ((with_reducible refine And.intro (a := _ = true → _) (b := _ = false → _) (fun hh => ?_) (fun hh => ?_)) <;> (try simp only [decide_eq_true_eq, decide_eq_false_iff_not, Bool.or_eq_true, Bool.and_eq_true, Bool.or_eq_false_iff, Bool.and_eq_false_iff, Bool.not_eq_true', Bool.not_eq_false', ge_iff_le, gt_iff_lt] at hh) <;> (first | (exfalso; omega) | (conv => whnf))) | fail))
  all_goals (first | rfl | set_option pp.maxSteps 300 in trace_state)
def brW : PSigma fun P : List Int → Int → Int → Int → Int → Int → Int → Prop => ∀ (p : List Int) (thr a x1 x2 n m : Int), p.length ≤ 100 → (PC Try.prog 54 [ints p, i64 thr, i64 a] (.tup [fr (x1, x2), i64 0])) → (PC Try.prog 56 [fr (x1, x2)] (.tup [i64 n, i64 0])) → (PC Try.prog 57 [fr (x1, x2)] (.tup [i64 m, i64 0])) →
    0 ≤ a → a ≤ n → n ≤ m → m < p.length → (∀ j : Nat, a ≤ (j : Int) → (j : Int) < m → p.getD j 0 < thr) → (Unit → P p thr a x1 x2 n m) → PC Try.prog 8 [ints p, i64 thr, i64 a] (.bool true) := ⟨_, fun p thr a x1 x2 n m hl c1 c2 c3 h0 h1 h2 h3 hall hP => by
  have al := pc_alive
  refine pc_of_bodyF hm Try.func8 (by kernel_rfl) ?_
  conv => whnf
  (repeat' (first | (refine ⟨_, by first | with_reducible exact al | with_reducible exact c1 | with_reducible exact c2 | with_reducible exact c3, ?_⟩; (conv => whnf)) | (refine Or.inl ?_; (conv => whnf); refine ⟨_, by first | with_reducible exact al | with_reducible exact c1 | with_reducible exact c2 | with_reducible exact c3, ?_⟩; (conv => whnf)) | (refine Or.inl ?_; (conv => whnf); refine ⟨false, ?_⟩; (conv => whnf); refine ⟨_, by first | with_reducible exact al | with_reducible exact c1 | with_reducible exact c2 | with_reducible exact c3, ?_⟩; (conv => whnf)) | (refine ⟨by kernel_rfl, ?_⟩; (conv => whnf)) | (refine ⟨fun _ => ?_, fun h => absurd h (by first | decide | (simp; done) | fail)⟩; (conv => whnf)) | (refine ⟨fun h => absurd h (by first | decide | (simp; done) | fail), fun _ => ?_⟩; (conv => whnf)) | ((with_reducible refine And.intro (a := _ = true → _) (b := _ = false → _) (fun hh => ?_) (fun hh => ?_)) <;> (try simp only [decide_eq_true_eq, decide_eq_false_iff_not, Bool.or_eq_true, Bool.and_eq_true, Bool.or_eq_false_iff, Bool.and_eq_false_iff, Bool.not_eq_true', Bool.not_eq_false', ge_iff_le, gt_iff_lt] at hh) <;> (first | (exfalso; omega) | (conv => whnf))) | fail))
  refine Or.inr ⟨Nat, [15], [], [], fun k => [i64 (a + (k : Int))], fun _ => [], fun _ => [], fun k => (m - (a + (k : Int))).toNat, fun k => a + (k : Int) ≤ m, ?_⟩
  (conv => whnf)
  refine ⟨⟨0, ?_⟩, ?_⟩
  · (conv => whnf)
    refine ⟨⟨by omega, ?_, rfl, rfl⟩, by kernel_rfl, by kernel_rfl⟩
    show [i64 a] = [i64 (a + ((0 : Nat) : Int))]
    rw [show a + ((0 : Nat) : Int) = a by omega]
  · intro k hk
    (conv => whnf)
    refine ⟨fun h => ?_, fun h => ?_⟩
    · have h := of_decide_eq_true h
      have hlow := hall (a + (k : Int)).toNat (by omega) (by omega)
      (conv => whnf)
      (repeat' (first | (refine ⟨by kernel_rfl, ?_⟩; (conv => whnf)) | (refine And.intro (a := _ ∧ _) ⟨by omega, by omega⟩ ?_; (conv => whnf))))
      refine ⟨fun h2 => absurd (of_decide_eq_true h2) (by show ¬ thr ≤ p.getD (a + (k : Int)).toNat 0; omega), fun _ => ?_⟩
      (conv => whnf)
      refine ⟨k + 1, ?_⟩
      (conv => whnf)
      refine ⟨⟨⟨by show (m - (a + ((k + 1 : Nat) : Int))).toNat < (m - (a + (k : Int))).toNat; omega, by omega⟩, ?_, rfl, rfl⟩, by kernel_rfl, by kernel_rfl⟩
      rw [w64 _ (by omega) (by omega)]
      show [i64 (a + (k : Int) + 1)] = [i64 (a + ((k + 1 : Nat) : Int))]
      rw [show a + (k : Int) + 1 = a + ((k + 1 : Nat) : Int) by omega]
    · have h := of_decide_eq_false h
      have e4 : a + (k : Int) = m := by omega
      rw [e4]
      (conv => whnf)
      exact hP ()⟩
theorem brA {p : List Int} {thr a : Int} {n m : Int} (cf : PC Try.prog 58 [i64 a, i64 1] (fr (a, 1))) (h0 : 0 ≤ a) (hl : a < p.length) (hb : thr ≤ p.getD a.toNat 0) : brW.1 p thr a a 1 n m := by
  conv => whnf
  (repeat' (first | (refine ⟨_, by first | with_reducible exact cf, ?_⟩; (conv => whnf)) | (refine Or.inl ?_; (conv => whnf); refine ⟨_, by first | with_reducible exact cf, ?_⟩; (conv => whnf)) | (refine Or.inl ?_; (conv => whnf); refine ⟨false, ?_⟩; (conv => whnf); refine ⟨_, by first | with_reducible exact cf, ?_⟩; (conv => whnf)) | (refine ⟨by kernel_rfl, ?_⟩; (conv => whnf)) | (refine ⟨fun _ => ?_, fun h => absurd h (by first | decide | (simp; done) | fail)⟩; (conv => whnf)) | (refine ⟨fun h => absurd h (by first | decide | (simp; done) | fail), fun _ => ?_⟩; (conv => whnf)) | fail))
  (repeat' (first | (refine ⟨by kernel_rfl, ?_⟩; (conv => whnf)) | (refine And.intro (a := _ ∧ _) ⟨by omega, by omega⟩ ?_; (conv => whnf))))
  exact congrArg AV.bool (decide_eq_true hb)
theorem brB {p : List Int} {thr a x1 x2 : Int} {n : Int} (cf : PC Try.prog 58 [i64 a, i64 1] (fr (a, 1))) (hne : ¬ (x1 = a ∧ x2 = 1)) (h0 : 0 ≤ n) (hl : n < p.length) (hb : p.getD n.toNat 0 = thr) : brW.1 p thr a x1 x2 n n := by
  conv => whnf
  (repeat' (first | (refine ⟨_, by first | with_reducible exact cf, ?_⟩; (conv => whnf)) | (refine Or.inl ?_; (conv => whnf); refine ⟨_, by first | with_reducible exact cf, ?_⟩; (conv => whnf)) | (refine Or.inl ?_; (conv => whnf); refine ⟨false, ?_⟩; (conv => whnf); refine ⟨_, by first | with_reducible exact cf, ?_⟩; (conv => whnf)) | (refine ⟨by kernel_rfl, ?_⟩; (conv => whnf)) | (refine ⟨fun _ => ?_, fun h => absurd h (by first | decide | (simp; done) | fail)⟩; (conv => whnf)) | (refine ⟨fun h => absurd h (by first | decide | (simp; done) | fail), fun _ => ?_⟩; (conv => whnf)) | fail))
  refine ⟨fun h => absurd h (by simp; omega), fun _ => ?_⟩
  (conv => whnf)
  (repeat' (first | (refine ⟨by kernel_rfl, ?_⟩; (conv => whnf)) | (refine And.intro (a := _ ∧ _) ⟨by omega, by omega⟩ ?_; (conv => whnf))))
  refine ⟨fun _ => ?_, fun h => absurd rfl (of_decide_eq_false h)⟩
  (conv => whnf)
  (repeat' (first | (refine ⟨by kernel_rfl, ?_⟩; (conv => whnf)) | (refine ⟨fun _ => ?_, fun h => absurd h (by first | decide | (simp; done) | fail)⟩; (conv => whnf)) | (refine ⟨fun h => absurd h (by first | decide | (simp; done) | fail), fun _ => ?_⟩; (conv => whnf)) | fail))
  (repeat' (first | (refine ⟨by kernel_rfl, ?_⟩; (conv => whnf)) | (refine And.intro (a := _ ∧ _) ⟨by omega, by omega⟩ ?_; (conv => whnf))))
  refine ⟨fun _ => ?_, fun h => absurd (show thr ≤ p.getD n.toNat 0 by rw [hb]; exact Int.le_refl _) (of_decide_eq_false h)⟩
  (conv => whnf)
  (repeat' (first | (refine ⟨by kernel_rfl, ?_⟩; (conv => whnf)) | (refine ⟨fun _ => ?_, fun h => absurd h (by first | decide | (simp; done) | fail)⟩; (conv => whnf)) | (refine ⟨fun h => absurd h (by first | decide | (simp; done) | fail), fun _ => ?_⟩; (conv => whnf)) | fail))
  (repeat' (first | (refine ⟨by kernel_rfl, ?_⟩; (conv => whnf)) | (refine And.intro (a := _ ∧ _) ⟨by omega, by omega⟩ ?_; (conv => whnf))))
  exact congrArg AV.bool (decide_eq_true hb)
theorem brC {p : List Int} {thr a x1 x2 : Int} {n m : Int} (cf : PC Try.prog 58 [i64 a, i64 1] (fr (a, 1))) (hne : ¬ (x1 = a ∧ x2 = 1)) (h0 : 0 ≤ n) (hl : n < p.length) (k0 : 0 ≤ m) (kl : m < p.length) (hnm : n ≠ m)
    (hq : decide (IntKind.i64.wrap (IntKind.i64.wrap (p.getD n.toNat 0 * x2) + IntKind.i64.wrap (IntKind.i64.wrap (x1 - IntKind.i64.wrap (n * x2)) * IntKind.i64.wrap (p.getD m.toNat 0 - p.getD n.toNat 0))) = IntKind.i64.wrap (thr * x2)) = true) : brW.1 p thr a x1 x2 n m := by
  conv => whnf
  (repeat' (first | (refine ⟨_, by first | with_reducible exact cf, ?_⟩; (conv => whnf)) | (refine Or.inl ?_; (conv => whnf); refine ⟨_, by first | with_reducible exact cf, ?_⟩; (conv => whnf)) | (refine Or.inl ?_; (conv => whnf); refine ⟨false, ?_⟩; (conv => whnf); refine ⟨_, by first | with_reducible exact cf, ?_⟩; (conv => whnf)) | (refine ⟨by kernel_rfl, ?_⟩; (conv => whnf)) | (refine ⟨fun _ => ?_, fun h => absurd h (by first | decide | (simp; done) | fail)⟩; (conv => whnf)) | (refine ⟨fun h => absurd h (by first | decide | (simp; done) | fail), fun _ => ?_⟩; (conv => whnf)) | fail))
  refine ⟨fun h => absurd h (by simp; omega), fun _ => ?_⟩
  (conv => whnf)
  (repeat' (first | (refine ⟨by kernel_rfl, ?_⟩; (conv => whnf)) | (refine And.intro (a := _ ∧ _) ⟨by omega, by omega⟩ ?_; (conv => whnf))))
  refine ⟨fun h => absurd (of_decide_eq_true h) hnm, fun _ => ?_⟩
  (conv => whnf)
  (repeat' (first | (refine ⟨by kernel_rfl, ?_⟩; (conv => whnf)) | (refine ⟨fun _ => ?_, fun h => absurd h (by first | decide | (simp; done) | fail)⟩; (conv => whnf)) | (refine ⟨fun h => absurd h (by first | decide | (simp; done) | fail), fun _ => ?_⟩; (conv => whnf)) | fail))
  (repeat' (first | (refine ⟨by kernel_rfl, ?_⟩; (conv => whnf)) | (refine And.intro (a := _ ∧ _) ⟨by omega, by omega⟩ ?_; (conv => whnf))))
  exact congrArg AV.bool hq
theorem pc_GaugeBright (p : List Int) (thr a : Int) : PC Try.prog 8 [ints p, i64 thr, i64 a] (.bool true) := by
  by_cases hl : p.length ≤ 100
  rotate_left
  · exact brOut p thr a (by omega)
  have c1 := pc_gFirst p thr a (by omega)
  have c2 := pc_CheckProfile p (by omega)
  unfold firF at c1
  cases hp : profB p
  · rw [hp] at c1 c2
    exact brErr p thr a hl c1 c2
  rw [hp] at c1 c2
  cases hk : askE p thr a 0
  · rw [hk] at c1
    exact brArg p thr a hl c1 c2
  rw [hk] at c1
  obtain ⟨t1, t2, a1, a2, _⟩ := ask_known hk
  have hb := prof_byte hp
  have hlen := (prof_len hp).2
  have hs : stepsN p.length a 1 = ((p.length : Int) - a).toNat := by simp [stepsN]
  have at1 : ∀ k : Nat, atK p a 1 k = p.getD (a + (k : Int)).toNat 0 := fun k => by unfold atK; rw [Int.one_mul]
  simp only [if_true] at c1
  cases hbk : brk p thr a 1 with
  | none =>
    rw [brF_none hbk] at c1
    refine brNone p thr a hl c1 fun j h1 h2 => ?_
    have := brk_none.1 hbk (j - a.toNat) (by omega)
    rw [at1] at this
    rw [show (a + ((j - a.toNat : Nat) : Int)).toNat = j by omega] at this
    exact this
  | some k =>
    rw [brF_some hbk] at c1
    obtain ⟨h1, h2, h3⟩ := brk_some.1 hbk
    have cf := fr_lit a 1 a 1 ⟨by omega, by omega⟩ ⟨by omega, by omega⟩ (by rw [makeF_one (by omega) (by omega)])
    have low : ∀ j : Nat, a ≤ (j : Int) → (j : Int) < a + (k : Int) → p.getD j 0 < thr := fun j j1 j2 => by
      have := h3 (j - a.toNat) (by omega)
      rw [at1] at this
      rw [show (a + ((j - a.toNat : Nat) : Int)).toNat = j by omega] at this
      exact this
    cases k with
    | zero =>
      have e : placeF p thr a 1 0 = (a, 1) := by
        unfold placeF
        simp only [placeN]
        rw [makeF_one (by omega) (by omega)]
      rw [e] at c1
      have va : validB (a, 1) = true := valid_one (by omega) (by omega)
      have k1 := pc_Floor (a, 1) va
      have k2 := pc_Ceil (a, 1) va
      simp only [Int.ediv_one, Int.neg_neg] at k1 k2
      rw [at1] at h2
      refine brW.2 p thr a a 1 a a hl c1 k1 k2 a1 (Int.le_refl _) (Int.le_refl _) a2 (fun j j1 j2 => absurd j2 (by omega)) (fun _ => brA cf a1 a2 ?_)
      rw [show a.toNat = (a + ((0 : Nat) : Int)).toNat by omega]
      exact h2
    | succ k =>
      obtain ⟨⟨x1, x2⟩, hx⟩ : ∃ x, placeF p thr a 1 (k + 1) = x := ⟨_, rfl⟩
      rw [hx] at c1
      obtain ⟨v, b1, l1, l2, l3, l4, l5, l6⟩ := bright_law hb hlen a1 a2 t1 t2 hbk hx
      have k1 := pc_Floor (x1, x2) v
      have k2 := pc_Ceil (x1, x2) v
      simp only [] at k1 k2
      rw [l1] at k2
      rcases l6 with ⟨l6, l7⟩ | ⟨l6, l7⟩
      · rw [l6] at k1
        refine brW.2 p thr a x1 x2 _ _ hl c1 k1 k2 a1 (by omega) (by omega) (by omega) (fun j j1 j2 => low j j1 (by omega)) (fun _ => brC cf l4 (by omega) (by omega) (by omega) (by omega) (by omega) ?_)
        rw [at1, at1] at l7
        have q1 := hb (a + (k : Int)).toNat (by omega)
        have q2 := hb (a + ((k + 1 : Nat) : Int)).toNat (by omega)
        rw [show a + (k : Int) + 1 = a + ((k + 1 : Nat) : Int) by omega]
        generalize p.getD (a + (k : Int)).toNat 0 = c0 at *
        generalize p.getD (a + ((k + 1 : Nat) : Int)).toNat 0 = c1 at *
        have m1 := mul_pm (a := c0) (b := x2) (A := 255) (B := 255) (by omega) (by omega) (by omega) (by omega)
        have m2 := mul_pm (a := a + (k : Int)) (b := x2) (A := 64) (B := 255) (by omega) (by omega) (by omega) (by omega)
        have m3 := mul_pm (a := thr) (b := x2) (A := 255) (B := 255) (by omega) (by omega) (by omega) (by omega)
        have m4 := mul_pm (a := x1 - (a + (k : Int)) * x2) (b := c1 - c0) (A := 255) (B := 255) (by omega) (by omega) (by omega) (by omega)
        rw [w64 (c0 * x2) (by omega) (by omega), w64 ((a + (k : Int)) * x2) (by omega) (by omega), w64 (thr * x2) (by omega) (by omega), w64 (x1 - (a + (k : Int)) * x2) (by omega) (by omega), w64 (c1 - c0) (by omega) (by omega), w64 ((x1 - (a + (k : Int)) * x2) * (c1 - c0)) (by omega) (by omega), w64 _ (by omega) (by omega)]
        exact decide_eq_true l7
      · rw [l6] at k1
        refine brW.2 p thr a x1 x2 _ _ hl c1 k1 k2 a1 (by omega) (by omega) (by omega) (fun j j1 j2 => low j j1 (by omega)) (fun _ => brB cf l4 (by omega) (by omega) ?_)
        rw [at1] at l7
        rw [show a + (k : Int) + 1 = a + ((k + 1 : Nat) : Int) by omega]
        exact l7
end Go.Proofs.Try.My
set_option maxRecDepth 100000
set_option maxHeartbeats 0
set_option linter.unusedVariables false
set_option linter.unusedSimpArgs false
namespace Go.Proofs.Ytblmmhmdnnnidaa.GaugeBrightDone
open Go Go.Ev Go.Proofs.Try.My
open Go.ChangeShapes Go.WideShapes Go.ChangeAt Go.RowKit

theorem own : ownKnob Try.prog.godebug = none := by kernel_rfl
theorem laidOut : laidOutB Try.prog = true := by kernel_rfl

theorem walk (w : World) (p : List Int) (v0 : Value) (h0 : RepI (fun b => b < w.heap.size) w (ints p) v0) (thr : Int) (a : Int) :
    Calls Try.prog 8 #[v0, .int .i64 thr, .int .i64 a] w fun e w' => e = .returned (.bool true) ∧ Below w.heap.size w w' := by
  refine PC.callsTrue (pc_GaugeBright p thr a) Try.func8 (by kernel_rfl) rfl rfl fun i hi => ?_
  match i, hi with
  | 0, _ => exact h0
  | 1, _ => exact .int _ _
  | 2, _ => exact .int _ _

theorem lifted (os : Os) (started : os.Started) (H : Type) (enc : TypeId × Value → H) :
    ReturnsInHanded {} Try.checked os 8 .any (Rows.gaugeBrightSpec.pre6 enc Try.prog Try.f8 Rows.gaugeBrightRow.domain false) (Rows.gaugeBrightSpec.post enc Try.prog Try.f8 false true false false) := by
  refine returnsInHanded_of_change (C := Try.checked) own started (by kernel_rfl) Try.func8
    (ChangeSpec.witness6 (enc := enc) (C := Try.checked) false ⟨#[], #[.slice none 0 0, .int .i64 0, .int .i64 0], []⟩ 8 (by kernel_rfl) (by kernel_rfl) (by kernel_rfl) (by kernel_rfl)) ?_
  intro W base args ds gs before hval0 hW hcnd _
  have hval : ∀ (j : Nat) t v, Try.f8.params[j]? = some t → args[j]? = some v → Value.okWide Try.prog W .any base t v := hval0
  have hW' := hW
  obtain ⟨p, q, hA0, hV, rfl, hfz, hnd⟩ := hW
  have hA : DataW.TrodAll enc Try.prog W 0 (fun _ => true) true Try.f8.params.toList args.toList ds p := hA0
  rw [Try.params8] at hA hval
  obtain ⟨v0, vs0, d0, ds0, p0, q0, hargs, rfl, rfl, h0, r0⟩ := trodAll_cons hA
  obtain ⟨v1, vs1, d1, ds1, p1, q1, rfl, rfl, rfl, h1, r1⟩ := trodAll_cons r0
  obtain ⟨v2, vs2, d2, ds2, p2, q2, rfl, rfl, rfl, h2, r2⟩ := trodAll_cons r1
  obtain ⟨rfl, rfl, rfl⟩ := trodAll_nil r2
  obtain rfl : args = #[v0, v1, v2] := by cases args; simp_all
  obtain ⟨rfl, rfl⟩ := trodVars_none hV
  obtain ⟨a0, len0, cap0, rfl⟩ := okWide_slice Try.underlying58 (hval 0 58 v0 rfl rfl)
  have k0 := h0
  have lt0 : ∀ x ∈ p0, x.block < W.heap.size := by obtain ⟨m, hm⟩ := k0; exact DataW.trod_lt m _ _ _ hm
  obtain ⟨l0, i0, _, n0⟩ : ∃ l : List Int, RepI (fun b => b < W.heap.size) W (ints l) (.slice a0 len0 cap0) ∧ (∀ n ∈ l, I64 n) ∧ l.length ≤ maxLen := by
    obtain ⟨fuel, hf⟩ := h0
    exact repI_ints Try.underlying58 Try.underlying3 (by kernel_rfl) (hval 0 58 _ rfl rfl) hf
  obtain ⟨a1, rfl, rfl, rfl, w1⟩ := open_int Try.underlying3 (hval 1 3 v1 rfl rfl) h1
  obtain ⟨a2, rfl, rfl, rfl, w2⟩ := open_int Try.underlying3 (hval 2 3 v2 rfl rfl) h2
  clear hA0 hval0
  refine (walk W l0 _ i0 a1 a2).mono fun e W' ⟨he, bel⟩ => ?_
  subst he
  exact ⟨_, rfl, _, _, _, [], _, [], hW', trodAll_mk1 (shut_bool Try.underlying4 _), (trodAll_cons_mk (Below.trod laidOut (by kernel_rfl) (of_decide_eq_true (by kernel_rfl)) k0 bel lt0) (trodAll_cons_mk (shut_int Try.underlying3 w1) (trodAll_cons_mk (shut_int Try.underlying3 w2) trodAll_mk0))), rfl, bel.frame _, fun h => by cases h⟩

theorem closed : joinedFacts Try.pinned.checked.prog 8 Try.f8 Rows.gaugeBrightSpec Rows.gaugeBrightRow = true :=
  (restOf Try.pinned.checked.prog 8 Try.f8 Rows.gaugeBrightSpec Rows.gaugeBrightRow make_eq mayEnter_eq liftsFinal_eq).2 (by kernel_rfl)
theorem over : Rows.gaugeBrightRow.holds Try.pinned (OpenSpec.ofChange Rows.gaugeBrightSpec) :=
  OpenClaim.holds_of_wide 8 Try.f8 rfl rfl rfl rfl rfl rfl rfl ⟨rfl, rfl, rfl, rfl, rfl⟩ rfl rfl rfl rfl rfl (by kernel_rfl) Try.func8 closed
    (of_decide_eq_true (by kernel_rfl)) (by unfold Func.isWrapper; first | (rw [if_pos (by decide +kernel)]; kernel_rfl) | (rw [if_neg (by decide +kernel)]; exact ⟨rfl, rfl⟩))
    (fun os started H enc _ => lifted os started H enc)

theorem proved : Rows.GaugeBrightSaid := over
#print axioms proved
end Go.Proofs.Ytblmmhmdnnnidaa.GaugeBrightDone
