/- A helper text: contracts of functions of the program, and plain lemmas. -/
import Derived.Test.YtblmmhmdnnnidaaEvSix
import Derived.Test.YtblmmhmdnnnidaaMyPd
set_option maxRecDepth 100000
set_option maxHeartbeats 0
set_option linter.unusedVariables false
set_option linter.unusedSimpArgs false
namespace Go.Proofs.Try.My
open Go Go.Ev

theorem pc_rValidView (v : SpT) : PC Try.prog 43 [sp v] (.bool (viewB v)) := by
  have c1 := pc_within v.1.1 (-1000) 1000
  have c2 := pc_within v.1.2 1 1000
  have c3 := pc_within v.2.1 (-4096) 4096
  have c4 := pc_within v.2.2 v.2.1 4096
  unfold viewB
  generalize withB v.1.1 (-1000) 1000 = x1 at *
  generalize withB v.1.2 1 1000 = x2 at *
  generalize withB v.2.1 (-4096) 4096 = x3 at *
  generalize withB v.2.2 v.2.1 4096 = x4 at *
  obtain ⟨⟨v1, v2⟩, ⟨v3, v4⟩⟩ := v
  refine pc_of_bodyF hm Try.func43 (by kernel_rfl) ?_
  conv => whnf
  (repeat' (first | (refine ⟨_, by first | with_reducible exact c1 | with_reducible exact c2 | with_reducible exact c3 | with_reducible exact c4, ?_⟩; (conv => whnf)) | (refine Or.inl ?_; (conv => whnf); refine ⟨_, by first | with_reducible exact c1 | with_reducible exact c2 | with_reducible exact c3 | with_reducible exact c4, ?_⟩; (conv => whnf)) | (refine Or.inl ?_; (conv => whnf); refine ⟨false, ?_⟩; (conv => whnf); refine ⟨_, by first | with_reducible exact c1 | with_reducible exact c2 | with_reducible exact c3 | with_reducible exact c4, ?_⟩; (conv => whnf)) | (refine ⟨by kernel_rfl, ?_⟩; (conv => whnf)) | (refine ⟨fun _ => ?_, fun h => absurd h (by first | decide | (simp; done) | fail)⟩; (conv => whnf)) | (refine ⟨fun h => absurd h (by first | decide | (simp; done) | fail), fun _ => ?_⟩; (conv => whnf)) | ((with_reducible refine And.intro (a := _ = true → _) (b := _ = false → _) (fun hh => ?_) (fun hh => ?_)) <;> (try simp only [decide_eq_true_eq, decide_eq_false_iff_not, Bool.or_eq_true, Bool.and_eq_true, Bool.or_eq_false_iff, Bool.and_eq_false_iff, Bool.not_eq_true', Bool.not_eq_false', ge_iff_le, gt_iff_lt] at hh) <;> (first | (exfalso; omega) | (conv => whnf))) | fail))
  all_goals (first | rfl | (simp [*]; done))
theorem pc_rFulfils (N M D : Int) (v : SpT) (hv : viewB v = true) (hp : okP ((N, M), D)) : PC Try.prog 114 [.agg [i64 N, i64 M, i64 D], sp v] (.bool (fulB ((N, M), D) v)) := by
  have h := (viewB_iff v).1 hv
  obtain ⟨⟨X, Z⟩, lo, hi⟩ := v
  unfold okP at hp
  simp only [] at h hp
  have m1 := mul_pm (a := N) (b := X) (A := 17179869184) (B := 1000) (by omega) (by omega) (by omega) (by omega)
  have m2 := mul_pm (a := M) (b := Z) (A := 17179869184) (B := 1000) (by omega) (by omega) (by omega) (by omega)
  have m3 := mul_pm (a := lo) (b := D) (A := 4096) (B := 17179869184) (by omega) (by omega) (by omega) (by omega)
  have m4 := mul_pm (a := hi) (b := D) (A := 4096) (B := 17179869184) (by omega) (by omega) (by omega) (by omega)
  have m5 := mul_pm (a := lo * D) (b := Z) (A := 70368744177664) (B := 1000) (by omega) (by omega) (by omega) (by omega)
  have m6 := mul_pm (a := hi * D) (b := Z) (A := 70368744177664) (B := 1000) (by omega) (by omega) (by omega) (by omega)
  have w1 : IntKind.i64.wrap (N * X) = N * X := w64 _ (by omega) (by omega)
  have w2 : IntKind.i64.wrap (M * Z) = M * Z := w64 _ (by omega) (by omega)
  have w3 : IntKind.i64.wrap (lo * D) = lo * D := w64 _ (by omega) (by omega)
  have w4 : IntKind.i64.wrap (hi * D) = hi * D := w64 _ (by omega) (by omega)
  have w5 : IntKind.i64.wrap (lo * D * Z) = lo * D * Z := w64 _ (by omega) (by omega)
  have w6 : IntKind.i64.wrap (hi * D * Z) = hi * D * Z := w64 _ (by omega) (by omega)
  have w7 : IntKind.i64.wrap (N * X + M * Z) = N * X + M * Z := w64 _ (by omega) (by omega)
  have e : fulB ((N, M), D) ((X, Z), (lo, hi)) = (decide (IntKind.i64.wrap (IntKind.i64.wrap (lo * D) * Z) ≤ IntKind.i64.wrap (IntKind.i64.wrap (N * X) + IntKind.i64.wrap (M * Z))) && decide (IntKind.i64.wrap (IntKind.i64.wrap (N * X) + IntKind.i64.wrap (M * Z)) ≤ IntKind.i64.wrap (IntKind.i64.wrap (hi * D) * Z))) := by
    unfold fulB
    rw [w1, w2, w3, w4, w5, w6, w7]
  rw [e]
  refine pc_of_bodyF hm Try.func114 (by kernel_rfl) ?_
  conv => whnf
  clear w1 w2 w3 w4 w5 w6 w7 m1 m2 m3 m4 m5 m6 e
  (repeat' (first | (refine ⟨by kernel_rfl, ?_⟩; (conv => whnf)) | (refine ⟨fun _ => ?_, fun h => absurd h (by first | decide | (simp; done) | fail)⟩; (conv => whnf)) | (refine ⟨fun h => absurd h (by first | decide | (simp; done) | fail), fun _ => ?_⟩; (conv => whnf)) | ((with_reducible refine And.intro (a := _ = true → _) (b := _ = false → _) (fun hh => ?_) (fun hh => ?_)) <;> (try simp only [decide_eq_true_eq, decide_eq_false_iff_not, Bool.or_eq_true, Bool.and_eq_true, Bool.or_eq_false_iff, Bool.and_eq_false_iff, Bool.not_eq_true', Bool.not_eq_false', ge_iff_le, gt_iff_lt] at hh) <;> (first | (exfalso; omega) | (conv => whnf))) | fail))
  all_goals (first | rfl | (simp only [hh, decide_true, decide_false, Bool.true_and, Bool.false_and]; done) | set_option pp.maxSteps 300 in trace_state)
theorem pc_rAll (p : PrT) (l : List SpT) (hl : l.length < 2 ^ 39) (hv : ∀ v ∈ l, viewB v = true) (hp : okP p) : PC Try.prog 45 [.agg (eP3 p), vws l] (.bool (l.all (fulB p))) := by
  obtain ⟨⟨N, M⟩, D⟩ := p
  show PC Try.prog 45 [.agg [i64 N, i64 M, i64 D], vws l] (.bool (l.all (fulB ((N, M), D))))
  have hg : ∀ k, k < l.length → viewB (l.getD k z4) = true := fun k hk => hv _ (by
    simp only [List.getD, List.getElem?_eq_getElem hk, Option.getD_some]
    exact List.getElem_mem hk)
  have bad : ∀ k, k < l.length → fulB ((N, M), D) (l.getD k z4) = false → l.all (fulB ((N, M), D)) = false := fun k hk h => by
    rw [List.all_eq_false]
    refine ⟨l.getD k z4, ?_, by rw [h]; decide⟩
    simp only [List.getD, List.getElem?_eq_getElem hk, Option.getD_some]
    exact List.getElem_mem hk
  have good : (∀ j, j < l.length → fulB ((N, M), D) (l.getD j z4) = true) → l.all (fulB ((N, M), D)) = true := fun h => by
    rw [List.all_eq_true]
    intro v hm
    obtain ⟨i, hi, rfl⟩ := List.getElem_of_mem hm
    have := h i hi
    simpa [List.getD, List.getElem?_eq_getElem hi] using this
  refine pc_of_bodyF hm Try.func45 (by kernel_rfl) ?_
  conv => whnf
  refine Or.inr ⟨Nat, [5], [], [], fun i => [i64 i], fun _ => [], fun _ => [], fun i => l.length - i, fun i => i ≤ l.length ∧ ∀ j, j < i → fulB ((N, M), D) (l.getD j z4) = true, ?_⟩
  (conv => whnf)
  refine ⟨⟨0, ?_⟩, ?_⟩
  · (conv => whnf)
    exact ⟨⟨⟨Nat.zero_le _, fun j hj => absurd hj (Nat.not_lt_zero j)⟩, rfl, rfl, rfl⟩, by kernel_rfl, by kernel_rfl⟩
  · intro i hi
    (conv => whnf)
    refine ⟨fun h => ?_, fun h => ?_⟩
    · have h := of_decide_eq_true h
      have h' : i < l.length := Int.ofNat_lt.1 h
      have c := pc_rFulfils N M D (l.getD i z4) (hg i h') hp
      have bad := bad i h'
      have hgd : l.getD (Int.toNat (i : Int)) z4 = l.getD i z4 := rfl
      generalize hf : fulB ((N, M), D) (l.getD i z4) = f at *
      (conv => whnf)
      (repeat' (first | (refine ⟨by kernel_rfl, ?_⟩; (conv => whnf)) | (refine And.intro (a := _ ∧ _) ⟨by omega, by omega⟩ ?_; (conv => whnf))))
      (repeat' (first | (refine ⟨_, by first | exact c, ?_⟩; (conv => whnf)) | (refine Or.inl ?_; (conv => whnf); refine ⟨_, by first | exact c, ?_⟩; (conv => whnf)) | (refine Or.inl ?_; (conv => whnf); refine ⟨false, ?_⟩; (conv => whnf); refine ⟨_, by first | exact c, ?_⟩; (conv => whnf)) | (refine ⟨by kernel_rfl, ?_⟩; (conv => whnf)) | fail))
      cases f
      · have bad := bad rfl
        (conv => whnf)
        (repeat' (first | (refine ⟨by kernel_rfl, ?_⟩; (conv => whnf)) | (refine ⟨fun _ => ?_, fun h => absurd h (by first | decide | (simp; done) | fail)⟩; (conv => whnf)) | (refine ⟨fun h => absurd h (by first | decide | (simp; done) | fail), fun _ => ?_⟩; (conv => whnf)) | fail))
        rw [bad]
      · (conv => whnf)
        (repeat' (first | (refine ⟨by kernel_rfl, ?_⟩; (conv => whnf)) | (refine ⟨fun _ => ?_, fun h => absurd h (by first | decide | (simp; done) | fail)⟩; (conv => whnf)) | (refine ⟨fun h => absurd h (by first | decide | (simp; done) | fail), fun _ => ?_⟩; (conv => whnf)) | fail))
        refine ⟨i + 1, ?_⟩
        (conv => whnf)
        refine ⟨⟨⟨Nat.sub_lt_sub_left (by omega) (Nat.lt_succ_self i), by omega, fun j hj => ?_⟩, ?_, rfl, rfl⟩, by kernel_rfl, by kernel_rfl⟩
        · by_cases e : j = i
          · subst e; exact hf
          · exact hi.2 j (by omega)
        · rw [w64 _ (by omega) (by omega)]; rfl
    · have h := of_decide_eq_false h
      obtain rfl : i = l.length := by omega
      rw [good hi.2]
      (conv => whnf)
      first | rfl | (repeat' (first | (refine ⟨by kernel_rfl, ?_⟩; (conv => whnf)) | fail))
def alikeB (l : List SpT) : Bool := l.all fun v => decide (v.1.1 * (l.getD 0 z4).1.2 = (l.getD 0 z4).1.1 * v.1.2)
theorem alikeB_iff {l : List SpT} (hv : ∀ v ∈ l, viewB v = true) : alikeB l = true ↔ AlikeP l := by
  unfold alikeB
  rw [List.all_eq_true]
  cases l with
  | nil => exact ⟨fun _ v hv => (by cases hv), fun _ v hv => (by cases hv)⟩
  | cons a l =>
    have ha : (a :: l).getD 0 z4 = a := rfl
    have m : a ∈ a :: l := List.mem_cons_self ..
    rw [ha]
    constructor
    · intro h v h1 w h2
      have k1 := of_decide_eq_true (h v h1)
      have k2 := of_decide_eq_true (h w h2)
      have z1 := (viewB_iff a).1 (hv a m)
      refine Int.eq_of_mul_eq_mul_right (show a.1.2 ≠ 0 by omega) ?_
      have e1 : v.1.1 * a.1.2 * w.1.2 = a.1.1 * v.1.2 * w.1.2 := by rw [k1]
      have e2 : w.1.1 * a.1.2 * v.1.2 = a.1.1 * w.1.2 * v.1.2 := by rw [k2]
      grind
    · intro h v h1
      exact decide_eq_true (h v h1 a m)
theorem pc_rAlike (l : List SpT) (hl : l.length < 2 ^ 39) (hv : ∀ v ∈ l, viewB v = true) : PC Try.prog 136 [vws l] (.bool (alikeB l)) := by
  have hg : ∀ k, k < l.length → viewB (l.getD k z4) = true := fun k hk => hv _ (by
    simp only [List.getD, List.getElem?_eq_getElem hk, Option.getD_some]
    exact List.getElem_mem hk)
  have bad : ∀ k, k < l.length → ¬ (l.getD k z4).1.1 * (l.getD 0 z4).1.2 = (l.getD 0 z4).1.1 * (l.getD k z4).1.2 → alikeB l = false := fun k hk h => by
    unfold alikeB
    rw [List.all_eq_false]
    refine ⟨l.getD k z4, ?_, by rw [decide_eq_true_eq]; exact h⟩
    simp only [List.getD, List.getElem?_eq_getElem hk, Option.getD_some]
    exact List.getElem_mem hk
  have good : (∀ j, j < l.length → (l.getD j z4).1.1 * (l.getD 0 z4).1.2 = (l.getD 0 z4).1.1 * (l.getD j z4).1.2) → alikeB l = true := fun h => by
    unfold alikeB
    rw [List.all_eq_true]
    intro v hm
    obtain ⟨i, hi, rfl⟩ := List.getElem_of_mem hm
    have := h i hi
    rw [decide_eq_true_eq]
    simpa [List.getD, List.getElem?_eq_getElem hi] using this
  refine pc_of_bodyF hm Try.func136 (by kernel_rfl) ?_
  conv => whnf
  refine Or.inr ⟨Nat, [3], [], [], fun i => [i64 i], fun _ => [], fun _ => [], fun i => l.length - i, fun i => 1 ≤ i ∧ (i ≤ l.length ∨ l.length = 0) ∧ ∀ j, j < i → (l.getD j z4).1.1 * (l.getD 0 z4).1.2 = (l.getD 0 z4).1.1 * (l.getD j z4).1.2, ?_⟩
  (conv => whnf)
  refine ⟨⟨1, ?_⟩, ?_⟩
  · (conv => whnf)
    exact ⟨⟨⟨Nat.le_refl _, by omega, fun j hj => (by have e : j = 0 := (by omega); subst e; rfl)⟩, rfl, rfl, rfl⟩, by kernel_rfl, by kernel_rfl⟩
  · intro i hi
    (conv => whnf)
    refine ⟨fun h => ?_, fun h => ?_⟩
    · have h := of_decide_eq_true h
      have h' : i < l.length := Int.ofNat_lt.1 h
      have g0 := (viewB_iff _).1 (hg 0 (by omega))
      have gi := (viewB_iff _).1 (hg i h')
      have bad := bad i h'
      have hgd : l.getD (Int.toNat (i : Int)) z4 = l.getD i z4 := rfl
      have hg0 : l.getD (Int.toNat (0 : Int)) z4 = l.getD 0 z4 := rfl
      have m1 := mul_pm (a := (l.getD i z4).1.1) (b := (l.getD 0 z4).1.2) (A := 1000) (B := 1000) (by omega) (by omega) (by omega) (by omega)
      have m2 := mul_pm (a := (l.getD 0 z4).1.1) (b := (l.getD i z4).1.2) (A := 1000) (B := 1000) (by omega) (by omega) (by omega) (by omega)
      have w1 := w64 ((l.getD i z4).1.1 * (l.getD 0 z4).1.2) (by omega) (by omega)
      have w2 := w64 ((l.getD 0 z4).1.1 * (l.getD i z4).1.2) (by omega) (by omega)
      (conv => whnf)
      (repeat' (first | (refine ⟨by kernel_rfl, ?_⟩; (conv => whnf)) | (refine And.intro (a := _ ∧ _) ⟨by omega, by omega⟩ ?_; (conv => whnf))))
      rw [hgd, hg0, w1, w2]
      refine ⟨fun h => ?_, fun h => ?_⟩
      · have h : ¬ (l.getD i z4).1.1 * (l.getD 0 z4).1.2 = (l.getD 0 z4).1.1 * (l.getD i z4).1.2 := by simpa using h
        have bad := bad h
        (conv => whnf)
        first | rw [bad] | ((repeat' (first | (refine ⟨by kernel_rfl, ?_⟩; (conv => whnf)) | fail)); rw [bad])
      · have h : (l.getD i z4).1.1 * (l.getD 0 z4).1.2 = (l.getD 0 z4).1.1 * (l.getD i z4).1.2 := by simpa using h
        (conv => whnf)
        refine ⟨i + 1, ?_⟩
        (conv => whnf)
        refine ⟨⟨⟨Nat.sub_lt_sub_left (by omega) (Nat.lt_succ_self i), by omega, by omega, fun j hj => ?_⟩, ?_, rfl, rfl⟩, by kernel_rfl, by kernel_rfl⟩
        · by_cases e : j = i
          · subst e; exact h
          · exact hi.2.2 j (by omega)
        · rw [w64 _ (by omega) (by omega)]; rfl
    · have h := of_decide_eq_false h
      rw [good (fun j hj => hi.2.2 j (by omega))]
      (conv => whnf)
      first | rfl | (repeat' (first | (refine ⟨by kernel_rfl, ?_⟩; (conv => whnf)) | fail))
end Go.Proofs.Try.My
