/- A helper text: contracts of functions of the program, and plain lemmas. -/
import Derived.Test.YtblmmhmdnnnidaaGreatEvSix
import Derived.Test.YtblmmhmdnnnidaaGreatMzPd
import Derived.Test.YtblmmhmdnnnidaaGreatMzRf4
set_option maxRecDepth 100000
set_option maxHeartbeats 0
set_option linter.unusedVariables false
set_option linter.unusedSimpArgs false
namespace Go.Proofs.Tryz.My
open Go Go.Ev

theorem pc_rValidView (v : SpT) : PC Tryz.prog 94 [sp v] (.bool (viewB v)) := by
  have c1 := pc_within v.1.1 (-1000) 1000
  have c2 := pc_within v.1.2 1 1000
  have c3 := pc_within v.2.1 (-4096) 4096
  have c4 := pc_within v.2.2 v.2.1 4096
  unfold viewB
  generalize withB v.1.1 (-1000) 1000 = x1 at *
  generalize withB v.1.2 1 1000 = x2 at *
  generalize withB v.2.1 (-4096) 4096 = x3 at *
  generalize withB v.2.2 v.2.1 4096 = x4 at *
  obtain ⟨⟨v1, v2⟩, ⟨v3, v4⟩⟩ := v
  refine pc_of_bodyF hm Tryz.func94 (by kernel_rfl) ?_
  conv => whnf
  (repeat' (first | (refine ⟨_, by first | with_reducible exact c1 | with_reducible exact c2 | with_reducible exact c3 | with_reducible exact c4, ?_⟩; (conv => whnf)) | (refine Or.inl ?_; (conv => whnf); refine ⟨_, by first | with_reducible exact c1 | with_reducible exact c2 | with_reducible exact c3 | with_reducible exact c4, ?_⟩; (conv => whnf)) | (refine Or.inl ?_; (conv => whnf); refine ⟨false, ?_⟩; (conv => whnf); refine ⟨_, by first | with_reducible exact c1 | with_reducible exact c2 | with_reducible exact c3 | with_reducible exact c4, ?_⟩; (conv => whnf)) | (refine ⟨by kernel_rfl, ?_⟩; (conv => whnf)) | (refine ⟨fun _ => ?_, fun h => absurd h (by first | decide | (simp; done) | fail)⟩; (conv => whnf)) | (refine ⟨fun h => absurd h (by first | decide | (simp; done) | fail), fun _ => ?_⟩; (conv => whnf)) | ((with_reducible refine And.intro (a := _ = true → _) (b := _ = false → _) (fun hh => ?_) (fun hh => ?_)) <;> (try simp only [decide_eq_true_eq, decide_eq_false_iff_not, Bool.or_eq_true, Bool.and_eq_true, Bool.or_eq_false_iff, Bool.and_eq_false_iff, Bool.not_eq_true', Bool.not_eq_false', ge_iff_le, gt_iff_lt] at hh) <;> (first | (exfalso; omega) | (conv => whnf))) | fail))
  all_goals (first | rfl | (simp [*]; done))
theorem pc_rFulfils (N M D : Int) (v : SpT) (hv : viewB v = true) (hp : okP ((N, M), D)) : PC Tryz.prog 95 [.agg [i64 N, i64 M, i64 D], sp v] (.bool (fulB ((N, M), D) v)) := by
  have h := (viewB_iff v).1 hv
  obtain ⟨⟨X, Z⟩, lo, hi⟩ := v
  unfold okP at hp
  simp only [] at h hp
  have m1 := mul_pm (a := N) (b := X) (A := 17179869184) (B := 1000) (by omega) (by omega) (by omega) (by omega)
  have m2 := mul_pm (a := M) (b := Z) (A := 17179869184) (B := 1000) (by omega) (by omega) (by omega) (by omega)
  have m3 := mul_pm (a := lo) (b := D) (A := 4096) (B := 17179869184) (by omega) (by omega) (by omega) (by omega)
  have m4 := mul_pm (a := hi) (b := D) (A := 4096) (B := 17179869184) (by omega) (by omega) (by omega) (by omega)
  have m5 := mul_pm (a := lo * D) (b := Z) (A := 70368744177664) (B := 1000) (by omega) (by omega) (by omega) (by omega)
  have m6 := mul_pm (a := hi * D) (b := Z) (A := 70368744177664) (B := 1000) (by omega) (by omega) (by omega) (by omega)
  have w1 : IntKind.i64.wrap (N * X) = N * X := w64 _ (by omega) (by omega)
  have w2 : IntKind.i64.wrap (M * Z) = M * Z := w64 _ (by omega) (by omega)
  have w3 : IntKind.i64.wrap (lo * D) = lo * D := w64 _ (by omega) (by omega)
  have w4 : IntKind.i64.wrap (hi * D) = hi * D := w64 _ (by omega) (by omega)
  have w5 : IntKind.i64.wrap (lo * D * Z) = lo * D * Z := w64 _ (by omega) (by omega)
  have w6 : IntKind.i64.wrap (hi * D * Z) = hi * D * Z := w64 _ (by omega) (by omega)
  have w7 : IntKind.i64.wrap (N * X + M * Z) = N * X + M * Z := w64 _ (by omega) (by omega)
  have e : fulB ((N, M), D) ((X, Z), (lo, hi)) = (decide (IntKind.i64.wrap (IntKind.i64.wrap (lo * D) * Z) ≤ IntKind.i64.wrap (IntKind.i64.wrap (N * X) + IntKind.i64.wrap (M * Z))) && decide (IntKind.i64.wrap (IntKind.i64.wrap (N * X) + IntKind.i64.wrap (M * Z)) ≤ IntKind.i64.wrap (IntKind.i64.wrap (hi * D) * Z))) := by
    unfold fulB
    rw [w1, w2, w3, w4, w5, w6, w7]
  rw [e]
  refine pc_of_bodyF hm Tryz.func95 (by kernel_rfl) ?_
  conv => whnf
  clear w1 w2 w3 w4 w5 w6 w7 m1 m2 m3 m4 m5 m6 e
  (repeat' (first | (refine ⟨by kernel_rfl, ?_⟩; (conv => whnf)) | (refine ⟨fun _ => ?_, fun h => absurd h (by first | decide | (simp; done) | fail)⟩; (conv => whnf)) | (refine ⟨fun h => absurd h (by first | decide | (simp; done) | fail), fun _ => ?_⟩; (conv => whnf)) | ((with_reducible refine And.intro (a := _ = true → _) (b := _ = false → _) (fun hh => ?_) (fun hh => ?_)) <;> (try simp only [decide_eq_true_eq, decide_eq_false_iff_not, Bool.or_eq_true, Bool.and_eq_true, Bool.or_eq_false_iff, Bool.and_eq_false_iff, Bool.not_eq_true', Bool.not_eq_false', ge_iff_le, gt_iff_lt] at hh) <;> (first | (exfalso; omega) | (conv => whnf))) | fail))
  all_goals (first | rfl | (simp only [hh, decide_true, decide_false, Bool.true_and, Bool.false_and]; done) | set_option pp.maxSteps 300 in trace_state)
theorem pc_rAll (p : PrT) (l : List SpT) (hl : l.length < 2 ^ 39) (hv : ∀ v ∈ l, viewB v = true) (hp : okP p) : PC Tryz.prog 77 [.agg (eP3 p), vws l] (.bool (l.all (fulB p))) := by
  obtain ⟨⟨N, M⟩, D⟩ := p
  show PC Tryz.prog 77 [.agg [i64 N, i64 M, i64 D], vws l] (.bool (l.all (fulB ((N, M), D))))
  have hg : ∀ k, k < l.length → viewB (l.getD k z4) = true := fun k hk => hv _ (by
    simp only [List.getD, List.getElem?_eq_getElem hk, Option.getD_some]
    exact List.getElem_mem hk)
  have bad : ∀ k, k < l.length → fulB ((N, M), D) (l.getD k z4) = false → l.all (fulB ((N, M), D)) = false := fun k hk h => by
    rw [List.all_eq_false]
    refine ⟨l.getD k z4, ?_, by rw [h]; decide⟩
    simp only [List.getD, List.getElem?_eq_getElem hk, Option.getD_some]
    exact List.getElem_mem hk
  have good : (∀ j, j < l.length → fulB ((N, M), D) (l.getD j z4) = true) → l.all (fulB ((N, M), D)) = true := fun h => by
    rw [List.all_eq_true]
    intro v hm
    obtain ⟨i, hi, rfl⟩ := List.getElem_of_mem hm
    have := h i hi
    simpa [List.getD, List.getElem?_eq_getElem hi] using this
  refine pc_of_bodyF hm Tryz.func77 (by kernel_rfl) ?_
  conv => whnf
  refine Or.inr ⟨Nat, [5], [], [], fun i => [i64 i], fun _ => [], fun _ => [], fun i => l.length - i, fun i => i ≤ l.length ∧ ∀ j, j < i → fulB ((N, M), D) (l.getD j z4) = true, ?_⟩
  (conv => whnf)
  refine ⟨⟨0, ?_⟩, ?_⟩
  · (conv => whnf)
    exact ⟨⟨⟨Nat.zero_le _, fun j hj => absurd hj (Nat.not_lt_zero j)⟩, rfl, rfl, rfl⟩, by kernel_rfl, by kernel_rfl⟩
  · intro i hi
    (conv => whnf)
    refine ⟨fun h => ?_, fun h => ?_⟩
    · have h := of_decide_eq_true h
      have h' : i < l.length := Int.ofNat_lt.1 h
      have c := pc_rFulfils N M D (l.getD i z4) (hg i h') hp
      have bad := bad i h'
      have hgd : l.getD (Int.toNat (i : Int)) z4 = l.getD i z4 := rfl
      generalize hf : fulB ((N, M), D) (l.getD i z4) = f at *
      (conv => whnf)
      (repeat' (first | (refine ⟨by kernel_rfl, ?_⟩; (conv => whnf)) | (refine And.intro (a := _ ∧ _) ⟨by omega, by omega⟩ ?_; (conv => whnf))))
      (repeat' (first | (refine ⟨_, by first | exact c, ?_⟩; (conv => whnf)) | (refine Or.inl ?_; (conv => whnf); refine ⟨_, by first | exact c, ?_⟩; (conv => whnf)) | (refine Or.inl ?_; (conv => whnf); refine ⟨false, ?_⟩; (conv => whnf); refine ⟨_, by first | exact c, ?_⟩; (conv => whnf)) | (refine ⟨by kernel_rfl, ?_⟩; (conv => whnf)) | fail))
      cases f
      · have bad := bad rfl
        (conv => whnf)
        (repeat' (first | (refine ⟨by kernel_rfl, ?_⟩; (conv => whnf)) | (refine ⟨fun _ => ?_, fun h => absurd h (by first | decide | (simp; done) | fail)⟩; (conv => whnf)) | (refine ⟨fun h => absurd h (by first | decide | (simp; done) | fail), fun _ => ?_⟩; (conv => whnf)) | fail))
        rw [bad]
      · (conv => whnf)
        (repeat' (first | (refine ⟨by kernel_rfl, ?_⟩; (conv => whnf)) | (refine ⟨fun _ => ?_, fun h => absurd h (by first | decide | (simp; done) | fail)⟩; (conv => whnf)) | (refine ⟨fun h => absurd h (by first | decide | (simp; done) | fail), fun _ => ?_⟩; (conv => whnf)) | fail))
        refine ⟨i + 1, ?_⟩
        (conv => whnf)
        refine ⟨⟨⟨Nat.sub_lt_sub_left (by omega) (Nat.lt_succ_self i), by omega, fun j hj => ?_⟩, ?_, rfl, rfl⟩, by kernel_rfl, by kernel_rfl⟩
        · by_cases e : j = i
          · subst e; exact hf
          · exact hi.2 j (by omega)
        · rw [w64 _ (by omega) (by omega)]; rfl
    · have h := of_decide_eq_false h
      obtain rfl : i = l.length := by omega
      rw [good hi.2]
      (conv => whnf)
      first | rfl | (repeat' (first | (refine ⟨by kernel_rfl, ?_⟩; (conv => whnf)) | fail))
def alikeB (l : List SpT) : Bool := l.all fun v => decide (v.1.1 * (l.getD 0 z4).1.2 = (l.getD 0 z4).1.1 * v.1.2)
theorem alikeB_iff {l : List SpT} (hv : ∀ v ∈ l, viewB v = true) : alikeB l = true ↔ AlikeP l := by
  unfold alikeB
  rw [List.all_eq_true]
  cases l with
  | nil => exact ⟨fun _ v hv => (by cases hv), fun _ v hv => (by cases hv)⟩
  | cons a l =>
    have ha : (a :: l).getD 0 z4 = a := rfl
    have m : a ∈ a :: l := List.mem_cons_self ..
    rw [ha]
    constructor
    · intro h v h1 w h2
      have k1 := of_decide_eq_true (h v h1)
      have k2 := of_decide_eq_true (h w h2)
      have z1 := (viewB_iff a).1 (hv a m)
      refine Int.eq_of_mul_eq_mul_right (show a.1.2 ≠ 0 by omega) ?_
      have e1 : v.1.1 * a.1.2 * w.1.2 = a.1.1 * v.1.2 * w.1.2 := by rw [k1]
      have e2 : w.1.1 * a.1.2 * v.1.2 = a.1.1 * w.1.2 * v.1.2 := by rw [k2]
      grind
    · intro h v h1
      exact decide_eq_true (h v h1 a m)
theorem pc_rAlike (l : List SpT) (hl : l.length < 2 ^ 39) (hv : ∀ v ∈ l, viewB v = true) : PC Tryz.prog 75 [vws l] (.bool (alikeB l)) := by
  have hg : ∀ k, k < l.length → viewB (l.getD k z4) = true := fun k hk => hv _ (by
    simp only [List.getD, List.getElem?_eq_getElem hk, Option.getD_some]
    exact List.getElem_mem hk)
  have bad : ∀ k, k < l.length → ¬ (l.getD k z4).1.1 * (l.getD 0 z4).1.2 = (l.getD 0 z4).1.1 * (l.getD k z4).1.2 → alikeB l = false := fun k hk h => by
    unfold alikeB
    rw [List.all_eq_false]
    refine ⟨l.getD k z4, ?_, by rw [decide_eq_true_eq]; exact h⟩
    simp only [List.getD, List.getElem?_eq_getElem hk, Option.getD_some]
    exact List.getElem_mem hk
  have good : (∀ j, j < l.length → (l.getD j z4).1.1 * (l.getD 0 z4).1.2 = (l.getD 0 z4).1.1 * (l.getD j z4).1.2) → alikeB l = true := fun h => by
    unfold alikeB
    rw [List.all_eq_true]
    intro v hm
    obtain ⟨i, hi, rfl⟩ := List.getElem_of_mem hm
    have := h i hi
    rw [decide_eq_true_eq]
    simpa [List.getD, List.getElem?_eq_getElem hi] using this
  refine pc_of_bodyF hm Tryz.func75 (by kernel_rfl) ?_
  conv => whnf
  refine Or.inr ⟨Nat, [3], [], [], fun i => [i64 i], fun _ => [], fun _ => [], fun i => l.length - i, fun i => 1 ≤ i ∧ (i ≤ l.length ∨ l.length = 0) ∧ ∀ j, j < i → (l.getD j z4).1.1 * (l.getD 0 z4).1.2 = (l.getD 0 z4).1.1 * (l.getD j z4).1.2, ?_⟩
  (conv => whnf)
  refine ⟨⟨1, ?_⟩, ?_⟩
  · (conv => whnf)
    exact ⟨⟨⟨Nat.le_refl _, by omega, fun j hj => (by have e : j = 0 := (by omega); subst e; rfl)⟩, rfl, rfl, rfl⟩, by kernel_rfl, by kernel_rfl⟩
  · intro i hi
    (conv => whnf)
    refine ⟨fun h => ?_, fun h => ?_⟩
    · have h := of_decide_eq_true h
      have h' : i < l.length := Int.ofNat_lt.1 h
      have g0 := (viewB_iff _).1 (hg 0 (by omega))
      have gi := (viewB_iff _).1 (hg i h')
      have bad := bad i h'
      have hgd : l.getD (Int.toNat (i : Int)) z4 = l.getD i z4 := rfl
      have hg0 : l.getD (Int.toNat (0 : Int)) z4 = l.getD 0 z4 := rfl
      have m1 := mul_pm (a := (l.getD i z4).1.1) (b := (l.getD 0 z4).1.2) (A := 1000) (B := 1000) (by omega) (by omega) (by omega) (by omega)
      have m2 := mul_pm (a := (l.getD 0 z4).1.1) (b := (l.getD i z4).1.2) (A := 1000) (B := 1000) (by omega) (by omega) (by omega) (by omega)
      have w1 := w64 ((l.getD i z4).1.1 * (l.getD 0 z4).1.2) (by omega) (by omega)
      have w2 := w64 ((l.getD 0 z4).1.1 * (l.getD i z4).1.2) (by omega) (by omega)
      (conv => whnf)
      (repeat' (first | (refine ⟨by kernel_rfl, ?_⟩; (conv => whnf)) | (refine And.intro (a := _ ∧ _) ⟨by omega, by omega⟩ ?_; (conv => whnf))))
      rw [hgd, hg0, w1, w2]
      refine ⟨fun h => ?_, fun h => ?_⟩
      · have h : ¬ (l.getD i z4).1.1 * (l.getD 0 z4).1.2 = (l.getD 0 z4).1.1 * (l.getD i z4).1.2 := by simpa using h
        have bad := bad h
        (conv => whnf)
        first | rw [bad] | ((repeat' (first | (refine ⟨by kernel_rfl, ?_⟩; (conv => whnf)) | fail)); rw [bad])
      · have h : (l.getD i z4).1.1 * (l.getD 0 z4).1.2 = (l.getD 0 z4).1.1 * (l.getD i z4).1.2 := by simpa using h
        (conv => whnf)
        refine ⟨i + 1, ?_⟩
        (conv => whnf)
        refine ⟨⟨⟨Nat.sub_lt_sub_left (by omega) (Nat.lt_succ_self i), by omega, by omega, fun j hj => ?_⟩, ?_, rfl, rfl⟩, by kernel_rfl, by kernel_rfl⟩
        · by_cases e : j = i
          · subst e; exact h
          · exact hi.2.2 j (by omega)
        · rw [w64 _ (by omega) (by omega)]; rfl
    · have h := of_decide_eq_false h
      rw [good (fun j hj => hi.2.2 j (by omega))]
      (conv => whnf)
      first | rfl | (repeat' (first | (refine ⟨by kernel_rfl, ?_⟩; (conv => whnf)) | fail))
end Go.Proofs.Tryz.My
set_option maxRecDepth 100000
set_option maxHeartbeats 0
set_option linter.unusedVariables false
set_option linter.unusedSimpArgs false
namespace Go.Proofs.Tryz.My
open Go Go.Ev

theorem pc_made4 (n d : Int) (h1 : I64 n) (h2 : I64 d) : PC Tryz.prog 78 [i64 n, i64 d] (fr (makeF n d).1) := by
  have c := pc_rMake n d h1 h2
  generalize makeF n d = r at *
  refine pc_of_bodyF hm Tryz.func78 (by kernel_rfl) ?_
  conv => whnf
  (repeat' (first | (refine ⟨_, by first | with_reducible exact c, ?_⟩; (conv => whnf)) | (refine Or.inl ?_; (conv => whnf); refine ⟨_, by first | with_reducible exact c, ?_⟩; (conv => whnf)) | (refine Or.inl ?_; (conv => whnf); refine ⟨false, ?_⟩; (conv => whnf); refine ⟨_, by first | with_reducible exact c, ?_⟩; (conv => whnf)) | (refine ⟨by kernel_rfl, ?_⟩; (conv => whnf)) | fail))
theorem pc_rmet (v w : SpT) (a b : Int) (hv : viewB v = true) (hw : viewB w = true) (ha : -4096 ≤ a ∧ a ≤ 4096) (hb : -4096 ≤ b ∧ b ≤ 4096) : PC Tryz.prog 76 [sp v, sp w, i64 a, i64 b] (.agg (eP3 (metP v w a b))) := by
  obtain ⟨_, q1, q2, q3, q4, q5, q6⟩ := metP_ok hv hw ha hb
  have vi := (viewB_iff v).1 hv
  have vj := (viewB_iff w).1 hw
  have m1 := mul_pm (a := v.1.1) (b := w.1.2) (A := 1000) (B := 1000) (by omega) (by omega) (by omega) (by omega)
  have m2 := mul_pm (a := w.1.1) (b := v.1.2) (A := 1000) (B := 1000) (by omega) (by omega) (by omega) (by omega)
  have hs : slopeP v w = v.1.1 * w.1.2 - w.1.1 * v.1.2 := rfl
  have w1 : IntKind.i64.wrap (v.1.1 * w.1.2) = v.1.1 * w.1.2 := w64 _ (by omega) (by omega)
  have w2 : IntKind.i64.wrap (w.1.1 * v.1.2) = w.1.1 * v.1.2 := w64 _ (by omega) (by omega)
  have w3 : IntKind.i64.wrap (v.1.1 * w.1.2 - w.1.1 * v.1.2) = slopeP v w := by rw [← hs]; exact w64 _ (by omega) (by omega)
  have w4 : IntKind.i64.wrap (a - b) = a - b := w64 _ (by omega) (by omega)
  have w5 : IntKind.i64.wrap ((a - b) * v.1.2) = (a - b) * v.1.2 := w64 _ (by omega) (by omega)
  have w6 : IntKind.i64.wrap ((a - b) * v.1.2 * w.1.2) = (a - b) * v.1.2 * w.1.2 := w64 _ (by omega) (by omega)
  have w7 : IntKind.i64.wrap (a * slopeP v w) = a * slopeP v w := w64 _ (by omega) (by omega)
  have w8 : IntKind.i64.wrap ((a - b) * w.1.2) = (a - b) * w.1.2 := w64 _ (by omega) (by omega)
  have w9 : IntKind.i64.wrap ((a - b) * w.1.2 * v.1.1) = (a - b) * w.1.2 * v.1.1 := w64 _ (by omega) (by omega)
  have wa : IntKind.i64.wrap (a * slopeP v w - (a - b) * w.1.2 * v.1.1) = a * slopeP v w - (a - b) * w.1.2 * v.1.1 := w64 _ (by omega) (by omega)
  have wb : IntKind.i64.wrap (0 - ((a - b) * v.1.2 * w.1.2)) = -((a - b) * v.1.2 * w.1.2) := by rw [Int.zero_sub]; exact w64 _ (by omega) (by omega)
  have wc : IntKind.i64.wrap (0 - (a * slopeP v w - (a - b) * w.1.2 * v.1.1)) = -(a * slopeP v w - (a - b) * w.1.2 * v.1.1) := by rw [Int.zero_sub]; exact w64 _ (by omega) (by omega)
  have wd : IntKind.i64.wrap (0 - slopeP v w) = -slopeP v w := by rw [Int.zero_sub]; exact w64 _ (by omega) (by omega)
  by_cases h0 : slopeP v w < 0
  · have e : metP v w a b = ((-((a - b) * v.1.2 * w.1.2), -(a * slopeP v w - (a - b) * w.1.2 * v.1.1)), -slopeP v w) := if_pos h0
    rw [e]
    obtain ⟨⟨v1, v2⟩, ⟨v3, v4⟩⟩ := v
    obtain ⟨⟨u1, u2⟩, ⟨u3, u4⟩⟩ := w
    simp only [] at w1 w2 w3 w4 w5 w6 w7 w8 w9 wa wb wc wd h0
    generalize hS : slopeP ((v1, v2), (v3, v4)) ((u1, u2), (u3, u4)) = S at *
    clear e m1 m2 q1 q2 q3 q4 q5 q6 vi vj hs hS
    refine pc_of_bodyF hm Tryz.func76 (by kernel_rfl) ?_
    conv => whnf
    (repeat' (first | (refine ⟨by kernel_rfl, ?_⟩; (conv => whnf)) | fail))
    refine ⟨fun h => ?_, fun h => absurd (of_decide_eq_false h) (by rw [w1, w2, w3]; omega)⟩
    (conv => whnf)
    (repeat' (first | (refine ⟨by kernel_rfl, ?_⟩; (conv => whnf)) | fail))
    rw [w1, w2, w3, w4, w5, w6, w7, w8, w9, wa, wb, wc, wd]
  · have e : metP v w a b = (((a - b) * v.1.2 * w.1.2, a * slopeP v w - (a - b) * w.1.2 * v.1.1), slopeP v w) := if_neg h0
    rw [e]
    obtain ⟨⟨v1, v2⟩, ⟨v3, v4⟩⟩ := v
    obtain ⟨⟨u1, u2⟩, ⟨u3, u4⟩⟩ := w
    simp only [] at w1 w2 w3 w4 w5 w6 w7 w8 w9 wa wb wc wd h0
    generalize hS : slopeP ((v1, v2), (v3, v4)) ((u1, u2), (u3, u4)) = S at *
    clear e m1 m2 q1 q2 q3 q4 q5 q6 vi vj hs hS
    refine pc_of_bodyF hm Tryz.func76 (by kernel_rfl) ?_
    conv => whnf
    (repeat' (first | (refine ⟨by kernel_rfl, ?_⟩; (conv => whnf)) | fail))
    refine ⟨fun h => absurd (of_decide_eq_true h) (by rw [w1, w2, w3]; omega), fun h => ?_⟩
    (conv => whnf)
    (repeat' (first | (refine ⟨by kernel_rfl, ?_⟩; (conv => whnf)) | fail))
    rw [w1, w2, w3, w4, w5, w6, w7, w8, w9, wa]
theorem pc_rCheckViews (l : List SpT) (hl : l.length < 2 ^ 39) : PC Tryz.prog 73 [vws l] (i64 (viewsE l)) := by
  by_cases h12 : l.length ≤ 12
  rotate_left
  · have e : viewsE l = 4 := by unfold viewsE; rw [if_neg h12]
    rw [e]
    refine pc_of_bodyF hm Tryz.func73 (by kernel_rfl) ?_
    conv => whnf
    (refine ⟨fun _ => ?_, fun h => absurd (of_decide_eq_false h) (by omega)⟩; (conv => whnf))
    first | rfl | (repeat' (first | (refine ⟨by kernel_rfl, ?_⟩; (conv => whnf)) | fail))
  · have bad : ∀ i, i < l.length → viewB (l.getD i z4) = false → viewsE l = 42 := fun i hi h => viewsE_bad h12 hi h
    have good : (∀ i, i < l.length → viewB (l.getD i z4) = true) → viewsE l = 0 := fun h => viewsE_all h12 h
    generalize viewsE l = E at *
    refine pc_of_bodyF hm Tryz.func73 (by kernel_rfl) ?_
    conv => whnf
    (refine ⟨fun h => absurd (of_decide_eq_true h) (by omega), fun _ => ?_⟩; (conv => whnf))
    refine Or.inr ⟨Nat, [3], [], [], fun i => [i64 i], fun _ => [], fun _ => [], fun i => l.length - i, fun i => i ≤ l.length ∧ ∀ j, j < i → viewB (l.getD j z4) = true, ?_⟩
    (conv => whnf)
    refine ⟨⟨0, ?_⟩, ?_⟩
    · (conv => whnf)
      exact ⟨⟨⟨Nat.zero_le _, fun j hj => absurd hj (Nat.not_lt_zero j)⟩, rfl, rfl, rfl⟩, by kernel_rfl, by kernel_rfl⟩
    · intro i hi
      (conv => whnf)
      refine ⟨fun h => ?_, fun h => ?_⟩
      · have h := of_decide_eq_true h
        have h' : i < l.length := Int.ofNat_lt.1 h
        have cv := pc_rValidView (l.getD i z4)
        have bad := bad i h'
        generalize hb : viewB (l.getD i z4) = b at *
        (conv => whnf)
        (repeat' (first | (refine ⟨by kernel_rfl, ?_⟩; (conv => whnf)) | (refine And.intro (a := _ ∧ _) ⟨by omega, by omega⟩ ?_; (conv => whnf))))
        (repeat' (first | (refine ⟨_, by first | exact cv, ?_⟩; (conv => whnf)) | (refine Or.inl ?_; (conv => whnf); refine ⟨_, by first | exact cv, ?_⟩; (conv => whnf)) | (refine Or.inl ?_; (conv => whnf); refine ⟨false, ?_⟩; (conv => whnf); refine ⟨_, by first | exact cv, ?_⟩; (conv => whnf)) | (refine ⟨by kernel_rfl, ?_⟩; (conv => whnf)) | fail))
        cases b
        · have bad := bad rfl
          (repeat' (first | (refine ⟨by kernel_rfl, ?_⟩; (conv => whnf)) | (refine ⟨fun _ => ?_, fun h => absurd h (by first | decide | (simp; done) | fail)⟩; (conv => whnf)) | (refine ⟨fun h => absurd h (by first | decide | (simp; done) | fail), fun _ => ?_⟩; (conv => whnf)) | fail))
          rw [bad]
        · (repeat' (first | (refine ⟨by kernel_rfl, ?_⟩; (conv => whnf)) | (refine ⟨fun _ => ?_, fun h => absurd h (by first | decide | (simp; done) | fail)⟩; (conv => whnf)) | (refine ⟨fun h => absurd h (by first | decide | (simp; done) | fail), fun _ => ?_⟩; (conv => whnf)) | fail))
          refine ⟨i + 1, ?_⟩
          (conv => whnf)
          refine ⟨⟨⟨Nat.sub_lt_sub_left (by omega) (Nat.lt_succ_self i), by omega, fun j hj => ?_⟩, ?_, rfl, rfl⟩, by kernel_rfl, by kernel_rfl⟩
          · by_cases e : j = i
            · subst e; exact hb
            · exact hi.2 j (by omega)
          · rw [w64 _ (by omega) (by omega)]; rfl
      · have h := of_decide_eq_false h
        obtain rfl : i = l.length := by omega
        rw [good hi.2]
        (conv => whnf)
        first | rfl | (repeat' (first | (refine ⟨by kernel_rfl, ?_⟩; (conv => whnf)) | fail))
theorem pc_spanned (l : List PrT) (x y z : Int) (hl : l.length < 2 ^ 39) (hp : ∀ p ∈ l, okP p ∧ 0 < p.2) (hx : -1000 ≤ x ∧ x ≤ 1000) (hy : -1000 ≤ y ∧ y ≤ 1000) (hz : 1 ≤ z ∧ z ≤ 1000) :
    PC Tryz.prog 45 [.sl 3 z3 eP3 l, i64 x, i64 y, i64 z] (sp (spnS (valP x y z) l)) := by
  have hg : ∀ k, k < l.length → okP (l.getD k z3) ∧ 0 < (l.getD k z3).2 := fun k hk => hp _ (by
    simp only [List.getD, List.getElem?_eq_getElem hk, Option.getD_some]
    exact List.getElem_mem hk)
  refine pc_of_bodyF hm Tryz.func45 (by kernel_rfl) ?_
  conv => whnf
  (repeat' (first | (refine ⟨by kernel_rfl, ?_⟩; (conv => whnf)) | fail))
  refine Or.inr ⟨Nat × SpT, [10], [9], [], fun i => [i64 i.1], fun i => [.cells 34 (eS i.2)], fun _ => [], fun i => l.length - i.1, fun i => i.1 ≤ l.length ∧ i.2 = (spnO (valP x y z) (l.take i.1)).getD z4 ∧ (0 < i.1 → validB i.2.1 = true ∧ validB i.2.2 = true ∧ spnO (valP x y z) (l.take i.1) = some i.2) ∧ (i.1 = 0 → spnO (valP x y z) (l.take i.1) = none), ?_⟩
  (conv => whnf)
  refine ⟨⟨(0, z4), ?_⟩, ?_⟩
  · (conv => whnf)
    exact ⟨⟨⟨Nat.zero_le _, rfl, fun h => absurd h (Nat.lt_irrefl 0), fun _ => rfl⟩, rfl, rfl, rfl⟩, by kernel_rfl, by kernel_rfl⟩
  · rintro ⟨i, s⟩ ⟨i1, i2, i3, i4⟩
    simp only [] at i1 i2 i3 i4
    (conv => whnf)
    refine ⟨fun h => ?_, fun h => ?_⟩
    · have h := of_decide_eq_true h
      have h' : i < l.length := Int.ofNat_lt.1 h
      obtain ⟨p1, p2⟩ := hg i h'
      obtain ⟨vv, _, b1, b2, b3⟩ := valP_ok p1 p2 hx hy hz
      have st := spnO_step (valP x y z) l h'
      have w1 : IntKind.i64.wrap ((l.getD i z3).1.1 * x) = (l.getD i z3).1.1 * x := w64 _ (by omega) (by omega)
      have w2 : IntKind.i64.wrap ((l.getD i z3).1.2 * y) = (l.getD i z3).1.2 * y := w64 _ (by omega) (by omega)
      have w3 : IntKind.i64.wrap ((l.getD i z3).2 * z) = (l.getD i z3).2 * z := w64 _ (by omega) (by omega)
      have w4 : IntKind.i64.wrap ((l.getD i z3).1.1 * x + (l.getD i z3).1.2 * y) = (l.getD i z3).1.1 * x + (l.getD i z3).1.2 * y := w64 _ (by omega) (by omega)
      have c := pc_made4 ((l.getD i z3).1.1 * x + (l.getD i z3).1.2 * y) ((l.getD i z3).2 * z) (by unfold I64; omega) (by unfold I64; omega)
      rw [show (makeF ((l.getD i z3).1.1 * x + (l.getD i z3).1.2 * y) ((l.getD i z3).2 * z)).1 = valP x y z (l.getD i z3) from rfl] at c
      rw [← w4, ← w3] at c
      rw [← w1, ← w2] at c
      have cl := fun h => pc_rLeast s.1 (valP x y z (l.getD i z3)) h vv
      have cm := fun h => pc_rMost s.2 (valP x y z (l.getD i z3)) h vv
      have dl := pc_rLeast (valP x y z (l.getD i z3)) (valP x y z (l.getD i z3)) vv vv
      have dm := pc_rMost (valP x y z (l.getD i z3)) (valP x y z (l.getD i z3)) vv vv
      rw [lesF_self] at dl
      rw [greF_self] at dm
      have lv := fun h => lesF_valid (a := s.1) h vv
      have gv := fun h => greF_valid (a := s.2) h vv
      clear w1 w2 w3 w4 b1 b2 b3 p1 p2 hg hp
      generalize valP x y z (l.getD i z3) = v at *
      obtain ⟨v1, v2⟩ := v
      obtain ⟨⟨s1, s2⟩, ⟨s3, s4⟩⟩ := s
      (conv => whnf)
      (repeat' (first | (refine ⟨by kernel_rfl, ?_⟩; (conv => whnf)) | (refine And.intro (a := _ ∧ _) ⟨by omega, by omega⟩ ?_; (conv => whnf))))
      (repeat' (first | (refine ⟨_, by first | exact c, ?_⟩; (conv => whnf)) | (refine Or.inl ?_; (conv => whnf); refine ⟨_, by first | exact c, ?_⟩; (conv => whnf)) | (refine Or.inl ?_; (conv => whnf); refine ⟨false, ?_⟩; (conv => whnf); refine ⟨_, by first | exact c, ?_⟩; (conv => whnf)) | (refine ⟨by kernel_rfl, ?_⟩; (conv => whnf)) | fail))
      by_cases hi0 : i = 0
      · obtain rfl := hi0
        rw [i4 rfl] at st
        refine ⟨fun _ => ?_, fun h => absurd h (by simp)⟩
        (conv => whnf)
        (repeat' (first | (refine ⟨_, by first | exact dl | exact dm, ?_⟩; (conv => whnf)) | (refine Or.inl ?_; (conv => whnf); refine ⟨_, by first | exact dl | exact dm, ?_⟩; (conv => whnf)) | (refine Or.inl ?_; (conv => whnf); refine ⟨false, ?_⟩; (conv => whnf); refine ⟨_, by first | exact dl | exact dm, ?_⟩; (conv => whnf)) | (refine ⟨by kernel_rfl, ?_⟩; (conv => whnf)) | fail))
        refine ⟨(1, ((v1, v2), (v1, v2))), ?_⟩
        (conv => whnf)
        refine ⟨⟨⟨by simp only []; omega, by simp only []; omega, by simp only []; rw [st]; rfl, fun _ => ⟨vv, vv, st⟩, fun h => absurd h (show ¬ (1 : Nat) = 0 by decide)⟩, rfl, rfl, rfl⟩, by kernel_rfl, by kernel_rfl⟩
      · obtain ⟨j1, j2, j3⟩ := i3 (by omega)
        rw [j3] at st
        have cl := cl j1
        have cm := cm j2
        have lv := lv j1
        have gv := gv j2
        generalize hL : lesF (s1, s2) (v1, v2) = L at *
        generalize hG : greF (s3, s4) (v1, v2) = G at *
        have st : spnO (valP x y z) (l.take (i + 1)) = some (L, G) := by rw [st, ← hL, ← hG]; rfl
        obtain ⟨L1, L2⟩ := L
        obtain ⟨G1, G2⟩ := G
        refine ⟨fun h => absurd (of_decide_eq_true h) (by simp only []; omega), fun _ => ?_⟩
        (conv => whnf)
        (repeat' (first | (refine ⟨_, by first | exact cl | exact cm, ?_⟩; (conv => whnf)) | (refine Or.inl ?_; (conv => whnf); refine ⟨_, by first | exact cl | exact cm, ?_⟩; (conv => whnf)) | (refine Or.inl ?_; (conv => whnf); refine ⟨false, ?_⟩; (conv => whnf); refine ⟨_, by first | exact cl | exact cm, ?_⟩; (conv => whnf)) | (refine ⟨by kernel_rfl, ?_⟩; (conv => whnf)) | fail))
        refine ⟨(i + 1, ((L1, L2), (G1, G2))), ?_⟩
        (conv => whnf)
        refine ⟨⟨⟨by simp only []; omega, by simp only []; omega, by simp only []; rw [st]; rfl, fun _ => ⟨lv, gv, st⟩, fun h => absurd h (Nat.succ_ne_zero i)⟩, ?_, rfl, rfl⟩, by kernel_rfl, by kernel_rfl⟩
        rw [w64 _ (by simp only []; omega) (by simp only []; omega)]; rfl
    · have h := of_decide_eq_false h
      obtain rfl : i = l.length := by omega
      rw [List.take_length] at i2
      have e : spnS (valP x y z) l = s := i2.symm
      rw [e]
      (conv => whnf)
      (repeat' (first | (refine ⟨by kernel_rfl, ?_⟩; (conv => whnf)) | fail))
      first | rfl | set_option pp.maxSteps 300 in trace_state
end Go.Proofs.Tryz.My
