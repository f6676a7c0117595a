/- A helper text: contracts of functions of the program, and plain lemmas. -/
import Derived.Test.YtblmmhmdnnnidaaEvSix
import Derived.Test.YtblmmhmdnnnidaaMyVw1
import Derived.Test.YtblmmhmdnnnidaaMyLvB
import Derived.Test.YtblmmhmdnnnidaaMyAlA
set_option maxRecDepth 100000
set_option maxHeartbeats 0
set_option linter.unusedVariables false
set_option linter.unusedSimpArgs false
namespace Go.Proofs.Try.My
open Go Go.Ev

theorem views_all (W H thr noise : Int) (pix : List Int) (hl : pix.length ≤ 300) :
    (∃ E, E ≠ 0 ∧ PC Try.prog 67 [img W H pix, i64 thr, i64 noise] (.tup [.nils, i64 E])) ∨
    (∃ w h : Nat, W = w ∧ H = h ∧ h ≤ 16 ∧ w ≤ 16 ∧ PC Try.prog 67 [img W H pix, i64 thr, i64 noise] (.tup [vws (imV pix w thr noise h), i64 0])) := by
  have c1 := pc_imCheck W H pix (by omega)
  have c2 := pc_gfrom 1 255 thr
  have c3 := pc_gfrom 0 64 noise
  have c4 := pc_ContainsFunc0 133 (fun n => !withB n 0 255) pc_odd pix (by omega)
  by_cases hi : imgB W H pix = true
  rotate_left
  · left
    rw [if_neg hi] at c1
    exact ⟨20, by decide, vwBad W H thr noise pix 20 (by decide) c1⟩
  rw [if_pos hi] at c1
  by_cases hb : withB thr 1 255 = false ∨ withB noise 0 64 = false ∨ W < 2 ∨ (pix.any fun n => !withB n 0 255) = true
  · left
    exact ⟨2, by decide, vwArg W H thr noise pix _ _ _ hb c1 c2 c3 c4⟩
  right
  unfold imgB at hi
  simp only [Bool.and_eq_true, decide_eq_true_eq] at hi
  obtain ⟨⟨hW, hH⟩, hlen, _⟩ := hi
  simp only [withB, Bool.and_eq_true, decide_eq_true_eq] at hW hH
  obtain ⟨w, rfl⟩ : ∃ w : Nat, W = w := ⟨W.toNat, by omega⟩
  obtain ⟨h, rfl⟩ : ∃ h : Nat, H = h := ⟨H.toNat, by omega⟩
  have b1 : withB thr 1 255 = true := by
    cases e : withB thr 1 255
    · exact absurd (.inl e) hb
    · rfl
  have b2 : withB noise 0 64 = true := by
    cases e : withB noise 0 64
    · exact absurd (.inr (.inl e)) hb
    · rfl
  have b3 : (pix.any fun n => !withB n 0 255) = false := by
    cases e : (pix.any fun n => !withB n 0 255)
    · rfl
    · exact absurd (.inr (.inr (.inr e))) hb
  have b4 : 2 ≤ w := by
    have : ¬ (w : Int) < 2 := fun k => hb (.inr (.inr (.inl k)))
    omega
  rw [b1] at c2
  rw [b2] at c3
  rw [b3] at c4
  have m := Nat.mul_le_mul (show w ≤ 16 by omega) (show h ≤ 16 by omega)
  have hl2 : pix.length = w * h := by
    rw [← Int.natCast_mul, w64 _ (by omega) (by omega)] at hlen
    omega
  exact ⟨w, h, rfl, rfl, by omega, by omega, vwOk w h thr noise pix b4 (by omega) (by omega) hl2 c1 c2 c3 c4⟩
theorem pc_lineBad (W H thr noise : Int) (pix : List Int) (E : Int) (hE : E ≠ 0) (c1 : PC Try.prog 67 [img W H pix, i64 thr, i64 noise] (.tup [.nils, i64 E])) : PC Try.prog 68 [img W H pix, i64 thr, i64 noise] (.tup [cam (z4, z4), i64 E]) := by
  refine pc_of_bodyF hm Try.func68 (by kernel_rfl) ?_
  conv => whnf
  (repeat' (first | (refine ⟨_, by first | exact c1, ?_⟩; (conv => whnf)) | (refine Or.inl ?_; (conv => whnf); refine ⟨_, by first | exact c1, ?_⟩; (conv => whnf)) | (refine Or.inl ?_; (conv => whnf); refine ⟨false, ?_⟩; (conv => whnf); refine ⟨_, by first | exact c1, ?_⟩; (conv => whnf)) | (refine ⟨by kernel_rfl, ?_⟩; (conv => whnf)) | (refine ⟨fun _ => ?_, fun h => absurd h (by first | decide | (simp; done) | fail)⟩; (conv => whnf)) | (refine ⟨fun h => absurd h (by first | decide | (simp; done) | fail), fun _ => ?_⟩; (conv => whnf)) | ((with_reducible refine And.intro (a := _ = true → _) (b := _ = false → _) (fun hh => ?_) (fun hh => ?_)) <;> (try simp only [decide_eq_true_eq, decide_eq_false_iff_not, Bool.or_eq_true, Bool.and_eq_true, Bool.or_eq_false_iff, Bool.and_eq_false_iff, Bool.not_eq_true', Bool.not_eq_false', ge_iff_le, gt_iff_lt] at hh) <;> (first | (exfalso; omega) | (conv => whnf))) | fail))
  all_goals (first | rfl | set_option pp.maxSteps 300 in trace_state)
theorem pc_lineOk (W H thr noise : Int) (pix : List Int) (l : List SpT) (c : CamT) (e : Int) (c1 : PC Try.prog 67 [img W H pix, i64 thr, i64 noise] (.tup [vws l, i64 0])) (c2 : PC Try.prog 15 [vws l] (.tup [cam c, i64 e])) : PC Try.prog 68 [img W H pix, i64 thr, i64 noise] (.tup [cam c, i64 e]) := by
  refine pc_of_bodyF hm Try.func68 (by kernel_rfl) ?_
  conv => whnf
  (repeat' (first | (refine ⟨_, by first | exact c1 | exact c2, ?_⟩; (conv => whnf)) | (refine Or.inl ?_; (conv => whnf); refine ⟨_, by first | exact c1 | exact c2, ?_⟩; (conv => whnf)) | (refine Or.inl ?_; (conv => whnf); refine ⟨false, ?_⟩; (conv => whnf); refine ⟨_, by first | exact c1 | exact c2, ?_⟩; (conv => whnf)) | (refine ⟨by kernel_rfl, ?_⟩; (conv => whnf)) | (refine ⟨fun _ => ?_, fun h => absurd h (by first | decide | (simp; done) | fail)⟩; (conv => whnf)) | (refine ⟨fun h => absurd h (by first | decide | (simp; done) | fail), fun _ => ?_⟩; (conv => whnf)) | ((with_reducible refine And.intro (a := _ = true → _) (b := _ = false → _) (fun hh => ?_) (fun hh => ?_)) <;> (try simp only [decide_eq_true_eq, decide_eq_false_iff_not, Bool.or_eq_true, Bool.and_eq_true, Bool.or_eq_false_iff, Bool.and_eq_false_iff, Bool.not_eq_true', Bool.not_eq_false', ge_iff_le, gt_iff_lt] at hh) <;> (first | (exfalso; omega) | (conv => whnf))) | fail))
  all_goals (first | rfl | set_option pp.maxSteps 300 in trace_state)
theorem gbOut (W H thr noise : Int) (pix : List Int) (h : 300 < pix.length) : PC Try.prog 12 [img W H pix, i64 thr, i64 noise] (.bool true) := by
  have al := pc_alive
  refine pc_of_bodyF hm Try.func12 (by kernel_rfl) ?_
  conv => whnf
  (repeat' (first | (refine ⟨_, by first | exact al, ?_⟩; (conv => whnf)) | (refine Or.inl ?_; (conv => whnf); refine ⟨_, by first | exact al, ?_⟩; (conv => whnf)) | (refine Or.inl ?_; (conv => whnf); refine ⟨false, ?_⟩; (conv => whnf); refine ⟨_, by first | exact al, ?_⟩; (conv => whnf)) | (refine ⟨by kernel_rfl, ?_⟩; (conv => whnf)) | (refine ⟨fun _ => ?_, fun h => absurd h (by first | decide | (simp; done) | fail)⟩; (conv => whnf)) | (refine ⟨fun h => absurd h (by first | decide | (simp; done) | fail), fun _ => ?_⟩; (conv => whnf)) | ((with_reducible refine And.intro (a := _ = true → _) (b := _ = false → _) (fun hh => ?_) (fun hh => ?_)) <;> (try simp only [decide_eq_true_eq, decide_eq_false_iff_not, Bool.or_eq_true, Bool.and_eq_true, Bool.or_eq_false_iff, Bool.and_eq_false_iff, Bool.not_eq_true', Bool.not_eq_false', ge_iff_le, gt_iff_lt] at hh) <;> (first | (exfalso; omega) | (conv => whnf))) | fail))
  all_goals (first | rfl | (exfalso; omega) | set_option pp.maxSteps 300 in trace_state)
theorem gbErr (W H thr noise : Int) (pix : List Int) (hl : pix.length ≤ 300) (E : Int) (hE : E ≠ 0) (c1 : PC Try.prog 67 [img W H pix, i64 thr, i64 noise] (.tup [.nils, i64 E])) : PC Try.prog 12 [img W H pix, i64 thr, i64 noise] (.bool true) := by
  have al := pc_alive
  refine pc_of_bodyF hm Try.func12 (by kernel_rfl) ?_
  conv => whnf
  (repeat' (first | (refine ⟨_, by first | exact al | exact c1, ?_⟩; (conv => whnf)) | (refine Or.inl ?_; (conv => whnf); refine ⟨_, by first | exact al | exact c1, ?_⟩; (conv => whnf)) | (refine Or.inl ?_; (conv => whnf); refine ⟨false, ?_⟩; (conv => whnf); refine ⟨_, by first | exact al | exact c1, ?_⟩; (conv => whnf)) | (refine ⟨by kernel_rfl, ?_⟩; (conv => whnf)) | (refine ⟨fun _ => ?_, fun h => absurd h (by first | decide | (simp; done) | fail)⟩; (conv => whnf)) | (refine ⟨fun h => absurd h (by first | decide | (simp; done) | fail), fun _ => ?_⟩; (conv => whnf)) | ((with_reducible refine And.intro (a := _ = true → _) (b := _ = false → _) (fun hh => ?_) (fun hh => ?_)) <;> (try simp only [decide_eq_true_eq, decide_eq_false_iff_not, Bool.or_eq_true, Bool.and_eq_true, Bool.or_eq_false_iff, Bool.and_eq_false_iff, Bool.not_eq_true', Bool.not_eq_false', ge_iff_le, gt_iff_lt] at hh) <;> (first | (exfalso; omega) | (conv => whnf))) | fail))
  all_goals (first | rfl | (exfalso; omega) | set_option pp.maxSteps 300 in trace_state)
theorem gbMany (W H thr noise : Int) (pix : List Int) (hl : pix.length ≤ 300) (l : List SpT) (hk : 12 < l.length) (c1 : PC Try.prog 67 [img W H pix, i64 thr, i64 noise] (.tup [vws l, i64 0])) : PC Try.prog 12 [img W H pix, i64 thr, i64 noise] (.bool true) := by
  have al := pc_alive
  have hk2 : (12 : Int) < l.length := by omega
  refine pc_of_bodyF hm Try.func12 (by kernel_rfl) ?_
  conv => whnf
  (repeat' (first | (refine ⟨_, by first | exact al | exact c1, ?_⟩; (conv => whnf)) | (refine Or.inl ?_; (conv => whnf); refine ⟨_, by first | exact al | exact c1, ?_⟩; (conv => whnf)) | (refine Or.inl ?_; (conv => whnf); refine ⟨false, ?_⟩; (conv => whnf); refine ⟨_, by first | exact al | exact c1, ?_⟩; (conv => whnf)) | (refine ⟨by kernel_rfl, ?_⟩; (conv => whnf)) | (refine ⟨fun _ => ?_, fun h => absurd h (by first | decide | (simp; done) | fail)⟩; (conv => whnf)) | (refine ⟨fun h => absurd h (by first | decide | (simp; done) | fail), fun _ => ?_⟩; (conv => whnf)) | ((with_reducible refine And.intro (a := _ = true → _) (b := _ = false → _) (fun hh => ?_) (fun hh => ?_)) <;> (try simp only [decide_eq_true_eq, decide_eq_false_iff_not, Bool.or_eq_true, Bool.and_eq_true, Bool.or_eq_false_iff, Bool.and_eq_false_iff, Bool.not_eq_true', Bool.not_eq_false', ge_iff_le, gt_iff_lt] at hh) <;> (first | (exfalso; omega) | (conv => whnf))) | fail))
  all_goals (first | rfl | (exfalso; omega) | set_option pp.maxSteps 300 in trace_state)
theorem gbOk (W H thr noise : Int) (pix : List Int) (hl : pix.length ≤ 300) (l : List SpT) (hk : l.length ≤ 12) (hs : ∀ i, 1 ≤ i → i < l.length → (l.getD (i - 1) z4).1.1 < (l.getD i z4).1.1 ∧ (l.getD i z4).1.2 = 1 ∧ (l.getD i z4).2.1 ≤ (l.getD i z4).2.2) (c : CamT) (n g : Int)
    (c1 : PC Try.prog 67 [img W H pix, i64 thr, i64 noise] (.tup [vws l, i64 0])) (c2 : PC Try.prog 13 [vws l] (.tup [i64 n, i64 0])) (c3 : PC Try.prog 68 [img W H pix, i64 thr, i64 noise] (.tup [cam c, i64 g]))
    (hn : decide (n ≥ 0) = decide (g = 6)) (h43 : g = 43 → l.length < 2) : PC Try.prog 12 [img W H pix, i64 thr, i64 noise] (.bool true) := by
  have al := pc_alive
  refine pc_of_bodyF hm Try.func12 (by kernel_rfl) ?_
  conv => whnf
  (repeat' (first | (refine ⟨_, by first | exact al | exact c1, ?_⟩; (conv => whnf)) | (refine Or.inl ?_; (conv => whnf); refine ⟨_, by first | exact al | exact c1, ?_⟩; (conv => whnf)) | (refine Or.inl ?_; (conv => whnf); refine ⟨false, ?_⟩; (conv => whnf); refine ⟨_, by first | exact al | exact c1, ?_⟩; (conv => whnf)) | (refine ⟨by kernel_rfl, ?_⟩; (conv => whnf)) | (refine ⟨fun _ => ?_, fun h => absurd h (by first | decide | (simp; done) | fail)⟩; (conv => whnf)) | (refine ⟨fun h => absurd h (by first | decide | (simp; done) | fail), fun _ => ?_⟩; (conv => whnf)) | ((with_reducible refine And.intro (a := _ = true → _) (b := _ = false → _) (fun hh => ?_) (fun hh => ?_)) <;> (try simp only [decide_eq_true_eq, decide_eq_false_iff_not, Bool.or_eq_true, Bool.and_eq_true, Bool.or_eq_false_iff, Bool.and_eq_false_iff, Bool.not_eq_true', Bool.not_eq_false', ge_iff_le, gt_iff_lt] at hh) <;> (first | (exfalso; omega) | (conv => whnf))) | fail))
  (repeat' (first | (refine ⟨_, by first | exact c2 | exact c3, ?_⟩; (conv => whnf)) | (refine Or.inl ?_; (conv => whnf); refine ⟨_, by first | exact c2 | exact c3, ?_⟩; (conv => whnf)) | (refine Or.inl ?_; (conv => whnf); refine ⟨false, ?_⟩; (conv => whnf); refine ⟨_, by first | exact c2 | exact c3, ?_⟩; (conv => whnf)) | (refine ⟨by kernel_rfl, ?_⟩; (conv => whnf)) | fail))
  (repeat' (first | (refine ⟨by kernel_rfl, ?_⟩; (conv => whnf)) | (refine ⟨fun _ => ?_, fun h => absurd h (by first | decide | (simp; done) | fail)⟩; (conv => whnf)) | (refine ⟨fun h => absurd h (by first | decide | (simp; done) | fail), fun _ => ?_⟩; (conv => whnf)) | fail))
  refine ⟨fun h => absurd h (by rw [hn]; simp), fun _ => ?_⟩
  (conv => whnf)
  refine Or.inr ⟨Nat, [14], [], [], fun k => [i64 ((k + 1 : Nat) : Int)], fun _ => [], fun _ => [], fun k => l.length - (k + 1), fun k => k ≤ 12, ?_⟩
  (conv => whnf)
  refine ⟨⟨0, ?_⟩, ?_⟩
  · (conv => whnf)
    exact ⟨⟨Nat.zero_le _, rfl, rfl, rfl⟩, by kernel_rfl, by kernel_rfl⟩
  · intro k hk12
    (conv => whnf)
    refine ⟨fun h => ?_, fun h => ?_⟩
    · have h := of_decide_eq_true h
      have h' : k + 1 < l.length := Int.ofNat_lt.1 h
      obtain ⟨s1, s2, s3⟩ := hs (k + 1) (by omega) h'
      rw [Nat.add_sub_cancel] at s1
      have wd : IntKind.i64.wrap (((k + 1 : Nat) : Int) - 1) = (k : Int) := by rw [w64 _ (by omega) (by omega)]; omega
      have e1 : l.getD (Int.toNat ((k + 1 : Nat) : Int)) z4 = l.getD (k + 1) z4 := rfl
      have e2 : l.getD (Int.toNat (IntKind.i64.wrap (((k + 1 : Nat) : Int) - 1))) z4 = l.getD k z4 := by rw [wd]; rfl
      (conv => whnf)
      (repeat' (first | (refine ⟨by kernel_rfl, ?_⟩; (conv => whnf)) | (refine And.intro (a := _ ∧ _) ⟨by omega, by omega⟩ ?_; (conv => whnf))))
      rw [e1, e2]
      generalize l.getD (k + 1) z4 = v at *
      generalize l.getD k z4 = u at *
      refine ⟨fun h => absurd (of_decide_eq_true h) (by show ¬ v.1.1 ≤ u.1.1; omega), fun _ => ?_⟩
      (conv => whnf)
      (repeat' (first | (refine ⟨by kernel_rfl, ?_⟩; (conv => whnf)) | (refine ⟨fun _ => ?_, fun h => absurd h (by first | decide | (simp; done) | fail)⟩; (conv => whnf)) | (refine ⟨fun h => absurd h (by first | decide | (simp; done) | fail), fun _ => ?_⟩; (conv => whnf)) | fail))
      (repeat' (first | (refine ⟨by kernel_rfl, ?_⟩; (conv => whnf)) | (refine And.intro (a := _ ∧ _) ⟨by omega, by omega⟩ ?_; (conv => whnf))))
      rw [e1]
      refine ⟨fun h => absurd s2 (by simpa using h), fun _ => ?_⟩
      (conv => whnf)
      (repeat' (first | (refine ⟨by kernel_rfl, ?_⟩; (conv => whnf)) | (refine ⟨fun _ => ?_, fun h => absurd h (by first | decide | (simp; done) | fail)⟩; (conv => whnf)) | (refine ⟨fun h => absurd h (by first | decide | (simp; done) | fail), fun _ => ?_⟩; (conv => whnf)) | fail))
      (repeat' (first | (refine ⟨by kernel_rfl, ?_⟩; (conv => whnf)) | (refine And.intro (a := _ ∧ _) ⟨by omega, by omega⟩ ?_; (conv => whnf))))
      rw [e1]
      refine ⟨fun h => absurd (of_decide_eq_true h) (by show ¬ v.2.1 > v.2.2; omega), fun _ => ?_⟩
      (conv => whnf)
      (repeat' (first | (refine ⟨by kernel_rfl, ?_⟩; (conv => whnf)) | (refine ⟨fun _ => ?_, fun h => absurd h (by first | decide | (simp; done) | fail)⟩; (conv => whnf)) | (refine ⟨fun h => absurd h (by first | decide | (simp; done) | fail), fun _ => ?_⟩; (conv => whnf)) | fail))
      refine ⟨k + 1, ?_⟩
      (conv => whnf)
      refine ⟨⟨⟨Nat.sub_lt_sub_left (by omega) (Nat.lt_succ_self _), by omega⟩, ?_, rfl, rfl⟩, by kernel_rfl, by kernel_rfl⟩
      rw [w64 _ (by omega) (by omega)]; rfl
    · (conv => whnf)
      (repeat' (first | (refine ⟨by kernel_rfl, ?_⟩; (conv => whnf)) | (refine ⟨fun _ => ?_, fun h => absurd h (by first | decide | (simp; done) | fail)⟩; (conv => whnf)) | (refine ⟨fun h => absurd h (by first | decide | (simp; done) | fail), fun _ => ?_⟩; (conv => whnf)) | fail))
      by_cases e43 : g = 43
      · have := h43 e43
        refine ⟨fun h => absurd e43 (by simpa using h), fun _ => ?_⟩
        (conv => whnf)
        (repeat' (first | (refine ⟨by kernel_rfl, ?_⟩; (conv => whnf)) | (refine ⟨fun _ => ?_, fun h => absurd h (by first | decide | (simp; done) | fail)⟩; (conv => whnf)) | (refine ⟨fun h => absurd h (by first | decide | (simp; done) | fail), fun _ => ?_⟩; (conv => whnf)) | fail))
        exact congrArg AV.bool (decide_eq_true (show (l.length : Int) < 2 by omega))
      · refine ⟨fun _ => ?_, fun h => absurd (by simpa using h) e43⟩
        (conv => whnf)
        (repeat' (first | (refine ⟨by kernel_rfl, ?_⟩; (conv => whnf)) | (refine ⟨fun _ => ?_, fun h => absurd h (by first | decide | (simp; done) | fail)⟩; (conv => whnf)) | (refine ⟨fun h => absurd h (by first | decide | (simp; done) | fail), fun _ => ?_⟩; (conv => whnf)) | fail))
        first | rfl | set_option pp.maxSteps 300 in trace_state
theorem pc_GaugeBad (W H : Int) (pix : List Int) (thr noise : Int) : PC Try.prog 12 [img W H pix, i64 thr, i64 noise] (.bool true) := by
  by_cases hl : pix.length ≤ 300
  rotate_left
  · exact gbOut W H thr noise pix (by omega)
  rcases views_all W H thr noise pix hl with ⟨E, hE, c1⟩ | ⟨w, h, rfl, rfl, hh, hw, c1⟩
  · exact gbErr W H thr noise pix hl E hE c1
  obtain ⟨p1, p2, _⟩ := imV_view (pix := pix) hw (thr := thr) (noise := noise) hh
  generalize imV pix w thr noise h = l at *
  by_cases h12 : l.length ≤ 12
  rotate_left
  · exact gbMany _ _ thr noise pix hl l (by omega) c1
  obtain ⟨hE, b1, b2⟩ := bad_law h12 p1 p2
  have c2 := pc_FirstBad l (by omega)
  rw [show badF l = (badI l, 0) by unfold badF; rw [if_pos hE]] at c2
  have c3 := pc_lineOk _ _ thr noise pix l _ _ c1 (pc_Calibrate l (by omega))
  refine gbOk _ _ thr noise pix hl l h12 (fun i i1 i2 => ?_) _ _ _ c1 c2 c3 b1 b2
  have k := List.pairwise_iff_getElem.1 p2 (i - 1) i (by omega) i2 (by omega)
  have m := p1 _ (List.getElem_mem i2)
  have vi := (viewB_iff _).1 m.1
  have e1 : l.getD i z4 = l[i] := by simp [List.getD, List.getElem?_eq_getElem i2]
  have e2 : l.getD (i - 1) z4 = l[i - 1] := by simp [List.getD, List.getElem?_eq_getElem (show i - 1 < l.length by omega)]
  rw [e1, e2]
  exact ⟨k, m.2, by omega⟩
end Go.Proofs.Try.My
