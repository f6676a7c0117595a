/- A helper text: contracts of functions of the program, and plain lemmas. -/
import Derived.Test.YtpcipgblegdeeaaMzAm2
import Derived.Test.YtpcipgblegdeeaaMzIn0
import Derived.Test.YtpcipgblegdeeaaMzLvA
import Derived.Test.YtpcipgblegdeeaaMzGc1
set_option maxRecDepth 100000
set_option maxHeartbeats 0
set_option linter.unusedVariables false
set_option linter.unusedSimpArgs false
namespace Go.Proofs.Try.My
open Go Go.Ev

theorem ivOut (l : List (Int × Int)) (x1 x2 y1 y2 : Int) (hl : ¬ l.length ≤ 50) : PC Try.prog 6 [frs l, fr (x1, x2), fr (y1, y2)] (.bool true) := by
  have al := pc_alive4
  refine pc_of_body hm Try.func6 (by kernel_rfl) ?_
  conv => whnf
  (repeat' (first | (refine ⟨_, by first | with_reducible exact al, ?_⟩; (conv => whnf)) | (refine Or.inl ?_; (conv => whnf); refine ⟨_, by first | with_reducible exact al, ?_⟩; (conv => whnf)) | (refine Or.inl ?_; (conv => whnf); refine ⟨false, ?_⟩; (conv => whnf); refine ⟨_, by first | with_reducible exact al, ?_⟩; (conv => whnf)) | (refine ⟨by kernel_rfl, ?_⟩; (conv => whnf)) | (refine ⟨fun _ => ?_, fun h => absurd h (by first | decide | (simp; done) | fail)⟩; (conv => whnf)) | (refine ⟨fun h => absurd h (by first | decide | (simp; done) | fail), fun _ => ?_⟩; (conv => whnf)) | ((with_reducible refine And.intro (a := _ = true → _) (b := _ = false → _) (fun hh => ?_) (fun hh => ?_)) <;> (try simp only [decide_eq_true_eq, decide_eq_false_iff_not, Bool.or_eq_true, Bool.and_eq_true, Bool.or_eq_false_iff, Bool.and_eq_false_iff, Bool.not_eq_true', Bool.not_eq_false', ge_iff_le, gt_iff_lt] at hh) <;> (first | (exfalso; omega) | (conv => whnf))) | fail))
  all_goals (first | rfl | (exfalso; omega))
theorem ivBad (l : List (Int × Int)) (x1 x2 y1 y2 a1 a2 b1 b2 e f : Int) (hl : l.length ≤ 50) (h : e ≠ 0 ∨ f ≠ 0) (k1 : PC Try.prog 32 [frs l, fr (x1, x2)] (.tup [fr (a1, a2), i64 e])) (k2 : PC Try.prog 32 [frs l, fr (y1, y2)] (.tup [fr (b1, b2), i64 f])) :
    PC Try.prog 6 [frs l, fr (x1, x2), fr (y1, y2)] (.bool true) := by
  have al := pc_alive4
  refine pc_of_body hm Try.func6 (by kernel_rfl) ?_
  conv => whnf
  (repeat' (first | (refine ⟨_, by first | with_reducible exact al | with_reducible exact k1 | with_reducible exact k2, ?_⟩; (conv => whnf)) | (refine Or.inl ?_; (conv => whnf); refine ⟨_, by first | with_reducible exact al | with_reducible exact k1 | with_reducible exact k2, ?_⟩; (conv => whnf)) | (refine Or.inl ?_; (conv => whnf); refine ⟨false, ?_⟩; (conv => whnf); refine ⟨_, by first | with_reducible exact al | with_reducible exact k1 | with_reducible exact k2, ?_⟩; (conv => whnf)) | (refine ⟨by kernel_rfl, ?_⟩; (conv => whnf)) | (refine ⟨fun _ => ?_, fun h => absurd h (by first | decide | (simp; done) | fail)⟩; (conv => whnf)) | (refine ⟨fun h => absurd h (by first | decide | (simp; done) | fail), fun _ => ?_⟩; (conv => whnf)) | ((with_reducible refine And.intro (a := _ = true → _) (b := _ = false → _) (fun hh => ?_) (fun hh => ?_)) <;> (try simp only [decide_eq_true_eq, decide_eq_false_iff_not, Bool.or_eq_true, Bool.and_eq_true, Bool.or_eq_false_iff, Bool.and_eq_false_iff, Bool.not_eq_true', Bool.not_eq_false', ge_iff_le, gt_iff_lt] at hh) <;> (first | (exfalso; omega) | (conv => whnf))) | fail))
  all_goals (first | rfl | (exfalso; omega))
theorem ivBig (l : List (Int × Int)) (x1 x2 y1 y2 a1 a2 b1 b2 n : Int) (hl : l.length ≤ 50) (h : 1048576 < a2) (k1 : PC Try.prog 32 [frs l, fr (x1, x2)] (.tup [fr (a1, a2), i64 0])) (k2 : PC Try.prog 32 [frs l, fr (y1, y2)] (.tup [fr (b1, b2), i64 0]))
    (c1 : PC Try.prog 33 [fr (x1, x2), fr (y1, y2)] (.tup [i64 n, i64 0])) (c2 : PC Try.prog 33 [fr (a1, a2), fr (b1, b2)] (.tup [i64 n, i64 0])) :
    PC Try.prog 6 [frs l, fr (x1, x2), fr (y1, y2)] (.bool true) := by
  have al := pc_alive4
  refine pc_of_body hm Try.func6 (by kernel_rfl) ?_
  conv => whnf
  (repeat' (first | (refine ⟨_, by first | with_reducible exact al | with_reducible exact k1 | with_reducible exact k2 | with_reducible exact c1 | with_reducible exact c2, ?_⟩; (conv => whnf)) | (refine Or.inl ?_; (conv => whnf); refine ⟨_, by first | with_reducible exact al | with_reducible exact k1 | with_reducible exact k2 | with_reducible exact c1 | with_reducible exact c2, ?_⟩; (conv => whnf)) | (refine Or.inl ?_; (conv => whnf); refine ⟨false, ?_⟩; (conv => whnf); refine ⟨_, by first | with_reducible exact al | with_reducible exact k1 | with_reducible exact k2 | with_reducible exact c1 | with_reducible exact c2, ?_⟩; (conv => whnf)) | (refine ⟨by kernel_rfl, ?_⟩; (conv => whnf)) | (refine ⟨fun _ => ?_, fun h => absurd h (by first | decide | (simp; done) | fail)⟩; (conv => whnf)) | (refine ⟨fun h => absurd h (by first | decide | (simp; done) | fail), fun _ => ?_⟩; (conv => whnf)) | ((with_reducible refine And.intro (a := _ = true → _) (b := _ = false → _) (fun hh => ?_) (fun hh => ?_)) <;> (try simp only [decide_eq_true_eq, decide_eq_false_iff_not, Bool.or_eq_true, Bool.and_eq_true, Bool.or_eq_false_iff, Bool.and_eq_false_iff, Bool.not_eq_true', Bool.not_eq_false', ge_iff_le, gt_iff_lt] at hh) <;> (first | (exfalso; omega) | (conv => whnf))) | fail))
  all_goals (first | rfl | (exfalso; omega) | simp)
theorem ivOk (l : List (Int × Int)) (x1 x2 y1 y2 a1 a2 b1 b2 n : Int) (hl : l.length ≤ 50) (h : a2 ≤ 1048576) (k1 : PC Try.prog 32 [frs l, fr (x1, x2)] (.tup [fr (a1, a2), i64 0])) (k2 : PC Try.prog 32 [frs l, fr (y1, y2)] (.tup [fr (b1, b2), i64 0]))
    (c1 : PC Try.prog 33 [fr (x1, x2), fr (y1, y2)] (.tup [i64 n, i64 0])) (c2 : PC Try.prog 33 [fr (a1, a2), fr (b1, b2)] (.tup [i64 n, i64 0])) (d : PC Try.prog 34 [frs l, fr (a1, a2)] (.tup [fr (x1, x2), i64 0])) :
    PC Try.prog 6 [frs l, fr (x1, x2), fr (y1, y2)] (.bool true) := by
  have al := pc_alive4
  refine pc_of_body hm Try.func6 (by kernel_rfl) ?_
  conv => whnf
  (repeat' (first | (refine ⟨_, by first | with_reducible exact al | with_reducible exact k1 | with_reducible exact k2 | with_reducible exact c1 | with_reducible exact c2 | with_reducible exact d, ?_⟩; (conv => whnf)) | (refine Or.inl ?_; (conv => whnf); refine ⟨_, by first | with_reducible exact al | with_reducible exact k1 | with_reducible exact k2 | with_reducible exact c1 | with_reducible exact c2 | with_reducible exact d, ?_⟩; (conv => whnf)) | (refine Or.inl ?_; (conv => whnf); refine ⟨false, ?_⟩; (conv => whnf); refine ⟨_, by first | with_reducible exact al | with_reducible exact k1 | with_reducible exact k2 | with_reducible exact c1 | with_reducible exact c2 | with_reducible exact d, ?_⟩; (conv => whnf)) | (refine ⟨by kernel_rfl, ?_⟩; (conv => whnf)) | (refine ⟨fun _ => ?_, fun h => absurd h (by first | decide | (simp; done) | fail)⟩; (conv => whnf)) | (refine ⟨fun h => absurd h (by first | decide | (simp; done) | fail), fun _ => ?_⟩; (conv => whnf)) | ((with_reducible refine And.intro (a := _ = true → _) (b := _ = false → _) (fun hh => ?_) (fun hh => ?_)) <;> (try simp only [decide_eq_true_eq, decide_eq_false_iff_not, Bool.or_eq_true, Bool.and_eq_true, Bool.or_eq_false_iff, Bool.and_eq_false_iff, Bool.not_eq_true', Bool.not_eq_false', ge_iff_le, gt_iff_lt] at hh) <;> (first | (exfalso; omega) | (conv => whnf))) | fail))
  all_goals (first | rfl | (exfalso; omega) | simp)
theorem i64_valid {x : Int × Int} (h : validB x = true) : I64 x.1 ∧ I64 x.2 := by
  have := (validB_iff x).1 h
  unfold I64
  omega
theorem pc_LensInverse (l : List (Int × Int)) (x y : Int × Int) (i1 : I64 x.1) (i2 : I64 x.2) (j1 : I64 y.1) (j2 : I64 y.2) : PC Try.prog 6 [frs l, fr x, fr y] (.bool true) := by
  by_cases hl : l.length ≤ 50
  rotate_left
  · exact ivOut l _ _ _ _ hl
  have hl2 : l.length < 2 ^ 39 := by omega
  have k1 := pc_Correct l x hl2 i1 i2
  have k2 := pc_Correct l y hl2 j1 j2
  by_cases h : (corF Prod.fst Prod.snd l x).2 = 0 ∧ (corF Prod.fst Prod.snd l y).2 = 0
  rotate_left
  · exact ivBad l _ _ _ _ _ _ _ _ _ _ hl (by omega) k1 k2
  obtain ⟨vx, vy, va, vb, hc, hd⟩ := inv_law h.1 h.2
  have c1 := pc_Compare x y vx vy
  have c2 := pc_Compare _ _ va vb
  rw [h.1] at k1
  rw [h.2] at k2
  rw [← hc] at c2
  by_cases hb : (corF Prod.fst Prod.snd l x).1.2 ≤ 1048576
  · have d := pc_Distort l (corF Prod.fst Prod.snd l x).1 hl2 (i64_valid va).1 (i64_valid va).2
    rw [hd hb] at d
    exact ivOk l _ _ _ _ _ _ _ _ _ hl hb k1 k2 c1 c2 d
  · exact ivBig l _ _ _ _ _ _ _ _ _ hl (Int.not_le.1 hb) k1 k2 c1 c2
theorem spOut (l : List (Int × Int)) (s1 s2 s3 s4 x1 x2 : Int) (hl : ¬ l.length ≤ 50) : PC Try.prog 11 [frs l, sp ((s1, s2), (s3, s4)), fr (x1, x2)] (.bool true) := by
  have al := pc_alive4
  refine pc_of_body hm Try.func11 (by kernel_rfl) ?_
  conv => whnf
  (repeat' (first | (refine ⟨_, by first | with_reducible exact al, ?_⟩; (conv => whnf)) | (refine Or.inl ?_; (conv => whnf); refine ⟨_, by first | with_reducible exact al, ?_⟩; (conv => whnf)) | (refine Or.inl ?_; (conv => whnf); refine ⟨false, ?_⟩; (conv => whnf); refine ⟨_, by first | with_reducible exact al, ?_⟩; (conv => whnf)) | (refine ⟨by kernel_rfl, ?_⟩; (conv => whnf)) | (refine ⟨fun _ => ?_, fun h => absurd h (by first | decide | (simp; done) | fail)⟩; (conv => whnf)) | (refine ⟨fun h => absurd h (by first | decide | (simp; done) | fail), fun _ => ?_⟩; (conv => whnf)) | ((with_reducible refine And.intro (a := _ = true → _) (b := _ = false → _) (fun hh => ?_) (fun hh => ?_)) <;> (try simp only [decide_eq_true_eq, decide_eq_false_iff_not, Bool.or_eq_true, Bool.and_eq_true, Bool.or_eq_false_iff, Bool.and_eq_false_iff, Bool.not_eq_true', Bool.not_eq_false', ge_iff_le, gt_iff_lt] at hh) <;> (first | (exfalso; omega) | (conv => whnf))) | fail))
  all_goals (first | rfl | (exfalso; omega))
theorem spBad (l : List (Int × Int)) (s1 s2 s3 s4 x1 x2 y1 y2 e f : Int) (C : SpT) (hl : l.length ≤ 50) (h : e ≠ 0) (k0 : PC Try.prog 44 [frs l, sp ((s1, s2), (s3, s4))] (.tup [sp C, i64 e])) (k1 : PC Try.prog 32 [frs l, fr (x1, x2)] (.tup [fr (y1, y2), i64 f])) :
    PC Try.prog 11 [frs l, sp ((s1, s2), (s3, s4)), fr (x1, x2)] (.bool true) := by
  have al := pc_alive4
  refine pc_of_body hm Try.func11 (by kernel_rfl) ?_
  conv => whnf
  (repeat' (first | (refine ⟨_, by first | with_reducible exact al | with_reducible exact k0 | with_reducible exact k1, ?_⟩; (conv => whnf)) | (refine Or.inl ?_; (conv => whnf); refine ⟨_, by first | with_reducible exact al | with_reducible exact k0 | with_reducible exact k1, ?_⟩; (conv => whnf)) | (refine Or.inl ?_; (conv => whnf); refine ⟨false, ?_⟩; (conv => whnf); refine ⟨_, by first | with_reducible exact al | with_reducible exact k0 | with_reducible exact k1, ?_⟩; (conv => whnf)) | (refine ⟨by kernel_rfl, ?_⟩; (conv => whnf)) | (refine ⟨fun _ => ?_, fun h => absurd h (by first | decide | (simp; done) | fail)⟩; (conv => whnf)) | (refine ⟨fun h => absurd h (by first | decide | (simp; done) | fail), fun _ => ?_⟩; (conv => whnf)) | ((with_reducible refine And.intro (a := _ = true → _) (b := _ = false → _) (fun hh => ?_) (fun hh => ?_)) <;> (try simp only [decide_eq_true_eq, decide_eq_false_iff_not, Bool.or_eq_true, Bool.and_eq_true, Bool.or_eq_false_iff, Bool.and_eq_false_iff, Bool.not_eq_true', Bool.not_eq_false', ge_iff_le, gt_iff_lt] at hh) <;> (first | (exfalso; omega) | (conv => whnf))) | fail))
  all_goals (first | rfl | (exfalso; omega))
theorem spI (l : List (Int × Int)) (s1 s2 s3 s4 x1 x2 y1 y2 c1 c2 c3 c4 f i : Int) (b : Bool) (hl : l.length ≤ 50) (hi : i ≠ 0 ∨ b = false) (k0 : PC Try.prog 44 [frs l, sp ((s1, s2), (s3, s4))] (.tup [sp ((c1, c2), (c3, c4)), i64 0])) (k1 : PC Try.prog 32 [frs l, fr (x1, x2)] (.tup [fr (y1, y2), i64 f]))
    (k2 : PC Try.prog 32 [frs l, fr (s1, s2)] (.tup [fr (c1, c2), i64 0])) (k3 : PC Try.prog 32 [frs l, fr (s3, s4)] (.tup [fr (c3, c4), i64 0])) (n1 : PC Try.prog 45 [sp ((s1, s2), (s3, s4)), fr (x1, x2)] (.tup [.bool b, i64 i])) :
    PC Try.prog 11 [frs l, sp ((s1, s2), (s3, s4)), fr (x1, x2)] (.bool true) := by
  have al := pc_alive4
  by_cases h0 : i = 0
  · subst h0
    obtain rfl : b = false := by simpa using hi
    refine pc_of_body hm Try.func11 (by kernel_rfl) ?_
    conv => whnf
    (repeat' (first | (refine ⟨_, by first | with_reducible exact al | with_reducible exact k0 | with_reducible exact k1 | with_reducible exact k2 | with_reducible exact k3 | with_reducible exact n1, ?_⟩; (conv => whnf)) | (refine Or.inl ?_; (conv => whnf); refine ⟨_, by first | with_reducible exact al | with_reducible exact k0 | with_reducible exact k1 | with_reducible exact k2 | with_reducible exact k3 | with_reducible exact n1, ?_⟩; (conv => whnf)) | (refine Or.inl ?_; (conv => whnf); refine ⟨false, ?_⟩; (conv => whnf); refine ⟨_, by first | with_reducible exact al | with_reducible exact k0 | with_reducible exact k1 | with_reducible exact k2 | with_reducible exact k3 | with_reducible exact n1, ?_⟩; (conv => whnf)) | (refine ⟨by kernel_rfl, ?_⟩; (conv => whnf)) | (refine ⟨fun _ => ?_, fun h => absurd h (by first | decide | (simp; done) | fail)⟩; (conv => whnf)) | (refine ⟨fun h => absurd h (by first | decide | (simp; done) | fail), fun _ => ?_⟩; (conv => whnf)) | ((with_reducible refine And.intro (a := _ = true → _) (b := _ = false → _) (fun hh => ?_) (fun hh => ?_)) <;> (try simp only [decide_eq_true_eq, decide_eq_false_iff_not, Bool.or_eq_true, Bool.and_eq_true, Bool.or_eq_false_iff, Bool.and_eq_false_iff, Bool.not_eq_true', Bool.not_eq_false', ge_iff_le, gt_iff_lt] at hh) <;> (first | (exfalso; omega) | (conv => whnf))) | fail))
    all_goals (first | rfl | (exfalso; omega) | simp)
  · cases b
    · refine pc_of_body hm Try.func11 (by kernel_rfl) ?_
      conv => whnf
      (repeat' (first | (refine ⟨_, by first | with_reducible exact al | with_reducible exact k0 | with_reducible exact k1 | with_reducible exact k2 | with_reducible exact k3 | with_reducible exact n1, ?_⟩; (conv => whnf)) | (refine Or.inl ?_; (conv => whnf); refine ⟨_, by first | with_reducible exact al | with_reducible exact k0 | with_reducible exact k1 | with_reducible exact k2 | with_reducible exact k3 | with_reducible exact n1, ?_⟩; (conv => whnf)) | (refine Or.inl ?_; (conv => whnf); refine ⟨false, ?_⟩; (conv => whnf); refine ⟨_, by first | with_reducible exact al | with_reducible exact k0 | with_reducible exact k1 | with_reducible exact k2 | with_reducible exact k3 | with_reducible exact n1, ?_⟩; (conv => whnf)) | (refine ⟨by kernel_rfl, ?_⟩; (conv => whnf)) | (refine ⟨fun _ => ?_, fun h => absurd h (by first | decide | (simp; done) | fail)⟩; (conv => whnf)) | (refine ⟨fun h => absurd h (by first | decide | (simp; done) | fail), fun _ => ?_⟩; (conv => whnf)) | ((with_reducible refine And.intro (a := _ = true → _) (b := _ = false → _) (fun hh => ?_) (fun hh => ?_)) <;> (try simp only [decide_eq_true_eq, decide_eq_false_iff_not, Bool.or_eq_true, Bool.and_eq_true, Bool.or_eq_false_iff, Bool.and_eq_false_iff, Bool.not_eq_true', Bool.not_eq_false', ge_iff_le, gt_iff_lt] at hh) <;> (first | (exfalso; omega) | (conv => whnf))) | fail))
      all_goals (first | rfl | (exfalso; omega) | (simp [*]; done))
    · refine pc_of_body hm Try.func11 (by kernel_rfl) ?_
      conv => whnf
      (repeat' (first | (refine ⟨_, by first | with_reducible exact al | with_reducible exact k0 | with_reducible exact k1 | with_reducible exact k2 | with_reducible exact k3 | with_reducible exact n1, ?_⟩; (conv => whnf)) | (refine Or.inl ?_; (conv => whnf); refine ⟨_, by first | with_reducible exact al | with_reducible exact k0 | with_reducible exact k1 | with_reducible exact k2 | with_reducible exact k3 | with_reducible exact n1, ?_⟩; (conv => whnf)) | (refine Or.inl ?_; (conv => whnf); refine ⟨false, ?_⟩; (conv => whnf); refine ⟨_, by first | with_reducible exact al | with_reducible exact k0 | with_reducible exact k1 | with_reducible exact k2 | with_reducible exact k3 | with_reducible exact n1, ?_⟩; (conv => whnf)) | (refine ⟨by kernel_rfl, ?_⟩; (conv => whnf)) | (refine ⟨fun _ => ?_, fun h => absurd h (by first | decide | (simp; done) | fail)⟩; (conv => whnf)) | (refine ⟨fun h => absurd h (by first | decide | (simp; done) | fail), fun _ => ?_⟩; (conv => whnf)) | ((with_reducible refine And.intro (a := _ = true → _) (b := _ = false → _) (fun hh => ?_) (fun hh => ?_)) <;> (try simp only [decide_eq_true_eq, decide_eq_false_iff_not, Bool.or_eq_true, Bool.and_eq_true, Bool.or_eq_false_iff, Bool.and_eq_false_iff, Bool.not_eq_true', Bool.not_eq_false', ge_iff_le, gt_iff_lt] at hh) <;> (first | (exfalso; omega) | (conv => whnf))) | fail))
      all_goals (first | rfl | (exfalso; omega) | (simp [*]; done))
theorem spF (l : List (Int × Int)) (s1 s2 s3 s4 x1 x2 y1 y2 c1 c2 c3 c4 f : Int) (hl : l.length ≤ 50) (hf : f ≠ 0) (hx : 1048576 < x2) (k0 : PC Try.prog 44 [frs l, sp ((s1, s2), (s3, s4))] (.tup [sp ((c1, c2), (c3, c4)), i64 0])) (k1 : PC Try.prog 32 [frs l, fr (x1, x2)] (.tup [fr (y1, y2), i64 f]))
    (k2 : PC Try.prog 32 [frs l, fr (s1, s2)] (.tup [fr (c1, c2), i64 0])) (k3 : PC Try.prog 32 [frs l, fr (s3, s4)] (.tup [fr (c3, c4), i64 0])) (n1 : PC Try.prog 45 [sp ((s1, s2), (s3, s4)), fr (x1, x2)] (.tup [.bool true, i64 0])) :
    PC Try.prog 11 [frs l, sp ((s1, s2), (s3, s4)), fr (x1, x2)] (.bool true) := by
  have al := pc_alive4
  refine pc_of_body hm Try.func11 (by kernel_rfl) ?_
  conv => whnf
  (repeat' (first | (refine ⟨_, by first | with_reducible exact al | with_reducible exact k0 | with_reducible exact k1 | with_reducible exact k2 | with_reducible exact k3 | with_reducible exact n1, ?_⟩; (conv => whnf)) | (refine Or.inl ?_; (conv => whnf); refine ⟨_, by first | with_reducible exact al | with_reducible exact k0 | with_reducible exact k1 | with_reducible exact k2 | with_reducible exact k3 | with_reducible exact n1, ?_⟩; (conv => whnf)) | (refine Or.inl ?_; (conv => whnf); refine ⟨false, ?_⟩; (conv => whnf); refine ⟨_, by first | with_reducible exact al | with_reducible exact k0 | with_reducible exact k1 | with_reducible exact k2 | with_reducible exact k3 | with_reducible exact n1, ?_⟩; (conv => whnf)) | (refine ⟨by kernel_rfl, ?_⟩; (conv => whnf)) | (refine ⟨fun _ => ?_, fun h => absurd h (by first | decide | (simp; done) | fail)⟩; (conv => whnf)) | (refine ⟨fun h => absurd h (by first | decide | (simp; done) | fail), fun _ => ?_⟩; (conv => whnf)) | ((with_reducible refine And.intro (a := _ = true → _) (b := _ = false → _) (fun hh => ?_) (fun hh => ?_)) <;> (try simp only [decide_eq_true_eq, decide_eq_false_iff_not, Bool.or_eq_true, Bool.and_eq_true, Bool.or_eq_false_iff, Bool.and_eq_false_iff, Bool.not_eq_true', Bool.not_eq_false', ge_iff_le, gt_iff_lt] at hh) <;> (first | (exfalso; omega) | (conv => whnf))) | fail))
  all_goals (first | rfl | (exfalso; omega) | (simp [*]; done))
theorem spOk (l : List (Int × Int)) (s1 s2 s3 s4 x1 x2 y1 y2 c1 c2 c3 c4 : Int) (hl : l.length ≤ 50) (k0 : PC Try.prog 44 [frs l, sp ((s1, s2), (s3, s4))] (.tup [sp ((c1, c2), (c3, c4)), i64 0])) (k1 : PC Try.prog 32 [frs l, fr (x1, x2)] (.tup [fr (y1, y2), i64 0]))
    (k2 : PC Try.prog 32 [frs l, fr (s1, s2)] (.tup [fr (c1, c2), i64 0])) (k3 : PC Try.prog 32 [frs l, fr (s3, s4)] (.tup [fr (c3, c4), i64 0])) (n1 : PC Try.prog 45 [sp ((s1, s2), (s3, s4)), fr (x1, x2)] (.tup [.bool true, i64 0]))
    (n2 : PC Try.prog 45 [sp ((c1, c2), (c3, c4)), fr (y1, y2)] (.tup [.bool true, i64 0])) :
    PC Try.prog 11 [frs l, sp ((s1, s2), (s3, s4)), fr (x1, x2)] (.bool true) := by
  have al := pc_alive4
  refine pc_of_body hm Try.func11 (by kernel_rfl) ?_
  conv => whnf
  (repeat' (first | (refine ⟨_, by first | with_reducible exact al | with_reducible exact k0 | with_reducible exact k1 | with_reducible exact k2 | with_reducible exact k3 | with_reducible exact n1 | with_reducible exact n2, ?_⟩; (conv => whnf)) | (refine Or.inl ?_; (conv => whnf); refine ⟨_, by first | with_reducible exact al | with_reducible exact k0 | with_reducible exact k1 | with_reducible exact k2 | with_reducible exact k3 | with_reducible exact n1 | with_reducible exact n2, ?_⟩; (conv => whnf)) | (refine Or.inl ?_; (conv => whnf); refine ⟨false, ?_⟩; (conv => whnf); refine ⟨_, by first | with_reducible exact al | with_reducible exact k0 | with_reducible exact k1 | with_reducible exact k2 | with_reducible exact k3 | with_reducible exact n1 | with_reducible exact n2, ?_⟩; (conv => whnf)) | (refine ⟨by kernel_rfl, ?_⟩; (conv => whnf)) | (refine ⟨fun _ => ?_, fun h => absurd h (by first | decide | (simp; done) | fail)⟩; (conv => whnf)) | (refine ⟨fun h => absurd h (by first | decide | (simp; done) | fail), fun _ => ?_⟩; (conv => whnf)) | ((with_reducible refine And.intro (a := _ = true → _) (b := _ = false → _) (fun hh => ?_) (fun hh => ?_)) <;> (try simp only [decide_eq_true_eq, decide_eq_false_iff_not, Bool.or_eq_true, Bool.and_eq_true, Bool.or_eq_false_iff, Bool.and_eq_false_iff, Bool.not_eq_true', Bool.not_eq_false', ge_iff_le, gt_iff_lt] at hh) <;> (first | (exfalso; omega) | (conv => whnf))) | fail))
  all_goals (first | rfl | (exfalso; omega) | (simp [*]; done))
theorem pc_LensSpans (l : List (Int × Int)) (s : SpT) (x : Int × Int) (i1 : I64 s.1.1) (i2 : I64 s.1.2) (i3 : I64 s.2.1) (i4 : I64 s.2.2) (j1 : I64 x.1) (j2 : I64 x.2) : PC Try.prog 11 [frs l, sp s, fr x] (.bool true) := by
  by_cases hl : l.length ≤ 50
  rotate_left
  · exact spOut l _ _ _ _ _ _ hl
  have hl2 : l.length < 2 ^ 39 := by omega
  have k0 := pc_CorrectSpan l s hl2 i1 i2 i3 i4
  have k1 := pc_Correct l x hl2 j1 j2
  by_cases h : (corS l s).2 = 0
  rotate_left
  · exact spBad l _ _ _ _ _ _ _ _ _ _ _ hl h k0 k1
  obtain ⟨e1, e2, vs, vc, hx⟩ := spn_law (x := x) h
  have k2 := pc_Correct l s.1 hl2 i1 i2
  have k3 := pc_Correct l s.2 hl2 i3 i4
  rw [e1] at k2
  rw [e2] at k3
  rw [h] at k0
  have n1 := pc_In s x
  rw [vs] at n1
  cases vx : validB x
  · rw [vx] at n1
    exact spI l _ _ _ _ _ _ _ _ _ _ _ _ _ 8 _ hl (.inl (by decide)) k0 k1 k2 k3 n1
  rw [vx] at n1
  cases hh : hasB s x
  · rw [hh] at n1
    exact spI l _ _ _ _ _ _ _ _ _ _ _ _ _ 0 _ hl (.inr rfl) k0 k1 k2 k3 n1
  rw [hh] at n1
  obtain ⟨g1, g2⟩ := hx vx hh
  by_cases hf : (corF Prod.fst Prod.snd l x).2 = 0
  · obtain ⟨v3, h3⟩ := g2 hf
    have n2 := pc_In (corS l s).1 (corF Prod.fst Prod.snd l x).1
    rw [vc, v3, h3] at n2
    rw [hf] at k1
    exact spOk l _ _ _ _ _ _ _ _ _ _ _ _ hl k0 k1 k2 k3 n1 n2
  · refine spF l _ _ _ _ _ _ _ _ _ _ _ _ _ hl hf ?_ k0 k1 k2 k3 n1
    by_cases hd : x.2 ≤ 1048576
    · exact absurd (g1 hd) hf
    · show 1048576 < x.2
      omega
end Go.Proofs.Try.My
