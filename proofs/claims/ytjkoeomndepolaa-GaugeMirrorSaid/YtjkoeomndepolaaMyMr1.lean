/- A helper text: contracts of functions of the program, and plain lemmas. -/
import Derived.Test.YtjkoeomndepolaaMyAlA
import Derived.Test.YtjkoeomndepolaaMyMrA
set_option maxRecDepth 100000
set_option maxHeartbeats 0
set_option linter.unusedVariables false
set_option linter.unusedSimpArgs false
namespace Go.Proofs.Try.My
open Go Go.Ev

abbrev toM (n : Nat) (a : Int) : Int := IntKind.i64.wrap (IntKind.i64.wrap ((n : Int) - 1) - a)
theorem mrOut (p : List Int) (thr a noise : Int) (hl : ¬ p.length ≤ 64) : PC Try.prog 9 [ints p, i64 thr, i64 a, i64 noise] (.bool true) := by
  have al := pc_alive
  refine pc_of_body hm Try.func9 (by kernel_rfl) ?_
  conv => whnf
  (repeat' (first | (refine ⟨_, by first | with_reducible exact al, ?_⟩; (conv => whnf)) | (refine Or.inl ?_; (conv => whnf); refine ⟨_, by first | with_reducible exact al, ?_⟩; (conv => whnf)) | (refine Or.inl ?_; (conv => whnf); refine ⟨false, ?_⟩; (conv => whnf); refine ⟨_, by first | with_reducible exact al, ?_⟩; (conv => whnf)) | (refine ⟨by kernel_rfl, ?_⟩; (conv => whnf)) | fail))
  refine ⟨fun _ => ?_, fun h => absurd (of_decide_eq_false h) (by omega)⟩
  (conv => whnf)
theorem mr00 (p q : List Int) (thr a noise i k l m : Int) (X Y Z E S1 S2 T1 T2 L H : Int × Int) (U : SpT) (hl : p.length ≤ 64)
    (rv : PC Try.prog 42 [ints p] (ints q))
    (f1 : PC Try.prog 15 [ints p, i64 thr, i64 a] (.tup [fr X, i64 0])) (f2 : PC Try.prog 17 [ints q, i64 thr, i64 (toM p.length a)] (.tup [fr Y, i64 0]))
    (r1 : PC Try.prog 28 [ints p, i64 thr, i64 a, i64 noise] (.tup [sp (S1, S2), i64 0])) (r2 : PC Try.prog 30 [ints q, i64 thr, i64 (toM p.length a), i64 noise] (.tup [sp (T1, T2), i64 0]))
    (w1 : PC Try.prog 32 [ints p, i64 thr, i64 noise] (.tup [sp U, i64 i])) (w2 : PC Try.prog 32 [ints q, i64 thr, i64 noise] (.tup [sp U, i64 i]))
    (fe : PC Try.prog 43 [i64 (IntKind.i64.wrap ((p.length : Int) - 1)), i64 1] (fr E)) (z1 : PC Try.prog 44 [fr E, fr X] (.tup [fr Y, i64 0]))
    (z2 : PC Try.prog 44 [fr E, fr S2] (.tup [fr T1, i64 0])) (z3 : PC Try.prog 44 [fr E, fr S1] (.tup [fr T2, i64 0])) :
    PC Try.prog 9 [ints p, i64 thr, i64 a, i64 noise] (.bool true) := by
  have al := pc_alive
  obtain ⟨X1, X2⟩ := X
  obtain ⟨Y1, Y2⟩ := Y
  obtain ⟨Z1, Z2⟩ := Z
  obtain ⟨E1, E2⟩ := E
  obtain ⟨S11, S12⟩ := S1
  obtain ⟨S21, S22⟩ := S2
  obtain ⟨T11, T12⟩ := T1
  obtain ⟨T21, T22⟩ := T2
  obtain ⟨L1, L2⟩ := L
  obtain ⟨H1, H2⟩ := H
  obtain ⟨⟨U1, U2⟩, ⟨U3, U4⟩⟩ := U
  refine pc_of_body hm Try.func9 (by kernel_rfl) ?_
  conv => whnf
  (repeat' (first | (refine ⟨_, by first | with_reducible exact al, ?_⟩; (conv => whnf)) | (refine Or.inl ?_; (conv => whnf); refine ⟨_, by first | with_reducible exact al, ?_⟩; (conv => whnf)) | (refine Or.inl ?_; (conv => whnf); refine ⟨false, ?_⟩; (conv => whnf); refine ⟨_, by first | with_reducible exact al, ?_⟩; (conv => whnf)) | (refine ⟨by kernel_rfl, ?_⟩; (conv => whnf)) | fail))
  refine ⟨fun h => absurd (of_decide_eq_true h) (by omega), fun _ => ?_⟩
  (conv => whnf)
  (repeat' (first | (refine ⟨_, by first | with_reducible exact rv | with_reducible exact f1 | with_reducible exact f2 | with_reducible exact r1 | with_reducible exact r2 | with_reducible exact w1 | with_reducible exact w2 | with_reducible exact fe | with_reducible exact z1 | with_reducible exact z2 | with_reducible exact z3, ?_⟩; (conv => whnf)) | (refine Or.inl ?_; (conv => whnf); refine ⟨_, by first | with_reducible exact rv | with_reducible exact f1 | with_reducible exact f2 | with_reducible exact r1 | with_reducible exact r2 | with_reducible exact w1 | with_reducible exact w2 | with_reducible exact fe | with_reducible exact z1 | with_reducible exact z2 | with_reducible exact z3, ?_⟩; (conv => whnf)) | (refine Or.inl ?_; (conv => whnf); refine ⟨false, ?_⟩; (conv => whnf); refine ⟨_, by first | with_reducible exact rv | with_reducible exact f1 | with_reducible exact f2 | with_reducible exact r1 | with_reducible exact r2 | with_reducible exact w1 | with_reducible exact w2 | with_reducible exact fe | with_reducible exact z1 | with_reducible exact z2 | with_reducible exact z3, ?_⟩; (conv => whnf)) | (refine ⟨by kernel_rfl, ?_⟩; (conv => whnf)) | (refine ⟨fun _ => ?_, fun h => absurd h (by first | decide | (simp; done) | fail)⟩; (conv => whnf)) | (refine ⟨fun h => absurd h (by first | decide | (simp; done) | fail), fun _ => ?_⟩; (conv => whnf)) | ((with_reducible refine And.intro (a := _ = true → _) (b := _ = false → _) (fun hh => ?_) (fun hh => ?_)) <;> (try simp only [decide_eq_true_eq, decide_eq_false_iff_not, Bool.or_eq_true, Bool.and_eq_true, Bool.or_eq_false_iff, Bool.and_eq_false_iff, Bool.not_eq_true', Bool.not_eq_false', ge_iff_le, gt_iff_lt] at hh) <;> (first | (exfalso; omega) | (conv => whnf))) | fail))
  all_goals (first | rfl | simp | (simp [*]; done))
theorem mr01 (p q : List Int) (thr a noise i k l m : Int) (X Y Z E S1 S2 T1 T2 L H : Int × Int) (U : SpT) (g : Int) (hg : g ≠ 0) (hl : p.length ≤ 64)
    (rv : PC Try.prog 42 [ints p] (ints q))
    (f1 : PC Try.prog 15 [ints p, i64 thr, i64 a] (.tup [fr X, i64 0])) (f2 : PC Try.prog 17 [ints q, i64 thr, i64 (toM p.length a)] (.tup [fr Y, i64 0]))
    (r1 : PC Try.prog 28 [ints p, i64 thr, i64 a, i64 noise] (.tup [sp (S1, S2), i64 g])) (r2 : PC Try.prog 30 [ints q, i64 thr, i64 (toM p.length a), i64 noise] (.tup [sp (T1, T2), i64 g]))
    (w1 : PC Try.prog 32 [ints p, i64 thr, i64 noise] (.tup [sp U, i64 i])) (w2 : PC Try.prog 32 [ints q, i64 thr, i64 noise] (.tup [sp U, i64 i]))
    (fe : PC Try.prog 43 [i64 (IntKind.i64.wrap ((p.length : Int) - 1)), i64 1] (fr E)) (z1 : PC Try.prog 44 [fr E, fr X] (.tup [fr Y, i64 0]))
    (z2 : PC Try.prog 44 [fr E, fr S2] (.tup [fr L, i64 l])) (z3 : PC Try.prog 44 [fr E, fr S1] (.tup [fr H, i64 m])) :
    PC Try.prog 9 [ints p, i64 thr, i64 a, i64 noise] (.bool true) := by
  have al := pc_alive
  obtain ⟨X1, X2⟩ := X
  obtain ⟨Y1, Y2⟩ := Y
  obtain ⟨Z1, Z2⟩ := Z
  obtain ⟨E1, E2⟩ := E
  obtain ⟨S11, S12⟩ := S1
  obtain ⟨S21, S22⟩ := S2
  obtain ⟨T11, T12⟩ := T1
  obtain ⟨T21, T22⟩ := T2
  obtain ⟨L1, L2⟩ := L
  obtain ⟨H1, H2⟩ := H
  obtain ⟨⟨U1, U2⟩, ⟨U3, U4⟩⟩ := U
  refine pc_of_body hm Try.func9 (by kernel_rfl) ?_
  conv => whnf
  (repeat' (first | (refine ⟨_, by first | with_reducible exact al, ?_⟩; (conv => whnf)) | (refine Or.inl ?_; (conv => whnf); refine ⟨_, by first | with_reducible exact al, ?_⟩; (conv => whnf)) | (refine Or.inl ?_; (conv => whnf); refine ⟨false, ?_⟩; (conv => whnf); refine ⟨_, by first | with_reducible exact al, ?_⟩; (conv => whnf)) | (refine ⟨by kernel_rfl, ?_⟩; (conv => whnf)) | fail))
  refine ⟨fun h => absurd (of_decide_eq_true h) (by omega), fun _ => ?_⟩
  (conv => whnf)
  (repeat' (first | (refine ⟨_, by first | with_reducible exact rv | with_reducible exact f1 | with_reducible exact f2 | with_reducible exact r1 | with_reducible exact r2 | with_reducible exact w1 | with_reducible exact w2 | with_reducible exact fe | with_reducible exact z1 | with_reducible exact z2 | with_reducible exact z3, ?_⟩; (conv => whnf)) | (refine Or.inl ?_; (conv => whnf); refine ⟨_, by first | with_reducible exact rv | with_reducible exact f1 | with_reducible exact f2 | with_reducible exact r1 | with_reducible exact r2 | with_reducible exact w1 | with_reducible exact w2 | with_reducible exact fe | with_reducible exact z1 | with_reducible exact z2 | with_reducible exact z3, ?_⟩; (conv => whnf)) | (refine Or.inl ?_; (conv => whnf); refine ⟨false, ?_⟩; (conv => whnf); refine ⟨_, by first | with_reducible exact rv | with_reducible exact f1 | with_reducible exact f2 | with_reducible exact r1 | with_reducible exact r2 | with_reducible exact w1 | with_reducible exact w2 | with_reducible exact fe | with_reducible exact z1 | with_reducible exact z2 | with_reducible exact z3, ?_⟩; (conv => whnf)) | (refine ⟨by kernel_rfl, ?_⟩; (conv => whnf)) | (refine ⟨fun _ => ?_, fun h => absurd h (by first | decide | (simp; done) | fail)⟩; (conv => whnf)) | (refine ⟨fun h => absurd h (by first | decide | (simp; done) | fail), fun _ => ?_⟩; (conv => whnf)) | ((with_reducible refine And.intro (a := _ = true → _) (b := _ = false → _) (fun hh => ?_) (fun hh => ?_)) <;> (try simp only [decide_eq_true_eq, decide_eq_false_iff_not, Bool.or_eq_true, Bool.and_eq_true, Bool.or_eq_false_iff, Bool.and_eq_false_iff, Bool.not_eq_true', Bool.not_eq_false', ge_iff_le, gt_iff_lt] at hh) <;> (first | (exfalso; omega) | (conv => whnf))) | fail))
  all_goals (first | rfl | simp | (simp [*]; done))
theorem mr10 (p q : List Int) (thr a noise i k l m : Int) (X Y Z E S1 S2 T1 T2 L H : Int × Int) (U : SpT) (e : Int) (he : e ≠ 0) (hl : p.length ≤ 64)
    (rv : PC Try.prog 42 [ints p] (ints q))
    (f1 : PC Try.prog 15 [ints p, i64 thr, i64 a] (.tup [fr X, i64 e])) (f2 : PC Try.prog 17 [ints q, i64 thr, i64 (toM p.length a)] (.tup [fr Y, i64 e]))
    (r1 : PC Try.prog 28 [ints p, i64 thr, i64 a, i64 noise] (.tup [sp (S1, S2), i64 0])) (r2 : PC Try.prog 30 [ints q, i64 thr, i64 (toM p.length a), i64 noise] (.tup [sp (T1, T2), i64 0]))
    (w1 : PC Try.prog 32 [ints p, i64 thr, i64 noise] (.tup [sp U, i64 i])) (w2 : PC Try.prog 32 [ints q, i64 thr, i64 noise] (.tup [sp U, i64 i]))
    (fe : PC Try.prog 43 [i64 (IntKind.i64.wrap ((p.length : Int) - 1)), i64 1] (fr E)) (z1 : PC Try.prog 44 [fr E, fr X] (.tup [fr Z, i64 k]))
    (z2 : PC Try.prog 44 [fr E, fr S2] (.tup [fr T1, i64 0])) (z3 : PC Try.prog 44 [fr E, fr S1] (.tup [fr T2, i64 0])) :
    PC Try.prog 9 [ints p, i64 thr, i64 a, i64 noise] (.bool true) := by
  have al := pc_alive
  obtain ⟨X1, X2⟩ := X
  obtain ⟨Y1, Y2⟩ := Y
  obtain ⟨Z1, Z2⟩ := Z
  obtain ⟨E1, E2⟩ := E
  obtain ⟨S11, S12⟩ := S1
  obtain ⟨S21, S22⟩ := S2
  obtain ⟨T11, T12⟩ := T1
  obtain ⟨T21, T22⟩ := T2
  obtain ⟨L1, L2⟩ := L
  obtain ⟨H1, H2⟩ := H
  obtain ⟨⟨U1, U2⟩, ⟨U3, U4⟩⟩ := U
  refine pc_of_body hm Try.func9 (by kernel_rfl) ?_
  conv => whnf
  (repeat' (first | (refine ⟨_, by first | with_reducible exact al, ?_⟩; (conv => whnf)) | (refine Or.inl ?_; (conv => whnf); refine ⟨_, by first | with_reducible exact al, ?_⟩; (conv => whnf)) | (refine Or.inl ?_; (conv => whnf); refine ⟨false, ?_⟩; (conv => whnf); refine ⟨_, by first | with_reducible exact al, ?_⟩; (conv => whnf)) | (refine ⟨by kernel_rfl, ?_⟩; (conv => whnf)) | fail))
  refine ⟨fun h => absurd (of_decide_eq_true h) (by omega), fun _ => ?_⟩
  (conv => whnf)
  (repeat' (first | (refine ⟨_, by first | with_reducible exact rv | with_reducible exact f1 | with_reducible exact f2 | with_reducible exact r1 | with_reducible exact r2 | with_reducible exact w1 | with_reducible exact w2 | with_reducible exact fe | with_reducible exact z1 | with_reducible exact z2 | with_reducible exact z3, ?_⟩; (conv => whnf)) | (refine Or.inl ?_; (conv => whnf); refine ⟨_, by first | with_reducible exact rv | with_reducible exact f1 | with_reducible exact f2 | with_reducible exact r1 | with_reducible exact r2 | with_reducible exact w1 | with_reducible exact w2 | with_reducible exact fe | with_reducible exact z1 | with_reducible exact z2 | with_reducible exact z3, ?_⟩; (conv => whnf)) | (refine Or.inl ?_; (conv => whnf); refine ⟨false, ?_⟩; (conv => whnf); refine ⟨_, by first | with_reducible exact rv | with_reducible exact f1 | with_reducible exact f2 | with_reducible exact r1 | with_reducible exact r2 | with_reducible exact w1 | with_reducible exact w2 | with_reducible exact fe | with_reducible exact z1 | with_reducible exact z2 | with_reducible exact z3, ?_⟩; (conv => whnf)) | (refine ⟨by kernel_rfl, ?_⟩; (conv => whnf)) | (refine ⟨fun _ => ?_, fun h => absurd h (by first | decide | (simp; done) | fail)⟩; (conv => whnf)) | (refine ⟨fun h => absurd h (by first | decide | (simp; done) | fail), fun _ => ?_⟩; (conv => whnf)) | ((with_reducible refine And.intro (a := _ = true → _) (b := _ = false → _) (fun hh => ?_) (fun hh => ?_)) <;> (try simp only [decide_eq_true_eq, decide_eq_false_iff_not, Bool.or_eq_true, Bool.and_eq_true, Bool.or_eq_false_iff, Bool.and_eq_false_iff, Bool.not_eq_true', Bool.not_eq_false', ge_iff_le, gt_iff_lt] at hh) <;> (first | (exfalso; omega) | (conv => whnf))) | fail))
  all_goals (first | rfl | simp | (simp [*]; done))
theorem mr11 (p q : List Int) (thr a noise i k l m : Int) (X Y Z E S1 S2 T1 T2 L H : Int × Int) (U : SpT) (e : Int) (he : e ≠ 0) (g : Int) (hg : g ≠ 0) (hl : p.length ≤ 64)
    (rv : PC Try.prog 42 [ints p] (ints q))
    (f1 : PC Try.prog 15 [ints p, i64 thr, i64 a] (.tup [fr X, i64 e])) (f2 : PC Try.prog 17 [ints q, i64 thr, i64 (toM p.length a)] (.tup [fr Y, i64 e]))
    (r1 : PC Try.prog 28 [ints p, i64 thr, i64 a, i64 noise] (.tup [sp (S1, S2), i64 g])) (r2 : PC Try.prog 30 [ints q, i64 thr, i64 (toM p.length a), i64 noise] (.tup [sp (T1, T2), i64 g]))
    (w1 : PC Try.prog 32 [ints p, i64 thr, i64 noise] (.tup [sp U, i64 i])) (w2 : PC Try.prog 32 [ints q, i64 thr, i64 noise] (.tup [sp U, i64 i]))
    (fe : PC Try.prog 43 [i64 (IntKind.i64.wrap ((p.length : Int) - 1)), i64 1] (fr E)) (z1 : PC Try.prog 44 [fr E, fr X] (.tup [fr Z, i64 k]))
    (z2 : PC Try.prog 44 [fr E, fr S2] (.tup [fr L, i64 l])) (z3 : PC Try.prog 44 [fr E, fr S1] (.tup [fr H, i64 m])) :
    PC Try.prog 9 [ints p, i64 thr, i64 a, i64 noise] (.bool true) := by
  have al := pc_alive
  obtain ⟨X1, X2⟩ := X
  obtain ⟨Y1, Y2⟩ := Y
  obtain ⟨Z1, Z2⟩ := Z
  obtain ⟨E1, E2⟩ := E
  obtain ⟨S11, S12⟩ := S1
  obtain ⟨S21, S22⟩ := S2
  obtain ⟨T11, T12⟩ := T1
  obtain ⟨T21, T22⟩ := T2
  obtain ⟨L1, L2⟩ := L
  obtain ⟨H1, H2⟩ := H
  obtain ⟨⟨U1, U2⟩, ⟨U3, U4⟩⟩ := U
  refine pc_of_body hm Try.func9 (by kernel_rfl) ?_
  conv => whnf
  (repeat' (first | (refine ⟨_, by first | with_reducible exact al, ?_⟩; (conv => whnf)) | (refine Or.inl ?_; (conv => whnf); refine ⟨_, by first | with_reducible exact al, ?_⟩; (conv => whnf)) | (refine Or.inl ?_; (conv => whnf); refine ⟨false, ?_⟩; (conv => whnf); refine ⟨_, by first | with_reducible exact al, ?_⟩; (conv => whnf)) | (refine ⟨by kernel_rfl, ?_⟩; (conv => whnf)) | fail))
  refine ⟨fun h => absurd (of_decide_eq_true h) (by omega), fun _ => ?_⟩
  (conv => whnf)
  (repeat' (first | (refine ⟨_, by first | with_reducible exact rv | with_reducible exact f1 | with_reducible exact f2 | with_reducible exact r1 | with_reducible exact r2 | with_reducible exact w1 | with_reducible exact w2 | with_reducible exact fe | with_reducible exact z1 | with_reducible exact z2 | with_reducible exact z3, ?_⟩; (conv => whnf)) | (refine Or.inl ?_; (conv => whnf); refine ⟨_, by first | with_reducible exact rv | with_reducible exact f1 | with_reducible exact f2 | with_reducible exact r1 | with_reducible exact r2 | with_reducible exact w1 | with_reducible exact w2 | with_reducible exact fe | with_reducible exact z1 | with_reducible exact z2 | with_reducible exact z3, ?_⟩; (conv => whnf)) | (refine Or.inl ?_; (conv => whnf); refine ⟨false, ?_⟩; (conv => whnf); refine ⟨_, by first | with_reducible exact rv | with_reducible exact f1 | with_reducible exact f2 | with_reducible exact r1 | with_reducible exact r2 | with_reducible exact w1 | with_reducible exact w2 | with_reducible exact fe | with_reducible exact z1 | with_reducible exact z2 | with_reducible exact z3, ?_⟩; (conv => whnf)) | (refine ⟨by kernel_rfl, ?_⟩; (conv => whnf)) | (refine ⟨fun _ => ?_, fun h => absurd h (by first | decide | (simp; done) | fail)⟩; (conv => whnf)) | (refine ⟨fun h => absurd h (by first | decide | (simp; done) | fail), fun _ => ?_⟩; (conv => whnf)) | ((with_reducible refine And.intro (a := _ = true → _) (b := _ = false → _) (fun hh => ?_) (fun hh => ?_)) <;> (try simp only [decide_eq_true_eq, decide_eq_false_iff_not, Bool.or_eq_true, Bool.and_eq_true, Bool.or_eq_false_iff, Bool.and_eq_false_iff, Bool.not_eq_true', Bool.not_eq_false', ge_iff_le, gt_iff_lt] at hh) <;> (first | (exfalso; omega) | (conv => whnf))) | fail))
  all_goals (first | rfl | simp | (simp [*]; done))
end Go.Proofs.Try.My
