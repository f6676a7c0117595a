/- Both ends of the spans of the first and the last bright place are reached, by the upper and by the lower profile, and the errors agree, for all profiles, thresholds, indices and noises. -/
import Derived.Test.YtjkoeomndepolaaMnAlA
import Derived.Test.YtjkoeomndepolaaEvZnine
import Derived.Test.YtjkoeomndepolaaEvZanine
import Derived.Test.YtjkoeomndepolaaMnIniA
import Derived.Test.YtjkoeomndepolaaRows
import Derived.WalkKit
import Derived.ProofKit
import Derived.OpenShut
import Derived.ChangeOld
import Derived.Below
set_option maxRecDepth 100000
set_option maxHeartbeats 0
set_option linter.unusedVariables false
set_option linter.unusedSimpArgs false
namespace Go.Proofs.Try.My
open Go Go.Ev

theorem pc_UpperF (p : List Int) (noise : Int) (h : nzB p noise = true) : PC Try.prog 19 [ints p, i64 noise] (.tup [ints (movL p noise), i64 0]) := by
  obtain ⟨h1, n1, n2, h0, l1, l2⟩ := nz_known h
  have ca := pc_gasked p 1 0 noise (by omega)
  simp only [nzB, h1, Bool.true_and] at h
  rw [h1, h] at ca
  refine pc_of_body hm Try.func19 (by kernel_rfl) ?_
  conv => whnf
  (repeat' (first | (refine And.intro (a := _ = true → _) (b := _ = false → _) (fun hh => ?_) (fun hh => ?_) <;> (first | simp only [decide_eq_true_eq, decide_eq_false_iff_not, Bool.or_eq_true, Bool.and_eq_true, Bool.or_eq_false_iff, Bool.and_eq_false_iff, Bool.not_eq_true', Bool.not_eq_false', ge_iff_le, gt_iff_lt] at hh | skip) <;> (first | (exfalso; omega) | (exfalso; simp [*] at hh; done) | (exfalso; revert hh; decide) | exact absurd (by assumption) hh | (conv => whnf))) | (refine ⟨by kernel_rfl, ?_⟩; (conv => whnf)) | (refine And.intro (a := _ ∧ _) ⟨by omega, by omega⟩ ?_; (conv => whnf)) | (refine And.intro (a := _ ∧ _) ⟨by decide, by decide⟩ ?_; (conv => whnf)) | (refine And.intro (a := _ ≤ _) (by omega) ?_; (conv => whnf)) | (refine And.intro (a := _ ≠ _) (by omega) ?_; (conv => whnf)) | (refine Or.inl ?_; (conv => whnf); first | (refine ⟨_, by first | exact ca, ?_⟩; (conv => whnf)) | (refine ⟨false, ?_⟩; (conv => whnf); refine ⟨_, by first | exact ca, ?_⟩; (conv => whnf))) | (refine ⟨_, by first | exact ca, ?_⟩; (conv => whnf))))
  (first | (refine Or.inl ?_; (conv => whnf); refine ⟨_, pc_moved _, ?_⟩) | refine ⟨_, pc_moved _, ?_⟩)
  (conv => whnf)
  (refine Or.inr ⟨[ ], [ 16 ], by kernel_rfl, ?_⟩; (conv => whnf); refine ⟨[ ], _, _, _, _, ⟨ pw_moved1 p noise h0 (by omega) (prof_byte h1) (by omega) (by omega), rfl, rfl, by kernel_rfl⟩, ?_⟩)
  (conv => whnf)
theorem pc_LowerF (p : List Int) (noise : Int) (h : nzB p noise = true) : PC Try.prog 21 [ints p, i64 noise] (.tup [ints (movL p (-noise)), i64 0]) := by
  obtain ⟨h1, n1, n2, h0, l1, l2⟩ := nz_known h
  have ca := pc_gasked p 1 0 noise (by omega)
  simp only [nzB, h1, Bool.true_and] at h
  rw [h1, h] at ca
  have wn : IntKind.i64.wrap (0 - noise) = -noise := by rw [w64 _ (by omega) (by omega)]; omega
  refine pc_of_body hm Try.func21 (by kernel_rfl) ?_
  conv => whnf
  (repeat' (first | (refine And.intro (a := _ = true → _) (b := _ = false → _) (fun hh => ?_) (fun hh => ?_) <;> (first | simp only [decide_eq_true_eq, decide_eq_false_iff_not, Bool.or_eq_true, Bool.and_eq_true, Bool.or_eq_false_iff, Bool.and_eq_false_iff, Bool.not_eq_true', Bool.not_eq_false', ge_iff_le, gt_iff_lt] at hh | skip) <;> (first | (exfalso; omega) | (exfalso; simp [*] at hh; done) | (exfalso; revert hh; decide) | exact absurd (by assumption) hh | (conv => whnf))) | (refine ⟨by kernel_rfl, ?_⟩; (conv => whnf)) | (refine And.intro (a := _ ∧ _) ⟨by omega, by omega⟩ ?_; (conv => whnf)) | (refine And.intro (a := _ ∧ _) ⟨by decide, by decide⟩ ?_; (conv => whnf)) | (refine And.intro (a := _ ≤ _) (by omega) ?_; (conv => whnf)) | (refine And.intro (a := _ ≠ _) (by omega) ?_; (conv => whnf)) | (refine Or.inl ?_; (conv => whnf); first | (refine ⟨_, by first | exact ca, ?_⟩; (conv => whnf)) | (refine ⟨false, ?_⟩; (conv => whnf); refine ⟨_, by first | exact ca, ?_⟩; (conv => whnf))) | (refine ⟨_, by first | exact ca, ?_⟩; (conv => whnf))))
  rw [wn]
  (first | (refine Or.inl ?_; (conv => whnf); refine ⟨_, pc_moved _, ?_⟩) | refine ⟨_, pc_moved _, ?_⟩)
  (conv => whnf)
  (refine Or.inr ⟨[ ], [ 17 ], by kernel_rfl, ?_⟩; (conv => whnf); refine ⟨[ ], _, _, _, _, ⟨ pw_moved1 p (-noise) h0 (by omega) (prof_byte h1) (by omega) (by omega), rfl, rfl, by kernel_rfl⟩, ?_⟩)
  (conv => whnf)
theorem grOut (p : List Int) (thr a noise : Int) (hl : ¬ p.length ≤ 64) : PC Try.prog 14 [ints p, i64 thr, i64 a, i64 noise] (.bool true) := by
  have al := pc_alive
  refine pc_of_body hm Try.func14 (by kernel_rfl) ?_
  conv => whnf
  (repeat' (first | (refine ⟨_, by first | with_reducible exact al, ?_⟩; (conv => whnf)) | (refine Or.inl ?_; (conv => whnf); refine ⟨_, by first | with_reducible exact al, ?_⟩; (conv => whnf)) | (refine Or.inl ?_; (conv => whnf); refine ⟨false, ?_⟩; (conv => whnf); refine ⟨_, by first | with_reducible exact al, ?_⟩; (conv => whnf)) | (refine ⟨by kernel_rfl, ?_⟩; (conv => whnf)) | fail))
  refine ⟨fun _ => ?_, fun h => absurd (of_decide_eq_false h) (by omega)⟩
  (conv => whnf)
theorem grBad (p : List Int) (thr a noise c : Int) (R S : SpT) (hl : p.length ≤ 64) (hc : c = 2 ∨ c = 50) (u : PC Try.prog 19 [ints p, i64 noise] (.tup [.nils, i64 c])) (l : PC Try.prog 21 [ints p, i64 noise] (.tup [.nils, i64 c]))
    (r : PC Try.prog 28 [ints p, i64 thr, i64 a, i64 noise] (.tup [sp R, i64 c])) (s : PC Try.prog 30 [ints p, i64 thr, i64 a, i64 noise] (.tup [sp S, i64 c])) : PC Try.prog 14 [ints p, i64 thr, i64 a, i64 noise] (.bool true) := by
  have al := pc_alive
  rcases hc with rfl | rfl
  · refine pc_of_body hm Try.func14 (by kernel_rfl) ?_
    conv => whnf
    (repeat' (first | (refine ⟨_, by first | with_reducible exact al, ?_⟩; (conv => whnf)) | (refine Or.inl ?_; (conv => whnf); refine ⟨_, by first | with_reducible exact al, ?_⟩; (conv => whnf)) | (refine Or.inl ?_; (conv => whnf); refine ⟨false, ?_⟩; (conv => whnf); refine ⟨_, by first | with_reducible exact al, ?_⟩; (conv => whnf)) | (refine ⟨by kernel_rfl, ?_⟩; (conv => whnf)) | fail))
    refine ⟨fun h => absurd (of_decide_eq_true h) (by omega), fun _ => ?_⟩
    (conv => whnf)
    (repeat' (first | (refine ⟨_, by first | with_reducible exact u | with_reducible exact l | with_reducible exact r | with_reducible exact s, ?_⟩; (conv => whnf)) | (refine Or.inl ?_; (conv => whnf); refine ⟨_, by first | with_reducible exact u | with_reducible exact l | with_reducible exact r | with_reducible exact s, ?_⟩; (conv => whnf)) | (refine Or.inl ?_; (conv => whnf); refine ⟨false, ?_⟩; (conv => whnf); refine ⟨_, by first | with_reducible exact u | with_reducible exact l | with_reducible exact r | with_reducible exact s, ?_⟩; (conv => whnf)) | (refine ⟨by kernel_rfl, ?_⟩; (conv => whnf)) | (refine ⟨fun _ => ?_, fun h => absurd h (by first | decide | (simp; done) | fail)⟩; (conv => whnf)) | (refine ⟨fun h => absurd h (by first | decide | (simp; done) | fail), fun _ => ?_⟩; (conv => whnf)) | fail))
    all_goals (first | rfl | simp)
  · refine pc_of_body hm Try.func14 (by kernel_rfl) ?_
    conv => whnf
    (repeat' (first | (refine ⟨_, by first | with_reducible exact al, ?_⟩; (conv => whnf)) | (refine Or.inl ?_; (conv => whnf); refine ⟨_, by first | with_reducible exact al, ?_⟩; (conv => whnf)) | (refine Or.inl ?_; (conv => whnf); refine ⟨false, ?_⟩; (conv => whnf); refine ⟨_, by first | with_reducible exact al, ?_⟩; (conv => whnf)) | (refine ⟨by kernel_rfl, ?_⟩; (conv => whnf)) | fail))
    refine ⟨fun h => absurd (of_decide_eq_true h) (by omega), fun _ => ?_⟩
    (conv => whnf)
    (repeat' (first | (refine ⟨_, by first | with_reducible exact u | with_reducible exact l | with_reducible exact r | with_reducible exact s, ?_⟩; (conv => whnf)) | (refine Or.inl ?_; (conv => whnf); refine ⟨_, by first | with_reducible exact u | with_reducible exact l | with_reducible exact r | with_reducible exact s, ?_⟩; (conv => whnf)) | (refine Or.inl ?_; (conv => whnf); refine ⟨false, ?_⟩; (conv => whnf); refine ⟨_, by first | with_reducible exact u | with_reducible exact l | with_reducible exact r | with_reducible exact s, ?_⟩; (conv => whnf)) | (refine ⟨by kernel_rfl, ?_⟩; (conv => whnf)) | (refine ⟨fun _ => ?_, fun h => absurd h (by first | decide | (simp; done) | fail)⟩; (conv => whnf)) | (refine ⟨fun h => absurd h (by first | decide | (simp; done) | fail), fun _ => ?_⟩; (conv => whnf)) | fail))
    all_goals (first | rfl | simp)
theorem gr22 (p q t : List Int) (thr a noise i k : Int) (E L F N : Int × Int) (R S : SpT) (hl : p.length ≤ 64) (u : PC Try.prog 19 [ints p, i64 noise] (.tup [ints q, i64 0])) (l : PC Try.prog 21 [ints p, i64 noise] (.tup [ints t, i64 0]))
    (r : PC Try.prog 28 [ints p, i64 thr, i64 a, i64 noise] (.tup [sp R, i64 2])) (s : PC Try.prog 30 [ints p, i64 thr, i64 a, i64 noise] (.tup [sp S, i64 2]))
    (f1 : PC Try.prog 15 [ints q, i64 thr, i64 a] (.tup [fr E, i64 2])) (f2 : PC Try.prog 15 [ints t, i64 thr, i64 a] (.tup [fr L, i64 2]))
    (f3 : PC Try.prog 17 [ints q, i64 thr, i64 a] (.tup [fr F, i64 2])) (f4 : PC Try.prog 17 [ints t, i64 thr, i64 a] (.tup [fr N, i64 2])) :
    PC Try.prog 14 [ints p, i64 thr, i64 a, i64 noise] (.bool true) := by
  have al := pc_alive
  refine pc_of_body hm Try.func14 (by kernel_rfl) ?_
  conv => whnf
  (repeat' (first | (refine ⟨_, by first | with_reducible exact al, ?_⟩; (conv => whnf)) | (refine Or.inl ?_; (conv => whnf); refine ⟨_, by first | with_reducible exact al, ?_⟩; (conv => whnf)) | (refine Or.inl ?_; (conv => whnf); refine ⟨false, ?_⟩; (conv => whnf); refine ⟨_, by first | with_reducible exact al, ?_⟩; (conv => whnf)) | (refine ⟨by kernel_rfl, ?_⟩; (conv => whnf)) | fail))
  refine ⟨fun h => absurd (of_decide_eq_true h) (by omega), fun _ => ?_⟩
  (conv => whnf)
  (repeat' (first | (refine ⟨_, by first | with_reducible exact u | with_reducible exact l | with_reducible exact r | with_reducible exact s | with_reducible exact f1 | with_reducible exact f2 | with_reducible exact f3 | with_reducible exact f4, ?_⟩; (conv => whnf)) | (refine Or.inl ?_; (conv => whnf); refine ⟨_, by first | with_reducible exact u | with_reducible exact l | with_reducible exact r | with_reducible exact s | with_reducible exact f1 | with_reducible exact f2 | with_reducible exact f3 | with_reducible exact f4, ?_⟩; (conv => whnf)) | (refine Or.inl ?_; (conv => whnf); refine ⟨false, ?_⟩; (conv => whnf); refine ⟨_, by first | with_reducible exact u | with_reducible exact l | with_reducible exact r | with_reducible exact s | with_reducible exact f1 | with_reducible exact f2 | with_reducible exact f3 | with_reducible exact f4, ?_⟩; (conv => whnf)) | (refine ⟨by kernel_rfl, ?_⟩; (conv => whnf)) | (refine ⟨fun _ => ?_, fun h => absurd h (by first | decide | (simp; done) | fail)⟩; (conv => whnf)) | (refine ⟨fun h => absurd h (by first | decide | (simp; done) | fail), fun _ => ?_⟩; (conv => whnf)) | fail))
  all_goals (first | rfl | simp)
theorem gr00 (p q t : List Int) (thr a noise i k : Int) (E L F N : Int × Int) (R S : SpT) (hl : p.length ≤ 64) (u : PC Try.prog 19 [ints p, i64 noise] (.tup [ints q, i64 0])) (l : PC Try.prog 21 [ints p, i64 noise] (.tup [ints t, i64 0]))
    (r : PC Try.prog 28 [ints p, i64 thr, i64 a, i64 noise] (.tup [sp (E, L), i64 0])) (s : PC Try.prog 30 [ints p, i64 thr, i64 a, i64 noise] (.tup [sp (N, F), i64 0]))
    (f1 : PC Try.prog 15 [ints q, i64 thr, i64 a] (.tup [fr E, i64 0])) (f2 : PC Try.prog 15 [ints t, i64 thr, i64 a] (.tup [fr L, i64 0]))
    (f3 : PC Try.prog 17 [ints q, i64 thr, i64 a] (.tup [fr F, i64 0])) (f4 : PC Try.prog 17 [ints t, i64 thr, i64 a] (.tup [fr N, i64 0])) :
    PC Try.prog 14 [ints p, i64 thr, i64 a, i64 noise] (.bool true) := by
  have al := pc_alive
  refine pc_of_body hm Try.func14 (by kernel_rfl) ?_
  conv => whnf
  (repeat' (first | (refine ⟨_, by first | with_reducible exact al, ?_⟩; (conv => whnf)) | (refine Or.inl ?_; (conv => whnf); refine ⟨_, by first | with_reducible exact al, ?_⟩; (conv => whnf)) | (refine Or.inl ?_; (conv => whnf); refine ⟨false, ?_⟩; (conv => whnf); refine ⟨_, by first | with_reducible exact al, ?_⟩; (conv => whnf)) | (refine ⟨by kernel_rfl, ?_⟩; (conv => whnf)) | fail))
  refine ⟨fun h => absurd (of_decide_eq_true h) (by omega), fun _ => ?_⟩
  (conv => whnf)
  (repeat' (first | (refine ⟨_, by first | with_reducible exact u | with_reducible exact l | with_reducible exact r | with_reducible exact s | with_reducible exact f1 | with_reducible exact f2 | with_reducible exact f3 | with_reducible exact f4, ?_⟩; (conv => whnf)) | (refine Or.inl ?_; (conv => whnf); refine ⟨_, by first | with_reducible exact u | with_reducible exact l | with_reducible exact r | with_reducible exact s | with_reducible exact f1 | with_reducible exact f2 | with_reducible exact f3 | with_reducible exact f4, ?_⟩; (conv => whnf)) | (refine Or.inl ?_; (conv => whnf); refine ⟨false, ?_⟩; (conv => whnf); refine ⟨_, by first | with_reducible exact u | with_reducible exact l | with_reducible exact r | with_reducible exact s | with_reducible exact f1 | with_reducible exact f2 | with_reducible exact f3 | with_reducible exact f4, ?_⟩; (conv => whnf)) | (refine ⟨by kernel_rfl, ?_⟩; (conv => whnf)) | (refine ⟨fun _ => ?_, fun h => absurd h (by first | decide | (simp; done) | fail)⟩; (conv => whnf)) | (refine ⟨fun h => absurd h (by first | decide | (simp; done) | fail), fun _ => ?_⟩; (conv => whnf)) | fail))
  all_goals (first | rfl | simp)
theorem gr06 (p q t : List Int) (thr a noise i k : Int) (E L F N : Int × Int) (R S : SpT) (hl : p.length ≤ 64) (u : PC Try.prog 19 [ints p, i64 noise] (.tup [ints q, i64 0])) (l : PC Try.prog 21 [ints p, i64 noise] (.tup [ints t, i64 0]))
    (r : PC Try.prog 28 [ints p, i64 thr, i64 a, i64 noise] (.tup [sp (E, L), i64 0])) (s : PC Try.prog 30 [ints p, i64 thr, i64 a, i64 noise] (.tup [sp S, i64 6]))
    (f1 : PC Try.prog 15 [ints q, i64 thr, i64 a] (.tup [fr E, i64 0])) (f2 : PC Try.prog 15 [ints t, i64 thr, i64 a] (.tup [fr L, i64 0]))
    (f3 : PC Try.prog 17 [ints q, i64 thr, i64 a] (.tup [fr F, i64 k])) (f4 : PC Try.prog 17 [ints t, i64 thr, i64 a] (.tup [fr N, i64 6])) :
    PC Try.prog 14 [ints p, i64 thr, i64 a, i64 noise] (.bool true) := by
  have al := pc_alive
  refine pc_of_body hm Try.func14 (by kernel_rfl) ?_
  conv => whnf
  (repeat' (first | (refine ⟨_, by first | with_reducible exact al, ?_⟩; (conv => whnf)) | (refine Or.inl ?_; (conv => whnf); refine ⟨_, by first | with_reducible exact al, ?_⟩; (conv => whnf)) | (refine Or.inl ?_; (conv => whnf); refine ⟨false, ?_⟩; (conv => whnf); refine ⟨_, by first | with_reducible exact al, ?_⟩; (conv => whnf)) | (refine ⟨by kernel_rfl, ?_⟩; (conv => whnf)) | fail))
  refine ⟨fun h => absurd (of_decide_eq_true h) (by omega), fun _ => ?_⟩
  (conv => whnf)
  (repeat' (first | (refine ⟨_, by first | with_reducible exact u | with_reducible exact l | with_reducible exact r | with_reducible exact s | with_reducible exact f1 | with_reducible exact f2 | with_reducible exact f3 | with_reducible exact f4, ?_⟩; (conv => whnf)) | (refine Or.inl ?_; (conv => whnf); refine ⟨_, by first | with_reducible exact u | with_reducible exact l | with_reducible exact r | with_reducible exact s | with_reducible exact f1 | with_reducible exact f2 | with_reducible exact f3 | with_reducible exact f4, ?_⟩; (conv => whnf)) | (refine Or.inl ?_; (conv => whnf); refine ⟨false, ?_⟩; (conv => whnf); refine ⟨_, by first | with_reducible exact u | with_reducible exact l | with_reducible exact r | with_reducible exact s | with_reducible exact f1 | with_reducible exact f2 | with_reducible exact f3 | with_reducible exact f4, ?_⟩; (conv => whnf)) | (refine ⟨by kernel_rfl, ?_⟩; (conv => whnf)) | (refine ⟨fun _ => ?_, fun h => absurd h (by first | decide | (simp; done) | fail)⟩; (conv => whnf)) | (refine ⟨fun h => absurd h (by first | decide | (simp; done) | fail), fun _ => ?_⟩; (conv => whnf)) | fail))
  all_goals (first | rfl | simp)
theorem gr60 (p q t : List Int) (thr a noise i k : Int) (E L F N : Int × Int) (R S : SpT) (hl : p.length ≤ 64) (u : PC Try.prog 19 [ints p, i64 noise] (.tup [ints q, i64 0])) (l : PC Try.prog 21 [ints p, i64 noise] (.tup [ints t, i64 0]))
    (r : PC Try.prog 28 [ints p, i64 thr, i64 a, i64 noise] (.tup [sp R, i64 6])) (s : PC Try.prog 30 [ints p, i64 thr, i64 a, i64 noise] (.tup [sp (N, F), i64 0]))
    (f1 : PC Try.prog 15 [ints q, i64 thr, i64 a] (.tup [fr E, i64 i])) (f2 : PC Try.prog 15 [ints t, i64 thr, i64 a] (.tup [fr L, i64 6]))
    (f3 : PC Try.prog 17 [ints q, i64 thr, i64 a] (.tup [fr F, i64 0])) (f4 : PC Try.prog 17 [ints t, i64 thr, i64 a] (.tup [fr N, i64 0])) :
    PC Try.prog 14 [ints p, i64 thr, i64 a, i64 noise] (.bool true) := by
  have al := pc_alive
  refine pc_of_body hm Try.func14 (by kernel_rfl) ?_
  conv => whnf
  (repeat' (first | (refine ⟨_, by first | with_reducible exact al, ?_⟩; (conv => whnf)) | (refine Or.inl ?_; (conv => whnf); refine ⟨_, by first | with_reducible exact al, ?_⟩; (conv => whnf)) | (refine Or.inl ?_; (conv => whnf); refine ⟨false, ?_⟩; (conv => whnf); refine ⟨_, by first | with_reducible exact al, ?_⟩; (conv => whnf)) | (refine ⟨by kernel_rfl, ?_⟩; (conv => whnf)) | fail))
  refine ⟨fun h => absurd (of_decide_eq_true h) (by omega), fun _ => ?_⟩
  (conv => whnf)
  (repeat' (first | (refine ⟨_, by first | with_reducible exact u | with_reducible exact l | with_reducible exact r | with_reducible exact s | with_reducible exact f1 | with_reducible exact f2 | with_reducible exact f3 | with_reducible exact f4, ?_⟩; (conv => whnf)) | (refine Or.inl ?_; (conv => whnf); refine ⟨_, by first | with_reducible exact u | with_reducible exact l | with_reducible exact r | with_reducible exact s | with_reducible exact f1 | with_reducible exact f2 | with_reducible exact f3 | with_reducible exact f4, ?_⟩; (conv => whnf)) | (refine Or.inl ?_; (conv => whnf); refine ⟨false, ?_⟩; (conv => whnf); refine ⟨_, by first | with_reducible exact u | with_reducible exact l | with_reducible exact r | with_reducible exact s | with_reducible exact f1 | with_reducible exact f2 | with_reducible exact f3 | with_reducible exact f4, ?_⟩; (conv => whnf)) | (refine ⟨by kernel_rfl, ?_⟩; (conv => whnf)) | (refine ⟨fun _ => ?_, fun h => absurd h (by first | decide | (simp; done) | fail)⟩; (conv => whnf)) | (refine ⟨fun h => absurd h (by first | decide | (simp; done) | fail), fun _ => ?_⟩; (conv => whnf)) | fail))
  all_goals (first | rfl | simp)
theorem gr66 (p q t : List Int) (thr a noise i k : Int) (E L F N : Int × Int) (R S : SpT) (hl : p.length ≤ 64) (u : PC Try.prog 19 [ints p, i64 noise] (.tup [ints q, i64 0])) (l : PC Try.prog 21 [ints p, i64 noise] (.tup [ints t, i64 0]))
    (r : PC Try.prog 28 [ints p, i64 thr, i64 a, i64 noise] (.tup [sp R, i64 6])) (s : PC Try.prog 30 [ints p, i64 thr, i64 a, i64 noise] (.tup [sp S, i64 6]))
    (f1 : PC Try.prog 15 [ints q, i64 thr, i64 a] (.tup [fr E, i64 i])) (f2 : PC Try.prog 15 [ints t, i64 thr, i64 a] (.tup [fr L, i64 6]))
    (f3 : PC Try.prog 17 [ints q, i64 thr, i64 a] (.tup [fr F, i64 k])) (f4 : PC Try.prog 17 [ints t, i64 thr, i64 a] (.tup [fr N, i64 6])) :
    PC Try.prog 14 [ints p, i64 thr, i64 a, i64 noise] (.bool true) := by
  have al := pc_alive
  refine pc_of_body hm Try.func14 (by kernel_rfl) ?_
  conv => whnf
  (repeat' (first | (refine ⟨_, by first | with_reducible exact al, ?_⟩; (conv => whnf)) | (refine Or.inl ?_; (conv => whnf); refine ⟨_, by first | with_reducible exact al, ?_⟩; (conv => whnf)) | (refine Or.inl ?_; (conv => whnf); refine ⟨false, ?_⟩; (conv => whnf); refine ⟨_, by first | with_reducible exact al, ?_⟩; (conv => whnf)) | (refine ⟨by kernel_rfl, ?_⟩; (conv => whnf)) | fail))
  refine ⟨fun h => absurd (of_decide_eq_true h) (by omega), fun _ => ?_⟩
  (conv => whnf)
  (repeat' (first | (refine ⟨_, by first | with_reducible exact u | with_reducible exact l | with_reducible exact r | with_reducible exact s | with_reducible exact f1 | with_reducible exact f2 | with_reducible exact f3 | with_reducible exact f4, ?_⟩; (conv => whnf)) | (refine Or.inl ?_; (conv => whnf); refine ⟨_, by first | with_reducible exact u | with_reducible exact l | with_reducible exact r | with_reducible exact s | with_reducible exact f1 | with_reducible exact f2 | with_reducible exact f3 | with_reducible exact f4, ?_⟩; (conv => whnf)) | (refine Or.inl ?_; (conv => whnf); refine ⟨false, ?_⟩; (conv => whnf); refine ⟨_, by first | with_reducible exact u | with_reducible exact l | with_reducible exact r | with_reducible exact s | with_reducible exact f1 | with_reducible exact f2 | with_reducible exact f3 | with_reducible exact f4, ?_⟩; (conv => whnf)) | (refine ⟨by kernel_rfl, ?_⟩; (conv => whnf)) | (refine ⟨fun _ => ?_, fun h => absurd h (by first | decide | (simp; done) | fail)⟩; (conv => whnf)) | (refine ⟨fun h => absurd h (by first | decide | (simp; done) | fail), fun _ => ?_⟩; (conv => whnf)) | fail))
  all_goals (first | rfl | simp)
theorem ask_same {p : List Int} {thr a noise : Int} (b : Int) (h : nzB p noise = true) : askE (movL p b) thr a 0 = askE p thr a noise := by
  obtain ⟨_, n1, n2, _⟩ := nz_known h
  simp only [askE, movL_length]
  simp [n1, n2]
theorem prof_mov {p : List Int} (b : Int) (h : profB p = true) : profB (movL p b) = true := by
  have hl := prof_len h
  have hb := movL_byte p b
  have hv : (movL p b).any badV = false := List.any_eq_false.2 fun x hx => by
    obtain ⟨i, hi, rfl⟩ := List.getElem_of_mem hx
    have := hb i hi
    simp only [List.getD, hi, List.getElem?_eq_getElem, Option.getD_some] at this
    simp [badV, withB, this]
  have hw : withB (movL p b).length 2 64 = true := by simp only [withB, movL_length, Bool.and_eq_true, decide_eq_true_eq]; omega
  simp only [profB, hv, hw]
  rfl
theorem br_up {p : List Int} {thr a noise d : Int} (n0 : 0 ≤ noise) (h : (brF (movL p (-noise)) thr a d).2 = true) : (brF (movL p noise) thr a d).2 = true := by
  cases hk : brk (movL p (-noise)) thr a d with
  | none => rw [brF_none hk] at h; simp at h
  | some k =>
    obtain ⟨j, hj, _⟩ := brk_mono (p := movL p (-noise)) (q := movL p noise) (by simp [movL_length]) (movL_mono p (by omega)) hk
    rw [brF_some hj]
theorem pc_GaugeReached (p : List Int) (thr a noise : Int) : PC Try.prog 14 [ints p, i64 thr, i64 a, i64 noise] (.bool true) := by
  by_cases hl : p.length ≤ 64
  rotate_left
  · exact grOut p thr a noise hl
  have hl2 : p.length < 2 ^ 40 := by omega
  have r := pc_gRise p thr a noise hl2
  have s := pc_gFall p thr a noise hl2
  cases hn : nzB p noise
  · have u := pc_Upper_bad p noise hl2 hn
    have l := pc_Lower_bad p noise hl2 hn
    cases hp : profB p
    · have e : ∀ d, edgF p thr a noise d = (zS, 50) := fun d => by unfold edgF; rw [hp]; rfl
      rw [e] at r s
      rw [hp] at u l
      exact grBad p thr a noise 50 _ _ hl (.inr rfl) u l r s
    · have hq : askE p thr a noise = false := by
        cases hq : askE p thr a noise
        · rfl
        · obtain ⟨_, _, _, _, n1, n2⟩ := ask_known hq
          have hlen := prof_len hp
          have : askE p 1 0 noise = true := by simp only [askE, Bool.and_eq_true, decide_eq_true_eq]; omega
          simp [nzB, hp, this] at hn
      have e : ∀ d, edgF p thr a noise d = (zS, 2) := fun d => by unfold edgF; rw [hp, hq]; rfl
      rw [e] at r s
      rw [hp] at u l
      exact grBad p thr a noise 2 _ _ hl (.inl rfl) u l r s
  obtain ⟨hp, n1, n2, _, _, _⟩ := nz_known hn
  have u := pc_UpperF p noise hn
  have l := pc_LowerF p noise hn
  have f1 := pc_gFirst (movL p noise) thr a (by rw [movL_length]; exact hl2)
  have f2 := pc_gFirst (movL p (-noise)) thr a (by rw [movL_length]; exact hl2)
  have f3 := pc_gLast (movL p noise) thr a (by rw [movL_length]; exact hl2)
  have f4 := pc_gLast (movL p (-noise)) thr a (by rw [movL_length]; exact hl2)
  cases hq : askE p thr a noise
  · have e : ∀ d, edgF p thr a noise d = (zS, 2) := fun d => by unfold edgF; rw [hp, hq]; rfl
    have ef : ∀ b d, firF (movL p b) thr a d = ((0, 0), 2) := fun b d => by unfold firF; rw [prof_mov b hp, ask_same b hn, hq]; rfl
    rw [e] at r s
    rw [ef] at f1 f2 f3 f4
    exact gr22 p _ _ thr a noise 0 0 _ _ _ _ _ _ hl u l r s f1 f2 f3 f4
  have e : ∀ d, edgF p thr a noise d = edgeG (brF (movL p (-noise)) thr a d) (brF (movL p noise) thr a d) d := fun d => by unfold edgF; rw [hp, hq]; rfl
  have ef : ∀ b d, firF (movL p b) thr a d = firG (brF (movL p b) thr a d) := fun b d => by unfold firF; rw [prof_mov b hp, ask_same b hn, hq]; rfl
  rw [e] at r s
  rw [ef] at f1 f2 f3 f4
  have m1 := br_up (p := p) (thr := thr) (a := a) (d := 1) n1
  have m2 := br_up (p := p) (thr := thr) (a := a) (d := -1) n1
  generalize brF (movL p (-noise)) thr a 1 = L1 at *
  generalize brF (movL p noise) thr a 1 = U1 at *
  generalize brF (movL p (-noise)) thr a (-1) = L2 at *
  generalize brF (movL p noise) thr a (-1) = U2 at *
  obtain ⟨L1, x1⟩ := L1
  obtain ⟨U1, y1⟩ := U1
  obtain ⟨L2, x2⟩ := L2
  obtain ⟨U2, y2⟩ := U2
  cases x1 <;> cases x2
  · exact gr66 p _ _ thr a noise _ _ _ _ _ _ _ _ hl u l r s f1 f2 f3 f4
  · have : y2 = true := m2 rfl
    subst this
    exact gr60 p _ _ thr a noise _ 0 _ _ _ _ _ zS hl u l r s f1 f2 f3 f4
  · have : y1 = true := m1 rfl
    subst this
    exact gr06 p _ _ thr a noise 0 _ _ _ _ _ zS _ hl u l r s f1 f2 f3 f4
  · have h1 : y1 = true := m1 rfl
    have h2 : y2 = true := m2 rfl
    subst h1
    subst h2
    exact gr00 p _ _ thr a noise 0 0 _ _ _ _ zS zS hl u l r s f1 f2 f3 f4
end Go.Proofs.Try.My
set_option maxRecDepth 100000
set_option maxHeartbeats 0
set_option linter.unusedVariables false
set_option linter.unusedSimpArgs false
namespace Go.Proofs.Ytjkoeomndepolaa.GaugeReachedDone
open Go Go.Ev Go.Proofs.Try.My
open Go.ChangeShapes Go.WideShapes Go.ChangeAt Go.RowKit

theorem own : ownKnob Try.prog.godebug = none := by kernel_rfl
theorem laidOut : laidOutB Try.prog = true := by kernel_rfl

theorem walk (w : World) (p : List Int) (v0 : Value) (h0 : RepI (fun b => b < w.heap.size) w (ints p) v0) (thr : Int) (a : Int) (noise : Int) :
    Calls Try.prog 14 #[v0, .int .i64 thr, .int .i64 a, .int .i64 noise] w fun e w' => e = .returned (.bool true) ∧ Below w.heap.size w w' := by
  refine PC.callsTrue (pc_GaugeReached p thr a noise) Try.func14 (by kernel_rfl) rfl rfl fun i hi => ?_
  match i, hi with
  | 0, _ => exact h0
  | 1, _ => exact .int _ _
  | 2, _ => exact .int _ _
  | 3, _ => exact .int _ _

theorem lifted (os : Os) (started : os.Started) (H : Type) (enc : TypeId × Value → H) :
    ReturnsInHanded {} Try.checked os 14 .any (Rows.gaugeReachedSpec.pre6 enc Try.prog Try.f14 Rows.gaugeReachedRow.domain false) (Rows.gaugeReachedSpec.post enc Try.prog Try.f14 false true false false) := by
  refine returnsInHanded_of_change (C := Try.checked) own started (by kernel_rfl) Try.func14
    (ChangeSpec.witness6 (enc := enc) (C := Try.checked) false ⟨#[], #[.slice none 0 0, .int .i64 0, .int .i64 0, .int .i64 0], []⟩ 8 (by kernel_rfl) (by kernel_rfl) (by kernel_rfl) (by kernel_rfl)) ?_
  intro W base args ds gs before hval0 hW hcnd _
  have hval : ∀ (j : Nat) t v, Try.f14.params[j]? = some t → args[j]? = some v → Value.okWide Try.prog W .any base t v := hval0
  have hW' := hW
  obtain ⟨p, q, hA0, hV, rfl, hfz, hnd⟩ := hW
  have hA : DataW.TrodAll enc Try.prog W 0 (fun _ => true) true Try.f14.params.toList args.toList ds p := hA0
  rw [Try.params14] at hA hval
  obtain ⟨v0, vs0, d0, ds0, p0, q0, hargs, rfl, rfl, h0, r0⟩ := trodAll_cons hA
  obtain ⟨v1, vs1, d1, ds1, p1, q1, rfl, rfl, rfl, h1, r1⟩ := trodAll_cons r0
  obtain ⟨v2, vs2, d2, ds2, p2, q2, rfl, rfl, rfl, h2, r2⟩ := trodAll_cons r1
  obtain ⟨v3, vs3, d3, ds3, p3, q3, rfl, rfl, rfl, h3, r3⟩ := trodAll_cons r2
  obtain ⟨rfl, rfl, rfl⟩ := trodAll_nil r3
  obtain rfl : args = #[v0, v1, v2, v3] := by cases args; simp_all
  obtain ⟨rfl, rfl⟩ := trodVars_none hV
  obtain ⟨a0, len0, cap0, rfl⟩ := okWide_slice Try.underlying22 (hval 0 22 v0 rfl rfl)
  have k0 := h0
  have lt0 : ∀ x ∈ p0, x.block < W.heap.size := by obtain ⟨m, hm⟩ := k0; exact DataW.trod_lt m _ _ _ hm
  obtain ⟨l0, i0, _, n0⟩ : ∃ l : List Int, RepI (fun b => b < W.heap.size) W (ints l) (.slice a0 len0 cap0) ∧ (∀ n ∈ l, I64 n) ∧ l.length ≤ maxLen := by
    obtain ⟨fuel, hf⟩ := h0
    exact repI_ints Try.underlying22 Try.underlying3 (by kernel_rfl) (hval 0 22 _ rfl rfl) hf
  obtain ⟨a1, rfl, rfl, rfl, w1⟩ := open_int Try.underlying3 (hval 1 3 v1 rfl rfl) h1
  obtain ⟨a2, rfl, rfl, rfl, w2⟩ := open_int Try.underlying3 (hval 2 3 v2 rfl rfl) h2
  obtain ⟨a3, rfl, rfl, rfl, w3⟩ := open_int Try.underlying3 (hval 3 3 v3 rfl rfl) h3
  clear hA0 hval0
  refine (walk W l0 _ i0 a1 a2 a3).mono fun e W' ⟨he, bel⟩ => ?_
  subst he
  exact ⟨_, rfl, _, _, _, [], _, [], hW', trodAll_mk1 (shut_bool Try.underlying4 _), (trodAll_cons_mk (Below.trod laidOut (by kernel_rfl) (of_decide_eq_true (by kernel_rfl)) k0 bel lt0) (trodAll_cons_mk (shut_int Try.underlying3 w1) (trodAll_cons_mk (shut_int Try.underlying3 w2) (trodAll_cons_mk (shut_int Try.underlying3 w3) trodAll_mk0)))), rfl, bel.frame _, fun h => by cases h⟩

theorem closed : joinedFacts Try.pinned.checked.prog 14 Try.f14 Rows.gaugeReachedSpec Rows.gaugeReachedRow = true :=
  (restOf Try.pinned.checked.prog 14 Try.f14 Rows.gaugeReachedSpec Rows.gaugeReachedRow make_eq mayEnter_eq liftsFinal_eq).2 (by kernel_rfl)
theorem over : Rows.gaugeReachedRow.holds Try.pinned (OpenSpec.ofChange Rows.gaugeReachedSpec) :=
  OpenClaim.holds_of_wide 14 Try.f14 rfl rfl rfl rfl rfl rfl rfl ⟨rfl, rfl, rfl, rfl, rfl⟩ rfl rfl rfl rfl rfl (by kernel_rfl) Try.func14 closed
    (of_decide_eq_true (by kernel_rfl)) (by unfold Func.isWrapper; first | (rw [if_pos (by decide +kernel)]; kernel_rfl) | (rw [if_neg (by decide +kernel)]; exact ⟨rfl, rfl⟩))
    (fun os started H enc _ => lifted os started H enc)

theorem proved : Rows.GaugeReachedSaid := over
#print axioms proved
end Go.Proofs.Ytjkoeomndepolaa.GaugeReachedDone
