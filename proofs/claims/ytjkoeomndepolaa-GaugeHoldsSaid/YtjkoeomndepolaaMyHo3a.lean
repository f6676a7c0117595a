/- A helper text: contracts of functions of the program, and plain lemmas. -/
import Derived.Test.YtjkoeomndepolaaMyHo1
set_option maxRecDepth 100000
set_option maxHeartbeats 0
set_option linter.unusedVariables false
set_option linter.unusedSimpArgs false
namespace Go.Proofs.Try.My
open Go Go.Ev

theorem hoOk0 (p moves q back : List Int) (thr a noise e g h n1 d1 n2 d2 n3 d3 n4 d4 : Int) (R F W : SpT) (b1 b2 b3 b4 B1 B2 B3 : Bool) (hl : p.length ≤ 64) (m1 : 0 ≤ noise) (m2 : noise ≤ 64) (a1 : 0 ≤ a) (a2 : a < p.length)
    (k1 : PC Try.prog 28 [ints p, i64 thr, i64 a, i64 noise] (.tup [sp R, i64 0]))
    (k2 : PC Try.prog 30 [ints p, i64 thr, i64 a, i64 noise] (.tup [sp F, i64 0]))
    (k3 : PC Try.prog 32 [ints p, i64 thr, i64 noise] (.tup [sp W, i64 0]))
    (kv : PC Try.prog 45 [ints p] (.bool true))
    (ka : PC Try.prog 46 [ints p, i16s moves, i64 noise] (ints q))
    (kr : PC Try.prog 42 [ints q] (ints back))
    (f1 : PC Try.prog 47 [ints q, i64 (IntKind.i64.wrap (4 * thr)), i64 a] (.tup [i64 n1, i64 d1, .bool true]))
    (f2 : PC Try.prog 47 [ints back, i64 (IntKind.i64.wrap (4 * thr)), i64 (IntKind.i64.wrap (IntKind.i64.wrap ((q.length : Int) - 1) - a))] (.tup [i64 n2, i64 d2, .bool true]))
    (f3 : PC Try.prog 47 [ints q, i64 (IntKind.i64.wrap (4 * thr)), i64 0] (.tup [i64 n3, i64 d3, .bool true]))
    (f4 : PC Try.prog 47 [ints back, i64 (IntKind.i64.wrap (4 * thr)), i64 0] (.tup [i64 n4, i64 d4, .bool true]))
    (o1 : PC Try.prog 48 [sp R, i64 n1, i64 d1] (.bool true))
    (o2 : PC Try.prog 48 [sp F, i64 (IntKind.i64.wrap (IntKind.i64.wrap (IntKind.i64.wrap ((q.length : Int) - 1) * d2) - n2)), i64 d2] (.bool true))
    (o3 : PC Try.prog 48 [sp W, i64 (IntKind.i64.wrap (IntKind.i64.wrap (IntKind.i64.wrap (IntKind.i64.wrap (IntKind.i64.wrap ((q.length : Int) - 1) * d4) - n4) * d3) - IntKind.i64.wrap (n3 * d4))), i64 (IntKind.i64.wrap (d3 * d4))] (.bool true))
       :
    PC Try.prog 10 [ints p, i16s moves, i64 thr, i64 a, i64 noise] (.bool true) := by
  have al := pc_alive
  refine pc_of_body hm Try.func10 (by kernel_rfl) ?_
  conv => whnf
  (repeat' (first | (refine ⟨_, by first | with_reducible exact al | with_reducible exact k1 | with_reducible exact k2 | with_reducible exact k3 | with_reducible exact kv | with_reducible exact ka | with_reducible exact kr | with_reducible exact f1 | with_reducible exact f2 | with_reducible exact f3 | with_reducible exact f4 | with_reducible exact o1 | with_reducible exact o2 | with_reducible exact o3, ?_⟩; (conv => whnf)) | (refine Or.inl ?_; (conv => whnf); refine ⟨_, by first | with_reducible exact al | with_reducible exact k1 | with_reducible exact k2 | with_reducible exact k3 | with_reducible exact kv | with_reducible exact ka | with_reducible exact kr | with_reducible exact f1 | with_reducible exact f2 | with_reducible exact f3 | with_reducible exact f4 | with_reducible exact o1 | with_reducible exact o2 | with_reducible exact o3, ?_⟩; (conv => whnf)) | (refine Or.inl ?_; (conv => whnf); refine ⟨false, ?_⟩; (conv => whnf); refine ⟨_, by first | with_reducible exact al | with_reducible exact k1 | with_reducible exact k2 | with_reducible exact k3 | with_reducible exact kv | with_reducible exact ka | with_reducible exact kr | with_reducible exact f1 | with_reducible exact f2 | with_reducible exact f3 | with_reducible exact f4 | with_reducible exact o1 | with_reducible exact o2 | with_reducible exact o3, ?_⟩; (conv => whnf)) | (refine ⟨by kernel_rfl, ?_⟩; (conv => whnf)) | (refine ⟨fun _ => ?_, fun h => absurd h (by first | decide | (simp; done) | fail)⟩; (conv => whnf)) | (refine ⟨fun h => absurd h (by first | decide | (simp; done) | fail), fun _ => ?_⟩; (conv => whnf)) | ((with_reducible refine And.intro (a := _ = true → _) (b := _ = false → _) (fun hh => ?_) (fun hh => ?_)) <;> (try simp only [decide_eq_true_eq, decide_eq_false_iff_not, Bool.or_eq_true, Bool.and_eq_true, Bool.or_eq_false_iff, Bool.and_eq_false_iff, Bool.not_eq_true', Bool.not_eq_false', ge_iff_le, gt_iff_lt] at hh) <;> (first | (exfalso; omega) | (conv => whnf))) | fail))
  all_goals (first | rfl | (exfalso; omega) | (simp [*]; done))
theorem hoOk1 (p moves q back : List Int) (thr a noise e g h n1 d1 n2 d2 n3 d3 n4 d4 : Int) (R F W : SpT) (b1 b2 b3 b4 B1 B2 B3 : Bool) (hl : p.length ≤ 64) (m1 : 0 ≤ noise) (m2 : noise ≤ 64) (a1 : 0 ≤ a) (a2 : a < p.length)
    (k1 : PC Try.prog 28 [ints p, i64 thr, i64 a, i64 noise] (.tup [sp R, i64 0]))
    (k2 : PC Try.prog 30 [ints p, i64 thr, i64 a, i64 noise] (.tup [sp F, i64 0]))
    (k3 : PC Try.prog 32 [ints p, i64 thr, i64 noise] (.tup [sp W, i64 h]))
    (kv : PC Try.prog 45 [ints p] (.bool true))
    (ka : PC Try.prog 46 [ints p, i16s moves, i64 noise] (ints q))
    (kr : PC Try.prog 42 [ints q] (ints back))
    (f1 : PC Try.prog 47 [ints q, i64 (IntKind.i64.wrap (4 * thr)), i64 a] (.tup [i64 n1, i64 d1, .bool true]))
    (f2 : PC Try.prog 47 [ints back, i64 (IntKind.i64.wrap (4 * thr)), i64 (IntKind.i64.wrap (IntKind.i64.wrap ((q.length : Int) - 1) - a))] (.tup [i64 n2, i64 d2, .bool true]))
    (f3 : PC Try.prog 47 [ints q, i64 (IntKind.i64.wrap (4 * thr)), i64 0] (.tup [i64 n3, i64 d3, .bool b3]))
    (f4 : PC Try.prog 47 [ints back, i64 (IntKind.i64.wrap (4 * thr)), i64 0] (.tup [i64 n4, i64 d4, .bool b4]))
    (o1 : PC Try.prog 48 [sp R, i64 n1, i64 d1] (.bool true))
    (o2 : PC Try.prog 48 [sp F, i64 (IntKind.i64.wrap (IntKind.i64.wrap (IntKind.i64.wrap ((q.length : Int) - 1) * d2) - n2)), i64 d2] (.bool true))
    (o3 : PC Try.prog 48 [sp W, i64 (IntKind.i64.wrap (IntKind.i64.wrap (IntKind.i64.wrap (IntKind.i64.wrap (IntKind.i64.wrap ((q.length : Int) - 1) * d4) - n4) * d3) - IntKind.i64.wrap (n3 * d4))), i64 (IntKind.i64.wrap (d3 * d4))] (.bool B3))
      (hH : h ≠ 0) :
    PC Try.prog 10 [ints p, i16s moves, i64 thr, i64 a, i64 noise] (.bool true) := by
  have al := pc_alive
  refine pc_of_body hm Try.func10 (by kernel_rfl) ?_
  conv => whnf
  (repeat' (first | (refine ⟨_, by first | with_reducible exact al | with_reducible exact k1 | with_reducible exact k2 | with_reducible exact k3 | with_reducible exact kv | with_reducible exact ka | with_reducible exact kr | with_reducible exact f1 | with_reducible exact f2 | with_reducible exact f3 | with_reducible exact f4 | with_reducible exact o1 | with_reducible exact o2 | with_reducible exact o3, ?_⟩; (conv => whnf)) | (refine Or.inl ?_; (conv => whnf); refine ⟨_, by first | with_reducible exact al | with_reducible exact k1 | with_reducible exact k2 | with_reducible exact k3 | with_reducible exact kv | with_reducible exact ka | with_reducible exact kr | with_reducible exact f1 | with_reducible exact f2 | with_reducible exact f3 | with_reducible exact f4 | with_reducible exact o1 | with_reducible exact o2 | with_reducible exact o3, ?_⟩; (conv => whnf)) | (refine Or.inl ?_; (conv => whnf); refine ⟨false, ?_⟩; (conv => whnf); refine ⟨_, by first | with_reducible exact al | with_reducible exact k1 | with_reducible exact k2 | with_reducible exact k3 | with_reducible exact kv | with_reducible exact ka | with_reducible exact kr | with_reducible exact f1 | with_reducible exact f2 | with_reducible exact f3 | with_reducible exact f4 | with_reducible exact o1 | with_reducible exact o2 | with_reducible exact o3, ?_⟩; (conv => whnf)) | (refine ⟨by kernel_rfl, ?_⟩; (conv => whnf)) | (refine ⟨fun _ => ?_, fun h => absurd h (by first | decide | (simp; done) | fail)⟩; (conv => whnf)) | (refine ⟨fun h => absurd h (by first | decide | (simp; done) | fail), fun _ => ?_⟩; (conv => whnf)) | ((with_reducible refine And.intro (a := _ = true → _) (b := _ = false → _) (fun hh => ?_) (fun hh => ?_)) <;> (try simp only [decide_eq_true_eq, decide_eq_false_iff_not, Bool.or_eq_true, Bool.and_eq_true, Bool.or_eq_false_iff, Bool.and_eq_false_iff, Bool.not_eq_true', Bool.not_eq_false', ge_iff_le, gt_iff_lt] at hh) <;> (first | (exfalso; omega) | (conv => whnf))) | fail))
  all_goals (first | rfl | (exfalso; omega) | (simp [*]; done))
theorem hoOk2 (p moves q back : List Int) (thr a noise e g h n1 d1 n2 d2 n3 d3 n4 d4 : Int) (R F W : SpT) (b1 b2 b3 b4 B1 B2 B3 : Bool) (hl : p.length ≤ 64) (m1 : 0 ≤ noise) (m2 : noise ≤ 64) (a1 : 0 ≤ a) (a2 : a < p.length)
    (k1 : PC Try.prog 28 [ints p, i64 thr, i64 a, i64 noise] (.tup [sp R, i64 0]))
    (k2 : PC Try.prog 30 [ints p, i64 thr, i64 a, i64 noise] (.tup [sp F, i64 g]))
    (k3 : PC Try.prog 32 [ints p, i64 thr, i64 noise] (.tup [sp W, i64 0]))
    (kv : PC Try.prog 45 [ints p] (.bool true))
    (ka : PC Try.prog 46 [ints p, i16s moves, i64 noise] (ints q))
    (kr : PC Try.prog 42 [ints q] (ints back))
    (f1 : PC Try.prog 47 [ints q, i64 (IntKind.i64.wrap (4 * thr)), i64 a] (.tup [i64 n1, i64 d1, .bool true]))
    (f2 : PC Try.prog 47 [ints back, i64 (IntKind.i64.wrap (4 * thr)), i64 (IntKind.i64.wrap (IntKind.i64.wrap ((q.length : Int) - 1) - a))] (.tup [i64 n2, i64 d2, .bool b2]))
    (f3 : PC Try.prog 47 [ints q, i64 (IntKind.i64.wrap (4 * thr)), i64 0] (.tup [i64 n3, i64 d3, .bool true]))
    (f4 : PC Try.prog 47 [ints back, i64 (IntKind.i64.wrap (4 * thr)), i64 0] (.tup [i64 n4, i64 d4, .bool true]))
    (o1 : PC Try.prog 48 [sp R, i64 n1, i64 d1] (.bool true))
    (o2 : PC Try.prog 48 [sp F, i64 (IntKind.i64.wrap (IntKind.i64.wrap (IntKind.i64.wrap ((q.length : Int) - 1) * d2) - n2)), i64 d2] (.bool B2))
    (o3 : PC Try.prog 48 [sp W, i64 (IntKind.i64.wrap (IntKind.i64.wrap (IntKind.i64.wrap (IntKind.i64.wrap (IntKind.i64.wrap ((q.length : Int) - 1) * d4) - n4) * d3) - IntKind.i64.wrap (n3 * d4))), i64 (IntKind.i64.wrap (d3 * d4))] (.bool true))
     (hG : g ≠ 0)  :
    PC Try.prog 10 [ints p, i16s moves, i64 thr, i64 a, i64 noise] (.bool true) := by
  have al := pc_alive
  refine pc_of_body hm Try.func10 (by kernel_rfl) ?_
  conv => whnf
  (repeat' (first | (refine ⟨_, by first | with_reducible exact al | with_reducible exact k1 | with_reducible exact k2 | with_reducible exact k3 | with_reducible exact kv | with_reducible exact ka | with_reducible exact kr | with_reducible exact f1 | with_reducible exact f2 | with_reducible exact f3 | with_reducible exact f4 | with_reducible exact o1 | with_reducible exact o2 | with_reducible exact o3, ?_⟩; (conv => whnf)) | (refine Or.inl ?_; (conv => whnf); refine ⟨_, by first | with_reducible exact al | with_reducible exact k1 | with_reducible exact k2 | with_reducible exact k3 | with_reducible exact kv | with_reducible exact ka | with_reducible exact kr | with_reducible exact f1 | with_reducible exact f2 | with_reducible exact f3 | with_reducible exact f4 | with_reducible exact o1 | with_reducible exact o2 | with_reducible exact o3, ?_⟩; (conv => whnf)) | (refine Or.inl ?_; (conv => whnf); refine ⟨false, ?_⟩; (conv => whnf); refine ⟨_, by first | with_reducible exact al | with_reducible exact k1 | with_reducible exact k2 | with_reducible exact k3 | with_reducible exact kv | with_reducible exact ka | with_reducible exact kr | with_reducible exact f1 | with_reducible exact f2 | with_reducible exact f3 | with_reducible exact f4 | with_reducible exact o1 | with_reducible exact o2 | with_reducible exact o3, ?_⟩; (conv => whnf)) | (refine ⟨by kernel_rfl, ?_⟩; (conv => whnf)) | (refine ⟨fun _ => ?_, fun h => absurd h (by first | decide | (simp; done) | fail)⟩; (conv => whnf)) | (refine ⟨fun h => absurd h (by first | decide | (simp; done) | fail), fun _ => ?_⟩; (conv => whnf)) | ((with_reducible refine And.intro (a := _ = true → _) (b := _ = false → _) (fun hh => ?_) (fun hh => ?_)) <;> (try simp only [decide_eq_true_eq, decide_eq_false_iff_not, Bool.or_eq_true, Bool.and_eq_true, Bool.or_eq_false_iff, Bool.and_eq_false_iff, Bool.not_eq_true', Bool.not_eq_false', ge_iff_le, gt_iff_lt] at hh) <;> (first | (exfalso; omega) | (conv => whnf))) | fail))
  all_goals (first | rfl | (exfalso; omega) | (simp [*]; done))
end Go.Proofs.Try.My
