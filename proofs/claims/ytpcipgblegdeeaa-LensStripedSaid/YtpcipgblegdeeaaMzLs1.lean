/- A helper text: contracts of functions of the program, and plain lemmas. -/
import Derived.Test.YtpcipgblegdeeaaMzLs0
import Derived.Test.YtpcipgblegdeeaaMzAm2
set_option maxRecDepth 100000
set_option maxHeartbeats 0
set_option linter.unusedVariables false
set_option linter.unusedSimpArgs false
namespace Go.Proofs.Try.My
open Go Go.Ev

def lsB (k N : Int) (ideal more noises : List Int) : Prop := 1 ≤ ideal.length ∧ ideal.length ≤ 8 ∧ more.length = ideal.length ∧ noises.length = 2 * ideal.length ∧ 0 ≤ N ∧ N ≤ 64 ∧ k < 2 ^ ideal.length
theorem lsOut (k N : Int) (ideal more noises : List Int) (k0 : 0 ≤ k) (k1 : k ≤ 255) (h : ¬ lsB k N ideal more noises) :
    PC Try.prog 9 [.int .u8 k, u8s ideal, u8s more, u8s noises, i64 N] (.bool true) := by
  have al := pc_alive4
  have wk : IntKind.i64.wrap k = k := w64 _ (by omega) (by omega)
  have wn : ideal.length ≤ 8 → IntKind.i64.wrap (2 * (ideal.length : Int)) = 2 * (ideal.length : Int) := fun h => w64 _ (by omega) (by omega)
  have wl : ideal.length ≤ 8 → IntKind.i64.wrap (1 * 2 ^ min (ideal.length : Int).toNat IntKind.i64.bits) = ((2 ^ ideal.length : Nat) : Int) := lim_eq ideal.length
  unfold lsB at h
  refine pc_of_body hm Try.func9 (by kernel_rfl) ?_
  conv => whnf
  (repeat' (first | (refine ⟨_, by first | with_reducible exact al, ?_⟩; (conv => whnf)) | (refine Or.inl ?_; (conv => whnf); refine ⟨_, by first | with_reducible exact al, ?_⟩; (conv => whnf)) | (refine Or.inl ?_; (conv => whnf); refine ⟨false, ?_⟩; (conv => whnf); refine ⟨_, by first | with_reducible exact al, ?_⟩; (conv => whnf)) | (refine ⟨by kernel_rfl, ?_⟩; (conv => whnf)) | (refine ⟨fun _ => ?_, fun h => absurd h (by first | decide | (simp; done) | fail)⟩; (conv => whnf)) | (refine ⟨fun h => absurd h (by first | decide | (simp; done) | fail), fun _ => ?_⟩; (conv => whnf)) | fail))
  by_cases h1 : (ideal.length : Int) < 1
  · (refine ⟨fun _ => ?_, fun h => absurd (of_decide_eq_false h) (by omega)⟩; (conv => whnf))
    (repeat' (first | (refine ⟨by kernel_rfl, ?_⟩; (conv => whnf)) | (refine ⟨fun _ => ?_, fun h => absurd h (by first | decide | (simp; done) | fail)⟩; (conv => whnf)) | (refine ⟨fun h => absurd h (by first | decide | (simp; done) | fail), fun _ => ?_⟩; (conv => whnf)) | fail))
  (refine ⟨fun h => absurd (of_decide_eq_true h) (by omega), fun _ => ?_⟩; (conv => whnf))
  by_cases h2 : 8 < (ideal.length : Int)
  · (refine ⟨fun _ => ?_, fun h => absurd (of_decide_eq_false h) (by omega)⟩; (conv => whnf))
    (repeat' (first | (refine ⟨by kernel_rfl, ?_⟩; (conv => whnf)) | (refine ⟨fun _ => ?_, fun h => absurd h (by first | decide | (simp; done) | fail)⟩; (conv => whnf)) | (refine ⟨fun h => absurd h (by first | decide | (simp; done) | fail), fun _ => ?_⟩; (conv => whnf)) | fail))
  (refine ⟨fun h => absurd (of_decide_eq_true h) (by omega), fun _ => ?_⟩; (conv => whnf))
  have wn := wn (by omega)
  by_cases h3 : (more.length : Int) = ideal.length
  rotate_left
  · refine ⟨fun _ => ?_, fun h => absurd h (by simp [h3])⟩
    (conv => whnf)
    (repeat' (first | (refine ⟨by kernel_rfl, ?_⟩; (conv => whnf)) | (refine ⟨fun _ => ?_, fun h => absurd h (by first | decide | (simp; done) | fail)⟩; (conv => whnf)) | (refine ⟨fun h => absurd h (by first | decide | (simp; done) | fail), fun _ => ?_⟩; (conv => whnf)) | fail))
  refine ⟨fun h => absurd h (by simp [h3]), fun _ => ?_⟩
  (conv => whnf)
  by_cases h4 : (noises.length : Int) = 2 * (ideal.length : Int)
  rotate_left
  · refine ⟨fun _ => ?_, fun h => absurd h (by rw [wn]; simp [h4])⟩
    (conv => whnf)
    (repeat' (first | (refine ⟨by kernel_rfl, ?_⟩; (conv => whnf)) | (refine ⟨fun _ => ?_, fun h => absurd h (by first | decide | (simp; done) | fail)⟩; (conv => whnf)) | (refine ⟨fun h => absurd h (by first | decide | (simp; done) | fail), fun _ => ?_⟩; (conv => whnf)) | fail))
  refine ⟨fun h => absurd h (by rw [wn]; simp [h4]), fun _ => ?_⟩
  (conv => whnf)
  by_cases h5 : N < 0
  · (refine ⟨fun _ => ?_, fun h => absurd (of_decide_eq_false h) (by omega)⟩; (conv => whnf))
    (repeat' (first | (refine ⟨by kernel_rfl, ?_⟩; (conv => whnf)) | (refine ⟨fun _ => ?_, fun h => absurd h (by first | decide | (simp; done) | fail)⟩; (conv => whnf)) | (refine ⟨fun h => absurd h (by first | decide | (simp; done) | fail), fun _ => ?_⟩; (conv => whnf)) | fail))
  (refine ⟨fun h => absurd (of_decide_eq_true h) (by omega), fun _ => ?_⟩; (conv => whnf))
  by_cases h6 : 64 < N
  · (refine ⟨fun _ => ?_, fun h => absurd (of_decide_eq_false h) (by omega)⟩; (conv => whnf))
    (repeat' (first | (refine ⟨by kernel_rfl, ?_⟩; (conv => whnf)) | (refine ⟨fun _ => ?_, fun h => absurd h (by first | decide | (simp; done) | fail)⟩; (conv => whnf)) | (refine ⟨fun h => absurd h (by first | decide | (simp; done) | fail), fun _ => ?_⟩; (conv => whnf)) | fail))
  (refine ⟨fun h => absurd (of_decide_eq_true h) (by omega), fun _ => ?_⟩; (conv => whnf))
  have h7 : ¬ k < 2 ^ ideal.length := fun h7 => h ⟨by omega, by omega, by omega, by omega, by omega, by omega, h7⟩
  have wl := wl (by omega)
  have e2 : ((2 ^ ideal.length : Nat) : Int) = (2 : Int) ^ ideal.length := by simp
  rw [e2] at wl
  refine ⟨by omega, ?_⟩
  (conv => whnf)
  refine ⟨fun _ => ?_, fun h => absurd (of_decide_eq_false h) (by rw [wk, wl]; omega)⟩
  (conv => whnf)
  (repeat' (first | (refine ⟨by kernel_rfl, ?_⟩; (conv => whnf)) | (refine ⟨fun _ => ?_, fun h => absurd h (by first | decide | (simp; done) | fail)⟩; (conv => whnf)) | (refine ⟨fun h => absurd h (by first | decide | (simp; done) | fail), fun _ => ?_⟩; (conv => whnf)) | fail))
end Go.Proofs.Try.My
