/- A helper text: contracts of functions of the program, and plain lemmas. -/
import Derived.Test.YtiimhccemdcnpaaEvSix
import Derived.Test.YtiimhccemdcnpaaMyGaA
import Derived.Test.YtiimhccemdcnpaaMyRf2
set_option maxRecDepth 100000
set_option maxHeartbeats 0
set_option linter.unusedVariables false
set_option linter.unusedSimpArgs false
namespace Go.Proofs.Try.My
open Go Go.Ev

/-! ### Moved profiles -/
theorem clip_L (x : Int) : clip x = clipL x := by unfold clip clipL; split <;> split <;> (try split) <;> (try split) <;> omega
theorem movL_range (p : List Int) (b : Int) : (List.range p.length).map (fun i => clipL (p.getD i 0 + b)) = movL p b := by
  refine List.ext_getElem (by simp [movL]) fun i h1 h2 => ?_
  simp at h1
  simp [movL, List.getD, h1]
theorem pc_moved (b : Int) : PC Try.prog 59 [i64 b] (.fn (.func 79) [] [.pt [i64 b] 0]) := by
  refine pc_of_bodyF hm Try.func59 (by kernel_rfl) ?_
  conv => whnf
theorem pw_moved1 (p : List Int) (b : Int) (h0 : p ≠ []) (hl : p.length < 2 ^ 30) (hp : byteL p) (b1 : -64 ≤ b) (b2 : b ≤ 64) : PW Try.prog 79 [ints p, .pt [i64 b] 0] [] (.own 0) [.vec 3 1 0 eI (movL p b)] := by
  refine pw_of_bodyF hm Try.func79 (by kernel_rfl) ⟨by kernel_rfl, ?_⟩
  conv => whnf
  (refine Or.inr ⟨[ ], [ 8 ], by kernel_rfl, ?_⟩; (conv => whnf); refine ⟨[ ], _, _, _, _, ⟨ pw_Clone p h0 hl, rfl, rfl, by kernel_rfl⟩, ?_⟩)
  (conv => whnf)
  refine Or.inr ⟨Nat, [11], [8], [], fun k => [i64 k], fun k => [.vec 3 1 0 eI (mixL p (fun i => clipL (p.getD i 0 + b)) k)], fun _ => [], fun k => p.length - k, fun k => k ≤ p.length, ?_⟩
  (conv => whnf)
  refine ⟨⟨0, ?_⟩, ?_⟩
  · (conv => whnf)
    refine ⟨⟨Nat.zero_le _, rfl, ?_, rfl⟩, by kernel_rfl, by kernel_rfl⟩
    show [Row.vec 3 1 0 eI p] = [Row.vec 3 1 0 eI (mixL p _ 0)]
    rw [mixL_zero]
  · intro k hk
    (conv => whnf)
    refine ⟨fun h => ?_, fun h => ?_⟩
    · have h := of_decide_eq_true h
      have a1 := hp k (by omega)
      (conv => whnf)
      refine ⟨⟨by omega, by rw [mixL_length]; omega⟩, ?_⟩
      (conv => whnf)
      refine ⟨by rw [mixL_length]; omega, ?_⟩
      (conv => whnf)
      refine ⟨⟨by omega, by rw [mixL_length]; omega⟩, ?_⟩
      (conv => whnf)
      refine ⟨clipL (p.getD k 0 + b), ?_, by rw [mixL_length]; omega, ?_⟩
      · have e1 : (mixL p (fun i => clipL (p.getD i 0 + b)) k).getD (Int.toNat (k : Int)) 0 = p.getD k 0 := by
          show (mixL p _ k).getD k 0 = _
          rw [mixL_getD p _ k k (by omega)]; simp
        rw [e1, w64 (p.getD k 0 + b) (by omega) (by omega), ← clip_L]
        rfl
      (conv => whnf)
      refine ⟨k + 1, ?_⟩
      (conv => whnf)
      refine ⟨⟨⟨Nat.sub_lt_sub_left (by omega) (Nat.lt_succ_self k), by omega⟩, ?_, ?_, rfl⟩, by kernel_rfl, by kernel_rfl⟩
      · rw [w64 _ (by omega) (by omega)]; rfl
      · show [Row.vec _ 1 0 eI ((mixL p _ k).set k (clipL (p.getD k 0 + b)))] = _
        rw [show (mixL p (fun i => clipL (p.getD i 0 + b)) k).set k (clipL (p.getD k 0 + b)) = _ from mixL_succ p (fun i => clipL (p.getD i 0 + b)) k]
    · have h := of_decide_eq_false h
      obtain rfl : k = p.length := by omega
      (conv => whnf)
      refine ⟨[8], by kernel_rfl, ?_⟩
      (conv => whnf)
      refine ⟨rfl, ?_⟩
      show [Row.vec _ 1 0 eI (mixL p _ p.length)] = _
      rw [mixL_all, movL_range]
      rfl
end Go.Proofs.Try.My
set_option maxRecDepth 100000
set_option maxHeartbeats 0
set_option linter.unusedVariables false
set_option linter.unusedSimpArgs false
namespace Go.Proofs.Try.My
open Go Go.Ev

end Go.Proofs.Try.My
set_option maxRecDepth 100000
set_option maxHeartbeats 0
set_option linter.unusedVariables false
set_option linter.unusedSimpArgs false
namespace Go.Proofs.Try.My
open Go Go.Ev

def firG (r : (Int × Int) × Bool) : (Int × Int) × Int := if r.2 then (r.1, 0) else ((0, 0), 6)
/-- A bright place, or the error. -/
def firF (p : List Int) (thr a d : Int) : (Int × Int) × Int := if profB p then (if askE p thr a 0 then firG (brF p thr a d) else ((0, 0), 2)) else ((0, 0), 50)
theorem pc_found (x : Int × Int) (b : Bool) : PC Try.prog 32 [fr x, .bool b] (.tup [fr (firG (x, b)).1, i64 (firG (x, b)).2]) := by
  cases b
  · refine pc_of_bodyF hm Try.func32 (by kernel_rfl) ?_
    conv => whnf
    (repeat' (first | (refine And.intro (a := _ = true → _) (b := _ = false → _) (fun hh => ?_) (fun hh => ?_) <;> (first | simp only [decide_eq_true_eq, decide_eq_false_iff_not, Bool.or_eq_true, Bool.and_eq_true, Bool.or_eq_false_iff, Bool.and_eq_false_iff, Bool.not_eq_true', Bool.not_eq_false', ge_iff_le, gt_iff_lt] at hh | skip) <;> (first | (exfalso; omega) | (exfalso; simp [*] at hh; done) | (exfalso; revert hh; decide) | exact absurd (by assumption) hh | (conv => whnf))) | (refine ⟨by kernel_rfl, ?_⟩; (conv => whnf)) | (refine And.intro (a := _ ∧ _) ⟨by omega, by omega⟩ ?_; (conv => whnf)) | (refine And.intro (a := _ ∧ _) ⟨by decide, by decide⟩ ?_; (conv => whnf)) | (refine And.intro (a := _ ≤ _) (by omega) ?_; (conv => whnf)) | (refine And.intro (a := _ ≠ _) (by omega) ?_; (conv => whnf))))
    all_goals simp [firG]
  · refine pc_of_bodyF hm Try.func32 (by kernel_rfl) ?_
    conv => whnf
    (repeat' (first | (refine And.intro (a := _ = true → _) (b := _ = false → _) (fun hh => ?_) (fun hh => ?_) <;> (first | simp only [decide_eq_true_eq, decide_eq_false_iff_not, Bool.or_eq_true, Bool.and_eq_true, Bool.or_eq_false_iff, Bool.and_eq_false_iff, Bool.not_eq_true', Bool.not_eq_false', ge_iff_le, gt_iff_lt] at hh | skip) <;> (first | (exfalso; omega) | (exfalso; simp [*] at hh; done) | (exfalso; revert hh; decide) | exact absurd (by assumption) hh | (conv => whnf))) | (refine ⟨by kernel_rfl, ?_⟩; (conv => whnf)) | (refine And.intro (a := _ ∧ _) ⟨by omega, by omega⟩ ?_; (conv => whnf)) | (refine And.intro (a := _ ∧ _) ⟨by decide, by decide⟩ ?_; (conv => whnf)) | (refine And.intro (a := _ ≤ _) (by omega) ?_; (conv => whnf)) | (refine And.intro (a := _ ≠ _) (by omega) ?_; (conv => whnf))))
    all_goals simp [firG]
theorem pc_gFirst (p : List Int) (thr a : Int) (hl : p.length < 2 ^ 40) : PC Try.prog 10 [ints p, i64 thr, i64 a] (.tup [fr (firF p thr a 1).1, i64 (firF p thr a 1).2]) := by
  have ca := pc_gasked p thr a 0 hl
  unfold firF
  cases hp : profB p
  · rw [hp] at ca
    refine pc_of_bodyF hm Try.func10 (by kernel_rfl) ?_
    conv => whnf
    (repeat' (first | (refine And.intro (a := _ = true → _) (b := _ = false → _) (fun hh => ?_) (fun hh => ?_) <;> (first | simp only [decide_eq_true_eq, decide_eq_false_iff_not, Bool.or_eq_true, Bool.and_eq_true, Bool.or_eq_false_iff, Bool.and_eq_false_iff, Bool.not_eq_true', Bool.not_eq_false', ge_iff_le, gt_iff_lt] at hh | skip) <;> (first | (exfalso; omega) | (exfalso; simp [*] at hh; done) | (exfalso; revert hh; decide) | exact absurd (by assumption) hh | (conv => whnf))) | (refine ⟨by kernel_rfl, ?_⟩; (conv => whnf)) | (refine And.intro (a := _ ∧ _) ⟨by omega, by omega⟩ ?_; (conv => whnf)) | (refine And.intro (a := _ ∧ _) ⟨by decide, by decide⟩ ?_; (conv => whnf)) | (refine And.intro (a := _ ≤ _) (by omega) ?_; (conv => whnf)) | (refine And.intro (a := _ ≠ _) (by omega) ?_; (conv => whnf)) | (refine Or.inl ?_; (conv => whnf); first | (refine ⟨_, by first | exact ca, ?_⟩; (conv => whnf)) | (refine ⟨false, ?_⟩; (conv => whnf); refine ⟨_, by first | exact ca, ?_⟩; (conv => whnf))) | (refine ⟨_, by first | exact ca, ?_⟩; (conv => whnf))))
    all_goals simp
  cases hq : askE p thr a 0
  · rw [hp, hq] at ca
    refine pc_of_bodyF hm Try.func10 (by kernel_rfl) ?_
    conv => whnf
    (repeat' (first | (refine And.intro (a := _ = true → _) (b := _ = false → _) (fun hh => ?_) (fun hh => ?_) <;> (first | simp only [decide_eq_true_eq, decide_eq_false_iff_not, Bool.or_eq_true, Bool.and_eq_true, Bool.or_eq_false_iff, Bool.and_eq_false_iff, Bool.not_eq_true', Bool.not_eq_false', ge_iff_le, gt_iff_lt] at hh | skip) <;> (first | (exfalso; omega) | (exfalso; simp [*] at hh; done) | (exfalso; revert hh; decide) | exact absurd (by assumption) hh | (conv => whnf))) | (refine ⟨by kernel_rfl, ?_⟩; (conv => whnf)) | (refine And.intro (a := _ ∧ _) ⟨by omega, by omega⟩ ?_; (conv => whnf)) | (refine And.intro (a := _ ∧ _) ⟨by decide, by decide⟩ ?_; (conv => whnf)) | (refine And.intro (a := _ ≤ _) (by omega) ?_; (conv => whnf)) | (refine And.intro (a := _ ≠ _) (by omega) ?_; (conv => whnf)) | (refine Or.inl ?_; (conv => whnf); first | (refine ⟨_, by first | exact ca, ?_⟩; (conv => whnf)) | (refine ⟨false, ?_⟩; (conv => whnf); refine ⟨_, by first | exact ca, ?_⟩; (conv => whnf))) | (refine ⟨_, by first | exact ca, ?_⟩; (conv => whnf))))
    all_goals simp
  rw [hp, hq] at ca
  obtain ⟨t1, t2, a1, a2, _, _⟩ := ask_known hq
  have c := pc_gbright p thr a 1 (prof_byte hp) (prof_len hp).2 a1 a2 (.inl rfl) t1 t2
  have cf := pc_found (brF p thr a 1).1 (brF p thr a 1).2
  generalize brF p thr a 1 = r at *
  obtain ⟨x, b⟩ := r
  simp only [] at *
  refine pc_of_bodyF hm Try.func10 (by kernel_rfl) ?_
  conv => whnf
  (repeat' (first | (refine And.intro (a := _ = true → _) (b := _ = false → _) (fun hh => ?_) (fun hh => ?_) <;> (first | simp only [decide_eq_true_eq, decide_eq_false_iff_not, Bool.or_eq_true, Bool.and_eq_true, Bool.or_eq_false_iff, Bool.and_eq_false_iff, Bool.not_eq_true', Bool.not_eq_false', ge_iff_le, gt_iff_lt] at hh | skip) <;> (first | (exfalso; omega) | (exfalso; simp [*] at hh; done) | (exfalso; revert hh; decide) | exact absurd (by assumption) hh | (conv => whnf))) | (refine ⟨by kernel_rfl, ?_⟩; (conv => whnf)) | (refine And.intro (a := _ ∧ _) ⟨by omega, by omega⟩ ?_; (conv => whnf)) | (refine And.intro (a := _ ∧ _) ⟨by decide, by decide⟩ ?_; (conv => whnf)) | (refine And.intro (a := _ ≤ _) (by omega) ?_; (conv => whnf)) | (refine And.intro (a := _ ≠ _) (by omega) ?_; (conv => whnf)) | (refine Or.inl ?_; (conv => whnf); first | (refine ⟨_, by first | exact ca | exact c | exact cf, ?_⟩; (conv => whnf)) | (refine ⟨false, ?_⟩; (conv => whnf); refine ⟨_, by first | exact ca | exact c | exact cf, ?_⟩; (conv => whnf))) | (refine ⟨_, by first | exact ca | exact c | exact cf, ?_⟩; (conv => whnf))))
  all_goals simp
theorem pc_gLast (p : List Int) (thr a : Int) (hl : p.length < 2 ^ 40) : PC Try.prog 12 [ints p, i64 thr, i64 a] (.tup [fr (firF p thr a (-1)).1, i64 (firF p thr a (-1)).2]) := by
  have ca := pc_gasked p thr a 0 hl
  unfold firF
  cases hp : profB p
  · rw [hp] at ca
    refine pc_of_bodyF hm Try.func12 (by kernel_rfl) ?_
    conv => whnf
    (repeat' (first | (refine And.intro (a := _ = true → _) (b := _ = false → _) (fun hh => ?_) (fun hh => ?_) <;> (first | simp only [decide_eq_true_eq, decide_eq_false_iff_not, Bool.or_eq_true, Bool.and_eq_true, Bool.or_eq_false_iff, Bool.and_eq_false_iff, Bool.not_eq_true', Bool.not_eq_false', ge_iff_le, gt_iff_lt] at hh | skip) <;> (first | (exfalso; omega) | (exfalso; simp [*] at hh; done) | (exfalso; revert hh; decide) | exact absurd (by assumption) hh | (conv => whnf))) | (refine ⟨by kernel_rfl, ?_⟩; (conv => whnf)) | (refine And.intro (a := _ ∧ _) ⟨by omega, by omega⟩ ?_; (conv => whnf)) | (refine And.intro (a := _ ∧ _) ⟨by decide, by decide⟩ ?_; (conv => whnf)) | (refine And.intro (a := _ ≤ _) (by omega) ?_; (conv => whnf)) | (refine And.intro (a := _ ≠ _) (by omega) ?_; (conv => whnf)) | (refine Or.inl ?_; (conv => whnf); first | (refine ⟨_, by first | exact ca, ?_⟩; (conv => whnf)) | (refine ⟨false, ?_⟩; (conv => whnf); refine ⟨_, by first | exact ca, ?_⟩; (conv => whnf))) | (refine ⟨_, by first | exact ca, ?_⟩; (conv => whnf))))
    all_goals simp
  cases hq : askE p thr a 0
  · rw [hp, hq] at ca
    refine pc_of_bodyF hm Try.func12 (by kernel_rfl) ?_
    conv => whnf
    (repeat' (first | (refine And.intro (a := _ = true → _) (b := _ = false → _) (fun hh => ?_) (fun hh => ?_) <;> (first | simp only [decide_eq_true_eq, decide_eq_false_iff_not, Bool.or_eq_true, Bool.and_eq_true, Bool.or_eq_false_iff, Bool.and_eq_false_iff, Bool.not_eq_true', Bool.not_eq_false', ge_iff_le, gt_iff_lt] at hh | skip) <;> (first | (exfalso; omega) | (exfalso; simp [*] at hh; done) | (exfalso; revert hh; decide) | exact absurd (by assumption) hh | (conv => whnf))) | (refine ⟨by kernel_rfl, ?_⟩; (conv => whnf)) | (refine And.intro (a := _ ∧ _) ⟨by omega, by omega⟩ ?_; (conv => whnf)) | (refine And.intro (a := _ ∧ _) ⟨by decide, by decide⟩ ?_; (conv => whnf)) | (refine And.intro (a := _ ≤ _) (by omega) ?_; (conv => whnf)) | (refine And.intro (a := _ ≠ _) (by omega) ?_; (conv => whnf)) | (refine Or.inl ?_; (conv => whnf); first | (refine ⟨_, by first | exact ca, ?_⟩; (conv => whnf)) | (refine ⟨false, ?_⟩; (conv => whnf); refine ⟨_, by first | exact ca, ?_⟩; (conv => whnf))) | (refine ⟨_, by first | exact ca, ?_⟩; (conv => whnf))))
    all_goals simp
  rw [hp, hq] at ca
  obtain ⟨t1, t2, a1, a2, _, _⟩ := ask_known hq
  have c := pc_gbright p thr a (-1) (prof_byte hp) (prof_len hp).2 a1 a2 (.inr rfl) t1 t2
  have cf := pc_found (brF p thr a (-1)).1 (brF p thr a (-1)).2
  generalize brF p thr a (-1) = r at *
  obtain ⟨x, b⟩ := r
  simp only [] at *
  refine pc_of_bodyF hm Try.func12 (by kernel_rfl) ?_
  conv => whnf
  (repeat' (first | (refine And.intro (a := _ = true → _) (b := _ = false → _) (fun hh => ?_) (fun hh => ?_) <;> (first | simp only [decide_eq_true_eq, decide_eq_false_iff_not, Bool.or_eq_true, Bool.and_eq_true, Bool.or_eq_false_iff, Bool.and_eq_false_iff, Bool.not_eq_true', Bool.not_eq_false', ge_iff_le, gt_iff_lt] at hh | skip) <;> (first | (exfalso; omega) | (exfalso; simp [*] at hh; done) | (exfalso; revert hh; decide) | exact absurd (by assumption) hh | (conv => whnf))) | (refine ⟨by kernel_rfl, ?_⟩; (conv => whnf)) | (refine And.intro (a := _ ∧ _) ⟨by omega, by omega⟩ ?_; (conv => whnf)) | (refine And.intro (a := _ ∧ _) ⟨by decide, by decide⟩ ?_; (conv => whnf)) | (refine And.intro (a := _ ≤ _) (by omega) ?_; (conv => whnf)) | (refine And.intro (a := _ ≠ _) (by omega) ?_; (conv => whnf)) | (refine Or.inl ?_; (conv => whnf); first | (refine ⟨_, by first | exact ca | exact c | exact cf, ?_⟩; (conv => whnf)) | (refine ⟨false, ?_⟩; (conv => whnf); refine ⟨_, by first | exact ca | exact c | exact cf, ?_⟩; (conv => whnf))) | (refine ⟨_, by first | exact ca | exact c | exact cf, ?_⟩; (conv => whnf))))
  all_goals simp
/-! ### Upper and lower profiles -/
def nzB (p : List Int) (noise : Int) : Bool := profB p && askE p 1 0 noise
theorem nz_known {p : List Int} {noise : Int} (h : nzB p noise = true) : profB p = true ∧ 0 ≤ noise ∧ noise ≤ 64 ∧ p ≠ [] ∧ 2 ≤ p.length ∧ p.length ≤ 64 := by
  simp only [nzB, Bool.and_eq_true] at h
  obtain ⟨h1, h2⟩ := h
  have := ask_known h2
  have hl := prof_len h1
  exact ⟨h1, by omega, by omega, by rintro rfl; simp at hl, by omega, by omega⟩
end Go.Proofs.Try.My
