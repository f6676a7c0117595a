/- A helper text: contracts of functions of the program, and plain lemmas. -/
import Derived.Test.YtjkoeomndepolaaMnGa4
import Derived.Test.YtjkoeomndepolaaMnRf2
set_option maxRecDepth 100000
set_option maxHeartbeats 0
set_option linter.unusedVariables false
set_option linter.unusedSimpArgs false
namespace Go.Proofs.Try.My
open Go Go.Ev

/-! ### Moved profiles -/
theorem clip_L (x : Int) : clip x = clipL x := by unfold clip clipL; split <;> split <;> (try split) <;> (try split) <;> omega
theorem movL_range (p : List Int) (b : Int) : (List.range p.length).map (fun i => clipL (p.getD i 0 + b)) = movL p b := by
  refine List.ext_getElem (by simp [movL]) fun i h1 h2 => ?_
  simp at h1
  simp [movL, List.getD, h1]
theorem pc_moved (b : Int) : PC Try.prog 67 [i64 b] (.fn (.func 111) [] [.pt [i64 b] 0]) := by
  refine pc_of_body hm Try.func67 (by kernel_rfl) ?_
  conv => whnf
theorem pw_moved1 (p : List Int) (b : Int) (h0 : p ≠ []) (hl : p.length < 2 ^ 30) (hp : byteL p) (b1 : -64 ≤ b) (b2 : b ≤ 64) : PW Try.prog 111 [ints p, .pt [i64 b] 0] [] (.own 0) [.vec 3 1 0 eI (movL p b)] := by
  refine pw_of_body hm Try.func111 (by kernel_rfl) ⟨by kernel_rfl, ?_⟩
  conv => whnf
  (refine Or.inr ⟨[ ], [ 8 ], by kernel_rfl, ?_⟩; (conv => whnf); refine ⟨[ ], _, _, _, _, ⟨ pw_Clone p h0 hl, rfl, rfl, by kernel_rfl⟩, ?_⟩)
  (conv => whnf)
  refine Or.inr ⟨Nat, [11], [8], [], fun k => [i64 k], fun k => [.vec 3 1 0 eI (mixL p (fun i => clipL (p.getD i 0 + b)) k)], fun _ => [], fun k => p.length - k, fun k => k ≤ p.length, ?_⟩
  (conv => whnf)
  refine ⟨⟨0, ?_⟩, ?_⟩
  · (conv => whnf)
    refine ⟨⟨Nat.zero_le _, rfl, ?_, rfl⟩, by kernel_rfl, by kernel_rfl⟩
    show [Row.vec 3 1 0 eI p] = [Row.vec 3 1 0 eI (mixL p _ 0)]
    rw [mixL_zero]
  · intro k hk
    (conv => whnf)
    refine ⟨fun h => ?_, fun h => ?_⟩
    · have h := of_decide_eq_true h
      have a1 := hp k (by omega)
      (conv => whnf)
      refine ⟨⟨by omega, by rw [mixL_length]; omega⟩, ?_⟩
      (conv => whnf)
      refine ⟨by rw [mixL_length]; omega, ?_⟩
      (conv => whnf)
      refine ⟨⟨by omega, by rw [mixL_length]; omega⟩, ?_⟩
      (conv => whnf)
      refine ⟨clipL (p.getD k 0 + b), ?_, by rw [mixL_length]; omega, ?_⟩
      · have e1 : (mixL p (fun i => clipL (p.getD i 0 + b)) k).getD (Int.toNat (k : Int)) 0 = p.getD k 0 := by
          show (mixL p _ k).getD k 0 = _
          rw [mixL_getD p _ k k (by omega)]; simp
        rw [e1, w64 (p.getD k 0 + b) (by omega) (by omega), ← clip_L]
        rfl
      (conv => whnf)
      refine ⟨k + 1, ?_⟩
      (conv => whnf)
      refine ⟨⟨⟨Nat.sub_lt_sub_left (by omega) (Nat.lt_succ_self k), by omega⟩, ?_, ?_, rfl⟩, by kernel_rfl, by kernel_rfl⟩
      · rw [w64 _ (by omega) (by omega)]; rfl
      · show [Row.vec _ 1 0 eI ((mixL p _ k).set k (clipL (p.getD k 0 + b)))] = _
        rw [show (mixL p (fun i => clipL (p.getD i 0 + b)) k).set k (clipL (p.getD k 0 + b)) = _ from mixL_succ p (fun i => clipL (p.getD i 0 + b)) k]
    · have h := of_decide_eq_false h
      obtain rfl : k = p.length := by omega
      (conv => whnf)
      refine ⟨[8], by kernel_rfl, ?_⟩
      (conv => whnf)
      refine ⟨rfl, ?_⟩
      show [Row.vec _ 1 0 eI (mixL p _ p.length)] = _
      rw [mixL_all, movL_range]
      rfl
theorem pc_Moved (p : List Int) (b : Int) (hl : p.length < 2 ^ 30) (hp : byteL p) (b1 : -64 ≤ b) (b2 : b ≤ 64) : PC Try.prog 68 [ints p, i64 b] (ints (movL p b)) := by
  refine pc_of_body hm Try.func68 (by kernel_rfl) ?_
  conv => whnf
  refine Or.inr ⟨Nat, [6], [], [(5, ⟨Int, 3, 1, 0, eI⟩)], fun i => [i64 i], fun _ => [], fun i => [.vec 3 1 0 eI ((List.range i).map (fun i => clipL (p.getD i 0 + b)))], fun i => p.length - i, fun i => i ≤ p.length, ?_⟩
  (conv => whnf)
  refine ⟨⟨0, ?_⟩, ?_⟩
  · (conv => whnf)
    exact ⟨⟨Nat.zero_le _, rfl, rfl, rfl⟩, by kernel_rfl, by kernel_rfl⟩
  · intro k hk
    (conv => whnf)
    refine ⟨fun h => ?_, fun h => ?_⟩
    · have h := of_decide_eq_true h
      have a1 := hp k (by omega)
      (conv => whnf)
      (repeat' (first | (refine And.intro (a := _ = true → _) (b := _ = false → _) (fun hh => ?_) (fun hh => ?_) <;> (first | simp only [decide_eq_true_eq, decide_eq_false_iff_not, Bool.or_eq_true, Bool.and_eq_true, Bool.or_eq_false_iff, Bool.and_eq_false_iff, Bool.not_eq_true', Bool.not_eq_false', ge_iff_le, gt_iff_lt] at hh | skip) <;> (first | (exfalso; omega) | (exfalso; simp [*] at hh; done) | (exfalso; revert hh; decide) | exact absurd (by assumption) hh | (conv => whnf))) | (refine ⟨by kernel_rfl, ?_⟩; (conv => whnf)) | (refine And.intro (a := _ ∧ _) ⟨by omega, by omega⟩ ?_; (conv => whnf)) | (refine And.intro (a := _ ∧ _) ⟨by decide, by decide⟩ ?_; (conv => whnf)) | (refine And.intro (a := _ ≤ _) (by omega) ?_; (conv => whnf)) | (refine And.intro (a := _ ≠ _) (by omega) ?_; (conv => whnf))))
      refine ⟨⟨Int, 1, 0, eI, (List.range k).map (fun i => clipL (p.getD i 0 + b))⟩, [clipL (p.getD k 0 + b)], rfl, rfl, ⟨rfl, ?_⟩, ?_, ?_, fun y _ => ⟨rfl, rfl, rfl⟩, ?_⟩
      · rw [w64 (p.getD (Int.toNat (k : Int)) 0 + b) (by show _ ≤ p.getD k 0 + b; omega) (by show p.getD k 0 + b ≤ _; omega)]
        show [[i64 _]] = [[i64 (clipL (p.getD k 0 + b))]]
        rw [← clip_L, clip_eq]
        rfl
      · show (((List.range k).map _).length + 1) * 8 ≤ _; simp; omega
      · show ((List.range k).map _).length + 1 ≤ _; simp; omega
      (conv => whnf)
      (repeat' (first | (refine And.intro (a := _ = true → _) (b := _ = false → _) (fun hh => ?_) (fun hh => ?_) <;> (first | simp only [decide_eq_true_eq, decide_eq_false_iff_not, Bool.or_eq_true, Bool.and_eq_true, Bool.or_eq_false_iff, Bool.and_eq_false_iff, Bool.not_eq_true', Bool.not_eq_false', ge_iff_le, gt_iff_lt] at hh | skip) <;> (first | (exfalso; omega) | (exfalso; simp [*] at hh; done) | (exfalso; revert hh; decide) | exact absurd (by assumption) hh | (conv => whnf))) | (refine ⟨by kernel_rfl, ?_⟩; (conv => whnf)) | (refine And.intro (a := _ ∧ _) ⟨by omega, by omega⟩ ?_; (conv => whnf)) | (refine And.intro (a := _ ∧ _) ⟨by decide, by decide⟩ ?_; (conv => whnf)) | (refine And.intro (a := _ ≤ _) (by omega) ?_; (conv => whnf)) | (refine And.intro (a := _ ≠ _) (by omega) ?_; (conv => whnf))))
      refine ⟨k + 1, ?_⟩
      (conv => whnf)
      refine ⟨⟨⟨Nat.sub_lt_sub_left (by omega) (Nat.lt_succ_self k), by omega⟩, ?_, rfl, ?_⟩, by kernel_rfl, by kernel_rfl⟩
      · rw [w64 _ (by omega) (by omega)]; rfl
      · show [Row.vec _ 1 0 eI ((List.range k).map (fun i => clipL (p.getD i 0 + b)) ++ [clipL (p.getD k 0 + b)])] = [Row.vec _ 1 0 eI ((List.range (k + 1)).map (fun i => clipL (p.getD i 0 + b)))]
        rw [List.range_succ, List.map_append]; rfl
    · have h := of_decide_eq_false h
      obtain rfl : k = p.length := by omega
      (conv => whnf)
      rw [movL_range]
theorem pc_made5 (num den : Int) (h1 : I64 num) (h2 : I64 den) : PC Try.prog 110 [i64 num, i64 den] (fr (makeF num den).1) := by
  have c := pc_rMake num den h1 h2
  generalize makeF num den = r at *
  refine pc_of_body hm Try.func110 (by kernel_rfl) ?_
  conv => whnf
  (repeat' (first | (refine And.intro (a := _ = true → _) (b := _ = false → _) (fun hh => ?_) (fun hh => ?_) <;> (first | simp only [decide_eq_true_eq, decide_eq_false_iff_not, Bool.or_eq_true, Bool.and_eq_true, Bool.or_eq_false_iff, Bool.and_eq_false_iff, Bool.not_eq_true', Bool.not_eq_false', ge_iff_le, gt_iff_lt] at hh | skip) <;> (first | (exfalso; omega) | (exfalso; simp [*] at hh; done) | (exfalso; revert hh; decide) | exact absurd (by assumption) hh | (conv => whnf))) | (refine ⟨by kernel_rfl, ?_⟩; (conv => whnf)) | (refine And.intro (a := _ ∧ _) ⟨by omega, by omega⟩ ?_; (conv => whnf)) | (refine And.intro (a := _ ∧ _) ⟨by decide, by decide⟩ ?_; (conv => whnf)) | (refine And.intro (a := _ ≤ _) (by omega) ?_; (conv => whnf)) | (refine And.intro (a := _ ≠ _) (by omega) ?_; (conv => whnf)) | (refine Or.inl ?_; (conv => whnf); first | (refine ⟨_, by first | exact c, ?_⟩; (conv => whnf)) | (refine ⟨false, ?_⟩; (conv => whnf); refine ⟨_, by first | exact c, ?_⟩; (conv => whnf))) | (refine ⟨_, by first | exact c, ?_⟩; (conv => whnf))))
end Go.Proofs.Try.My
