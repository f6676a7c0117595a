/- A helper text: contracts of functions of the program, and plain lemmas. -/
import Derived.Test.YtdpnpdjnaimgaaaGreatEvSix
import Derived.Test.YtdpnpdjnaimgaaaGreatMzExA
set_option maxRecDepth 100000
set_option maxHeartbeats 0
set_option linter.unusedVariables false
set_option linter.unusedSimpArgs false
namespace Go.Proofs.Tryz.My
open Go Go.Ev
theorem pc_within5 (n lo hi : Int) : PC Tryz.prog 165 [i64 n, i64 lo, i64 hi] (.bool (withB n lo hi)) := by
  refine pc_of_bodyF hm Tryz.func165 (by kernel_rfl) ?_
  conv => whnf
  refine ⟨fun h => ?_, fun h => ?_⟩ <;> ((conv => whnf); simp_all [-decide_eq_true_eq, -decide_eq_false_iff_not, withB])
theorem pc_gfrom (lo hi n : Int) : PC Tryz.prog 87 [i64 lo, i64 hi, i64 n] (.bool (withB n lo hi)) := by
  refine pc_of_bodyF hm Tryz.func87 (by kernel_rfl) ?_
  conv => whnf
  refine ⟨fun h => ?_, fun h => ?_⟩ <;> ((conv => whnf); simp_all [-decide_eq_true_eq, -decide_eq_false_iff_not, withB])
theorem pc_IndexFunc0 (fid : Nat) (p : Int → Bool) (hp : ∀ n, PC Tryz.prog fid [i64 n] (.bool (p n))) (l : List Int) (hl : l.length < 2 ^ 40) : PC Tryz.prog 138 [ints l, .fn (.func fid) [] []] (i64 (ixF p l)) := by
  refine pc_of_bodyF hm Tryz.func138 (by kernel_rfl) ?_
  conv => whnf
  refine Or.inr ⟨Nat, [8], [], [], fun k => [i64 k], fun _ => [], fun _ => [], fun k => l.length - k, fun k => k ≤ l.length ∧ ∀ i, i < k → p (l.getD i 0) = false, ?_⟩
  (conv => whnf)
  refine ⟨⟨0, ?_⟩, ?_⟩
  · (conv => whnf)
    exact ⟨⟨by simp, rfl, rfl, rfl⟩, by kernel_rfl, by kernel_rfl⟩
  · intro k hk
    (conv => whnf)
    refine ⟨fun h => ?_, fun h => ?_⟩
    · have h := of_decide_eq_true h
      (conv => whnf)
      refine ⟨⟨by omega, by omega⟩, ?_⟩
      (conv => whnf)
      (first | (refine Or.inl ?_; (conv => whnf); refine ⟨_, hp _, ?_⟩) | refine ⟨_, hp _, ?_⟩)
      (conv => whnf)
      refine ⟨fun h2 => ?_, fun h2 => ?_⟩
      · (conv => whnf)
        exact congrArg i64 (ixF_hit _ 0 l k (by omega) h2 hk.2).symm
      · refine ⟨k + 1, ?_⟩
        (conv => whnf)
        refine ⟨⟨⟨?_, ?_, ?_⟩, ?_, rfl, rfl⟩, by kernel_rfl, by kernel_rfl⟩
        · show l.length - (k + 1) < l.length - k; omega
        · omega
        · intro i hi
          by_cases e : i = k
          · subst e; exact h2
          · exact hk.2 i (by omega)
        · rw [w64 _ (by omega) (by omega)]; rfl
    · have h := of_decide_eq_false h
      (conv => whnf)
      exact congrArg i64 (ixF_none _ 0 l fun i hi => hk.2 i (by omega)).symm
theorem pc_ContainsFunc0 (fid : Nat) (p : Int → Bool) (hp : ∀ n, PC Tryz.prog fid [i64 n] (.bool (p n))) (l : List Int) (hl : l.length < 2 ^ 40) : PC Tryz.prog 84 [ints l, .fn (.func fid) [] []] (.bool (l.any p)) := by
  refine pc_of_bodyF hm Tryz.func84 (by kernel_rfl) ?_
  conv => whnf
  (first | (refine Or.inl ?_; (conv => whnf); refine ⟨_, pc_IndexFunc0 fid p hp l hl, ?_⟩) | refine ⟨_, pc_IndexFunc0 fid p hp l hl, ?_⟩)
  (conv => whnf)
  rw [ixF_any]
theorem pw_Clone (l : List Int) (h0 : l ≠ []) (hl : l.length < 2 ^ 30) : PW Tryz.prog 129 [ints l] [] (.own 0) [.vec 3 1 0 eI l] := by
  refine pw_of_bodyF hm Tryz.func129 (by kernel_rfl) ⟨by kernel_rfl, ?_⟩
  conv => whnf
  intro b hb
  (conv => whnf)
  refine ⟨fun h => absurd (hb h) h0, fun h => ?_⟩
  (conv => whnf)
  refine ⟨⟨Int, 1, 0, eI, []⟩, l, rfl, ⟨rfl, rfl⟩, rfl, ?_, ?_, fun y _ => ⟨rfl, rfl, rfl⟩, ?_⟩
  · show (0 + l.length) * 8 ≤ _; omega
  · show 0 + l.length ≤ _; omega
  (conv => whnf)
  refine ⟨[7], by kernel_rfl, ?_⟩
  (conv => whnf)
  exact ⟨rfl, rfl⟩
def badV (n : Int) : Bool := !withB n 0 255
theorem pc_CheckProfile1 (n : Int) : PC Tryz.prog 86 [i64 n] (.bool (badV n)) := by
  refine pc_of_bodyF hm Tryz.func86 (by kernel_rfl) ?_
  conv => whnf
  (first | (refine Or.inl ?_; (conv => whnf); refine ⟨_, pc_gfrom 0 255 n, ?_⟩) | refine ⟨_, pc_gfrom 0 255 n, ?_⟩)
  (conv => whnf)
  rfl
def profB (l : List Int) : Bool := withB l.length 2 64 && !l.any badV
theorem pc_CheckProfile (l : List Int) (hl : l.length < 2 ^ 40) : PC Tryz.prog 46 [ints l] (i64 (if profB l then 0 else 50)) := by
  refine pc_of_bodyF hm Tryz.func46 (by kernel_rfl) ?_
  conv => whnf
  (repeat' (first | (refine ansS (fun hh => ?_) (fun hh => ?_) <;> (first | simp only [ansX] at hh | skip) <;> (first | (exfalso; omega) | (exfalso; simp [*] at hh; done) | (exfalso; revert hh; decide) | exact absurd (by assumption) hh | (conv => whnf))) | ((first | refine ⟨by kernel_rfl, ?_⟩ | refine ansB (by omega) (by omega) ?_ | refine ansB (by decide) (by decide) ?_ | refine And.intro (a := _ ≤ _) (by omega) ?_ | refine And.intro (a := _ ≠ _) (by omega) ?_ | ((try (refine Or.inl ?_; (conv => whnf))); (try (refine ⟨false, ?_⟩; (conv => whnf))); refine ⟨_, by first | exact pc_gfrom 2 64 l.length | exact pc_ContainsFunc0 _ badV pc_CheckProfile1 l hl, ?_⟩) | fail); (conv => whnf))))
  all_goals simp_all [profB]
theorem pc_ValidProfile5 (l : List Int) (hl : l.length < 2 ^ 40) : PC Tryz.prog 120 [ints l] (.bool (profB l)) := by
  refine pc_of_bodyF hm Tryz.func120 (by kernel_rfl) ?_
  conv => whnf
  by_cases h1 : 2 ≤ l.length ∧ l.length ≤ 64
  rotate_left
  · (repeat' (first | (refine ansS (fun hh => ?_) (fun hh => ?_) <;> (first | simp only [ansX] at hh | skip) <;> (first | (exfalso; omega) | (exfalso; simp [*] at hh; done) | (exfalso; revert hh; decide) | exact absurd (by assumption) hh | (conv => whnf))) | ((first | refine ⟨by kernel_rfl, ?_⟩ | refine ansB (by omega) (by omega) ?_ | refine ansB (by decide) (by decide) ?_ | refine And.intro (a := _ ≤ _) (by omega) ?_ | refine And.intro (a := _ ≠ _) (by omega) ?_ | fail); (conv => whnf))))
    all_goals (congr 1; refine Eq.symm ?_; simp only [profB, withB, Bool.and_eq_false_iff, decide_eq_false_iff_not]; omega)
  (repeat' (first | (refine ansS (fun hh => ?_) (fun hh => ?_) <;> (first | simp only [ansX] at hh | skip) <;> (first | (exfalso; omega) | (exfalso; simp [*] at hh; done) | (exfalso; revert hh; decide) | exact absurd (by assumption) hh | (conv => whnf))) | ((first | refine ⟨by kernel_rfl, ?_⟩ | refine ansB (by omega) (by omega) ?_ | refine ansB (by decide) (by decide) ?_ | refine And.intro (a := _ ≤ _) (by omega) ?_ | refine And.intro (a := _ ≠ _) (by omega) ?_ | fail); (conv => whnf))))
  refine Or.inr ⟨Nat, [3], [], [], fun k => [i64 k], fun _ => [], fun _ => [], fun k => l.length - k, fun k => k ≤ l.length ∧ ∀ i, i < k → badV (l.getD i 0) = false, ?_⟩
  (conv => whnf)
  refine ⟨⟨0, ?_⟩, ?_⟩
  · (conv => whnf)
    exact ⟨⟨by simp, rfl, rfl, rfl⟩, by kernel_rfl, by kernel_rfl⟩
  · intro k hk
    (conv => whnf)
    refine ⟨fun h => ?_, fun h => ?_⟩
    · have h := of_decide_eq_true h
      (conv => whnf)
      refine ⟨⟨by omega, by omega⟩, ?_⟩
      (conv => whnf)
      (first | (refine Or.inl ?_; (conv => whnf); refine ⟨_, pc_within5 _ _ _, ?_⟩) | refine ⟨_, pc_within5 _ _ _, ?_⟩)
      (conv => whnf)
      refine ⟨fun h2 => ?_, fun h2 => ?_⟩
      · (conv => whnf)
        congr 1
        have hm : badV (l.getD k 0) = true := by simpa [badV] using h2
        have : l.any badV = true := List.any_eq_true.2 ⟨l.getD k 0, by simp [List.getD, show k < l.length by omega], hm⟩
        simp [profB, this]
      · refine ⟨k + 1, ?_⟩
        (conv => whnf)
        refine ⟨⟨⟨?_, ?_, ?_⟩, ?_, rfl, rfl⟩, by kernel_rfl, by kernel_rfl⟩
        · show l.length - (k + 1) < l.length - k; omega
        · omega
        · intro i hi
          by_cases e : i = k
          · subst e; simpa [badV] using h2
          · exact hk.2 i (by omega)
        · rw [w64 _ (by omega) (by omega)]; rfl
    · have h := of_decide_eq_false h
      (conv => whnf)
      congr 1
      have : l.any badV = false := List.any_eq_false.2 fun x hx => by
        obtain ⟨i, hi, rfl⟩ := List.getElem_of_mem hx
        have := hk.2 i (by omega)
        simpa [List.getD, hi] using this
      have h2 : withB l.length 2 64 = true := by simp only [withB, Bool.and_eq_true, decide_eq_true_eq]; omega
      simp [profB, this, h2]
def clip (x : Int) : Int := if 255 < (if 0 > x then 0 else x) then 255 else (if 0 > x then 0 else x)
theorem clip_eq (x : Int) : clip x = if (if x > 0 then x else 0) < 255 then (if x > 0 then x else 0) else 255 := by unfold clip; split <;> split <;> split <;> (try split) <;> omega
def mixL (p : List Int) (f : Nat → Int) (k : Nat) : List Int := (List.range p.length).map fun i => if i < k then f i else p.getD i 0
theorem mixL_length (p : List Int) (f : Nat → Int) (k : Nat) : (mixL p f k).length = p.length := by simp [mixL]
theorem mixL_getD (p : List Int) (f : Nat → Int) (k i : Nat) (h : i < p.length) : (mixL p f k).getD i 0 = if i < k then f i else p.getD i 0 := by simp [mixL, List.getD, h]
theorem mixL_zero (p : List Int) (f : Nat → Int) : mixL p f 0 = p := by
  refine List.ext_getElem (by simp [mixL]) fun i h1 h2 => ?_
  simp [mixL, List.getD, h2]
theorem mixL_succ (p : List Int) (f : Nat → Int) (k : Nat) : (mixL p f k).set k (f k) = mixL p f (k + 1) := by
  refine List.ext_getElem (by simp [mixL]) fun i h1 h2 => ?_
  simp only [mixL, List.getElem_set, List.getElem_map, List.getElem_range]
  by_cases e : k = i
  · subst e; simp
  · simp only [e, if_false]
    by_cases h : i < k
    · simp [h, show i < k + 1 by omega]
    · simp [h, show ¬ i < k + 1 by omega]
theorem mixL_all (p : List Int) (f : Nat → Int) : mixL p f p.length = (List.range p.length).map f := by
  refine List.ext_getElem (by simp [mixL]) fun i h1 h2 => ?_
  simp [mixL] at h1 ⊢
  intro h; omega
theorem any_getD {l : List Int} {q : Int → Bool} (h : l.any q = false) (i : Nat) (hi : i < l.length) : q (l.getD i 0) = false := by
  have := List.any_eq_false.1 h (l.getD i 0) (by simp [List.getD, hi])
  simpa using this
theorem val_bounds {l : List Int} (h : l.any badV = false) (i : Nat) (hi : i < l.length) : 0 ≤ l.getD i 0 ∧ l.getD i 0 ≤ 255 := by
  have := any_getD h i hi
  simp only [badV, withB, Bool.not_eq_false', Bool.and_eq_true, decide_eq_true_eq] at this
  exact this
theorem prof_len {p : List Int} (h : profB p = true) : 2 ≤ p.length ∧ p.length ≤ 64 := by
  simp only [profB, withB, Bool.and_eq_true, decide_eq_true_eq] at h; omega
theorem prof_val {p : List Int} (h : profB p = true) : p.any badV = false := by
  simp only [profB, Bool.and_eq_true] at h
  simpa using h.2
end Go.Proofs.Tryz.My
