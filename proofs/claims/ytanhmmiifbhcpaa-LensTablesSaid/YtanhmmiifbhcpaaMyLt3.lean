/- A helper text: contracts of functions of the program, and plain lemmas. -/
import Derived.Test.YtanhmmiifbhcpaaMyLt2
set_option maxRecDepth 100000
set_option maxHeartbeats 0
set_option linter.unusedVariables false
set_option linter.unusedSimpArgs false
namespace Go.Proofs.Try.My
open Go Go.Ev

def corF (sa st : Int × Int → Int) (l : List (Int × Int)) (x : Int × Int) : (Int × Int) × Int := if knotsB l then mapF sa st l x else ((0, 0), 40)
theorem pc_Correct (l : List (Int × Int)) (x : Int × Int) (hl : l.length < 2 ^ 39) (i1 : I64 x.1) (i2 : I64 x.2) : PC Try.prog 13 [frs l, fr x] (.tup [fr (corF Prod.fst Prod.snd l x).1, i64 (corF Prod.fst Prod.snd l x).2]) := by
  have c := pc_CheckKnots l hl
  cases h : knotsB l
  · rw [h] at c
    refine pc_of_body hm Try.func13 (by kernel_rfl) ?_
    conv => whnf
    (repeat' (first | (refine And.intro (a := _ = true → _) (b := _ = false → _) (fun hh => ?_) (fun hh => ?_) <;> (first | simp only [decide_eq_true_eq, decide_eq_false_iff_not, Bool.or_eq_true, Bool.and_eq_true, Bool.or_eq_false_iff, Bool.and_eq_false_iff, Bool.not_eq_true', Bool.not_eq_false', ge_iff_le, gt_iff_lt] at hh | skip) <;> (first | (exfalso; omega) | (exfalso; simp [*] at hh; done) | exact absurd (by assumption) hh | (conv => whnf))) | (refine ⟨by kernel_rfl, ?_⟩; (conv => whnf)) | (refine And.intro (a := _ ∧ _) ⟨by omega, by omega⟩ ?_; (conv => whnf)) | (refine And.intro (a := _ ≤ _) (by omega) ?_; (conv => whnf)) | (refine And.intro (a := _ ≠ _) (by omega) ?_; (conv => whnf)) | (refine Or.inl ?_; (conv => whnf); first | (refine ⟨_, by first | exact c, ?_⟩; (conv => whnf)) | (refine ⟨false, ?_⟩; (conv => whnf); refine ⟨_, by first | exact c, ?_⟩; (conv => whnf))) | (refine ⟨_, by first | exact c, ?_⟩; (conv => whnf))))
    all_goals simp [corF, h]
  · rw [h] at c
    have cm := pc_mapped l x 41 42 Prod.fst Prod.snd pc_lsizeI pc_toOf (tab_at h) i1 i2
    refine pc_of_body hm Try.func13 (by kernel_rfl) ?_
    conv => whnf
    (repeat' (first | (refine And.intro (a := _ = true → _) (b := _ = false → _) (fun hh => ?_) (fun hh => ?_) <;> (first | simp only [decide_eq_true_eq, decide_eq_false_iff_not, Bool.or_eq_true, Bool.and_eq_true, Bool.or_eq_false_iff, Bool.and_eq_false_iff, Bool.not_eq_true', Bool.not_eq_false', ge_iff_le, gt_iff_lt] at hh | skip) <;> (first | (exfalso; omega) | (exfalso; simp [*] at hh; done) | exact absurd (by assumption) hh | (conv => whnf))) | (refine ⟨by kernel_rfl, ?_⟩; (conv => whnf)) | (refine And.intro (a := _ ∧ _) ⟨by omega, by omega⟩ ?_; (conv => whnf)) | (refine And.intro (a := _ ≤ _) (by omega) ?_; (conv => whnf)) | (refine And.intro (a := _ ≠ _) (by omega) ?_; (conv => whnf)) | (refine Or.inl ?_; (conv => whnf); first | (refine ⟨_, by first | exact c | exact cm, ?_⟩; (conv => whnf)) | (refine ⟨false, ?_⟩; (conv => whnf); refine ⟨_, by first | exact c | exact cm, ?_⟩; (conv => whnf))) | (refine ⟨_, by first | exact c | exact cm, ?_⟩; (conv => whnf))))
    all_goals simp [corF, h]
theorem pc_Distort (l : List (Int × Int)) (x : Int × Int) (hl : l.length < 2 ^ 39) (i1 : I64 x.1) (i2 : I64 x.2) : PC Try.prog 15 [frs l, fr x] (.tup [fr (corF Prod.snd Prod.fst l x).1, i64 (corF Prod.snd Prod.fst l x).2]) := by
  have c := pc_CheckKnots l hl
  cases h : knotsB l
  · rw [h] at c
    refine pc_of_body hm Try.func15 (by kernel_rfl) ?_
    conv => whnf
    (repeat' (first | (refine And.intro (a := _ = true → _) (b := _ = false → _) (fun hh => ?_) (fun hh => ?_) <;> (first | simp only [decide_eq_true_eq, decide_eq_false_iff_not, Bool.or_eq_true, Bool.and_eq_true, Bool.or_eq_false_iff, Bool.and_eq_false_iff, Bool.not_eq_true', Bool.not_eq_false', ge_iff_le, gt_iff_lt] at hh | skip) <;> (first | (exfalso; omega) | (exfalso; simp [*] at hh; done) | exact absurd (by assumption) hh | (conv => whnf))) | (refine ⟨by kernel_rfl, ?_⟩; (conv => whnf)) | (refine And.intro (a := _ ∧ _) ⟨by omega, by omega⟩ ?_; (conv => whnf)) | (refine And.intro (a := _ ≤ _) (by omega) ?_; (conv => whnf)) | (refine And.intro (a := _ ≠ _) (by omega) ?_; (conv => whnf)) | (refine Or.inl ?_; (conv => whnf); first | (refine ⟨_, by first | exact c, ?_⟩; (conv => whnf)) | (refine ⟨false, ?_⟩; (conv => whnf); refine ⟨_, by first | exact c, ?_⟩; (conv => whnf))) | (refine ⟨_, by first | exact c, ?_⟩; (conv => whnf))))
    all_goals simp [corF, h]
  · rw [h] at c
    have cm := pc_mapped l x 42 41 Prod.snd Prod.fst pc_toOf pc_lsizeI (tab_to h) i1 i2
    refine pc_of_body hm Try.func15 (by kernel_rfl) ?_
    conv => whnf
    (repeat' (first | (refine And.intro (a := _ = true → _) (b := _ = false → _) (fun hh => ?_) (fun hh => ?_) <;> (first | simp only [decide_eq_true_eq, decide_eq_false_iff_not, Bool.or_eq_true, Bool.and_eq_true, Bool.or_eq_false_iff, Bool.and_eq_false_iff, Bool.not_eq_true', Bool.not_eq_false', ge_iff_le, gt_iff_lt] at hh | skip) <;> (first | (exfalso; omega) | (exfalso; simp [*] at hh; done) | exact absurd (by assumption) hh | (conv => whnf))) | (refine ⟨by kernel_rfl, ?_⟩; (conv => whnf)) | (refine And.intro (a := _ ∧ _) ⟨by omega, by omega⟩ ?_; (conv => whnf)) | (refine And.intro (a := _ ≤ _) (by omega) ?_; (conv => whnf)) | (refine And.intro (a := _ ≠ _) (by omega) ?_; (conv => whnf)) | (refine Or.inl ?_; (conv => whnf); first | (refine ⟨_, by first | exact c | exact cm, ?_⟩; (conv => whnf)) | (refine ⟨false, ?_⟩; (conv => whnf); refine ⟨_, by first | exact c | exact cm, ?_⟩; (conv => whnf))) | (refine ⟨_, by first | exact c | exact cm, ?_⟩; (conv => whnf))))
    all_goals simp [corF, h]
def corS (l : List (Int × Int)) (s : SpT) : SpT × Int := if knotsB l then if spanB s && decide ((mapF Prod.fst Prod.snd l s.1).2 = 0) && decide ((mapF Prod.fst Prod.snd l s.2).2 = 0) then (((mapF Prod.fst Prod.snd l s.1).1, (mapF Prod.fst Prod.snd l s.2).1), 0) else (((0, 0), (0, 0)), 2) else (((0, 0), (0, 0)), 40)
theorem pc_CorrectSpan (l : List (Int × Int)) (s : SpT) (hl : l.length < 2 ^ 39) (i1 : I64 s.1.1) (i2 : I64 s.1.2) (i3 : I64 s.2.1) (i4 : I64 s.2.2) : PC Try.prog 17 [frs l, sp s] (.tup [sp (corS l s).1, i64 (corS l s).2]) := by
  have c := pc_CheckKnots l hl
  have c2 := pc_CheckSpan s
  cases h : knotsB l
  · rw [h] at c
    refine pc_of_body hm Try.func17 (by kernel_rfl) ?_
    conv => whnf
    (repeat' (first | (refine And.intro (a := _ = true → _) (b := _ = false → _) (fun hh => ?_) (fun hh => ?_) <;> (first | simp only [decide_eq_true_eq, decide_eq_false_iff_not, Bool.or_eq_true, Bool.and_eq_true, Bool.or_eq_false_iff, Bool.and_eq_false_iff, Bool.not_eq_true', Bool.not_eq_false', ge_iff_le, gt_iff_lt] at hh | skip) <;> (first | (exfalso; omega) | (exfalso; simp [*] at hh; done) | exact absurd (by assumption) hh | (conv => whnf))) | (refine ⟨by kernel_rfl, ?_⟩; (conv => whnf)) | (refine And.intro (a := _ ∧ _) ⟨by omega, by omega⟩ ?_; (conv => whnf)) | (refine And.intro (a := _ ≤ _) (by omega) ?_; (conv => whnf)) | (refine And.intro (a := _ ≠ _) (by omega) ?_; (conv => whnf)) | (refine Or.inl ?_; (conv => whnf); first | (refine ⟨_, by first | exact c, ?_⟩; (conv => whnf)) | (refine ⟨false, ?_⟩; (conv => whnf); refine ⟨_, by first | exact c, ?_⟩; (conv => whnf))) | (refine ⟨_, by first | exact c, ?_⟩; (conv => whnf))))
    all_goals simp [corS, h]
  · rw [h] at c
    have cm := pc_mapped l s.1 41 42 Prod.fst Prod.snd pc_lsizeI pc_toOf (tab_at h) i1 i2
    have cn := pc_mapped l s.2 41 42 Prod.fst Prod.snd pc_lsizeI pc_toOf (tab_at h) i3 i4
    have hd : corS l s = if spanB s && decide ((mapF Prod.fst Prod.snd l s.1).2 = 0) && decide ((mapF Prod.fst Prod.snd l s.2).2 = 0) then (((mapF Prod.fst Prod.snd l s.1).1, (mapF Prod.fst Prod.snd l s.2).1), 0) else (((0, 0), (0, 0)), 2) := by simp only [corS, h, if_true]
    rw [hd]
    generalize mapF Prod.fst Prod.snd l s.1 = y at *
    generalize mapF Prod.fst Prod.snd l s.2 = z at *
    cases h2 : spanB s
    · rw [h2] at c2
      refine pc_of_body hm Try.func17 (by kernel_rfl) ?_
      conv => whnf
      (repeat' (first | (refine And.intro (a := _ = true → _) (b := _ = false → _) (fun hh => ?_) (fun hh => ?_) <;> (first | simp only [decide_eq_true_eq, decide_eq_false_iff_not, Bool.or_eq_true, Bool.and_eq_true, Bool.or_eq_false_iff, Bool.and_eq_false_iff, Bool.not_eq_true', Bool.not_eq_false', ge_iff_le, gt_iff_lt] at hh | skip) <;> (first | (exfalso; omega) | (exfalso; simp [*] at hh; done) | exact absurd (by assumption) hh | (conv => whnf))) | (refine ⟨by kernel_rfl, ?_⟩; (conv => whnf)) | (refine And.intro (a := _ ∧ _) ⟨by omega, by omega⟩ ?_; (conv => whnf)) | (refine And.intro (a := _ ≤ _) (by omega) ?_; (conv => whnf)) | (refine And.intro (a := _ ≠ _) (by omega) ?_; (conv => whnf)) | (refine Or.inl ?_; (conv => whnf); first | (refine ⟨_, by first | exact c | exact c2, ?_⟩; (conv => whnf)) | (refine ⟨false, ?_⟩; (conv => whnf); refine ⟨_, by first | exact c | exact c2, ?_⟩; (conv => whnf))) | (refine ⟨_, by first | exact c | exact c2, ?_⟩; (conv => whnf))))
      all_goals simp
    · rw [h2] at c2
      refine pc_of_body hm Try.func17 (by kernel_rfl) ?_
      conv => whnf
      (repeat' (first | (refine And.intro (a := _ = true → _) (b := _ = false → _) (fun hh => ?_) (fun hh => ?_) <;> (first | simp only [decide_eq_true_eq, decide_eq_false_iff_not, Bool.or_eq_true, Bool.and_eq_true, Bool.or_eq_false_iff, Bool.and_eq_false_iff, Bool.not_eq_true', Bool.not_eq_false', ge_iff_le, gt_iff_lt] at hh | skip) <;> (first | (exfalso; omega) | (exfalso; simp [*] at hh; done) | exact absurd (by assumption) hh | (conv => whnf))) | (refine ⟨by kernel_rfl, ?_⟩; (conv => whnf)) | (refine And.intro (a := _ ∧ _) ⟨by omega, by omega⟩ ?_; (conv => whnf)) | (refine And.intro (a := _ ≤ _) (by omega) ?_; (conv => whnf)) | (refine And.intro (a := _ ≠ _) (by omega) ?_; (conv => whnf)) | (refine Or.inl ?_; (conv => whnf); first | (refine ⟨_, by first | exact c | exact c2 | exact cm | exact cn, ?_⟩; (conv => whnf)) | (refine ⟨false, ?_⟩; (conv => whnf); refine ⟨_, by first | exact c | exact c2 | exact cm | exact cn, ?_⟩; (conv => whnf))) | (refine ⟨_, by first | exact c | exact c2 | exact cm | exact cn, ?_⟩; (conv => whnf))))
      all_goals simp_all
end Go.Proofs.Try.My
