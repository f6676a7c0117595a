/- A helper text: contracts of functions of the program, and plain lemmas. -/
import Derived.Test.YtdpnpdjnaimgaaaGreatEvSix
import Derived.Test.YtdpnpdjnaimgaaaGreatMzExB
set_option maxRecDepth 100000
set_option maxHeartbeats 0
set_option linter.unusedVariables false
set_option linter.unusedSimpArgs false
namespace Go.Proofs.Tryz.My
open Go Go.Ev
def bothF (op : Int × Int → Int × Int → (Int × Int) × Int) (a b : Int × Int) : (Int × Int) × Int := if validB a && validB b then op a b else ((0, 0), 8)
theorem pc_both (D : FuncId) (op : Int × Int → Int × Int → (Int × Int) × Int) (hD : ∀ a b, validB a = true → validB b = true → PC Tryz.prog D [fr a, fr b] (.tup [fr (op a b).1, i64 (op a b).2])) (a b : Int × Int) :
    PC Tryz.prog 317 [fr a, fr b, .fn (.func D) [] []] (.tup [fr (bothF op a b).1, i64 (bothF op a b).2]) := by
  have c := pc_valid2 a b
  have h : bothF op a b = if validB a && validB b then op a b else ((0, 0), 8) := rfl
  rw [h]
  cases ha : validB a
  · rw [ha] at c
    refine pc_of_bodyF hm Tryz.func317 (by kernel_rfl) ?_
    conv => whnf
    (repeat' (first | (refine ansS (fun hh => ?_) (fun hh => ?_) <;> (first | simp only [ansX] at hh | skip) <;> (first | (exfalso; omega) | (exfalso; simp [*] at hh; done) | (exfalso; revert hh; decide) | exact absurd (by assumption) hh | (conv => whnf))) | ((first | refine ⟨by kernel_rfl, ?_⟩ | refine ansB (by omega) (by omega) ?_ | refine ansB (by decide) (by decide) ?_ | refine And.intro (a := _ ≤ _) (by omega) ?_ | refine And.intro (a := _ ≠ _) (by omega) ?_ | ((try (refine Or.inl ?_; (conv => whnf))); (try (refine ⟨false, ?_⟩; (conv => whnf))); refine ⟨_, by exact c, ?_⟩) | fail); (conv => whnf))))
    all_goals simp
  cases hb : validB b
  · rw [ha, hb] at c
    refine pc_of_bodyF hm Tryz.func317 (by kernel_rfl) ?_
    conv => whnf
    (repeat' (first | (refine ansS (fun hh => ?_) (fun hh => ?_) <;> (first | simp only [ansX] at hh | skip) <;> (first | (exfalso; omega) | (exfalso; simp [*] at hh; done) | (exfalso; revert hh; decide) | exact absurd (by assumption) hh | (conv => whnf))) | ((first | refine ⟨by kernel_rfl, ?_⟩ | refine ansB (by omega) (by omega) ?_ | refine ansB (by decide) (by decide) ?_ | refine And.intro (a := _ ≤ _) (by omega) ?_ | refine And.intro (a := _ ≠ _) (by omega) ?_ | ((try (refine Or.inl ?_; (conv => whnf))); (try (refine ⟨false, ?_⟩; (conv => whnf))); refine ⟨_, by exact c, ?_⟩) | fail); (conv => whnf))))
    all_goals simp
  rw [ha, hb] at c
  have c2 := hD a b ha hb
  generalize op a b = r at *
  refine pc_of_bodyF hm Tryz.func317 (by kernel_rfl) ?_
  conv => whnf
  (repeat' (first | (refine ansS (fun hh => ?_) (fun hh => ?_) <;> (first | simp only [ansX] at hh | skip) <;> (first | (exfalso; omega) | (exfalso; simp [*] at hh; done) | (exfalso; revert hh; decide) | exact absurd (by assumption) hh | (conv => whnf))) | ((first | refine ⟨by kernel_rfl, ?_⟩ | refine ansB (by omega) (by omega) ?_ | refine ansB (by decide) (by decide) ?_ | refine And.intro (a := _ ≤ _) (by omega) ?_ | refine And.intro (a := _ ≠ _) (by omega) ?_ | ((try (refine Or.inl ?_; (conv => whnf))); (try (refine ⟨false, ?_⟩; (conv => whnf))); refine ⟨_, by first | exact c | exact c2, ?_⟩) | fail); (conv => whnf))))
  all_goals simp
theorem pc_Add (a b : Int × Int) : PC Tryz.prog 288 [fr a, fr b] (.tup [fr (bothF addF a b).1, i64 (bothF addF a b).2]) := by
  have c := pc_both 250 addF pc_sum a b
  generalize bothF addF a b = r at *
  refine pc_of_bodyF hm Tryz.func288 (by kernel_rfl) ?_
  conv => whnf
  (repeat' (first | (refine ansS (fun hh => ?_) (fun hh => ?_) <;> (first | simp only [ansX] at hh | skip) <;> (first | (exfalso; omega) | (exfalso; simp [*] at hh; done) | (exfalso; revert hh; decide) | exact absurd (by assumption) hh | (conv => whnf))) | ((first | refine ⟨by kernel_rfl, ?_⟩ | refine ansB (by omega) (by omega) ?_ | refine ansB (by decide) (by decide) ?_ | refine And.intro (a := _ ≤ _) (by omega) ?_ | refine And.intro (a := _ ≠ _) (by omega) ?_ | ((try (refine Or.inl ?_; (conv => whnf))); (try (refine ⟨false, ?_⟩; (conv => whnf))); refine ⟨_, by exact c, ?_⟩) | fail); (conv => whnf))))
def meetF (a b : SpT) : SpT × Int := if spanB a && spanB b then (if spanB (greF a.1 b.1, lesF a.2 b.2) then ((greF a.1 b.1, lesF a.2 b.2), 0) else (zS, 6)) else (zS, 8)
theorem pc_Meet (a b : SpT) : PC Tryz.prog 149 [sp a, sp b] (.tup [sp (meetF a b).1, i64 (meetF a b).2]) := by
  have c := pc_spans2 a b
  have h : meetF a b = if spanB a && spanB b then (if spanB (greF a.1 b.1, lesF a.2 b.2) then ((greF a.1 b.1, lesF a.2 b.2), 0) else (zS, 6)) else (zS, 8) := rfl
  rw [h]
  cases ha : spanB a
  · rw [ha] at c
    refine pc_of_bodyF hm Tryz.func149 (by kernel_rfl) ?_
    conv => whnf
    (repeat' (first | (refine ansS (fun hh => ?_) (fun hh => ?_) <;> (first | simp only [ansX] at hh | skip) <;> (first | (exfalso; omega) | (exfalso; simp [*] at hh; done) | (exfalso; revert hh; decide) | exact absurd (by assumption) hh | (conv => whnf))) | ((first | refine ⟨by kernel_rfl, ?_⟩ | refine ansB (by omega) (by omega) ?_ | refine ansB (by decide) (by decide) ?_ | refine And.intro (a := _ ≤ _) (by omega) ?_ | refine And.intro (a := _ ≠ _) (by omega) ?_ | ((try (refine Or.inl ?_; (conv => whnf))); (try (refine ⟨false, ?_⟩; (conv => whnf))); refine ⟨_, by exact c, ?_⟩) | fail); (conv => whnf))))
    all_goals simp
  cases hb : spanB b
  · rw [ha, hb] at c
    refine pc_of_bodyF hm Tryz.func149 (by kernel_rfl) ?_
    conv => whnf
    (repeat' (first | (refine ansS (fun hh => ?_) (fun hh => ?_) <;> (first | simp only [ansX] at hh | skip) <;> (first | (exfalso; omega) | (exfalso; simp [*] at hh; done) | (exfalso; revert hh; decide) | exact absurd (by assumption) hh | (conv => whnf))) | ((first | refine ⟨by kernel_rfl, ?_⟩ | refine ansB (by omega) (by omega) ?_ | refine ansB (by decide) (by decide) ?_ | refine And.intro (a := _ ≤ _) (by omega) ?_ | refine And.intro (a := _ ≠ _) (by omega) ?_ | ((try (refine Or.inl ?_; (conv => whnf))); (try (refine ⟨false, ?_⟩; (conv => whnf))); refine ⟨_, by exact c, ?_⟩) | fail); (conv => whnf))))
    all_goals simp
  rw [ha, hb] at c
  obtain ⟨a1, a2, _⟩ := spanB_iff.1 ha
  obtain ⟨b1, b2, _⟩ := spanB_iff.1 hb
  have c2 := pc_greater a.1 b.1 a1 b1
  have c3 := pc_lesser a.2 b.2 a2 b2
  have c4 := pc_spans1 (greF a.1 b.1, lesF a.2 b.2)
  generalize greF a.1 b.1 = x at *
  generalize lesF a.2 b.2 = y at *
  cases hs : spanB (x, y)
  · rw [hs] at c4
    refine pc_of_bodyF hm Tryz.func149 (by kernel_rfl) ?_
    conv => whnf
    (repeat' (first | (refine ansS (fun hh => ?_) (fun hh => ?_) <;> (first | simp only [ansX] at hh | skip) <;> (first | (exfalso; omega) | (exfalso; simp [*] at hh; done) | (exfalso; revert hh; decide) | exact absurd (by assumption) hh | (conv => whnf))) | ((first | refine ⟨by kernel_rfl, ?_⟩ | refine ansB (by omega) (by omega) ?_ | refine ansB (by decide) (by decide) ?_ | refine And.intro (a := _ ≤ _) (by omega) ?_ | refine And.intro (a := _ ≠ _) (by omega) ?_ | ((try (refine Or.inl ?_; (conv => whnf))); (try (refine ⟨false, ?_⟩; (conv => whnf))); refine ⟨_, by first | exact c | exact c2 | exact c3 | exact c4, ?_⟩) | fail); (conv => whnf))))
    all_goals simp
  · rw [hs] at c4
    refine pc_of_bodyF hm Tryz.func149 (by kernel_rfl) ?_
    conv => whnf
    (repeat' (first | (refine ansS (fun hh => ?_) (fun hh => ?_) <;> (first | simp only [ansX] at hh | skip) <;> (first | (exfalso; omega) | (exfalso; simp [*] at hh; done) | (exfalso; revert hh; decide) | exact absurd (by assumption) hh | (conv => whnf))) | ((first | refine ⟨by kernel_rfl, ?_⟩ | refine ansB (by omega) (by omega) ?_ | refine ansB (by decide) (by decide) ?_ | refine And.intro (a := _ ≤ _) (by omega) ?_ | refine And.intro (a := _ ≠ _) (by omega) ?_ | ((try (refine Or.inl ?_; (conv => whnf))); (try (refine ⟨false, ?_⟩; (conv => whnf))); refine ⟨_, by first | exact c | exact c2 | exact c3 | exact c4, ?_⟩) | fail); (conv => whnf))))
    all_goals simp
end Go.Proofs.Tryz.My
set_option maxRecDepth 100000
set_option maxHeartbeats 0
set_option linter.unusedVariables false
set_option linter.unusedSimpArgs false
namespace Go.Proofs.Tryz.My
open Go Go.Ev
def insB (s t : SpT) : Bool := decide ((meetF s t).2 = 0) && decide ((meetF s t).1 = s)
def InR (s : SpT) (u : Rat) : Prop := qv s.1 ≤ u ∧ u ≤ qv s.2
end Go.Proofs.Tryz.My
set_option maxRecDepth 100000
set_option maxHeartbeats 0
set_option linter.unusedVariables false
set_option linter.unusedSimpArgs false
namespace Go.Proofs.Tryz.My
open Go Go.Ev
abbrev sme (x : SpT × Int) : AV := .agg [i64 x.1.1.1, i64 x.1.1.2, i64 x.1.2.1, i64 x.1.2.2, i64 x.2]
def withF (op : SpT → SpT → SpT × Int) (x : SpT × Int) (s : SpT) : SpT × Int := if x.2 = 0 then op x.1 s else x
def bus (s c : SpT) : SpT × Int := subS c s
end Go.Proofs.Tryz.My
set_option maxRecDepth 100000
set_option maxHeartbeats 0
set_option linter.unusedVariables false
set_option linter.unusedSimpArgs false
namespace Go.Proofs.Tryz.My
open Go Go.Ev
theorem mulS_ok {a b : SpT} (h : (mulS a b).2 = 0) : spanB a = true ∧ spanB b = true ∧ spanB (mulS a b).1 = true := by
  unfold mulS at h ⊢
  cases ha : spanB a <;> cases hb : spanB b <;> rw [ha, hb] at h <;> simp at h
  exact ⟨rfl, rfl, (endsF_ok mulF_ok2 _ (allP_valid ha hb) (by simp [allP]) h).1⟩
end Go.Proofs.Tryz.My
