/- A helper text: contracts of functions of the program, and plain lemmas. -/
import Derived.Test.YtdpnpdjnaimgaaaGreatEvSix
import Derived.Test.YtdpnpdjnaimgaaaGreatMzGaB
import Derived.Test.YtdpnpdjnaimgaaaGreatMzRfB
set_option maxRecDepth 100000
set_option maxHeartbeats 0
set_option linter.unusedVariables false
set_option linter.unusedSimpArgs false
namespace Go.Proofs.Tryz.My
open Go Go.Ev
def edgF (p : List Int) (thr a noise d : Int) : SpT × Int := if profB p then (if askE p thr a noise then edgeF p thr a noise d else (zS, 2)) else (zS, 50)
def widE (p : List Int) (thr noise : Int) : SpT × Int := if profB p then (if askE p thr 0 noise then widF p thr noise else (zS, 2)) else (zS, 50)
theorem pc_edge (p : List Int) (thr a noise d : Int) (hd : ways1 d) (hl : p.length < 2 ^ 40) : PC Tryz.prog 195 [ints p, i64 thr, i64 a, i64 noise, i64 d] (.tup [sp (edgF p thr a noise d).1, i64 (edgF p thr a noise d).2]) := by
  have ca := pc_gasked p thr a noise hl
  unfold edgF
  cases hp : profB p
  · rw [hp] at ca
    refine pc_of_bodyF hm Tryz.func195 (by kernel_rfl) ?_
    conv => whnf
    (repeat' (first | (refine ansS (fun hh => ?_) (fun hh => ?_) <;> (first | simp only [ansX] at hh | skip) <;> (first | (exfalso; omega) | (exfalso; simp [*] at hh; done) | (exfalso; revert hh; decide) | exact absurd (by assumption) hh | (conv => whnf))) | ((first | refine ⟨by kernel_rfl, ?_⟩ | refine ansB (by omega) (by omega) ?_ | refine ansB (by decide) (by decide) ?_ | refine And.intro (a := _ ≤ _) (by omega) ?_ | refine And.intro (a := _ ≠ _) (by omega) ?_ | ((try (refine Or.inl ?_; (conv => whnf))); (try (refine ⟨false, ?_⟩; (conv => whnf))); refine ⟨_, by exact ca, ?_⟩) | fail); (conv => whnf))))
    all_goals simp
  cases hq : askE p thr a noise
  · rw [hp, hq] at ca
    refine pc_of_bodyF hm Tryz.func195 (by kernel_rfl) ?_
    conv => whnf
    (repeat' (first | (refine ansS (fun hh => ?_) (fun hh => ?_) <;> (first | simp only [ansX] at hh | skip) <;> (first | (exfalso; omega) | (exfalso; simp [*] at hh; done) | (exfalso; revert hh; decide) | exact absurd (by assumption) hh | (conv => whnf))) | ((first | refine ⟨by kernel_rfl, ?_⟩ | refine ansB (by omega) (by omega) ?_ | refine ansB (by decide) (by decide) ?_ | refine And.intro (a := _ ≤ _) (by omega) ?_ | refine And.intro (a := _ ≠ _) (by omega) ?_ | ((try (refine Or.inl ?_; (conv => whnf))); (try (refine ⟨false, ?_⟩; (conv => whnf))); refine ⟨_, by exact ca, ?_⟩) | fail); (conv => whnf))))
    all_goals simp
  rw [hp, hq] at ca
  obtain ⟨t1, t2, a1, a2, n1, n2⟩ := ask_known hq
  have hlen := prof_len hp
  have h0 : p ≠ [] := by rintro rfl; simp at hlen
  have w1 := pw_moved1 p (-noise) h0 (by omega) (prof_byte hp) (by omega) (by omega)
  have w2 := pw_moved1 p noise h0 (by omega) (prof_byte hp) (by omega) (by omega)
  have b1 := pc_gbright (movL p (-noise)) thr a d (movL_byte _ _) (by rw [movL_length]; omega) a1 (by rw [movL_length]; omega) hd t1 t2
  have b2 := pc_gbright (movL p noise) thr a d (movL_byte _ _) (by rw [movL_length]; omega) a1 (by rw [movL_length]; omega) hd t1 t2
  have he : edgeF p thr a noise d = edgeG (brF (movL p (-noise)) thr a d) (brF (movL p noise) thr a d) d := rfl
  rw [he]
  generalize brF (movL p (-noise)) thr a d = L at *
  generalize brF (movL p noise) thr a d = U at *
  generalize movL p (-noise) = q1 at *
  generalize movL p noise = q2 at *
  have wn : IntKind.i64.wrap (0 - noise) = -noise := by rw [w64 _ (by omega) (by omega)]; omega
  obtain ⟨L, l⟩ := L
  obtain ⟨U, u⟩ := U
  simp only [] at *
  cases l
  · refine pc_of_bodyF hm Tryz.func195 (by kernel_rfl) ?_
    conv => whnf
    (repeat' (first | (refine ansS (fun hh => ?_) (fun hh => ?_) <;> (first | simp only [ansX] at hh | skip) <;> (first | (exfalso; omega) | (exfalso; simp [*] at hh; done) | (exfalso; revert hh; decide) | exact absurd (by assumption) hh | (conv => whnf))) | ((first | refine ⟨by kernel_rfl, ?_⟩ | refine ansB (by omega) (by omega) ?_ | refine ansB (by decide) (by decide) ?_ | refine And.intro (a := _ ≤ _) (by omega) ?_ | refine And.intro (a := _ ≠ _) (by omega) ?_ | ((try (refine Or.inl ?_; (conv => whnf))); (try (refine ⟨false, ?_⟩; (conv => whnf))); refine ⟨_, by exact ca, ?_⟩) | fail); (conv => whnf))))
    rw [wn]
    (first | (refine Or.inl ?_; (conv => whnf); refine ⟨_, pc_moved _, ?_⟩) | refine ⟨_, pc_moved _, ?_⟩)
    (conv => whnf)
    (refine Or.inr ⟨[ ], [ 31 ], by kernel_rfl, ?_⟩; (conv => whnf); refine ⟨[ ], _, _, _, _, ⟨ w1, rfl, rfl, by kernel_rfl⟩, ?_⟩)
    (conv => whnf)
    (first | (refine Or.inl ?_; (conv => whnf); refine ⟨true, ?_⟩) | refine ⟨true, ?_⟩)
    (conv => whnf)
    refine ⟨_, b1, ?_⟩
    (conv => whnf)
    (repeat' (first | (refine ansS (fun hh => ?_) (fun hh => ?_) <;> (first | simp only [ansX] at hh | skip) <;> (first | (exfalso; omega) | (exfalso; simp [*] at hh; done) | (exfalso; revert hh; decide) | exact absurd (by assumption) hh | (conv => whnf))) | ((first | refine ⟨by kernel_rfl, ?_⟩ | refine ansB (by omega) (by omega) ?_ | refine ansB (by decide) (by decide) ?_ | refine And.intro (a := _ ≤ _) (by omega) ?_ | refine And.intro (a := _ ≠ _) (by omega) ?_ | fail); (conv => whnf))))
    all_goals simp [edgeG]
  · refine pc_of_bodyF hm Tryz.func195 (by kernel_rfl) ?_
    conv => whnf
    (repeat' (first | (refine ansS (fun hh => ?_) (fun hh => ?_) <;> (first | simp only [ansX] at hh | skip) <;> (first | (exfalso; omega) | (exfalso; simp [*] at hh; done) | (exfalso; revert hh; decide) | exact absurd (by assumption) hh | (conv => whnf))) | ((first | refine ⟨by kernel_rfl, ?_⟩ | refine ansB (by omega) (by omega) ?_ | refine ansB (by decide) (by decide) ?_ | refine And.intro (a := _ ≤ _) (by omega) ?_ | refine And.intro (a := _ ≠ _) (by omega) ?_ | ((try (refine Or.inl ?_; (conv => whnf))); (try (refine ⟨false, ?_⟩; (conv => whnf))); refine ⟨_, by exact ca, ?_⟩) | fail); (conv => whnf))))
    rw [wn]
    (first | (refine Or.inl ?_; (conv => whnf); refine ⟨_, pc_moved _, ?_⟩) | refine ⟨_, pc_moved _, ?_⟩)
    (conv => whnf)
    (refine Or.inr ⟨[ ], [ 31 ], by kernel_rfl, ?_⟩; (conv => whnf); refine ⟨[ ], _, _, _, _, ⟨ w1, rfl, rfl, by kernel_rfl⟩, ?_⟩)
    (conv => whnf)
    (first | (refine Or.inl ?_; (conv => whnf); refine ⟨true, ?_⟩) | refine ⟨true, ?_⟩)
    (conv => whnf)
    refine ⟨_, b1, ?_⟩
    (conv => whnf)
    (repeat' (first | (refine ansS (fun hh => ?_) (fun hh => ?_) <;> (first | simp only [ansX] at hh | skip) <;> (first | (exfalso; omega) | (exfalso; simp [*] at hh; done) | (exfalso; revert hh; decide) | exact absurd (by assumption) hh | (conv => whnf))) | ((first | refine ⟨by kernel_rfl, ?_⟩ | refine ansB (by omega) (by omega) ?_ | refine ansB (by decide) (by decide) ?_ | refine And.intro (a := _ ≤ _) (by omega) ?_ | refine And.intro (a := _ ≠ _) (by omega) ?_ | ((try (refine Or.inl ?_; (conv => whnf))); (try (refine ⟨false, ?_⟩; (conv => whnf))); refine ⟨_, by exact pc_moved _, ?_⟩) | fail); (conv => whnf))))
    (refine Or.inr ⟨[ ], [ 45 ], by kernel_rfl, ?_⟩; (conv => whnf); refine ⟨[ ], _, _, _, _, ⟨ w2, rfl, rfl, by kernel_rfl⟩, ?_⟩)
    (conv => whnf)
    (first | (refine Or.inl ?_; (conv => whnf); refine ⟨true, ?_⟩) | refine ⟨true, ?_⟩)
    (conv => whnf)
    refine ⟨_, b2, ?_⟩
    (conv => whnf)
    (repeat' (first | (refine ansS (fun hh => ?_) (fun hh => ?_) <;> (first | simp only [ansX] at hh | skip) <;> (first | (exfalso; omega) | (exfalso; simp [*] at hh; done) | (exfalso; revert hh; decide) | exact absurd (by assumption) hh | (conv => whnf))) | ((first | refine ⟨by kernel_rfl, ?_⟩ | refine ansB (by omega) (by omega) ?_ | refine ansB (by decide) (by decide) ?_ | refine And.intro (a := _ ≤ _) (by omega) ?_ | refine And.intro (a := _ ≠ _) (by omega) ?_ | fail); (conv => whnf))))
    all_goals simp [edgeG, hh]
theorem pc_gRise (p : List Int) (thr a noise : Int) (hl : p.length < 2 ^ 40) : PC Tryz.prog 142 [ints p, i64 thr, i64 a, i64 noise] (.tup [sp (edgF p thr a noise 1).1, i64 (edgF p thr a noise 1).2]) := by
  have c := pc_edge p thr a noise 1 (.inl rfl) hl
  generalize edgF p thr a noise 1 = r at *
  refine pc_of_bodyF hm Tryz.func142 (by kernel_rfl) ?_
  conv => whnf
  (repeat' (first | (refine ansS (fun hh => ?_) (fun hh => ?_) <;> (first | simp only [ansX] at hh | skip) <;> (first | (exfalso; omega) | (exfalso; simp [*] at hh; done) | (exfalso; revert hh; decide) | exact absurd (by assumption) hh | (conv => whnf))) | ((first | refine ⟨by kernel_rfl, ?_⟩ | refine ansB (by omega) (by omega) ?_ | refine ansB (by decide) (by decide) ?_ | refine And.intro (a := _ ≤ _) (by omega) ?_ | refine And.intro (a := _ ≠ _) (by omega) ?_ | ((try (refine Or.inl ?_; (conv => whnf))); (try (refine ⟨false, ?_⟩; (conv => whnf))); refine ⟨_, by exact c, ?_⟩) | fail); (conv => whnf))))
theorem pc_gFall (p : List Int) (thr a noise : Int) (hl : p.length < 2 ^ 40) : PC Tryz.prog 143 [ints p, i64 thr, i64 a, i64 noise] (.tup [sp (edgF p thr a noise (-1)).1, i64 (edgF p thr a noise (-1)).2]) := by
  have c := pc_edge p thr a noise (-1) (.inr rfl) hl
  generalize edgF p thr a noise (-1) = r at *
  refine pc_of_bodyF hm Tryz.func143 (by kernel_rfl) ?_
  conv => whnf
  (repeat' (first | (refine ansS (fun hh => ?_) (fun hh => ?_) <;> (first | simp only [ansX] at hh | skip) <;> (first | (exfalso; omega) | (exfalso; simp [*] at hh; done) | (exfalso; revert hh; decide) | exact absurd (by assumption) hh | (conv => whnf))) | ((first | refine ⟨by kernel_rfl, ?_⟩ | refine ansB (by omega) (by omega) ?_ | refine ansB (by decide) (by decide) ?_ | refine And.intro (a := _ ≤ _) (by omega) ?_ | refine And.intro (a := _ ≠ _) (by omega) ?_ | ((try (refine Or.inl ?_; (conv => whnf))); (try (refine ⟨false, ?_⟩; (conv => whnf))); refine ⟨_, by exact c, ?_⟩) | fail); (conv => whnf))))
theorem wid_cases (p : List Int) (thr noise : Int) :
    ((edgF p thr 0 noise 1).2 ≠ 0 ∧ widE p thr noise = (zS, (edgF p thr 0 noise 1).2)) ∨
    ((edgF p thr 0 noise 1).2 = 0 ∧ (edgF p thr ((p.length : Int) - 1) noise (-1)).2 = 0 ∧ subS (edgF p thr ((p.length : Int) - 1) noise (-1)).1 (edgF p thr 0 noise 1).1 = widE p thr noise) := by
  unfold edgF widE
  cases hp : profB p
  · left; simp
  cases hq : askE p thr 0 noise
  · left; simp
  obtain ⟨t1, t2, a1, a2, n1, n2⟩ := ask_known hq
  have hlen := prof_len hp
  have hq2 : askE p thr ((p.length : Int) - 1) noise = true := by
    simp only [askE, Bool.and_eq_true, decide_eq_true_eq]; omega
  rw [hq2]
  simp only [if_true]
  rcases wid_law (p := p) (by omega) hlen.2 t1 t2 n1 with ⟨h1, h2⟩ | ⟨h1, h2, _, _, h3, _⟩
  · left; rw [h1, h2]; simp
  · right; exact ⟨h1, h2, h3⟩
theorem pc_gWidth (p : List Int) (thr noise : Int) (hl : p.length < 2 ^ 40) : PC Tryz.prog 90 [ints p, i64 thr, i64 noise] (.tup [sp (widE p thr noise).1, i64 (widE p thr noise).2]) := by
  have c1 := pc_gRise p thr 0 noise hl
  have c2 := pc_gFall p thr ((p.length : Int) - 1) noise hl
  have c3 := pc_SubSpans (edgF p thr ((p.length : Int) - 1) noise (-1)).1 (edgF p thr 0 noise 1).1
  have wl : IntKind.i64.wrap ((p.length : Int) - 1) = (p.length : Int) - 1 := w64 _ (by omega) (by omega)
  rcases wid_cases p thr noise with ⟨h1, h2⟩ | ⟨h1, h2, h3⟩
  · rw [h2]
    generalize edgF p thr 0 noise 1 = r at *
    refine pc_of_bodyF hm Tryz.func90 (by kernel_rfl) ?_
    conv => whnf
    (repeat' (first | (refine ansS (fun hh => ?_) (fun hh => ?_) <;> (first | simp only [ansX] at hh | skip) <;> (first | (exfalso; omega) | (exfalso; simp [*] at hh; done) | (exfalso; revert hh; decide) | exact absurd (by assumption) hh | (conv => whnf))) | ((first | refine ⟨by kernel_rfl, ?_⟩ | refine ansB (by omega) (by omega) ?_ | refine ansB (by decide) (by decide) ?_ | refine And.intro (a := _ ≤ _) (by omega) ?_ | refine And.intro (a := _ ≠ _) (by omega) ?_ | ((try (refine Or.inl ?_; (conv => whnf))); (try (refine ⟨false, ?_⟩; (conv => whnf))); refine ⟨_, by exact c1, ?_⟩) | fail); (conv => whnf))))
    all_goals simp [h1]
  · rw [h3] at c3
    generalize widE p thr noise = w at *
    generalize edgF p thr 0 noise 1 = r at *
    generalize edgF p thr ((p.length : Int) - 1) noise (-1) = s at *
    obtain ⟨r, re⟩ := r
    obtain ⟨s, se⟩ := s
    simp only [] at *
    subst h1
    subst h2
    refine pc_of_bodyF hm Tryz.func90 (by kernel_rfl) ?_
    conv => whnf
    (repeat' (first | (refine ansS (fun hh => ?_) (fun hh => ?_) <;> (first | simp only [ansX] at hh | skip) <;> (first | (exfalso; omega) | (exfalso; simp [*] at hh; done) | (exfalso; revert hh; decide) | exact absurd (by assumption) hh | (conv => whnf))) | ((first | refine ⟨by kernel_rfl, ?_⟩ | refine ansB (by omega) (by omega) ?_ | refine ansB (by decide) (by decide) ?_ | refine And.intro (a := _ ≤ _) (by omega) ?_ | refine And.intro (a := _ ≠ _) (by omega) ?_ | ((try (refine Or.inl ?_; (conv => whnf))); (try (refine ⟨false, ?_⟩; (conv => whnf))); refine ⟨_, by exact c1, ?_⟩) | fail); (conv => whnf))))
    rw [wl]
    (repeat' (first | (refine ansS (fun hh => ?_) (fun hh => ?_) <;> (first | simp only [ansX] at hh | skip) <;> (first | (exfalso; omega) | (exfalso; simp [*] at hh; done) | (exfalso; revert hh; decide) | exact absurd (by assumption) hh | (conv => whnf))) | ((first | refine ⟨by kernel_rfl, ?_⟩ | refine ansB (by omega) (by omega) ?_ | refine ansB (by decide) (by decide) ?_ | refine And.intro (a := _ ≤ _) (by omega) ?_ | refine And.intro (a := _ ≠ _) (by omega) ?_ | ((try (refine Or.inl ?_; (conv => whnf))); (try (refine ⟨false, ?_⟩; (conv => whnf))); refine ⟨_, by first | exact c2 | exact c3, ?_⟩) | fail); (conv => whnf))))
end Go.Proofs.Tryz.My
set_option maxRecDepth 100000
set_option maxHeartbeats 0
set_option linter.unusedVariables false
set_option linter.unusedSimpArgs false
namespace Go.Proofs.Tryz.My
open Go Go.Ev
theorem pc_Wide (q : List Int) (thr : Int) (hq : byteL q) (hl0 : 0 < q.length) (hl : q.length ≤ 64) (t1 : 1 ≤ thr) (t2 : thr ≤ 255) : PC Tryz.prog 212 [ints q, i64 thr] (.tup [fr (wideF q thr).1, .bool (wideF q thr).2]) := by
  have b1 := pc_FirstOf q thr 0 hq hl (by omega) (by omega) t1 t2
  have b2 := pc_LastOf q thr ((q.length : Int) - 1) hq hl (by omega) (by omega) t1 t2
  have wl : IntKind.i64.wrap ((q.length : Int) - 1) = (q.length : Int) - 1 := w64 _ (by omega) (by omega)
  cases h1 : brk q thr 0 1 with
  | none =>
    have e : wideF q thr = ((0, 0), false) := by unfold wideF; rw [brF_none h1]; rfl
    rw [e]
    rw [brF_none h1] at b1
    refine pc_of_bodyF hm Tryz.func212 (by kernel_rfl) ?_
    conv => whnf
    (repeat' (first | (refine ansS (fun hh => ?_) (fun hh => ?_) <;> (first | simp only [ansX] at hh | skip) <;> (first | (exfalso; omega) | (exfalso; simp [*] at hh; done) | (exfalso; revert hh; decide) | exact absurd (by assumption) hh | (conv => whnf))) | ((first | refine ⟨by kernel_rfl, ?_⟩ | refine ansB (by omega) (by omega) ?_ | refine ansB (by decide) (by decide) ?_ | refine And.intro (a := _ ≤ _) (by omega) ?_ | refine And.intro (a := _ ≠ _) (by omega) ?_ | ((try (refine Or.inl ?_; (conv => whnf))); (try (refine ⟨false, ?_⟩; (conv => whnf))); refine ⟨_, by exact b1, ?_⟩) | fail); (conv => whnf))))
  | some k =>
    cases h2 : brk q thr ((q.length : Int) - 1) (-1) with
    | none => exact absurd ((brk_both hl0).2 h2) (by rw [h1]; simp)
    | some j =>
      have v1 := (placeF_ok hq hl (by omega) (by omega) (.inl rfl) t1 t2 h1).1
      have v2 := (placeF_ok hq hl (by omega) (by omega) (.inr rfl) t1 t2 h2).1
      have e : wideF q thr = ((subF (placeF q thr ((q.length : Int) - 1) (-1) j) (placeF q thr 0 1 k)).1, true) := by unfold wideF; rw [brF_some h1, brF_some h2]; rfl
      rw [e]
      rw [brF_some h1] at b1
      rw [brF_some h2] at b2
      generalize placeF q thr 0 1 k = x at *
      generalize placeF q thr ((q.length : Int) - 1) (-1) j = y at *
      have c1 := pc_rNeg x v1
      have c2 := pc_rPlus y (negF x) v2 (negF_ok v1).1
      have es : addF y (negF x) = subF y x := rfl
      rw [es] at c2
      generalize subF y x = r at *
      generalize negF x = n at *
      refine pc_of_bodyF hm Tryz.func212 (by kernel_rfl) ?_
      conv => whnf
      (repeat' (first | (refine ansS (fun hh => ?_) (fun hh => ?_) <;> (first | simp only [ansX] at hh | skip) <;> (first | (exfalso; omega) | (exfalso; simp [*] at hh; done) | (exfalso; revert hh; decide) | exact absurd (by assumption) hh | (conv => whnf))) | ((first | refine ⟨by kernel_rfl, ?_⟩ | refine ansB (by omega) (by omega) ?_ | refine ansB (by decide) (by decide) ?_ | refine And.intro (a := _ ≤ _) (by omega) ?_ | refine And.intro (a := _ ≠ _) (by omega) ?_ | ((try (refine Or.inl ?_; (conv => whnf))); (try (refine ⟨false, ?_⟩; (conv => whnf))); refine ⟨_, by exact b1, ?_⟩) | fail); (conv => whnf))))
      rw [wl]
      (repeat' (first | (refine ansS (fun hh => ?_) (fun hh => ?_) <;> (first | simp only [ansX] at hh | skip) <;> (first | (exfalso; omega) | (exfalso; simp [*] at hh; done) | (exfalso; revert hh; decide) | exact absurd (by assumption) hh | (conv => whnf))) | ((first | refine ⟨by kernel_rfl, ?_⟩ | refine ansB (by omega) (by omega) ?_ | refine ansB (by decide) (by decide) ?_ | refine And.intro (a := _ ≤ _) (by omega) ?_ | refine And.intro (a := _ ≠ _) (by omega) ?_ | ((try (refine Or.inl ?_; (conv => whnf))); (try (refine ⟨false, ?_⟩; (conv => whnf))); refine ⟨_, by first | exact b2 | exact c1 | exact c2, ?_⟩) | fail); (conv => whnf))))
theorem pc_r5Width (p : List Int) (thr noise : Int) (hl : p.length < 2 ^ 40) : PC Tryz.prog 211 [ints p, i64 thr, i64 noise] (.tup [sp (widE p thr noise).1, i64 (widE p thr noise).2]) := by
  have ca := pc_r5asked p thr 0 noise hl
  unfold widE
  cases hp : profB p
  · rw [hp] at ca
    refine pc_of_bodyF hm Tryz.func211 (by kernel_rfl) ?_
    conv => whnf
    (repeat' (first | (refine ansS (fun hh => ?_) (fun hh => ?_) <;> (first | simp only [ansX] at hh | skip) <;> (first | (exfalso; omega) | (exfalso; simp [*] at hh; done) | (exfalso; revert hh; decide) | exact absurd (by assumption) hh | (conv => whnf))) | ((first | refine ⟨by kernel_rfl, ?_⟩ | refine ansB (by omega) (by omega) ?_ | refine ansB (by decide) (by decide) ?_ | refine And.intro (a := _ ≤ _) (by omega) ?_ | refine And.intro (a := _ ≠ _) (by omega) ?_ | ((try (refine Or.inl ?_; (conv => whnf))); (try (refine ⟨false, ?_⟩; (conv => whnf))); refine ⟨_, by exact ca, ?_⟩) | fail); (conv => whnf))))
    all_goals simp
  cases hq : askE p thr 0 noise
  · rw [hp, hq] at ca
    refine pc_of_bodyF hm Tryz.func211 (by kernel_rfl) ?_
    conv => whnf
    (repeat' (first | (refine ansS (fun hh => ?_) (fun hh => ?_) <;> (first | simp only [ansX] at hh | skip) <;> (first | (exfalso; omega) | (exfalso; simp [*] at hh; done) | (exfalso; revert hh; decide) | exact absurd (by assumption) hh | (conv => whnf))) | ((first | refine ⟨by kernel_rfl, ?_⟩ | refine ansB (by omega) (by omega) ?_ | refine ansB (by decide) (by decide) ?_ | refine And.intro (a := _ ≤ _) (by omega) ?_ | refine And.intro (a := _ ≠ _) (by omega) ?_ | ((try (refine Or.inl ?_; (conv => whnf))); (try (refine ⟨false, ?_⟩; (conv => whnf))); refine ⟨_, by exact ca, ?_⟩) | fail); (conv => whnf))))
    all_goals simp
  rw [hp, hq] at ca
  obtain ⟨t1, t2, a1, a2, n1, n2⟩ := ask_known hq
  have hlen := prof_len hp
  have w1 := pc_Moved p (-noise) (by omega) (prof_byte hp) (by omega) (by omega)
  have w2 := pc_Moved p noise (by omega) (prof_byte hp) (by omega) (by omega)
  have b1 := pc_Wide (movL p (-noise)) thr (movL_byte _ _) (by rw [movL_length]; omega) (by rw [movL_length]; omega) t1 t2
  have b2 := pc_Wide (movL p noise) thr (movL_byte _ _) (by rw [movL_length]; omega) (by rw [movL_length]; omega) t1 t2
  have he : widF p thr noise = widG (wideF (movL p (-noise)) thr) (wideF (movL p noise) thr) := rfl
  rw [he]
  generalize wideF (movL p (-noise)) thr = L at *
  generalize wideF (movL p noise) thr = U at *
  generalize movL p (-noise) = q1 at *
  generalize movL p noise = q2 at *
  have wn : IntKind.i64.wrap (0 - noise) = -noise := by rw [w64 _ (by omega) (by omega)]; omega
  obtain ⟨L, l⟩ := L
  obtain ⟨U, u⟩ := U
  simp only [] at *
  cases l
  · refine pc_of_bodyF hm Tryz.func211 (by kernel_rfl) ?_
    conv => whnf
    (repeat' (first | (refine ansS (fun hh => ?_) (fun hh => ?_) <;> (first | simp only [ansX] at hh | skip) <;> (first | (exfalso; omega) | (exfalso; simp [*] at hh; done) | (exfalso; revert hh; decide) | exact absurd (by assumption) hh | (conv => whnf))) | ((first | refine ⟨by kernel_rfl, ?_⟩ | refine ansB (by omega) (by omega) ?_ | refine ansB (by decide) (by decide) ?_ | refine And.intro (a := _ ≤ _) (by omega) ?_ | refine And.intro (a := _ ≠ _) (by omega) ?_ | ((try (refine Or.inl ?_; (conv => whnf))); (try (refine ⟨false, ?_⟩; (conv => whnf))); refine ⟨_, by exact ca, ?_⟩) | fail); (conv => whnf))))
    rw [wn]
    (repeat' (first | (refine ansS (fun hh => ?_) (fun hh => ?_) <;> (first | simp only [ansX] at hh | skip) <;> (first | (exfalso; omega) | (exfalso; simp [*] at hh; done) | (exfalso; revert hh; decide) | exact absurd (by assumption) hh | (conv => whnf))) | ((first | refine ⟨by kernel_rfl, ?_⟩ | refine ansB (by omega) (by omega) ?_ | refine ansB (by decide) (by decide) ?_ | refine And.intro (a := _ ≤ _) (by omega) ?_ | refine And.intro (a := _ ≠ _) (by omega) ?_ | ((try (refine Or.inl ?_; (conv => whnf))); (try (refine ⟨false, ?_⟩; (conv => whnf))); refine ⟨_, by first | exact w1 | exact b1, ?_⟩) | fail); (conv => whnf))))
    all_goals simp [widG]
  · refine pc_of_bodyF hm Tryz.func211 (by kernel_rfl) ?_
    conv => whnf
    (repeat' (first | (refine ansS (fun hh => ?_) (fun hh => ?_) <;> (first | simp only [ansX] at hh | skip) <;> (first | (exfalso; omega) | (exfalso; simp [*] at hh; done) | (exfalso; revert hh; decide) | exact absurd (by assumption) hh | (conv => whnf))) | ((first | refine ⟨by kernel_rfl, ?_⟩ | refine ansB (by omega) (by omega) ?_ | refine ansB (by decide) (by decide) ?_ | refine And.intro (a := _ ≤ _) (by omega) ?_ | refine And.intro (a := _ ≠ _) (by omega) ?_ | ((try (refine Or.inl ?_; (conv => whnf))); (try (refine ⟨false, ?_⟩; (conv => whnf))); refine ⟨_, by exact ca, ?_⟩) | fail); (conv => whnf))))
    rw [wn]
    (repeat' (first | (refine ansS (fun hh => ?_) (fun hh => ?_) <;> (first | simp only [ansX] at hh | skip) <;> (first | (exfalso; omega) | (exfalso; simp [*] at hh; done) | (exfalso; revert hh; decide) | exact absurd (by assumption) hh | (conv => whnf))) | ((first | refine ⟨by kernel_rfl, ?_⟩ | refine ansB (by omega) (by omega) ?_ | refine ansB (by decide) (by decide) ?_ | refine And.intro (a := _ ≤ _) (by omega) ?_ | refine And.intro (a := _ ≠ _) (by omega) ?_ | ((try (refine Or.inl ?_; (conv => whnf))); (try (refine ⟨false, ?_⟩; (conv => whnf))); refine ⟨_, by first | exact w1 | exact b1 | exact w2 | exact b2, ?_⟩) | fail); (conv => whnf))))
    all_goals simp [widG]
end Go.Proofs.Tryz.My
