/- A helper text: contracts of functions of the program, and plain lemmas. -/
import Derived.Test.YtdpnpdjnaimgaaaGreatEvSix
import Derived.Test.YtdpnpdjnaimgaaaGreatMzGeA
import Derived.Test.YtdpnpdjnaimgaaaGreatMzEaA
import Derived.Test.YtdpnpdjnaimgaaaGreatMzRfA
import Derived.Test.YtdpnpdjnaimgaaaGreatMzGn0
set_option maxRecDepth 100000
set_option maxHeartbeats 0
set_option linter.unusedVariables false
set_option linter.unusedSimpArgs false
namespace Go.Proofs.Tryz.My
open Go Go.Ev
abbrev u8 (n : Int) : AV := .int .u8 n
def verV (s t : SpT) : Int := if (meetF s t).2 = 0 then (if (meetF s t).1 = s then 1 else 3) else 2
def decF (s t : SpT) : Int × Int := if spanB s && spanB t then (verV s t, 0) else (0, 2)
theorem pc_Decide (s : SpT) (lo hi : Int × Int) : PC Tryz.prog 94 [sp s, fr lo, fr hi] (.tup [u8 (decF s (lo, hi)).1, i64 (decF s (lo, hi)).2]) := by
  have c1 := pc_CheckSpan s
  have c2 := pc_CheckSpan (lo, hi)
  have c3 := pc_Meet s (lo, hi)
  unfold decF verV
  generalize meetF s (lo, hi) = m at *
  cases h1 : spanB s
  · rw [h1] at c1
    refine pc_of_bodyF hm Tryz.func94 (by kernel_rfl) ?_
    conv => whnf
    (repeat' (first | (refine ansS (fun hh => ?_) (fun hh => ?_) <;> (first | simp only [ansX] at hh | skip) <;> (first | (exfalso; omega) | (exfalso; simp [*] at hh; done) | (exfalso; revert hh; decide) | exact absurd (by assumption) hh | (conv => whnf))) | ((first | refine ⟨by kernel_rfl, ?_⟩ | refine ansB (by omega) (by omega) ?_ | refine ansB (by decide) (by decide) ?_ | refine And.intro (a := _ ≤ _) (by omega) ?_ | refine And.intro (a := _ ≠ _) (by omega) ?_ | ((try (refine Or.inl ?_; (conv => whnf))); (try (refine ⟨false, ?_⟩; (conv => whnf))); refine ⟨_, by first | exact c1 | exact c2, ?_⟩) | fail); (conv => whnf))))
    all_goals simp
  cases h2 : spanB (lo, hi)
  · rw [h1] at c1
    rw [h2] at c2
    refine pc_of_bodyF hm Tryz.func94 (by kernel_rfl) ?_
    conv => whnf
    (repeat' (first | (refine ansS (fun hh => ?_) (fun hh => ?_) <;> (first | simp only [ansX] at hh | skip) <;> (first | (exfalso; omega) | (exfalso; simp [*] at hh; done) | (exfalso; revert hh; decide) | exact absurd (by assumption) hh | (conv => whnf))) | ((first | refine ⟨by kernel_rfl, ?_⟩ | refine ansB (by omega) (by omega) ?_ | refine ansB (by decide) (by decide) ?_ | refine And.intro (a := _ ≤ _) (by omega) ?_ | refine And.intro (a := _ ≠ _) (by omega) ?_ | ((try (refine Or.inl ?_; (conv => whnf))); (try (refine ⟨false, ?_⟩; (conv => whnf))); refine ⟨_, by first | exact c1 | exact c2, ?_⟩) | fail); (conv => whnf))))
    all_goals simp
  rw [h1] at c1
  rw [h2] at c2
  obtain ⟨⟨⟨m1, m2⟩, ⟨m3, m4⟩⟩, me⟩ := m
  obtain ⟨⟨s1, s2⟩, ⟨s3, s4⟩⟩ := s
  by_cases h3 : me = 0
  · by_cases h4 : ((m1, m2), (m3, m4)) = ((s1, s2), (s3, s4))
    · obtain ⟨rfl, rfl, rfl, rfl⟩ : m1 = s1 ∧ m2 = s2 ∧ m3 = s3 ∧ m4 = s4 := by simpa [and_assoc] using h4
      refine pc_of_bodyF hm Tryz.func94 (by kernel_rfl) ?_
      conv => whnf
      (repeat' (first | (refine ansS (fun hh => ?_) (fun hh => ?_) <;> (first | simp only [ansX] at hh | skip) <;> (first | (exfalso; omega) | (exfalso; simp [*] at hh; done) | (exfalso; revert hh; decide) | exact absurd (by assumption) hh | (conv => whnf))) | ((first | refine ⟨by kernel_rfl, ?_⟩ | refine ansB (by omega) (by omega) ?_ | refine ansB (by decide) (by decide) ?_ | refine And.intro (a := _ ≤ _) (by omega) ?_ | refine And.intro (a := _ ≠ _) (by omega) ?_ | ((try (refine Or.inl ?_; (conv => whnf))); (try (refine ⟨false, ?_⟩; (conv => whnf))); refine ⟨_, by first | exact c1 | exact c2 | exact c3, ?_⟩) | fail); (conv => whnf))))
      all_goals simp [h3]
    · have h5 : ¬ (m1 = s1 ∧ m2 = s2 ∧ m3 = s3 ∧ m4 = s4) := fun h => h4 (by simp [h])
      refine pc_of_bodyF hm Tryz.func94 (by kernel_rfl) ?_
      conv => whnf
      (repeat' (first | (refine ansS (fun hh => ?_) (fun hh => ?_) <;> (first | simp only [ansX] at hh | skip) <;> (first | (exfalso; omega) | (exfalso; simp [*] at hh; done) | (exfalso; revert hh; decide) | exact absurd (by assumption) hh | (conv => whnf))) | ((first | refine ⟨by kernel_rfl, ?_⟩ | refine ansB (by omega) (by omega) ?_ | refine ansB (by decide) (by decide) ?_ | refine And.intro (a := _ ≤ _) (by omega) ?_ | refine And.intro (a := _ ≠ _) (by omega) ?_ | ((try (refine Or.inl ?_; (conv => whnf))); (try (refine ⟨false, ?_⟩; (conv => whnf))); refine ⟨_, by first | exact c1 | exact c2 | exact c3, ?_⟩) | fail); (conv => whnf))))
      all_goals first | (simp_all; done) | (exfalso; simp at hh; grind)
  · refine pc_of_bodyF hm Tryz.func94 (by kernel_rfl) ?_
    conv => whnf
    (repeat' (first | (refine ansS (fun hh => ?_) (fun hh => ?_) <;> (first | simp only [ansX] at hh | skip) <;> (first | (exfalso; omega) | (exfalso; simp [*] at hh; done) | (exfalso; revert hh; decide) | exact absurd (by assumption) hh | (conv => whnf))) | ((first | refine ⟨by kernel_rfl, ?_⟩ | refine ansB (by omega) (by omega) ?_ | refine ansB (by decide) (by decide) ?_ | refine And.intro (a := _ ≤ _) (by omega) ?_ | refine And.intro (a := _ ≠ _) (by omega) ?_ | ((try (refine Or.inl ?_; (conv => whnf))); (try (refine ⟨false, ?_⟩; (conv => whnf))); refine ⟨_, by first | exact c1 | exact c2 | exact c3, ?_⟩) | fail); (conv => whnf))))
    all_goals simp [h3]
abbrev GauT : Type := ((((Int × Int) × SpT) × (Int × Int)) × (Int × Int))
abbrev gThr (g : GauT) : Int := g.1.1.1.1
abbrev gNoi (g : GauT) : Int := g.1.1.1.2
abbrev gSc (g : GauT) : SpT := g.1.1.2
abbrev gTol (g : GauT) : SpT := (g.1.2, g.2)
abbrev eG (g : GauT) : List AV := [i64 (gThr g), i64 (gNoi g), i64 (gSc g).1.1, i64 (gSc g).1.2, i64 (gSc g).2.1, i64 (gSc g).2.2, i64 g.1.2.1, i64 g.1.2.2, i64 g.2.1, i64 g.2.2]
abbrev gau (g : GauT) : AV := .agg (eG g)
def smB (a : Int × Int) : Bool := decide (-1000000 ≤ a.1) && decide (a.1 ≤ 1000000) && decide (a.2 ≤ 1000000)
def gauB (g : GauT) : Bool := withB (gThr g) 1 255 && withB (gNoi g) 0 64 && spanB (gSc g) && spanB (gTol g) && decide (0 < (gSc g).1.1) && (smB (gSc g).1 && smB (gSc g).2 && smB g.1.2 && smB g.2)
end Go.Proofs.Tryz.My
set_option maxRecDepth 100000
set_option maxHeartbeats 0
set_option linter.unusedVariables false
set_option linter.unusedSimpArgs false
namespace Go.Proofs.Tryz.My
open Go Go.Ev
theorem verV_eq {s t : SpT} (hs : spanB s = true) (ht : spanB t = true) : verV s t = if cmpF t.1 s.1 ≤ 0 ∧ cmpF s.2 t.2 ≤ 0 then 1 else if cmpF s.2 t.1 < 0 ∨ cmpF t.2 s.1 < 0 then 2 else 3 := by
  obtain ⟨s1, s2, s3⟩ := spanB_qv.1 hs
  obtain ⟨t1, t2, t3⟩ := spanB_qv.1 ht
  obtain ⟨g1, g2, g3⟩ := greF_qv s1 t1
  obtain ⟨l1, l2, l3⟩ := lesF_qv s2 t2
  simp only [cmpF_le t1 s1, cmpF_le s2 t2, cmpF_lt s2 t1, cmpF_lt t2 s1]
  have hsp : spanB (greF s.1 t.1, lesF s.2 t.2) = true ↔ qv (greF s.1 t.1) ≤ qv (lesF s.2 t.2) := by
    rw [spanB_qv]
    exact ⟨fun h => h.2.2, fun h => ⟨greF_valid s1 t1, lesF_valid s2 t2, h⟩⟩
  unfold verV meetF
  rw [hs, ht]
  by_cases hA : qv t.1 ≤ qv s.1 ∧ qv s.2 ≤ qv t.2
  · rw [if_pos hA, greF_left s1 t1 hA.1, lesF_left s2 t2 hA.2, show ((s.1, s.2) : SpT) = s from rfl, hs]
    simp
  · rw [if_neg hA]
    by_cases hB : qv s.2 < qv t.1 ∨ qv t.2 < qv s.1
    · rw [if_pos hB]
      have hn : ¬ spanB (greF s.1 t.1, lesF s.2 t.2) = true := fun h => by
        have := hsp.1 h
        rcases hB with hB | hB <;> grind
      simp [hn]
    · rw [if_neg hB]
      have hy : spanB (greF s.1 t.1, lesF s.2 t.2) = true := hsp.2 (by
        rcases g3 with e | e <;> rcases l3 with e' | e' <;> rw [e, e'] <;> grind)
      have hne : (greF s.1 t.1, lesF s.2 t.2) ≠ s := fun e => hA (by
        have e1 : greF s.1 t.1 = s.1 := congrArg Prod.fst e
        have e2 : lesF s.2 t.2 = s.2 := congrArg Prod.snd e
        rw [e1] at g2
        rw [e2] at l2
        exact ⟨g2, l2⟩)
      simp [hy, hne]
theorem pc_Decided (s : SpT) (lo hi : Int × Int) (hs : spanB s = true) (ht : spanB (lo, hi) = true) : PC Tryz.prog 215 [sp s, fr lo, fr hi] (u8 (verV s (lo, hi))) := by
  obtain ⟨s1, s2, s3⟩ := spanB_iff.1 hs
  obtain ⟨t1, t2, t3⟩ := spanB_iff.1 ht
  have c1 := pc_rOrder lo s.1 t1 s1
  have c2 := pc_rOrder s.2 hi s2 t2
  have c3 := pc_rOrder s.2 lo s2 t1
  have c4 := pc_rOrder hi s.1 t2 s1
  rw [verV_eq hs ht]
  simp only []
  generalize cmpF lo s.1 = x1 at *
  generalize cmpF s.2 hi = x2 at *
  generalize cmpF s.2 lo = x3 at *
  generalize cmpF hi s.1 = x4 at *
  clear s1 s2 s3 t1 t2 t3 hs ht
  refine pc_of_bodyF hm Tryz.func215 (by kernel_rfl) ?_
  conv => whnf
  (repeat' (first | (refine ansS (fun hh => ?_) (fun hh => ?_) <;> (first | simp only [ansX] at hh | skip) <;> (first | (exfalso; omega) | (exfalso; simp [*] at hh; done) | (exfalso; revert hh; decide) | exact absurd (by assumption) hh | (conv => whnf))) | ((first | refine ⟨by kernel_rfl, ?_⟩ | refine ansB (by omega) (by omega) ?_ | refine ansB (by decide) (by decide) ?_ | refine And.intro (a := _ ≤ _) (by omega) ?_ | refine And.intro (a := _ ≠ _) (by omega) ?_ | ((try (refine Or.inl ?_; (conv => whnf))); (try (refine ⟨false, ?_⟩; (conv => whnf))); refine ⟨_, by first | exact c1 | exact c2 | exact c3 | exact c4, ?_⟩) | fail); (conv => whnf))))
  all_goals first | (simp_all; done) | (simp_all; omega)
theorem pc_small (a : Int × Int) : PC Tryz.prog 210 [fr a] (.bool (smB a)) := by
  have f := pc_within5 a.1 (-1000000) 1000000
  have e : smB a = (withB a.1 (-1000000) 1000000 && decide (a.2 ≤ 1000000)) := rfl
  rw [e]
  generalize withB a.1 (-1000000) 1000000 = w at *
  cases w
  · refine pc_of_bodyF hm Tryz.func210 (by kernel_rfl) ?_
    conv => whnf
    (repeat' (first | (refine ansS (fun hh => ?_) (fun hh => ?_) <;> (first | simp only [ansX] at hh | skip) <;> (first | (exfalso; omega) | (exfalso; simp [*] at hh; done) | (exfalso; revert hh; decide) | exact absurd (by assumption) hh | (conv => whnf))) | ((first | refine ⟨by kernel_rfl, ?_⟩ | refine ansB (by omega) (by omega) ?_ | refine ansB (by decide) (by decide) ?_ | refine And.intro (a := _ ≤ _) (by omega) ?_ | refine And.intro (a := _ ≠ _) (by omega) ?_ | ((try (refine Or.inl ?_; (conv => whnf))); (try (refine ⟨false, ?_⟩; (conv => whnf))); refine ⟨_, by exact f, ?_⟩) | fail); (conv => whnf))))
    all_goals simp
  · refine pc_of_bodyF hm Tryz.func210 (by kernel_rfl) ?_
    conv => whnf
    (repeat' (first | (refine ansS (fun hh => ?_) (fun hh => ?_) <;> (first | simp only [ansX] at hh | skip) <;> (first | (exfalso; omega) | (exfalso; simp [*] at hh; done) | (exfalso; revert hh; decide) | exact absurd (by assumption) hh | (conv => whnf))) | ((first | refine ⟨by kernel_rfl, ?_⟩ | refine ansB (by omega) (by omega) ?_ | refine ansB (by decide) (by decide) ?_ | refine And.intro (a := _ ≤ _) (by omega) ?_ | refine And.intro (a := _ ≠ _) (by omega) ?_ | ((try (refine Or.inl ?_; (conv => whnf))); (try (refine ⟨false, ?_⟩; (conv => whnf))); refine ⟨_, by exact f, ?_⟩) | fail); (conv => whnf))))
    all_goals simp_all
abbrev IG (g : GauT) : Prop := I64 (gThr g) ∧ I64 (gNoi g) ∧ I4 (gSc g) ∧ I4 (gTol g)
theorem pc_ValidGauge (g : GauT) (hI : IG g) : PC Tryz.prog 162 [gau g] (.bool (gauB g)) := by
  obtain ⟨_, _, i3, i4⟩ := hI
  obtain ⟨⟨⟨⟨thr, noise⟩, sc⟩, lo⟩, hi⟩ := g
  have c1 := pc_rValidSpan sc i3.1 i3.2.1 i3.2.2.1 i3.2.2.2
  have c2 := pc_rValidSpan (lo, hi) i4.1 i4.2.1 i4.2.2.1 i4.2.2.2
  have f1 := pc_within5 thr 1 255
  have f2 := pc_within5 noise 0 64
  have f3 := pc_small sc.1
  have f4 := pc_small sc.2
  have f5 := pc_small lo
  have f6 := pc_small hi
  unfold gauB
  simp only []
  clear i3 i4
  generalize spanB sc = s1 at *
  generalize spanB (lo, hi) = s2 at *
  generalize withB thr 1 255 = w1 at *
  generalize withB noise 0 64 = w2 at *
  generalize smB sc.1 = w3 at *
  generalize smB sc.2 = w4 at *
  generalize smB lo = w5 at *
  generalize smB hi = w6 at *
  cases w1
  · refine pc_of_bodyF hm Tryz.func162 (by kernel_rfl) ?_
    conv => whnf
    (repeat' (first | (refine ansS (fun hh => ?_) (fun hh => ?_) <;> (first | simp only [ansX] at hh | skip) <;> (first | (exfalso; omega) | (exfalso; simp [*] at hh; done) | (exfalso; revert hh; decide) | exact absurd (by assumption) hh | (conv => whnf))) | ((first | refine ⟨by kernel_rfl, ?_⟩ | refine ansB (by omega) (by omega) ?_ | refine ansB (by decide) (by decide) ?_ | refine And.intro (a := _ ≤ _) (by omega) ?_ | refine And.intro (a := _ ≠ _) (by omega) ?_ | ((try (refine Or.inl ?_; (conv => whnf))); (try (refine ⟨false, ?_⟩; (conv => whnf))); refine ⟨_, by exact f1, ?_⟩) | fail); (conv => whnf))))
    all_goals simp
  cases w2
  · refine pc_of_bodyF hm Tryz.func162 (by kernel_rfl) ?_
    conv => whnf
    (repeat' (first | (refine ansS (fun hh => ?_) (fun hh => ?_) <;> (first | simp only [ansX] at hh | skip) <;> (first | (exfalso; omega) | (exfalso; simp [*] at hh; done) | (exfalso; revert hh; decide) | exact absurd (by assumption) hh | (conv => whnf))) | ((first | refine ⟨by kernel_rfl, ?_⟩ | refine ansB (by omega) (by omega) ?_ | refine ansB (by decide) (by decide) ?_ | refine And.intro (a := _ ≤ _) (by omega) ?_ | refine And.intro (a := _ ≠ _) (by omega) ?_ | ((try (refine Or.inl ?_; (conv => whnf))); (try (refine ⟨false, ?_⟩; (conv => whnf))); refine ⟨_, by first | exact f1 | exact f2, ?_⟩) | fail); (conv => whnf))))
    all_goals simp
  cases s1
  · refine pc_of_bodyF hm Tryz.func162 (by kernel_rfl) ?_
    conv => whnf
    (repeat' (first | (refine ansS (fun hh => ?_) (fun hh => ?_) <;> (first | simp only [ansX] at hh | skip) <;> (first | (exfalso; omega) | (exfalso; simp [*] at hh; done) | (exfalso; revert hh; decide) | exact absurd (by assumption) hh | (conv => whnf))) | ((first | refine ⟨by kernel_rfl, ?_⟩ | refine ansB (by omega) (by omega) ?_ | refine ansB (by decide) (by decide) ?_ | refine And.intro (a := _ ≤ _) (by omega) ?_ | refine And.intro (a := _ ≠ _) (by omega) ?_ | ((try (refine Or.inl ?_; (conv => whnf))); (try (refine ⟨false, ?_⟩; (conv => whnf))); refine ⟨_, by first | exact f1 | exact f2 | exact c1, ?_⟩) | fail); (conv => whnf))))
    all_goals simp
  cases s2
  · refine pc_of_bodyF hm Tryz.func162 (by kernel_rfl) ?_
    conv => whnf
    (repeat' (first | (refine ansS (fun hh => ?_) (fun hh => ?_) <;> (first | simp only [ansX] at hh | skip) <;> (first | (exfalso; omega) | (exfalso; simp [*] at hh; done) | (exfalso; revert hh; decide) | exact absurd (by assumption) hh | (conv => whnf))) | ((first | refine ⟨by kernel_rfl, ?_⟩ | refine ansB (by omega) (by omega) ?_ | refine ansB (by decide) (by decide) ?_ | refine And.intro (a := _ ≤ _) (by omega) ?_ | refine And.intro (a := _ ≠ _) (by omega) ?_ | ((try (refine Or.inl ?_; (conv => whnf))); (try (refine ⟨false, ?_⟩; (conv => whnf))); refine ⟨_, by first | exact f1 | exact f2 | exact c1 | exact c2, ?_⟩) | fail); (conv => whnf))))
    all_goals simp
  refine pc_of_bodyF hm Tryz.func162 (by kernel_rfl) ?_
  conv => whnf
  (repeat' (first | (refine ansS (fun hh => ?_) (fun hh => ?_) <;> (first | simp only [ansX] at hh | skip) <;> (first | (exfalso; omega) | (exfalso; simp [*] at hh; done) | (exfalso; revert hh; decide) | exact absurd (by assumption) hh | (conv => whnf))) | ((first | refine ⟨by kernel_rfl, ?_⟩ | refine ansB (by omega) (by omega) ?_ | refine ansB (by decide) (by decide) ?_ | refine And.intro (a := _ ≤ _) (by omega) ?_ | refine And.intro (a := _ ≠ _) (by omega) ?_ | ((try (refine Or.inl ?_; (conv => whnf))); (try (refine ⟨false, ?_⟩; (conv => whnf))); refine ⟨_, by first | exact f1 | exact f2 | exact c1 | exact c2 | exact f3 | exact f4 | exact f5 | exact f6, ?_⟩) | fail); (conv => whnf))))
  all_goals first | (simp_all; done) | (simp_all; intros; omega)
end Go.Proofs.Tryz.My
