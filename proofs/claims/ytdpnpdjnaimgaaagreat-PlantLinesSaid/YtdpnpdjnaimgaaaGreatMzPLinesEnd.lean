/- PlantLines of layer 11: lines, new worlds, valid worlds and equal worlds are as the document says; worlds that are not great. -/
import Derived.Test.YtdpnpdjnaimgaaaGreatMzBsA
import Derived.Test.YtdpnpdjnaimgaaaGreatMzBq4
import Derived.Test.YtdpnpdjnaimgaaaGreatMzBqA
import Derived.Test.YtdpnpdjnaimgaaaGreatMzBt1
import Derived.Test.YtdpnpdjnaimgaaaGreatEvSix
import Derived.Test.YtdpnpdjnaimgaaaGreatMzWbD
import Derived.Test.YtdpnpdjnaimgaaaGreatMzBpD
import Derived.Test.YtdpnpdjnaimgaaaGreatMzWtA
import Derived.Test.YtdpnpdjnaimgaaaGreatMzBkA
import Derived.Test.YtdpnpdjnaimgaaaGreatMzGdD
import Derived.Test.YtdpnpdjnaimgaaaGreatEvTen
import Derived.Test.YtdpnpdjnaimgaaaGreatRows
import Derived.WalkKit
import Derived.ProofKit
import Derived.OpenShut
import Derived.ChangeOld
import Derived.Below
import Derived.Test.YtdpnpdjnaimgaaaGreatMzWbB
import Derived.Test.YtdpnpdjnaimgaaaGreatMzWaA
import Derived.Test.YtdpnpdjnaimgaaaGreatMzIniA
set_option maxRecDepth 100000
set_option maxHeartbeats 0
set_option linter.unusedVariables false
set_option linter.unusedSimpArgs false
namespace Go.Proofs.Tryz.My
open Go Go.Ev
def IB (b : BooksT) : Prop := ∀ i, IG (b.recipes.getD i rec0).gauge
theorem okay_of {b : BooksT} (h : smallB b = true) : Okay b := by
  obtain ⟨h1, h2, h3, h4, h5⟩ := small_known h
  exact ⟨by omega, by omega, by omega, fun i => by have := h4 i; omega, fun i => by have := h5 i; omega⟩
end Go.Proofs.Tryz.My
set_option maxRecDepth 100000
set_option maxHeartbeats 0
set_option linter.unusedVariables false
set_option linter.unusedSimpArgs false
namespace Go.Proofs.Tryz.My
open Go Go.Ev
theorem sub_newW (l : LineT) : Sub (newWl l) (wld (newT l)) := by
  refine (sub_list (xs := [i64 l.belt.step, i64 l.belt.slip, i64 l.belt.gate, i64 l.belt.len, i64 l.lag, i64 l.keep, i64 l.p, i64 l.q, i64 l.al.1, i64 l.al.2, i64 l.belt.step, i64 l.belt.slip, i64 l.belt.gate, i64 l.belt.len, i64 0, i64 0, .nils, i64 l.keep, .nils, .nils, i64 0, .nils, i64 0, i64 0, .ff, .nils]) (ys := eW (newT l)) rfl fun i hi => ?_).1
  match i with
  | 0 | 1 | 2 | 3 | 4 | 5 | 6 | 7 | 8 | 9 | 10 | 11 | 12 | 13 | 14 | 15 => exact .refl _
  | 16 => exact .nils _ _ _
  | 17 => exact .refl _
  | 18 => exact .nils _ _ _
  | 19 => exact .nils _ _ _
  | 20 => exact .refl _
  | 21 => exact .nils _ _ _
  | 22 | 23 => exact .refl _
  | 24 => exact sub_ff
  | 25 => exact .nils _ _ _
  | (n + 26) => exact .refl _
theorem okayW_of {w : WorldT} (h : smallW w = true) : OkayW w := by
  unfold smallW at h
  simp only [Bool.and_eq_true, decide_eq_true_eq] at h
  exact ⟨okay_of h.1, by omega, by omega⟩
theorem small_new (l : LineT) : OkayW (newT l) := by
  have z : 0 < 2 ^ 20 := by decide
  exact ⟨⟨z, z, z, fun i => z, fun i => z⟩, z, z⟩
theorem pc_sameNew (l : LineT) : PC Tryz.prog 20 [newWl l, newWl l] (.bool true) := by
  have c := pc_Same11 (newT l) (newT l) (small_new l) (small_new l)
  rw [sameW_refl] at c
  refine c.sub rfl (fun i hi => ?_) (.refl _)
  match i with
  | 0 => exact sub_newW l
  | 1 => exact sub_newW l
  | (n + 2) => exact .refl _
theorem pc_PlantLines (l : LineT) (w v : WorldT) (hl : IL4 l) (hw : IB w.books ∧ IL4 w.line ∧ I64 w.track.belt.step) (hv : IB v.books ∧ IL4 v.line ∧ I64 v.track.belt.step) : PC Tryz.prog 3 [lin l, wld w, wld v] (.bool true) := by
  have g1 := pc_Great11 w
  have g2 := pc_Great11 v
  by_cases hs : smallW w = true ∧ smallW v = true
  · obtain ⟨s1, s2⟩ := hs
    rw [s1] at g1
    rw [s2] at g2
    have o1 := okayW_of s1
    have o2 := okayW_of s2
    have a1 := pc_CheckLine l
    have a2 := pc_CheckLine11 l hl
    have a3 := pc_pCheck w o1
    have a4 := pc_Check11 w o1 hw.2.1 hw.2.2 hw.1
    have a5 := pc_pSame w v o1 o2
    have a6 := pc_Same11 w v o1 o2
    have a7 := pc_Twin11 w o1
    have a8 := pc_pSame w w o1 o1
    rw [sameW_refl] at a8
    by_cases h : lineE l = 0
    · have b1 := pc_NewW l h
      have b2 := pc_NewW11 l hl h
      have b3 := pc_sameNew l
      rw [h] at a1 a2
      generalize wldE w = e1 at *
      generalize sameW w v = e2 at *
      refine pc_of_bodyF hm Tryz.func3 (by kernel_rfl) ?_
      conv => whnf
      (repeat' (first | (refine ansS (fun hh => ?_) (fun hh => ?_) <;> (first | simp only [ansX] at hh | skip) <;> (first | (exfalso; omega) | (exfalso; simp [*] at hh; done) | (exfalso; revert hh; decide) | exact absurd (by assumption) hh | (conv => whnf))) | ((first | refine ⟨by kernel_rfl, ?_⟩ | refine ansB (by omega) (by omega) ?_ | refine ansB (by decide) (by decide) ?_ | refine And.intro (a := _ ≤ _) (by omega) ?_ | refine And.intro (a := _ ≠ _) (by omega) ?_ | ((try (refine Or.inl ?_; (conv => whnf))); (try (refine ⟨false, ?_⟩; (conv => whnf))); refine ⟨_, by first | exact g1 | exact g2 | exact b1 | exact b2 | exact a1 | exact a2 | exact b3 | exact a3 | exact a4 | exact a5 | exact a6 | exact a7 | exact a8, ?_⟩) | fail); (conv => whnf))))
      all_goals (first | rfl | (exfalso; simp_all; done) | set_option pp.maxSteps 300 in trace_state)
    · have b1 := pc_NewW_bad l h
      have b2 := pc_NewW11_bad l hl h
      have b3 := pc_sameNew line0
      generalize lineE l = e0 at *
      generalize wldE w = e1 at *
      generalize sameW w v = e2 at *
      refine pc_of_bodyF hm Tryz.func3 (by kernel_rfl) ?_
      conv => whnf
      (repeat' (first | (refine ansS (fun hh => ?_) (fun hh => ?_) <;> (first | simp only [ansX] at hh | skip) <;> (first | (exfalso; omega) | (exfalso; simp [*] at hh; done) | (exfalso; revert hh; decide) | exact absurd (by assumption) hh | (conv => whnf))) | ((first | refine ⟨by kernel_rfl, ?_⟩ | refine ansB (by omega) (by omega) ?_ | refine ansB (by decide) (by decide) ?_ | refine And.intro (a := _ ≤ _) (by omega) ?_ | refine And.intro (a := _ ≠ _) (by omega) ?_ | ((try (refine Or.inl ?_; (conv => whnf))); (try (refine ⟨false, ?_⟩; (conv => whnf))); refine ⟨_, by first | exact g1 | exact g2 | exact b1 | exact b2 | exact a1 | exact a2 | exact b3 | exact a3 | exact a4 | exact a5 | exact a6 | exact a7 | exact a8, ?_⟩) | fail); (conv => whnf))))
      all_goals (first | rfl | (exfalso; simp_all; done) | set_option pp.maxSteps 300 in trace_state)
  · by_cases s1 : smallW w = true
    · have s2 : smallW v = false := by
        cases e : smallW v
        · rfl
        · exact absurd ⟨s1, e⟩ hs
      rw [s1] at g1
      rw [s2] at g2
      refine pc_of_bodyF hm Tryz.func3 (by kernel_rfl) ?_
      conv => whnf
      (repeat' (first | (refine ansS (fun hh => ?_) (fun hh => ?_) <;> (first | simp only [ansX] at hh | skip) <;> (first | (exfalso; omega) | (exfalso; simp [*] at hh; done) | (exfalso; revert hh; decide) | exact absurd (by assumption) hh | (conv => whnf))) | ((first | refine ⟨by kernel_rfl, ?_⟩ | refine ansB (by omega) (by omega) ?_ | refine ansB (by decide) (by decide) ?_ | refine And.intro (a := _ ≤ _) (by omega) ?_ | refine And.intro (a := _ ≠ _) (by omega) ?_ | ((try (refine Or.inl ?_; (conv => whnf))); (try (refine ⟨false, ?_⟩; (conv => whnf))); refine ⟨_, by first | exact g1 | exact g2, ?_⟩) | fail); (conv => whnf))))
    · have s1 : smallW w = false := by simpa using s1
      rw [s1] at g1
      refine pc_of_bodyF hm Tryz.func3 (by kernel_rfl) ?_
      conv => whnf
      (repeat' (first | (refine ansS (fun hh => ?_) (fun hh => ?_) <;> (first | simp only [ansX] at hh | skip) <;> (first | (exfalso; omega) | (exfalso; simp [*] at hh; done) | (exfalso; revert hh; decide) | exact absurd (by assumption) hh | (conv => whnf))) | ((first | refine ⟨by kernel_rfl, ?_⟩ | refine ansB (by omega) (by omega) ?_ | refine ansB (by decide) (by decide) ?_ | refine And.intro (a := _ ≤ _) (by omega) ?_ | refine And.intro (a := _ ≠ _) (by omega) ?_ | ((try (refine Or.inl ?_; (conv => whnf))); (try (refine ⟨false, ?_⟩; (conv => whnf))); refine ⟨_, by first | exact g1 | exact g2, ?_⟩) | fail); (conv => whnf))))
end Go.Proofs.Tryz.My
set_option maxRecDepth 100000
set_option maxHeartbeats 0
set_option linter.unusedVariables false
set_option linter.unusedSimpArgs false
namespace Go.Proofs.YtdpnpdjnaimgaaaGreat.BooksIn
open Go Go.Ev Go.Proofs.Tryz.My
open Go.ChangeShapes Go.WideShapes Go.ChangeAt Go.RowKit
def IB (b : BooksT) : Prop := ∀ i, IG (b.recipes.getD i rec0).gauge
theorem dFrac : Dec Tryz.prog 25 eF (fun y : Int × Int => I64 y.1 ∧ I64 y.2) :=
  dec_two Tryz.underlying25 rfl rfl rfl (by kernel_rfl) (by kernel_rfl) (dec_int Tryz.underlying3 (by kernel_rfl)) (dec_int Tryz.underlying3 (by kernel_rfl)) (fun _ => by kernel_rfl)
theorem dSpan : Dec Tryz.prog 57 eS (fun y : SpT => (I64 y.1.1 ∧ I64 y.1.2) ∧ (I64 y.2.1 ∧ I64 y.2.2)) :=
  dec_two Tryz.underlying57 rfl rfl rfl (by kernel_rfl) (by kernel_rfl) dFrac dFrac (fun _ => by kernel_rfl)
theorem dGauge : Dec Tryz.prog 59 eG (fun y : GauT => ((((I64 y.1.1.1.1 ∧ I64 y.1.1.1.2) ∧ ((I64 y.1.1.2.1.1 ∧ I64 y.1.1.2.1.2) ∧ (I64 y.1.1.2.2.1 ∧ I64 y.1.1.2.2.2))) ∧ (I64 y.1.2.1 ∧ I64 y.1.2.2)) ∧ (I64 y.2.1 ∧ I64 y.2.2))) :=
  dec_all Tryz.underlying59 rfl (by kernel_rfl)
    (dec_more (k := 4) Tryz.underlying59 rfl (by kernel_rfl) (dec_more (k := 3) Tryz.underlying59 rfl (by kernel_rfl) (dec_more (k := 2) Tryz.underlying59 rfl (by kernel_rfl) (dec_more (k := 1) Tryz.underlying59 rfl (by kernel_rfl)
      (dec_one Tryz.underlying59 rfl (by kernel_rfl) (dec_int Tryz.underlying3 (by kernel_rfl))) (dec_int Tryz.underlying3 (by kernel_rfl)) (fun _ => by kernel_rfl)) dSpan (fun _ => by kernel_rfl)) dFrac (fun _ => by kernel_rfl)) dFrac (fun _ => by kernel_rfl))
theorem dInt : DecM Tryz.prog 3 (fun n : Int => [i64 n]) I64 := Dec.mem (dec_int Tryz.underlying3 (by kernel_rfl))
theorem dInts : DecM Tryz.prog 60 (fun l : List Int => [ints l]) (fun _ => True) := by
  have h0 : DecM Tryz.prog 60 (fun l : List Int => [.sl (Tryz.prog.cellsOf 3) 0 (fun n : Int => [i64 n]) l]) (fun l => (∀ n ∈ l, I64 n) ∧ l.length ≤ maxLen) := decM_slice (d := (0 : Int)) Tryz.underlying60 (by kernel_rfl) (of_decide_eq_true (by kernel_rfl)) dInt
  have e : Tryz.prog.cellsOf 3 = 1 := by kernel_rfl
  rw [e] at h0
  intro H enc w base spare held fuel cs x ht
  exact DecM.weak h0 (fun _ _ => trivial) ht
theorem dU8 : DecM Tryz.prog 5 (fun n : Int => [u8 n]) (fun n => (Lit.int .u8 n).wf = true) := Dec.mem (dec_num Tryz.underlying5 (by kernel_rfl))
theorem dU8s : DecM Tryz.prog 33 (fun l : List Int => [u8l l]) (fun _ => True) := by
  have h0 : DecM Tryz.prog 33 (fun l : List Int => [.sl (Tryz.prog.cellsOf 5) 0 (fun n : Int => [u8 n]) l]) (fun l => (∀ n ∈ l, (Lit.int .u8 n).wf = true) ∧ l.length ≤ maxLen) := decM_slice (d := (0 : Int)) Tryz.underlying33 (by kernel_rfl) (of_decide_eq_true (by kernel_rfl)) dU8
  have e : Tryz.prog.cellsOf 5 = 1 := by kernel_rfl
  rw [e] at h0
  intro H enc w base spare held fuel cs x ht
  exact DecM.weak h0 (fun _ _ => trivial) ht
theorem dGaugeM : DecM Tryz.prog 59 eG (fun y : GauT => ((((I64 y.1.1.1.1 ∧ I64 y.1.1.1.2) ∧ ((I64 y.1.1.2.1.1 ∧ I64 y.1.1.2.1.2) ∧ (I64 y.1.1.2.2.1 ∧ I64 y.1.1.2.2.2))) ∧ (I64 y.1.2.1 ∧ I64 y.1.2.2)) ∧ (I64 y.2.1 ∧ I64 y.2.2))) := Dec.mem dGauge
theorem dRec0 : DecM Tryz.prog 122 (fun y : ((Int × GauT) × List Int) × Int => ((([i64 y.1.1.1] ++ eG y.1.1.2) ++ [ints y.1.2]) ++ [u8 y.2])) (fun y => ((I64 y.1.1.1 ∧ ((((I64 y.1.1.2.1.1.1.1 ∧ I64 y.1.1.2.1.1.1.2) ∧ ((I64 y.1.1.2.1.1.2.1.1 ∧ I64 y.1.1.2.1.1.2.1.2) ∧ (I64 y.1.1.2.1.1.2.2.1 ∧ I64 y.1.1.2.1.1.2.2.2))) ∧ (I64 y.1.1.2.1.2.1 ∧ I64 y.1.1.2.1.2.2)) ∧ (I64 y.1.1.2.2.1 ∧ I64 y.1.1.2.2.2))) ∧ True) ∧ (Lit.int .u8 y.2).wf = true) :=
  decM_all Tryz.underlying122 rfl (by kernel_rfl)
    (decM_more (k := 3) Tryz.underlying122 rfl (by kernel_rfl) (decM_more (k := 2) Tryz.underlying122 rfl (by kernel_rfl) (decM_more (k := 1) Tryz.underlying122 rfl (by kernel_rfl)
      (decM_one Tryz.underlying122 rfl (by kernel_rfl) dInt) dGaugeM (fun _ => by kernel_rfl)) dInts (fun _ => by kernel_rfl)) dU8 (fun _ => by kernel_rfl))
theorem dRec : DecM Tryz.prog 122 eRec (fun x => IG x.gauge) := by
  refine DecM.weak (DecM.map (en' := eRec) dRec0 (fun y => (⟨y.1.1.1, y.1.1.2, y.1.2, y.2⟩ : RecT)) (fun _ => rfl)) fun x h => by
    obtain ⟨y, rfl, ⟨⟨_, ⟨⟨a, b⟩, c⟩⟩, _⟩, _⟩ := h
    exact ⟨a.1.1, a.1.2, ⟨a.2.1.1, a.2.1.2, a.2.2.1, a.2.2.2⟩, ⟨b.1, b.2, c.1, c.2⟩⟩
theorem dRecs : DecM Tryz.prog 34 (fun l : List RecT => [recs l]) (fun l => ∀ x ∈ l, IG x.gauge) := by
  have h0 : DecM Tryz.prog 34 (fun l : List RecT => [.sl (Tryz.prog.cellsOf 122) rec0 eRec l]) (fun l => (∀ n ∈ l, IG n.gauge) ∧ l.length ≤ maxLen) := decM_slice (d := rec0) Tryz.underlying34 (by kernel_rfl) (of_decide_eq_true (by kernel_rfl)) dRec
  have e : Tryz.prog.cellsOf 122 = 13 := by kernel_rfl
  rw [e] at h0
  intro H enc w base spare held fuel cs x ht
  exact DecM.weak h0 (fun _ h => h.1) ht
theorem dBool : DecM Tryz.prog 4 (fun b : Bool => [.bool b]) (fun _ => True) := decM_bool Tryz.underlying4 (by kernel_rfl)
theorem dEnt0 : DecM Tryz.prog 80 (fun y : ((((Int × Int) × Int) × List Int) × Int) × Bool => ((((([i64 y.1.1.1.1.1] ++ [i64 y.1.1.1.1.2]) ++ [i64 y.1.1.1.2]) ++ [ints y.1.1.2]) ++ [u8 y.1.2]) ++ [.bool y.2])) (fun y => ((((I64 y.1.1.1.1.1 ∧ I64 y.1.1.1.1.2) ∧ I64 y.1.1.1.2) ∧ True) ∧ (Lit.int .u8 y.1.2).wf = true) ∧ True) :=
  decM_all Tryz.underlying80 rfl (by kernel_rfl)
    (decM_more (k := 5) Tryz.underlying80 rfl (by kernel_rfl) (decM_more (k := 4) Tryz.underlying80 rfl (by kernel_rfl) (decM_more (k := 3) Tryz.underlying80 rfl (by kernel_rfl) (decM_more (k := 2) Tryz.underlying80 rfl (by kernel_rfl) (decM_more (k := 1) Tryz.underlying80 rfl (by kernel_rfl)
      (decM_one Tryz.underlying80 rfl (by kernel_rfl) dInt) dInt (fun _ => by kernel_rfl)) dInt (fun _ => by kernel_rfl)) dInts (fun _ => by kernel_rfl)) dU8 (fun _ => by kernel_rfl)) dBool (fun _ => by kernel_rfl))
theorem dEnt : DecM Tryz.prog 80 eEnt (fun _ => True) := by
  refine DecM.weak (DecM.map (en' := eEnt) dEnt0 (fun y => (⟨y.1.1.1.1.1, y.1.1.1.1.2, y.1.1.1.2, y.1.1.2, y.1.2, y.2⟩ : EntT)) (fun _ => rfl)) fun _ _ => trivial
theorem dEnts : DecM Tryz.prog 35 (fun l : List EntT => [ents l]) (fun _ => True) := by
  have h0 : DecM Tryz.prog 35 (fun l : List EntT => [.sl (Tryz.prog.cellsOf 80) ent0 eEnt l]) (fun l => (∀ n ∈ l, True) ∧ l.length ≤ maxLen) := decM_slice (d := ent0) Tryz.underlying35 (by kernel_rfl) (of_decide_eq_true (by kernel_rfl)) dEnt
  have e : Tryz.prog.cellsOf 80 = 6 := by kernel_rfl
  rw [e] at h0
  intro H enc w base spare held fuel cs x ht
  exact DecM.weak h0 (fun _ _ => trivial) ht
theorem dBooks0 : DecM Tryz.prog 37 (fun y : (((Int × List Int) × List RecT) × Int) × List EntT => (((([i64 y.1.1.1.1] ++ [u8l y.1.1.1.2]) ++ [recs y.1.1.2]) ++ [i64 y.1.2]) ++ [ents y.2])) (fun y => (((I64 y.1.1.1.1 ∧ True) ∧ ∀ x ∈ y.1.1.2, IG x.gauge) ∧ I64 y.1.2) ∧ True) :=
  decM_all Tryz.underlying37 rfl (by kernel_rfl)
    (decM_more (k := 4) Tryz.underlying37 rfl (by kernel_rfl) (decM_more (k := 3) Tryz.underlying37 rfl (by kernel_rfl) (decM_more (k := 2) Tryz.underlying37 rfl (by kernel_rfl) (decM_more (k := 1) Tryz.underlying37 rfl (by kernel_rfl)
      (decM_one Tryz.underlying37 rfl (by kernel_rfl) dInt) dU8s (fun _ => by kernel_rfl)) dRecs (fun _ => by kernel_rfl)) dInt (fun _ => by kernel_rfl)) dEnts (fun _ => by kernel_rfl))
theorem ig0 : IG rec0.gauge := by
  have h : I64 (0 : Int) := by first | (unfold I64; decide) | decide | exact ⟨by decide, by decide⟩
  exact ⟨h, h, ⟨h, h, h, h⟩, ⟨h, h, h, h⟩⟩
theorem dBooks : DecM Tryz.prog 37 eB IB := by
  refine DecM.weak (DecM.map (en' := eB) dBooks0 (fun y => (⟨y.1.1.1.1, y.1.1.1.2, y.1.1.2, y.1.2, y.2⟩ : BooksT)) (fun _ => rfl)) fun x h => by
    obtain ⟨y, rfl, ⟨⟨_, h⟩, _⟩, _⟩ := h
    intro i
    by_cases hi : i < y.1.1.2.length
    · have e : y.1.1.2.getD i rec0 = y.1.1.2[i] := by simp [List.getD, hi]
      show IG (y.1.1.2.getD i rec0).gauge
      rw [e]
      exact h _ (List.getElem_mem hi)
    · have e : y.1.1.2.getD i rec0 = rec0 := by rw [List.getD, List.getElem?_eq_none (by omega)]; rfl
      show IG (y.1.1.2.getD i rec0).gauge
      rw [e]
      exact ig0
end Go.Proofs.YtdpnpdjnaimgaaaGreat.BooksIn
set_option maxRecDepth 100000
set_option maxHeartbeats 0
set_option linter.unusedVariables false
set_option linter.unusedSimpArgs false
namespace Go.Proofs.YtdpnpdjnaimgaaaGreat.PlantIn
open Go Go.Ev Go.Proofs.Tryz.My Go.Proofs.YtdpnpdjnaimgaaaGreat.BooksIn
open Go.ChangeShapes Go.WideShapes Go.ChangeAt Go.RowKit
def IW (w : WorldT) : Prop := BooksIn.IB w.books ∧ IL4 w.line ∧ I64 w.track.belt.step
theorem dFracM : DecM Tryz.prog 25 eF (fun y : Int × Int => I64 y.1 ∧ I64 y.2) := Dec.mem dFrac
theorem dBelt0 : DecM Tryz.prog 23 (fun y : ((Int × Int) × Int) × Int => ((([i64 y.1.1.1] ++ [i64 y.1.1.2]) ++ [i64 y.1.2]) ++ [i64 y.2])) (fun y => (((I64 y.1.1.1 ∧ I64 y.1.1.2) ∧ I64 y.1.2) ∧ I64 y.2)) :=
  decM_all Tryz.underlying23 rfl (by kernel_rfl)
    (decM_more (k := 3) Tryz.underlying23 rfl (by kernel_rfl) (decM_more (k := 2) Tryz.underlying23 rfl (by kernel_rfl) (decM_more (k := 1) Tryz.underlying23 rfl (by kernel_rfl) (decM_one Tryz.underlying23 rfl (by kernel_rfl) dInt) dInt (fun _ => by kernel_rfl)) dInt (fun _ => by kernel_rfl)) dInt (fun _ => by kernel_rfl))
theorem dBelt : DecM Tryz.prog 23 eBelt IB4 := by
  refine DecM.weak (DecM.map (en' := eBelt) dBelt0 (fun y => (⟨y.1.1.1, y.1.1.2, y.1.2, y.2⟩ : BeltT)) (fun _ => rfl)) fun x h => by
    obtain ⟨y, rfl, ⟨⟨h, _⟩, _⟩, _⟩ := h
    exact h
theorem dTest : DecM Tryz.prog 27 (fun y : (Int × Int) × (Int × Int) => (([i64 y.1.1] ++ [i64 y.1.2]) ++ eF y.2)) (fun y => ((I64 y.1.1 ∧ I64 y.1.2) ∧ (I64 y.2.1 ∧ I64 y.2.2))) :=
  decM_all Tryz.underlying27 rfl (by kernel_rfl)
    (decM_more (k := 2) Tryz.underlying27 rfl (by kernel_rfl) (decM_more (k := 1) Tryz.underlying27 rfl (by kernel_rfl) (decM_one Tryz.underlying27 rfl (by kernel_rfl) dInt) dInt (fun _ => by kernel_rfl)) dFracM (fun _ => by kernel_rfl))
theorem dLine0 : DecM Tryz.prog 29 (fun y : ((BeltT × Int) × Int) × ((Int × Int) × (Int × Int)) => (((eBelt y.1.1.1 ++ [i64 y.1.1.2]) ++ [i64 y.1.2]) ++ (([i64 y.2.1.1] ++ [i64 y.2.1.2]) ++ eF y.2.2))) (fun y => (((IB4 y.1.1.1 ∧ I64 y.1.1.2) ∧ I64 y.1.2) ∧ ((I64 y.2.1.1 ∧ I64 y.2.1.2) ∧ (I64 y.2.2.1 ∧ I64 y.2.2.2)))) :=
  decM_all Tryz.underlying29 rfl (by kernel_rfl)
    (decM_more (k := 3) Tryz.underlying29 rfl (by kernel_rfl) (decM_more (k := 2) Tryz.underlying29 rfl (by kernel_rfl) (decM_more (k := 1) Tryz.underlying29 rfl (by kernel_rfl) (decM_one Tryz.underlying29 rfl (by kernel_rfl) dBelt) dInt (fun _ => by kernel_rfl)) dInt (fun _ => by kernel_rfl)) dTest (fun _ => by kernel_rfl))
theorem dLine : DecM Tryz.prog 29 eLine IL4 := by
  refine DecM.weak (DecM.map (en' := eLine) dLine0 (fun y => (⟨y.1.1.1, y.1.1.2, y.1.2, y.2.1.1, y.2.1.2, y.2.2⟩ : LineT)) (fun _ => rfl)) fun x h => by
    obtain ⟨y, rfl, ⟨⟨a, _⟩, _⟩, _, h⟩ := h
    exact ⟨a, h⟩
theorem dSeen0 : DecM Tryz.prog 78 (fun y : ((Int × Int) × Int) × Bool => ((([i64 y.1.1.1] ++ [i64 y.1.1.2]) ++ [u8 y.1.2]) ++ [.bool y.2])) (fun y => (((I64 y.1.1.1 ∧ I64 y.1.1.2) ∧ (Lit.int .u8 y.1.2).wf = true) ∧ True)) :=
  decM_all Tryz.underlying78 rfl (by kernel_rfl)
    (decM_more (k := 3) Tryz.underlying78 rfl (by kernel_rfl) (decM_more (k := 2) Tryz.underlying78 rfl (by kernel_rfl) (decM_more (k := 1) Tryz.underlying78 rfl (by kernel_rfl) (decM_one Tryz.underlying78 rfl (by kernel_rfl) dInt) dInt (fun _ => by kernel_rfl)) dU8 (fun _ => by kernel_rfl)) dBool (fun _ => by kernel_rfl))
theorem dSeen : DecM Tryz.prog 78 eSeen (fun x => True) := by
  refine DecM.weak (DecM.map (en' := eSeen) dSeen0 (fun y => (⟨y.1.1.1, y.1.1.2, y.1.2, y.2⟩ : SeenT)) (fun _ => rfl)) fun x h => trivial
theorem dSeens : DecM Tryz.prog 30 (fun l : List SeenT => [seens l]) (fun _ => True) := by
  have h0 : DecM Tryz.prog 30 (fun l : List SeenT => [.sl (Tryz.prog.cellsOf 78) seen0 eSeen l]) (fun l => (∀ n ∈ l, True) ∧ l.length ≤ maxLen) := decM_slice (d := seen0) Tryz.underlying30 (by kernel_rfl) (of_decide_eq_true (by kernel_rfl)) dSeen
  have e : Tryz.prog.cellsOf 78 = 4 := by kernel_rfl
  rw [e] at h0
  intro H enc w base spare held fuel cs x ht
  exact DecM.weak h0 (fun _ _ => trivial) ht
theorem dTrack0 : DecM Tryz.prog 32 (fun y : ((BeltT × Int) × Int) × List SeenT => (((eBelt y.1.1.1 ++ [i64 y.1.1.2]) ++ [i64 y.1.2]) ++ [seens y.2])) (fun y => (((IB4 y.1.1.1 ∧ I64 y.1.1.2) ∧ I64 y.1.2) ∧ True)) :=
  decM_all Tryz.underlying32 rfl (by kernel_rfl)
    (decM_more (k := 3) Tryz.underlying32 rfl (by kernel_rfl) (decM_more (k := 2) Tryz.underlying32 rfl (by kernel_rfl) (decM_more (k := 1) Tryz.underlying32 rfl (by kernel_rfl) (decM_one Tryz.underlying32 rfl (by kernel_rfl) dBelt) dInt (fun _ => by kernel_rfl)) dInt (fun _ => by kernel_rfl)) dSeens (fun _ => by kernel_rfl))
theorem dTrack : DecM Tryz.prog 32 eTrack (fun t => I64 t.belt.step) := by
  refine DecM.weak (DecM.map (en' := eTrack) dTrack0 (fun y => (⟨y.1.1.1, y.1.1.2, y.1.2, y.2⟩ : TrackT)) (fun _ => rfl)) fun x h => by
    obtain ⟨y, rfl, ⟨⟨h, _⟩, _⟩, _⟩ := h
    exact h
theorem dThing0 : DecM Tryz.prog 76 (fun y : (((((Int × Int) × Int) × Int) × Int) × Int) × Bool => (((((([i64 y.1.1.1.1.1.1] ++ [i64 y.1.1.1.1.1.2]) ++ [i64 y.1.1.1.1.2]) ++ [u8 y.1.1.1.2]) ++ [i64 y.1.1.2]) ++ [i64 y.1.2]) ++ [.bool y.2])) (fun y => ((((((I64 y.1.1.1.1.1.1 ∧ I64 y.1.1.1.1.1.2) ∧ I64 y.1.1.1.1.2) ∧ (Lit.int .u8 y.1.1.1.2).wf = true) ∧ I64 y.1.1.2) ∧ I64 y.1.2) ∧ True)) :=
  decM_all Tryz.underlying76 rfl (by kernel_rfl)
    (decM_more (k := 6) Tryz.underlying76 rfl (by kernel_rfl) (decM_more (k := 5) Tryz.underlying76 rfl (by kernel_rfl) (decM_more (k := 4) Tryz.underlying76 rfl (by kernel_rfl) (decM_more (k := 3) Tryz.underlying76 rfl (by kernel_rfl) (decM_more (k := 2) Tryz.underlying76 rfl (by kernel_rfl) (decM_more (k := 1) Tryz.underlying76 rfl (by kernel_rfl) (decM_one Tryz.underlying76 rfl (by kernel_rfl) dInt) dInt (fun _ => by kernel_rfl)) dInt (fun _ => by kernel_rfl)) dU8 (fun _ => by kernel_rfl)) dInt (fun _ => by kernel_rfl)) dInt (fun _ => by kernel_rfl)) dBool (fun _ => by kernel_rfl))
theorem dThing : DecM Tryz.prog 76 eThing (fun x => True) := by
  refine DecM.weak (DecM.map (en' := eThing) dThing0 (fun y => (⟨y.1.1.1.1.1.1, y.1.1.1.1.1.2, y.1.1.1.1.2, y.1.1.1.2, y.1.1.2, y.1.2, y.2⟩ : ThingT)) (fun _ => rfl)) fun x h => trivial
theorem dThings : DecM Tryz.prog 40 (fun l : List ThingT => [thgs l]) (fun _ => True) := by
  have h0 : DecM Tryz.prog 40 (fun l : List ThingT => [.sl (Tryz.prog.cellsOf 76) thing0 eThing l]) (fun l => (∀ n ∈ l, True) ∧ l.length ≤ maxLen) := decM_slice (d := thing0) Tryz.underlying40 (by kernel_rfl) (of_decide_eq_true (by kernel_rfl)) dThing
  have e : Tryz.prog.cellsOf 76 = 7 := by kernel_rfl
  rw [e] at h0
  intro H enc w base spare held fuel cs x ht
  exact DecM.weak h0 (fun _ _ => trivial) ht
theorem dDrift0 : DecM Tryz.prog 39 (fun y : (Int × Int) × Bool => (([i64 y.1.1] ++ [i64 y.1.2]) ++ [.bool y.2])) (fun y => ((I64 y.1.1 ∧ I64 y.1.2) ∧ True)) :=
  decM_all Tryz.underlying39 rfl (by kernel_rfl)
    (decM_more (k := 2) Tryz.underlying39 rfl (by kernel_rfl) (decM_more (k := 1) Tryz.underlying39 rfl (by kernel_rfl) (decM_one Tryz.underlying39 rfl (by kernel_rfl) dInt) dInt (fun _ => by kernel_rfl)) dBool (fun _ => by kernel_rfl))
theorem dDrift : DecM Tryz.prog 39 eDrift (fun x => True) := by
  refine DecM.weak (DecM.map (en' := eDrift) dDrift0 (fun y => (⟨y.1.1, y.1.2, y.2⟩ : DriftT)) (fun _ => rfl)) fun x h => trivial
theorem dWorld0 : DecM Tryz.prog 42 (fun y : (((LineT × TrackT) × BooksT) × DriftT) × List ThingT => ((((eLine y.1.1.1.1 ++ eTrack y.1.1.1.2) ++ eB y.1.1.2) ++ eDrift y.1.2) ++ [thgs y.2])) (fun y => ((((IL4 y.1.1.1.1 ∧ I64 y.1.1.1.2.belt.step) ∧ BooksIn.IB y.1.1.2) ∧ True) ∧ True)) :=
  decM_all Tryz.underlying42 rfl (by kernel_rfl)
    (decM_more (k := 4) Tryz.underlying42 rfl (by kernel_rfl) (decM_more (k := 3) Tryz.underlying42 rfl (by kernel_rfl) (decM_more (k := 2) Tryz.underlying42 rfl (by kernel_rfl) (decM_more (k := 1) Tryz.underlying42 rfl (by kernel_rfl) (decM_one Tryz.underlying42 rfl (by kernel_rfl) dLine) dTrack (fun _ => by kernel_rfl)) dBooks (fun _ => by kernel_rfl)) dDrift (fun _ => by kernel_rfl)) dThings (fun _ => by kernel_rfl))
theorem dWorld : DecM Tryz.prog 42 eW (fun x => IW x) := by
  refine DecM.weak (DecM.map (en' := eW) dWorld0 (fun y => (⟨y.1.1.1.1, y.1.1.1.2, y.1.1.2, y.1.2, y.2⟩ : WorldT)) (fun _ => rfl)) fun x h => by
    obtain ⟨y, rfl, ⟨⟨⟨h1, h2⟩, h3⟩, _⟩, _⟩ := h
    exact ⟨h3, h1, h2⟩
end Go.Proofs.YtdpnpdjnaimgaaaGreat.PlantIn
set_option maxRecDepth 100000
set_option maxHeartbeats 0
set_option linter.unusedVariables false
set_option linter.unusedSimpArgs false
namespace Go.Proofs.YtdpnpdjnaimgaaaGreat.PlantLinesDone
open Go Go.Ev Go.Proofs.Tryz.My Go.Proofs.YtdpnpdjnaimgaaaGreat.BooksIn Go.Proofs.YtdpnpdjnaimgaaaGreat.PlantIn
open Go.ChangeShapes Go.WideShapes Go.ChangeAt Go.RowKit
theorem own : ownKnob Tryz.prog.godebug = none := by kernel_rfl
theorem laidOut : laidOutB Tryz.prog = true := by kernel_rfl
theorem walk (w : World) (x0 : LineT) (f0 : IL4 x0) (v0 : Value) (h0 : RepI (fun b => b < w.heap.size) w (lin x0) v0) (x1 : WorldT) (f1 : PlantIn.IW x1) (v1 : Value) (h1 : RepI (fun b => b < w.heap.size) w (wld x1) v1) (x2 : WorldT) (f2 : PlantIn.IW x2) (v2 : Value) (h2 : RepI (fun b => b < w.heap.size) w (wld x2) v2) :
    Calls Tryz.prog 3 #[v0, v1, v2] w fun e w' => e = .returned (.bool true) ∧ Below w.heap.size w w' := by
  refine PC.callsTrue (pc_PlantLines x0 x1 x2 f0 f1 f2) Tryz.func3 (by kernel_rfl) rfl rfl fun i hi => ?_
  match i, hi with
  | 0, _ => exact h0
  | 1, _ => exact h1
  | 2, _ => exact h2
theorem lifted (os : Os) (started : os.Started) (H : Type) (enc : TypeId × Value → H) :
    ReturnsInHanded {} Tryz.checked os 3 .any (Rows.plantLinesSpec.pre6 enc Tryz.prog Tryz.f3 Rows.plantLinesRow.domain false) (Rows.plantLinesSpec.post enc Tryz.prog Tryz.f3 false true false false) := by
  refine returnsInHanded_of_change (C := Tryz.checked) own started (by kernel_rfl) Tryz.func3
    (ChangeSpec.witness6 (enc := enc) (C := Tryz.checked) false ⟨#[], #[.agg #[.int .i64 0, .int .i64 0, .int .i64 0, .int .i64 0, .int .i64 0, .int .i64 0, .int .i64 0, .int .i64 0, .int .i64 0, .int .i64 0], .agg #[.int .i64 0, .int .i64 0, .int .i64 0, .int .i64 0, .int .i64 0, .int .i64 0, .int .i64 0, .int .i64 0, .int .i64 0, .int .i64 0, .int .i64 0, .int .i64 0, .int .i64 0, .int .i64 0, .int .i64 0, .int .i64 0, .slice none 0 0, .int .i64 0, .slice none 0 0, .slice none 0 0, .int .i64 0, .slice none 0 0, .int .i64 0, .int .i64 0, .bool false, .slice none 0 0], .agg #[.int .i64 0, .int .i64 0, .int .i64 0, .int .i64 0, .int .i64 0, .int .i64 0, .int .i64 0, .int .i64 0, .int .i64 0, .int .i64 0, .int .i64 0, .int .i64 0, .int .i64 0, .int .i64 0, .int .i64 0, .int .i64 0, .slice none 0 0, .int .i64 0, .slice none 0 0, .slice none 0 0, .int .i64 0, .slice none 0 0, .int .i64 0, .int .i64 0, .bool false, .slice none 0 0]], []⟩ 8 (by kernel_rfl) (by kernel_rfl) (by kernel_rfl) (by kernel_rfl)) ?_
  intro W base args ds gs before hval0 hW hcnd _
  have hval : ∀ (j : Nat) t v, Tryz.f3.params[j]? = some t → args[j]? = some v → Value.okWide Tryz.prog W .any base t v := hval0
  have hW' := hW
  obtain ⟨p, q, hA0, hV, rfl, hfz, hnd⟩ := hW
  have hA : DataW.TrodAll enc Tryz.prog W 0 (fun _ => true) true Tryz.f3.params.toList args.toList ds p := hA0
  rw [Tryz.params3] at hA hval
  obtain ⟨v0, vs0, d0, ds0, p0, q0, hargs, rfl, rfl, h0, r0⟩ := trodAll_cons hA
  obtain ⟨v1, vs1, d1, ds1, p1, q1, rfl, rfl, rfl, h1, r1⟩ := trodAll_cons r0
  obtain ⟨v2, vs2, d2, ds2, p2, q2, rfl, rfl, rfl, h2, r2⟩ := trodAll_cons r1
  obtain ⟨rfl, rfl, rfl⟩ := trodAll_nil r2
  obtain rfl : args = #[v0, v1, v2] := by cases args; simp_all
  obtain ⟨rfl, rfl⟩ := trodVars_none hV
  have k0 := h0
  have lt0 : ∀ x ∈ p0, x.block < W.heap.size := by obtain ⟨m, hm⟩ := k0; exact DataW.trod_lt m _ _ _ hm
  obtain ⟨x0, f0, i0⟩ := repI_structM Tryz.underlying29 dLine (fun _ => by kernel_rfl) (hval 0 29 v0 rfl rfl) h0
  have k1 := h1
  have lt1 : ∀ x ∈ p1, x.block < W.heap.size := by obtain ⟨m, hm⟩ := k1; exact DataW.trod_lt m _ _ _ hm
  obtain ⟨x1, f1, i1⟩ := repI_structM Tryz.underlying42 dWorld (fun _ => by kernel_rfl) (hval 1 42 v1 rfl rfl) h1
  have k2 := h2
  have lt2 : ∀ x ∈ p2, x.block < W.heap.size := by obtain ⟨m, hm⟩ := k2; exact DataW.trod_lt m _ _ _ hm
  obtain ⟨x2, f2, i2⟩ := repI_structM Tryz.underlying42 dWorld (fun _ => by kernel_rfl) (hval 2 42 v2 rfl rfl) h2
  clear hA0 hval0
  refine (walk W x0 f0 v0 i0 x1 f1 v1 i1 x2 f2 v2 i2).mono fun e W' ⟨he, bel⟩ => ?_
  subst he
  exact ⟨_, rfl, _, _, _, [], _, [], hW', trodAll_mk1 (shut_bool Tryz.underlying4 _), (trodAll_cons_mk (Below.trod laidOut (by kernel_rfl) (of_decide_eq_true (by kernel_rfl)) k0 bel lt0) (trodAll_cons_mk (Below.trod laidOut (by kernel_rfl) (of_decide_eq_true (by kernel_rfl)) k1 bel lt1) (trodAll_cons_mk (Below.trod laidOut (by kernel_rfl) (of_decide_eq_true (by kernel_rfl)) k2 bel lt2) trodAll_mk0))), rfl, bel.frame _, fun h => by cases h⟩
theorem closed : joinedFacts Tryz.pinned.checked.prog 3 Tryz.f3 Rows.plantLinesSpec Rows.plantLinesRow = true :=
  (restOf Tryz.pinned.checked.prog 3 Tryz.f3 Rows.plantLinesSpec Rows.plantLinesRow make_eq mayEnter_eq liftsFinal_eq).2 (by kernel_rfl)
theorem over : Rows.plantLinesRow.holds Tryz.pinned (OpenSpec.ofChange Rows.plantLinesSpec) :=
  OpenClaim.holds_of_wide 3 Tryz.f3 rfl rfl rfl rfl rfl rfl rfl ⟨rfl, rfl, rfl, rfl, rfl⟩ rfl rfl rfl rfl rfl (by kernel_rfl) Tryz.func3 closed
    (of_decide_eq_true (by kernel_rfl)) (by unfold Func.isWrapper; first | (rw [if_pos (by decide +kernel)]; kernel_rfl) | (rw [if_neg (by decide +kernel)]; exact ⟨rfl, rfl⟩))
    (fun os started H enc _ => lifted os started H enc)
theorem proved : Rows.PlantLinesSaid := over
#print axioms proved
end Go.Proofs.YtdpnpdjnaimgaaaGreat.PlantLinesDone
