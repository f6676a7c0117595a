/- Verdicts, gauges and lengths are as the reference says, for every gauge, profile and span. -/
import Derived.Test.YtblmmhmdnnnidaaEvSix
import Derived.Test.YtblmmhmdnnnidaaMyGd4
import Derived.Test.YtblmmhmdnnnidaaMySame
import Derived.Test.YtblmmhmdnnnidaaEvZ
import Derived.Test.YtblmmhmdnnnidaaEvZa
import Derived.Test.YtblmmhmdnnnidaaMyIniA
import Derived.Test.YtblmmhmdnnnidaaRows
import Derived.WalkKit
import Derived.ProofKit
import Derived.OpenShut
import Derived.ChangeOld
import Derived.Below
set_option maxRecDepth 100000
set_option maxHeartbeats 0
set_option linter.unusedVariables false
set_option linter.unusedSimpArgs false
namespace Go.Proofs.Try.My
open Go Go.Ev

abbrev gcs (thr noise a1 a2 b1 b2 l1 l2 h1 h2 : Int) : AV := .agg [i64 thr, i64 noise, i64 a1, i64 a2, i64 b1, i64 b2, i64 l1, i64 l2, i64 h1, i64 h2]
theorem rmeaA (thr noise a1 a2 b1 b2 l1 l2 h1 h2 : Int) (p : List Int) (c1 : PC Try.prog 108 [gcs thr noise a1 a2 b1 b2 l1 l2 h1 h2] (.bool false)) :
    PC Try.prog 38 [gcs thr noise a1 a2 b1 b2 l1 l2 h1 h2, ints p] (.tup [sp zS, u8 0, i64 8]) := by
  refine pc_of_bodyF hm Try.func38 (by kernel_rfl) ?_
  conv => whnf
  (repeat' (first | (refine ⟨_, by first | with_reducible exact c1, ?_⟩; (conv => whnf)) | (refine Or.inl ?_; (conv => whnf); refine ⟨_, by first | with_reducible exact c1, ?_⟩; (conv => whnf)) | (refine Or.inl ?_; (conv => whnf); refine ⟨false, ?_⟩; (conv => whnf); refine ⟨_, by first | with_reducible exact c1, ?_⟩; (conv => whnf)) | (refine ⟨by kernel_rfl, ?_⟩; (conv => whnf)) | (refine ⟨fun _ => ?_, fun h => absurd h (by first | decide | (simp; done) | fail)⟩; (conv => whnf)) | (refine ⟨fun h => absurd h (by first | decide | (simp; done) | fail), fun _ => ?_⟩; (conv => whnf)) | fail))
theorem rmeaB (thr noise a1 a2 b1 b2 l1 l2 h1 h2 : Int) (p : List Int) (c1 : PC Try.prog 108 [gcs thr noise a1 a2 b1 b2 l1 l2 h1 h2] (.bool true))
    (c2 : PC Try.prog 46 [ints p] (.bool false)) :
    PC Try.prog 38 [gcs thr noise a1 a2 b1 b2 l1 l2 h1 h2, ints p] (.tup [sp zS, u8 0, i64 50]) := by
  refine pc_of_bodyF hm Try.func38 (by kernel_rfl) ?_
  conv => whnf
  (repeat' (first | (refine ⟨_, by first | with_reducible exact c1 | with_reducible exact c2, ?_⟩; (conv => whnf)) | (refine Or.inl ?_; (conv => whnf); refine ⟨_, by first | with_reducible exact c1 | with_reducible exact c2, ?_⟩; (conv => whnf)) | (refine Or.inl ?_; (conv => whnf); refine ⟨false, ?_⟩; (conv => whnf); refine ⟨_, by first | with_reducible exact c1 | with_reducible exact c2, ?_⟩; (conv => whnf)) | (refine ⟨by kernel_rfl, ?_⟩; (conv => whnf)) | (refine ⟨fun _ => ?_, fun h => absurd h (by first | decide | (simp; done) | fail)⟩; (conv => whnf)) | (refine ⟨fun h => absurd h (by first | decide | (simp; done) | fail), fun _ => ?_⟩; (conv => whnf)) | fail))
theorem rmeaC (thr noise a1 a2 b1 b2 l1 l2 h1 h2 : Int) (p q : List Int) (x1 x2 : Int) (b : Bool) (c1 : PC Try.prog 108 [gcs thr noise a1 a2 b1 b2 l1 l2 h1 h2] (.bool true))
    (c2 : PC Try.prog 46 [ints p] (.bool true)) (c3 : PC Try.prog 109 [ints p, i64 thr, i64 noise] (.tup [.agg [i64 0, i64 0, i64 0, i64 0], i64 6])) (c4 : PC Try.prog 111 [ints p, i64 noise] (ints q))
    (c5 : PC Try.prog 110 [ints q, i64 thr] (.tup [.agg [i64 x1, i64 x2], .bool b])) :
    PC Try.prog 38 [gcs thr noise a1 a2 b1 b2 l1 l2 h1 h2, ints p] (.tup [.agg [i64 0, i64 1, i64 0, i64 1], u8 (if b then 3 else 2), i64 0]) := by
  refine pc_of_bodyF hm Try.func38 (by kernel_rfl) ?_
  conv => whnf
  (repeat' (first | (refine ⟨_, by first | with_reducible exact c1 | with_reducible exact c2 | with_reducible exact c3 | with_reducible exact c4 | with_reducible exact c5, ?_⟩; (conv => whnf)) | (refine Or.inl ?_; (conv => whnf); refine ⟨_, by first | with_reducible exact c1 | with_reducible exact c2 | with_reducible exact c3 | with_reducible exact c4 | with_reducible exact c5, ?_⟩; (conv => whnf)) | (refine Or.inl ?_; (conv => whnf); refine ⟨false, ?_⟩; (conv => whnf); refine ⟨_, by first | with_reducible exact c1 | with_reducible exact c2 | with_reducible exact c3 | with_reducible exact c4 | with_reducible exact c5, ?_⟩; (conv => whnf)) | (refine ⟨by kernel_rfl, ?_⟩; (conv => whnf)) | (refine ⟨fun _ => ?_, fun h => absurd h (by first | decide | (simp; done) | fail)⟩; (conv => whnf)) | (refine ⟨fun h => absurd h (by first | decide | (simp; done) | fail), fun _ => ?_⟩; (conv => whnf)) | fail))
  refine ⟨fun h => ?_, fun h => ?_⟩
  · subst h
    (conv => whnf)
    first | rfl | set_option pp.maxSteps 300 in trace_state
  · subst h
    (conv => whnf)
    first | rfl | set_option pp.maxSteps 300 in trace_state
theorem rmeaE (thr noise a1 a2 b1 b2 l1 l2 h1 h2 : Int) (p : List Int) (w m : SpT) (me : Int) (hm0 : me ≠ 0) (c1 : PC Try.prog 108 [gcs thr noise a1 a2 b1 b2 l1 l2 h1 h2] (.bool true))
    (c2 : PC Try.prog 46 [ints p] (.bool true)) (c3 : PC Try.prog 109 [ints p, i64 thr, i64 noise] (.tup [sp w, i64 0])) (c4 : PC Try.prog 101 [sp w, sp ((a1, a2), (b1, b2))] (.tup [sp m, i64 me])) :
    PC Try.prog 38 [gcs thr noise a1 a2 b1 b2 l1 l2 h1 h2, ints p] (.tup [sp zS, u8 0, i64 me]) := by
  refine pc_of_bodyF hm Try.func38 (by kernel_rfl) ?_
  conv => whnf
  (repeat' (first | (refine ⟨_, by first | with_reducible exact c1 | with_reducible exact c2 | with_reducible exact c3 | with_reducible exact c4, ?_⟩; (conv => whnf)) | (refine Or.inl ?_; (conv => whnf); refine ⟨_, by first | with_reducible exact c1 | with_reducible exact c2 | with_reducible exact c3 | with_reducible exact c4, ?_⟩; (conv => whnf)) | (refine Or.inl ?_; (conv => whnf); refine ⟨false, ?_⟩; (conv => whnf); refine ⟨_, by first | with_reducible exact c1 | with_reducible exact c2 | with_reducible exact c3 | with_reducible exact c4, ?_⟩; (conv => whnf)) | (refine ⟨by kernel_rfl, ?_⟩; (conv => whnf)) | (refine ⟨fun _ => ?_, fun h => absurd h (by first | decide | (simp; done) | fail)⟩; (conv => whnf)) | (refine ⟨fun h => absurd h (by first | decide | (simp; done) | fail), fun _ => ?_⟩; (conv => whnf)) | fail))
  refine ⟨fun _ => ?_, fun h => absurd (show me = 0 by simpa using h) hm0⟩
  (conv => whnf)
theorem rmeaF (thr noise a1 a2 b1 b2 l1 l2 h1 h2 : Int) (p : List Int) (w m : SpT) (v : Int) (c1 : PC Try.prog 108 [gcs thr noise a1 a2 b1 b2 l1 l2 h1 h2] (.bool true))
    (c2 : PC Try.prog 46 [ints p] (.bool true)) (c3 : PC Try.prog 109 [ints p, i64 thr, i64 noise] (.tup [sp w, i64 0])) (c4 : PC Try.prog 101 [sp w, sp ((a1, a2), (b1, b2))] (.tup [sp m, i64 0]))
    (c5 : PC Try.prog 105 [sp m, fr (l1, l2), fr (h1, h2)] (u8 v)) :
    PC Try.prog 38 [gcs thr noise a1 a2 b1 b2 l1 l2 h1 h2, ints p] (.tup [sp m, u8 v, i64 0]) := by
  refine pc_of_bodyF hm Try.func38 (by kernel_rfl) ?_
  conv => whnf
  (repeat' (first | (refine ⟨_, by first | with_reducible exact c1 | with_reducible exact c2 | with_reducible exact c3 | with_reducible exact c4 | with_reducible exact c5, ?_⟩; (conv => whnf)) | (refine Or.inl ?_; (conv => whnf); refine ⟨_, by first | with_reducible exact c1 | with_reducible exact c2 | with_reducible exact c3 | with_reducible exact c4 | with_reducible exact c5, ?_⟩; (conv => whnf)) | (refine Or.inl ?_; (conv => whnf); refine ⟨false, ?_⟩; (conv => whnf); refine ⟨_, by first | with_reducible exact c1 | with_reducible exact c2 | with_reducible exact c3 | with_reducible exact c4 | with_reducible exact c5, ?_⟩; (conv => whnf)) | (refine ⟨by kernel_rfl, ?_⟩; (conv => whnf)) | (refine ⟨fun _ => ?_, fun h => absurd h (by first | decide | (simp; done) | fail)⟩; (conv => whnf)) | (refine ⟨fun h => absurd h (by first | decide | (simp; done) | fail), fun _ => ?_⟩; (conv => whnf)) | fail))
theorem pc_r5Measure (g : GauT) (p : List Int) (hI : IG g) (hl : p.length < 2 ^ 40) : PC Try.prog 38 [gau g, ints p] (.tup [sp (meaF g p).1, u8 (meaF g p).2.1, i64 (meaF g p).2.2]) := by
  have c1 := pc_ValidGauge g hI
  have c2 := pc_ValidProfile5 p hl
  have c3 := pc_r5Width p (gThr g) (gNoi g) hl
  cases hg : gauB g
  · have e : meaF g p = (zS, 0, 8) := by unfold meaF; rw [hg]; rfl
    rw [e]
    rw [hg] at c1
    exact rmeaA (gThr g) (gNoi g) (gSc g).1.1 (gSc g).1.2 (gSc g).2.1 (gSc g).2.2 g.1.2.1 g.1.2.2 g.2.1 g.2.2 p c1
  rw [hg] at c1
  obtain ⟨⟨t1, t2⟩, ⟨n1, n2⟩, hsc, htol, _⟩ := gauB_known hg
  have e : meaF g p = meaG g (widE p (gThr g) (gNoi g)) (mulS (widE p (gThr g) (gNoi g)).1 (gSc g)) (if gThr g ≤ mxK p (p.length - 1) + gNoi g then 3 else 2) := by unfold meaF; rw [hg]; rfl
  rw [e]
  rcases wid_err (p := p) t1 t2 n1 n2 with ⟨hp, he⟩ | ⟨hp, he | he⟩
  · rw [hp] at c2
    rw [he]
    exact rmeaB (gThr g) (gNoi g) (gSc g).1.1 (gSc g).1.2 (gSc g).2.1 (gSc g).2.2 g.1.2.1 g.1.2.2 g.2.1 g.2.2 p c1 c2
  · rw [hp] at c2
    rw [he] at c3 ⊢
    have hlen := prof_len hp
    have c4 := pc_Moved p (gNoi g) (by omega) (prof_byte hp) (by omega) (by omega)
    have c5 := pc_Wide (movL p (gNoi g)) (gThr g) (movL_byte _ _) (by rw [movL_length]; omega) (by rw [movL_length]; omega) t1 t2
    rw [wide_max hp t1 t2] at c5
    have := rmeaC (gThr g) (gNoi g) (gSc g).1.1 (gSc g).1.2 (gSc g).2.1 (gSc g).2.2 g.1.2.1 g.1.2.2 g.2.1 g.2.2 p _ _ _ _ c1 c2 c3 c4 c5
    by_cases hM : gThr g ≤ mxK p (p.length - 1) + gNoi g
    · rw [decide_eq_true hM] at this
      rw [if_pos hM]
      exact this
    · rw [decide_eq_false hM] at this
      rw [if_neg hM]
      exact this
  · rw [hp] at c2
    rw [he] at c3
    have hw := wid_known he
    have c4 := pc_rMul4 (widE p (gThr g) (gNoi g)).1 (gSc g) (spanB_i hw.2.2.2.2.1) hI.2.2.1
    unfold meaG
    rw [if_neg (by rw [he]; decide), if_pos he]
    by_cases hm0 : (mulS (widE p (gThr g) (gNoi g)).1 (gSc g)).2 = 0
    · rw [if_pos hm0]
      rw [hm0] at c4
      have c5 := pc_Decided (mulS (widE p (gThr g) (gNoi g)).1 (gSc g)).1 g.1.2 g.2 (mulS_ok hm0).2.2 htol
      exact rmeaF (gThr g) (gNoi g) (gSc g).1.1 (gSc g).1.2 (gSc g).2.1 (gSc g).2.2 g.1.2.1 g.1.2.2 g.2.1 g.2.2 p _ _ _ c1 c2 c3 c4 c5
    · rw [if_neg hm0]
      exact rmeaE (gThr g) (gNoi g) (gSc g).1.1 (gSc g).1.2 (gSc g).2.1 (gSc g).2.2 g.1.2.1 g.1.2.2 g.2.1 g.2.2 p _ _ _ hm0 c1 c2 c3 c4
end Go.Proofs.Try.My
set_option maxRecDepth 100000
set_option maxHeartbeats 0
set_option linter.unusedVariables false
set_option linter.unusedSimpArgs false
namespace Go.Proofs.Try.My
open Go Go.Ev

theorem gdLong (thr noise a1 a2 b1 b2 l1 l2 h1 h2 : Int) (p : List Int) (s : SpT) (hl : ¬ p.length ≤ 100) : PC Try.prog 6 [gcs thr noise a1 a2 b1 b2 l1 l2 h1 h2, ints p, sp s] (.bool true) := by
  refine pc_of_bodyF hm Try.func6 (by kernel_rfl) ?_
  conv => whnf
  refine ⟨fun h => ?_, fun h => absurd (of_decide_eq_false h) (by omega)⟩
  (conv => whnf)
theorem gdWalk (thr noise a1 a2 b1 b2 l1 l2 h1 h2 v e u f c : Int) (p : List Int) (s X : SpT) (hl : p.length ≤ 100)
    (k1 : PC Try.prog 35 [sp s, fr (l1, l2), fr (h1, h2)] (.tup [u8 v, i64 e])) (k2 : PC Try.prog 36 [sp s, fr (l1, l2), fr (h1, h2)] (.tup [u8 v, i64 e]))
    (k3 : PC Try.prog 37 [gcs thr noise a1 a2 b1 b2 l1 l2 h1 h2, ints p] (.tup [sp X, u8 u, i64 f])) (k4 : PC Try.prog 38 [gcs thr noise a1 a2 b1 b2 l1 l2 h1 h2, ints p] (.tup [sp X, u8 u, i64 f]))
    (k5 : PC Try.prog 39 [gcs thr noise a1 a2 b1 b2 l1 l2 h1 h2] (i64 c)) (k6 : PC Try.prog 40 [gcs thr noise a1 a2 b1 b2 l1 l2 h1 h2] (i64 c)) (k7 : PC Try.prog 41 [ints p, ints p] (.bool true)) :
    PC Try.prog 6 [gcs thr noise a1 a2 b1 b2 l1 l2 h1 h2, ints p, sp s] (.bool true) := by
  refine pc_of_bodyF hm Try.func6 (by kernel_rfl) ?_
  conv => whnf
  refine ⟨fun h => absurd (of_decide_eq_true h) (by omega), fun h => ?_⟩
  (conv => whnf)
  refine ⟨⟨Int, 1, 0, eI, []⟩, p, rfl, ⟨rfl, rfl⟩, rfl, ?_, ?_, fun y _ => ⟨rfl, rfl, rfl⟩, ?_⟩
  · show (0 + p.length) * 8 ≤ _; omega
  · show 0 + p.length ≤ _; omega
  (conv => whnf)
  (repeat' (first | (refine ⟨_, by first | with_reducible exact k1 | with_reducible exact k2, ?_⟩; (conv => whnf)) | (refine Or.inl ?_; (conv => whnf); refine ⟨_, by first | with_reducible exact k1 | with_reducible exact k2, ?_⟩; (conv => whnf)) | (refine Or.inl ?_; (conv => whnf); refine ⟨false, ?_⟩; (conv => whnf); refine ⟨_, by first | with_reducible exact k1 | with_reducible exact k2, ?_⟩; (conv => whnf)) | (refine ⟨by kernel_rfl, ?_⟩; (conv => whnf)) | (refine ⟨fun _ => ?_, fun h => absurd h (by first | decide | (simp; done) | fail)⟩; (conv => whnf)) | (refine ⟨fun h => absurd h (by first | decide | (simp; done) | fail), fun _ => ?_⟩; (conv => whnf)) | fail))
  (first | (refine Or.inl ?_; (conv => whnf); refine ⟨true, ?_⟩) | refine ⟨true, ?_⟩)
  (conv => whnf)
  (repeat' (first | (refine ⟨_, by first | exact k3 | exact k4 | exact k5 | exact k6 | exact k7, ?_⟩; (conv => whnf)) | (refine Or.inl ?_; (conv => whnf); refine ⟨_, by first | exact k3 | exact k4 | exact k5 | exact k6 | exact k7, ?_⟩; (conv => whnf)) | (refine Or.inl ?_; (conv => whnf); refine ⟨false, ?_⟩; (conv => whnf); refine ⟨_, by first | exact k3 | exact k4 | exact k5 | exact k6 | exact k7, ?_⟩; (conv => whnf)) | (refine ⟨by kernel_rfl, ?_⟩; (conv => whnf)) | (refine ⟨fun _ => ?_, fun h => absurd h (by first | decide | (simp; done) | fail)⟩; (conv => whnf)) | (refine ⟨fun h => absurd h (by first | decide | (simp; done) | fail), fun _ => ?_⟩; (conv => whnf)) | fail))
theorem pc_GaugeDecides (g : GauT) (p : List Int) (s : SpT) (hI : IG g) (hs : I4 s) : PC Try.prog 6 [gau g, ints p, sp s] (.bool true) := by
  by_cases hl : p.length ≤ 100
  rotate_left
  · exact gdLong (gThr g) (gNoi g) (gSc g).1.1 (gSc g).1.2 (gSc g).2.1 (gSc g).2.2 g.1.2.1 g.1.2.2 g.2.1 g.2.2 p s hl
  have hl2 : p.length < 2 ^ 40 := by omega
  exact gdWalk (gThr g) (gNoi g) (gSc g).1.1 (gSc g).1.2 (gSc g).2.1 (gSc g).2.2 g.1.2.1 g.1.2.2 g.2.1 g.2.2 _ _ _ _ _ p s _ hl (pc_Decide s g.1.2 g.2) (pc_r5Decide s g.1.2 g.2 hs hI.2.2.2) (pc_Measure g p hl2) (pc_r5Measure g p hI hl2) (pc_CheckGauge g) (pc_rCheckGauge g hI) (pc_Same p hl2)
end Go.Proofs.Try.My
set_option maxRecDepth 100000
set_option maxHeartbeats 0
set_option linter.unusedVariables false
set_option linter.unusedSimpArgs false
namespace Go.Proofs.Ytblmmhmdnnnidaa.GaugeDecidesDone
open Go Go.Ev Go.Proofs.Try.My
open Go.ChangeShapes Go.WideShapes Go.ChangeAt Go.RowKit

theorem own : ownKnob Try.prog.godebug = none := by kernel_rfl
theorem laidOut : laidOutB Try.prog = true := by kernel_rfl

theorem dFrac : Dec Try.prog 29 eF (fun y : Int × Int => I64 y.1 ∧ I64 y.2) :=
  dec_two Try.underlying29 rfl rfl rfl (by kernel_rfl) (by kernel_rfl) (dec_int Try.underlying3 (by kernel_rfl)) (dec_int Try.underlying3 (by kernel_rfl)) (fun _ => by kernel_rfl)
theorem dSpan : Dec Try.prog 31 eS (fun y : SpT => (I64 y.1.1 ∧ I64 y.1.2) ∧ (I64 y.2.1 ∧ I64 y.2.2)) :=
  dec_two Try.underlying31 rfl rfl rfl (by kernel_rfl) (by kernel_rfl) dFrac dFrac (fun _ => by kernel_rfl)
theorem dGauge : Dec Try.prog 70 eG (fun y : GauT => ((((I64 y.1.1.1.1 ∧ I64 y.1.1.1.2) ∧ ((I64 y.1.1.2.1.1 ∧ I64 y.1.1.2.1.2) ∧ (I64 y.1.1.2.2.1 ∧ I64 y.1.1.2.2.2))) ∧ (I64 y.1.2.1 ∧ I64 y.1.2.2)) ∧ (I64 y.2.1 ∧ I64 y.2.2))) :=
  dec_all Try.underlying70 rfl (by kernel_rfl)
    (dec_more (k := 4) Try.underlying70 rfl (by kernel_rfl) (dec_more (k := 3) Try.underlying70 rfl (by kernel_rfl) (dec_more (k := 2) Try.underlying70 rfl (by kernel_rfl) (dec_more (k := 1) Try.underlying70 rfl (by kernel_rfl)
      (dec_one Try.underlying70 rfl (by kernel_rfl) (dec_int Try.underlying3 (by kernel_rfl))) (dec_int Try.underlying3 (by kernel_rfl)) (fun _ => by kernel_rfl)) dSpan (fun _ => by kernel_rfl)) dFrac (fun _ => by kernel_rfl)) dFrac (fun _ => by kernel_rfl))
theorem walk (w : World) (g : GauT) (f0 : ((((I64 g.1.1.1.1 ∧ I64 g.1.1.1.2) ∧ ((I64 g.1.1.2.1.1 ∧ I64 g.1.1.2.1.2) ∧ (I64 g.1.1.2.2.1 ∧ I64 g.1.1.2.2.2))) ∧ (I64 g.1.2.1 ∧ I64 g.1.2.2)) ∧ (I64 g.2.1 ∧ I64 g.2.2))) (v0 : Value) (h0 : RepI (fun b => b < w.heap.size) w (.agg (eG g)) v0) (p : List Int) (v1 : Value) (h1 : RepI (fun b => b < w.heap.size) w (ints p) v1) (s : SpT) (f2 : (I64 s.1.1 ∧ I64 s.1.2) ∧ (I64 s.2.1 ∧ I64 s.2.2)) (v2 : Value) (h2 : RepI (fun b => b < w.heap.size) w (.agg (eS s)) v2) :
    Calls Try.prog 6 #[v0, v1, v2] w fun e w' => e = .returned (.bool true) ∧ Below w.heap.size w w' := by
  refine PC.callsTrue (pc_GaugeDecides g  p s  ⟨f0.1.1.1.1, f0.1.1.1.2, ⟨f0.1.1.2.1.1, f0.1.1.2.1.2, f0.1.1.2.2.1, f0.1.1.2.2.2⟩, f0.1.2.1, f0.1.2.2, f0.2.1, f0.2.2⟩ ⟨f2.1.1, f2.1.2, f2.2.1, f2.2.2⟩) Try.func6 (by kernel_rfl) rfl rfl fun i hi => ?_
  match i, hi with
  | 0, _ => exact h0
  | 1, _ => exact h1
  | 2, _ => exact h2

theorem lifted (os : Os) (started : os.Started) (H : Type) (enc : TypeId × Value → H) :
    ReturnsInHanded {} Try.checked os 6 .any (Rows.gaugeDecidesSpec.pre6 enc Try.prog Try.f6 Rows.gaugeDecidesRow.domain false) (Rows.gaugeDecidesSpec.post enc Try.prog Try.f6 false true false false) := by
  refine returnsInHanded_of_change (C := Try.checked) own started (by kernel_rfl) Try.func6
    (ChangeSpec.witness6 (enc := enc) (C := Try.checked) false ⟨#[], #[.agg #[.int .i64 0, .int .i64 0, .int .i64 0, .int .i64 0, .int .i64 0, .int .i64 0, .int .i64 0, .int .i64 0, .int .i64 0, .int .i64 0], .slice none 0 0, .agg #[.int .i64 0, .int .i64 0, .int .i64 0, .int .i64 0]], []⟩ 8 (by kernel_rfl) (by kernel_rfl) (by kernel_rfl) (by kernel_rfl)) ?_
  intro W base args ds gs before hval0 hW hcnd _
  have hval : ∀ (j : Nat) t v, Try.f6.params[j]? = some t → args[j]? = some v → Value.okWide Try.prog W .any base t v := hval0
  have hW' := hW
  obtain ⟨p, q, hA0, hV, rfl, hfz, hnd⟩ := hW
  have hA : DataW.TrodAll enc Try.prog W 0 (fun _ => true) true Try.f6.params.toList args.toList ds p := hA0
  rw [Try.params6] at hA hval
  obtain ⟨v0, vs0, d0, ds0, p0, q0, hargs, rfl, rfl, h0, r0⟩ := trodAll_cons hA
  obtain ⟨v1, vs1, d1, ds1, p1, q1, rfl, rfl, rfl, h1, r1⟩ := trodAll_cons r0
  obtain ⟨v2, vs2, d2, ds2, p2, q2, rfl, rfl, rfl, h2, r2⟩ := trodAll_cons r1
  obtain ⟨rfl, rfl, rfl⟩ := trodAll_nil r2
  obtain rfl : args = #[v0, v1, v2] := by cases args; simp_all
  obtain ⟨rfl, rfl⟩ := trodVars_none hV
  have k0 := h0
  have lt0 : ∀ x ∈ p0, x.block < W.heap.size := by obtain ⟨m, hm⟩ := k0; exact DataW.trod_lt m _ _ _ hm
  obtain ⟨a0, fa0, ra0⟩ := repI_struct Try.underlying70 dGauge (fun _ => by kernel_rfl) (hval 0 70 v0 rfl rfl) h0
  obtain ⟨a1, len1, cap1, rfl⟩ := okWide_slice Try.underlying58 (hval 1 58 v1 rfl rfl)
  have k1 := h1
  have lt1 : ∀ x ∈ p1, x.block < W.heap.size := by obtain ⟨m, hm⟩ := k1; exact DataW.trod_lt m _ _ _ hm
  obtain ⟨l1, i1, _, n1⟩ : ∃ l : List Int, RepI (fun b => b < W.heap.size) W (ints l) (.slice a1 len1 cap1) ∧ (∀ n ∈ l, I64 n) ∧ l.length ≤ maxLen := by
    obtain ⟨fuel, hf⟩ := h1
    exact repI_ints Try.underlying58 Try.underlying3 (by kernel_rfl) (hval 1 58 _ rfl rfl) hf
  have k2 := h2
  have lt2 : ∀ x ∈ p2, x.block < W.heap.size := by obtain ⟨m, hm⟩ := k2; exact DataW.trod_lt m _ _ _ hm
  obtain ⟨a2, fa2, ra2⟩ := repI_struct Try.underlying31 dSpan (fun _ => by kernel_rfl) (hval 2 31 v2 rfl rfl) h2
  clear hA0 hval0
  refine (walk W a0 fa0 _ (ra0 _ _) l1 _ i1 a2 fa2 _ (ra2 _ _)).mono fun e W' ⟨he, bel⟩ => ?_
  subst he
  exact ⟨_, rfl, _, _, _, [], _, [], hW', trodAll_mk1 (shut_bool Try.underlying4 _), (trodAll_cons_mk (Below.trod laidOut (by kernel_rfl) (of_decide_eq_true (by kernel_rfl)) k0 bel lt0) (trodAll_cons_mk (Below.trod laidOut (by kernel_rfl) (of_decide_eq_true (by kernel_rfl)) k1 bel lt1) (trodAll_cons_mk (Below.trod laidOut (by kernel_rfl) (of_decide_eq_true (by kernel_rfl)) k2 bel lt2) trodAll_mk0))), rfl, bel.frame _, fun h => by cases h⟩

theorem closed : joinedFacts Try.pinned.checked.prog 6 Try.f6 Rows.gaugeDecidesSpec Rows.gaugeDecidesRow = true :=
  (restOf Try.pinned.checked.prog 6 Try.f6 Rows.gaugeDecidesSpec Rows.gaugeDecidesRow make_eq mayEnter_eq liftsFinal_eq).2 (by kernel_rfl)
theorem over : Rows.gaugeDecidesRow.holds Try.pinned (OpenSpec.ofChange Rows.gaugeDecidesSpec) :=
  OpenClaim.holds_of_wide 6 Try.f6 rfl rfl rfl rfl rfl rfl rfl ⟨rfl, rfl, rfl, rfl, rfl⟩ rfl rfl rfl rfl rfl (by kernel_rfl) Try.func6 closed
    (of_decide_eq_true (by kernel_rfl)) (by unfold Func.isWrapper; first | (rw [if_pos (by decide +kernel)]; kernel_rfl) | (rw [if_neg (by decide +kernel)]; exact ⟨rfl, rfl⟩))
    (fun os started H enc _ => lifted os started H enc)

theorem proved : Rows.GaugeDecidesSaid := over
#print axioms proved
end Go.Proofs.Ytblmmhmdnnnidaa.GaugeDecidesDone
