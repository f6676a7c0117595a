/- A helper text: contracts of functions of the program, and plain lemmas. -/
import Derived.Test.YtnoahgjfeablgaaGreatEvSix
import Derived.Test.YtnoahgjfeablgaaGreatChecked
import Derived.Test.YtnoahgjfeablgaaGreatMzGd4
set_option maxRecDepth 100000
set_option maxHeartbeats 0
set_option linter.unusedVariables false
set_option linter.unusedSimpArgs false
namespace Go.Proofs.Tryz.My
open Go Go.Ev
end Go.Proofs.Tryz.My
set_option maxRecDepth 100000
set_option maxHeartbeats 0
set_option linter.unusedVariables false
set_option linter.unusedSimpArgs false
namespace Go.Proofs.Tryz.My
open Go Go.Ev
abbrev gcs (thr noise a1 a2 b1 b2 l1 l2 h1 h2 : Int) : AV := .agg [i64 thr, i64 noise, i64 a1, i64 a2, i64 b1, i64 b2, i64 l1, i64 l2, i64 h1, i64 h2]
theorem rmeaA (thr noise a1 a2 b1 b2 l1 l2 h1 h2 : Int) (p : List Int) (c1 : PC Tryz.prog 105 [gcs thr noise a1 a2 b1 b2 l1 l2 h1 h2] (.bool false)) :
    PC Tryz.prog 111 [gcs thr noise a1 a2 b1 b2 l1 l2 h1 h2, ints p] (.tup [sp zS, u8 0, i64 8]) := by
  refine pc_of_bodyF hm Tryz.func111 (by kernel_rfl) ?_
  conv => whnf
  (repeat' (first | (refine ⟨_, by first | with_reducible exact c1, ?_⟩; (conv => whnf)) | (refine Or.inl ?_; (conv => whnf); refine ⟨_, by first | with_reducible exact c1, ?_⟩; (conv => whnf)) | (refine Or.inl ?_; (conv => whnf); refine ⟨false, ?_⟩; (conv => whnf); refine ⟨_, by first | with_reducible exact c1, ?_⟩; (conv => whnf)) | (refine ⟨by kernel_rfl, ?_⟩; (conv => whnf)) | (refine ⟨fun _ => ?_, fun h => absurd h (by first | decide | (simp; done) | fail)⟩; (conv => whnf)) | (refine ⟨fun h => absurd h (by first | decide | (simp; done) | fail), fun _ => ?_⟩; (conv => whnf)) | fail))
theorem rmeaB (thr noise a1 a2 b1 b2 l1 l2 h1 h2 : Int) (p : List Int) (c1 : PC Tryz.prog 105 [gcs thr noise a1 a2 b1 b2 l1 l2 h1 h2] (.bool true))
    (c2 : PC Tryz.prog 100 [ints p] (.bool false)) :
    PC Tryz.prog 111 [gcs thr noise a1 a2 b1 b2 l1 l2 h1 h2, ints p] (.tup [sp zS, u8 0, i64 50]) := by
  refine pc_of_bodyF hm Tryz.func111 (by kernel_rfl) ?_
  conv => whnf
  (repeat' (first | (refine ⟨_, by first | with_reducible exact c1 | with_reducible exact c2, ?_⟩; (conv => whnf)) | (refine Or.inl ?_; (conv => whnf); refine ⟨_, by first | with_reducible exact c1 | with_reducible exact c2, ?_⟩; (conv => whnf)) | (refine Or.inl ?_; (conv => whnf); refine ⟨false, ?_⟩; (conv => whnf); refine ⟨_, by first | with_reducible exact c1 | with_reducible exact c2, ?_⟩; (conv => whnf)) | (refine ⟨by kernel_rfl, ?_⟩; (conv => whnf)) | (refine ⟨fun _ => ?_, fun h => absurd h (by first | decide | (simp; done) | fail)⟩; (conv => whnf)) | (refine ⟨fun h => absurd h (by first | decide | (simp; done) | fail), fun _ => ?_⟩; (conv => whnf)) | fail))
theorem rmeaC (thr noise a1 a2 b1 b2 l1 l2 h1 h2 : Int) (p q : List Int) (x1 x2 : Int) (b : Bool) (c1 : PC Tryz.prog 105 [gcs thr noise a1 a2 b1 b2 l1 l2 h1 h2] (.bool true))
    (c2 : PC Tryz.prog 100 [ints p] (.bool true)) (c3 : PC Tryz.prog 131 [ints p, i64 thr, i64 noise] (.tup [.agg [i64 0, i64 0, i64 0, i64 0], i64 6])) (c4 : PC Tryz.prog 133 [ints p, i64 noise] (ints q))
    (c5 : PC Tryz.prog 132 [ints q, i64 thr] (.tup [.agg [i64 x1, i64 x2], .bool b])) :
    PC Tryz.prog 111 [gcs thr noise a1 a2 b1 b2 l1 l2 h1 h2, ints p] (.tup [.agg [i64 0, i64 1, i64 0, i64 1], u8 (if b then 3 else 2), i64 0]) := by
  refine pc_of_bodyF hm Tryz.func111 (by kernel_rfl) ?_
  conv => whnf
  (repeat' (first | (refine ⟨_, by first | with_reducible exact c1 | with_reducible exact c2 | with_reducible exact c3 | with_reducible exact c4 | with_reducible exact c5, ?_⟩; (conv => whnf)) | (refine Or.inl ?_; (conv => whnf); refine ⟨_, by first | with_reducible exact c1 | with_reducible exact c2 | with_reducible exact c3 | with_reducible exact c4 | with_reducible exact c5, ?_⟩; (conv => whnf)) | (refine Or.inl ?_; (conv => whnf); refine ⟨false, ?_⟩; (conv => whnf); refine ⟨_, by first | with_reducible exact c1 | with_reducible exact c2 | with_reducible exact c3 | with_reducible exact c4 | with_reducible exact c5, ?_⟩; (conv => whnf)) | (refine ⟨by kernel_rfl, ?_⟩; (conv => whnf)) | (refine ⟨fun _ => ?_, fun h => absurd h (by first | decide | (simp; done) | fail)⟩; (conv => whnf)) | (refine ⟨fun h => absurd h (by first | decide | (simp; done) | fail), fun _ => ?_⟩; (conv => whnf)) | fail))
  refine ⟨fun h => ?_, fun h => ?_⟩
  · subst h
    (conv => whnf)
    first | rfl | set_option pp.maxSteps 300 in trace_state
  · subst h
    (conv => whnf)
    first | rfl | set_option pp.maxSteps 300 in trace_state
theorem rmeaE (thr noise a1 a2 b1 b2 l1 l2 h1 h2 : Int) (p : List Int) (w m : SpT) (me : Int) (hm0 : me ≠ 0) (c1 : PC Tryz.prog 105 [gcs thr noise a1 a2 b1 b2 l1 l2 h1 h2] (.bool true))
    (c2 : PC Tryz.prog 100 [ints p] (.bool true)) (c3 : PC Tryz.prog 131 [ints p, i64 thr, i64 noise] (.tup [sp w, i64 0])) (c4 : PC Tryz.prog 134 [sp w, sp ((a1, a2), (b1, b2))] (.tup [sp m, i64 me])) :
    PC Tryz.prog 111 [gcs thr noise a1 a2 b1 b2 l1 l2 h1 h2, ints p] (.tup [sp zS, u8 0, i64 me]) := by
  refine pc_of_bodyF hm Tryz.func111 (by kernel_rfl) ?_
  conv => whnf
  (repeat' (first | (refine ⟨_, by first | with_reducible exact c1 | with_reducible exact c2 | with_reducible exact c3 | with_reducible exact c4, ?_⟩; (conv => whnf)) | (refine Or.inl ?_; (conv => whnf); refine ⟨_, by first | with_reducible exact c1 | with_reducible exact c2 | with_reducible exact c3 | with_reducible exact c4, ?_⟩; (conv => whnf)) | (refine Or.inl ?_; (conv => whnf); refine ⟨false, ?_⟩; (conv => whnf); refine ⟨_, by first | with_reducible exact c1 | with_reducible exact c2 | with_reducible exact c3 | with_reducible exact c4, ?_⟩; (conv => whnf)) | (refine ⟨by kernel_rfl, ?_⟩; (conv => whnf)) | (refine ⟨fun _ => ?_, fun h => absurd h (by first | decide | (simp; done) | fail)⟩; (conv => whnf)) | (refine ⟨fun h => absurd h (by first | decide | (simp; done) | fail), fun _ => ?_⟩; (conv => whnf)) | fail))
  refine ⟨fun _ => ?_, fun h => absurd (show me = 0 by simpa using h) hm0⟩
  (conv => whnf)
theorem rmeaF (thr noise a1 a2 b1 b2 l1 l2 h1 h2 : Int) (p : List Int) (w m : SpT) (v : Int) (c1 : PC Tryz.prog 105 [gcs thr noise a1 a2 b1 b2 l1 l2 h1 h2] (.bool true))
    (c2 : PC Tryz.prog 100 [ints p] (.bool true)) (c3 : PC Tryz.prog 131 [ints p, i64 thr, i64 noise] (.tup [sp w, i64 0])) (c4 : PC Tryz.prog 134 [sp w, sp ((a1, a2), (b1, b2))] (.tup [sp m, i64 0]))
    (c5 : PC Tryz.prog 135 [sp m, fr (l1, l2), fr (h1, h2)] (u8 v)) :
    PC Tryz.prog 111 [gcs thr noise a1 a2 b1 b2 l1 l2 h1 h2, ints p] (.tup [sp m, u8 v, i64 0]) := by
  refine pc_of_bodyF hm Tryz.func111 (by kernel_rfl) ?_
  conv => whnf
  (repeat' (first | (refine ⟨_, by first | with_reducible exact c1 | with_reducible exact c2 | with_reducible exact c3 | with_reducible exact c4 | with_reducible exact c5, ?_⟩; (conv => whnf)) | (refine Or.inl ?_; (conv => whnf); refine ⟨_, by first | with_reducible exact c1 | with_reducible exact c2 | with_reducible exact c3 | with_reducible exact c4 | with_reducible exact c5, ?_⟩; (conv => whnf)) | (refine Or.inl ?_; (conv => whnf); refine ⟨false, ?_⟩; (conv => whnf); refine ⟨_, by first | with_reducible exact c1 | with_reducible exact c2 | with_reducible exact c3 | with_reducible exact c4 | with_reducible exact c5, ?_⟩; (conv => whnf)) | (refine ⟨by kernel_rfl, ?_⟩; (conv => whnf)) | (refine ⟨fun _ => ?_, fun h => absurd h (by first | decide | (simp; done) | fail)⟩; (conv => whnf)) | (refine ⟨fun h => absurd h (by first | decide | (simp; done) | fail), fun _ => ?_⟩; (conv => whnf)) | fail))
theorem pc_r5Measure (g : GauT) (p : List Int) (hI : IG g) (hl : p.length < 2 ^ 40) : PC Tryz.prog 111 [gau g, ints p] (.tup [sp (meaF g p).1, u8 (meaF g p).2.1, i64 (meaF g p).2.2]) := by
  have c1 := pc_ValidGauge g hI
  have c2 := pc_ValidProfile5 p hl
  have c3 := pc_r5Width p (gThr g) (gNoi g) hl
  cases hg : gauB g
  · have e : meaF g p = (zS, 0, 8) := by unfold meaF; rw [hg]; rfl
    rw [e]
    rw [hg] at c1
    exact rmeaA (gThr g) (gNoi g) (gSc g).1.1 (gSc g).1.2 (gSc g).2.1 (gSc g).2.2 g.1.2.1 g.1.2.2 g.2.1 g.2.2 p c1
  rw [hg] at c1
  obtain ⟨⟨t1, t2⟩, ⟨n1, n2⟩, hsc, htol, _⟩ := gauB_known hg
  have e : meaF g p = meaG g (widE p (gThr g) (gNoi g)) (mulS (widE p (gThr g) (gNoi g)).1 (gSc g)) (if gThr g ≤ mxK p (p.length - 1) + gNoi g then 3 else 2) := by unfold meaF; rw [hg]; rfl
  rw [e]
  rcases wid_err (p := p) t1 t2 n1 n2 with ⟨hp, he⟩ | ⟨hp, he | he⟩
  · rw [hp] at c2
    rw [he]
    exact rmeaB (gThr g) (gNoi g) (gSc g).1.1 (gSc g).1.2 (gSc g).2.1 (gSc g).2.2 g.1.2.1 g.1.2.2 g.2.1 g.2.2 p c1 c2
  · rw [hp] at c2
    rw [he] at c3 ⊢
    have hlen := prof_len hp
    have c4 := pc_Moved p (gNoi g) (by omega) (prof_byte hp) (by omega) (by omega)
    have c5 := pc_Wide (movL p (gNoi g)) (gThr g) (movL_byte _ _) (by rw [movL_length]; omega) (by rw [movL_length]; omega) t1 t2
    rw [wide_max hp t1 t2] at c5
    have := rmeaC (gThr g) (gNoi g) (gSc g).1.1 (gSc g).1.2 (gSc g).2.1 (gSc g).2.2 g.1.2.1 g.1.2.2 g.2.1 g.2.2 p _ _ _ _ c1 c2 c3 c4 c5
    by_cases hM : gThr g ≤ mxK p (p.length - 1) + gNoi g
    · rw [decide_eq_true hM] at this
      rw [if_pos hM]
      exact this
    · rw [decide_eq_false hM] at this
      rw [if_neg hM]
      exact this
  · rw [hp] at c2
    rw [he] at c3
    have hw := wid_known he
    have c4 := pc_rMul4 (widE p (gThr g) (gNoi g)).1 (gSc g) (spanB_i hw.2.2.2.2.1) hI.2.2.1
    unfold meaG
    rw [if_neg (by rw [he]; decide), if_pos he]
    by_cases hm0 : (mulS (widE p (gThr g) (gNoi g)).1 (gSc g)).2 = 0
    · rw [if_pos hm0]
      rw [hm0] at c4
      have c5 := pc_Decided (mulS (widE p (gThr g) (gNoi g)).1 (gSc g)).1 g.1.2 g.2 (mulS_ok hm0).2.2 htol
      exact rmeaF (gThr g) (gNoi g) (gSc g).1.1 (gSc g).1.2 (gSc g).2.1 (gSc g).2.2 g.1.2.1 g.1.2.2 g.2.1 g.2.2 p _ _ _ c1 c2 c3 c4 c5
    · rw [if_neg hm0]
      exact rmeaE (gThr g) (gNoi g) (gSc g).1.1 (gSc g).1.2 (gSc g).2.1 (gSc g).2.2 g.1.2.1 g.1.2.2 g.2.1 g.2.2 p _ _ _ hm0 c1 c2 c3 c4
end Go.Proofs.Tryz.My
