/- A helper text: contracts of functions of the program, and plain lemmas. -/
import Derived.Test.YtblmmhmdnnnidaaMyTmA
set_option maxRecDepth 100000
set_option maxHeartbeats 0
set_option linter.unusedVariables false
set_option linter.unusedSimpArgs false
namespace Go.Proofs.Try.My
open Go Go.Ev

def topU : PSigma fun P : List SpT → List Int → List Int → Int → Int → Int → Int → Int → Int → Int → Int → Int → Int → List Int → Prop => ∀ (l : List SpT) (p moves : List Int) (f c d thr noise z S1 S2 S3 S4 : Int), byteL p → p.length ≤ 64 → 0 ≤ noise → noise ≤ 64 → (∀ n ∈ moves, (Lit.int .i16 n).wf = true) → (∀ Q : List Int, Q = (List.range p.length).map (valQ p moves noise) → P l p moves f c d thr noise z S1 S2 S3 S4 Q) → topV.1 l p moves f c d thr noise z S1 S2 S3 S4 := ⟨_, fun l p moves f c d thr noise z S1 S2 S3 S4 hb hl n1 n2 hw hP => by
  have wn : IntKind.i64.wrap (IntKind.i64.wrap (4 * noise) + 1) = 4 * noise + 1 := by rw [w64 (4 * noise) (by omega) (by omega), w64 _ (by omega) (by omega)]
  conv => whnf
  refine Or.inr ⟨Nat, [129], [], [(24, ⟨Int, 3, 1, 0, eI⟩)], fun i => [i64 i], fun _ => [], fun i => [.vec 3 1 0 eI ((List.range i).map (valQ p moves noise))], fun i => p.length - i, fun i => i ≤ p.length, ?_⟩
  (conv => whnf)
  refine ⟨⟨0, ?_⟩, ?_⟩
  · (conv => whnf)
    exact ⟨⟨Nat.zero_le _, rfl, rfl, rfl⟩, by kernel_rfl, by kernel_rfl⟩
  · intro k hk
    (conv => whnf)
    refine ⟨fun h => ?_, fun h => ?_⟩
    · have h := of_decide_eq_true h
      have hv := hb k (by omega)
      have bq := byQ_bounds moves n1 k
      (conv => whnf)
      refine ⟨fun h2 => ?_, fun h2 => ?_⟩
      · have h2 := of_decide_eq_true h2
        have hg := get_i16 hw (k := k) (by omega)
        have eb : byQ moves noise k = Int.tmod (moves.getD k 0) (4 * noise + 1) := by unfold byQ; rw [if_pos (by omega)]
        (conv => whnf)
        (repeat' (first | (refine ⟨by kernel_rfl, ?_⟩; (conv => whnf)) | (refine And.intro (a := _ ∧ _) ⟨by omega, by omega⟩ ?_; (conv => whnf))))
        refine ⟨fun h0 => by rw [wn] at h0; omega, ?_⟩
        (conv => whnf)
        (repeat' (first | (refine ⟨by kernel_rfl, ?_⟩; (conv => whnf)) | (refine And.intro (a := _ ∧ _) ⟨by omega, by omega⟩ ?_; (conv => whnf))))
        have e4 : IntKind.i64.wrap (4 * p.getD k 0) = 4 * p.getD k 0 := w64 _ (by omega) (by omega)
        refine ⟨⟨Int, 1, 0, eI, (List.range k).map (valQ p moves noise)⟩, [valQ p moves noise k], rfl, rfl, ⟨rfl, ?_⟩, ?_, ?_, fun y _ => ⟨rfl, rfl, rfl⟩, ?_⟩
        · show [[i64 (clipQ (IntKind.i64.wrap (IntKind.i64.wrap (4 * p.getD k 0) + Int.tmod (IntKind.i64.wrap (moves.getD k 0)) (IntKind.i64.wrap (IntKind.i64.wrap (4 * noise) + 1)))))]] = [[i64 (clipQ (4 * p.getD k 0 + byQ moves noise k))]]
          rw [e4, wn, w64 (moves.getD k 0) (by omega) (by omega), ← eb, w64 _ (by omega) (by omega)]
        · show (((List.range k).map _).length + 1) * 8 ≤ _; simp; omega
        · show ((List.range k).map _).length + 1 ≤ _; simp; omega
        (conv => whnf)
        (repeat' (first | (refine ⟨by kernel_rfl, ?_⟩; (conv => whnf)) | (refine And.intro (a := _ ∧ _) ⟨by omega, by omega⟩ ?_; (conv => whnf))))
        refine ⟨k + 1, ?_⟩
        (conv => whnf)
        refine ⟨⟨⟨Nat.sub_lt_sub_left (by omega) (Nat.lt_succ_self k), by omega⟩, ?_, rfl, ?_⟩, by kernel_rfl, by kernel_rfl⟩
        · rw [w64 _ (by omega) (by omega)]; rfl
        · show [Row.vec _ 1 0 eI ((List.range k).map (valQ p moves noise) ++ [valQ p moves noise k])] = [Row.vec _ 1 0 eI ((List.range (k + 1)).map (valQ p moves noise))]
          rw [List.range_succ, List.map_append]; rfl
      · have h2 := of_decide_eq_false h2
        have eb : byQ moves noise k = 0 := by unfold byQ; rw [if_neg (by omega)]
        (conv => whnf)
        (repeat' (first | (refine ⟨by kernel_rfl, ?_⟩; (conv => whnf)) | (refine And.intro (a := _ ∧ _) ⟨by omega, by omega⟩ ?_; (conv => whnf))))
        have e4 : IntKind.i64.wrap (4 * p.getD k 0) = 4 * p.getD k 0 := w64 _ (by omega) (by omega)
        refine ⟨⟨Int, 1, 0, eI, (List.range k).map (valQ p moves noise)⟩, [valQ p moves noise k], rfl, rfl, ⟨rfl, ?_⟩, ?_, ?_, fun y _ => ⟨rfl, rfl, rfl⟩, ?_⟩
        · show [[i64 (clipQ (IntKind.i64.wrap (IntKind.i64.wrap (4 * p.getD k 0) + 0)))]] = [[i64 (clipQ (4 * p.getD k 0 + byQ moves noise k))]]
          rw [e4, eb, w64 _ (by omega) (by omega)]
        · show (((List.range k).map _).length + 1) * 8 ≤ _; simp; omega
        · show ((List.range k).map _).length + 1 ≤ _; simp; omega
        (conv => whnf)
        (repeat' (first | (refine ⟨by kernel_rfl, ?_⟩; (conv => whnf)) | (refine And.intro (a := _ ∧ _) ⟨by omega, by omega⟩ ?_; (conv => whnf))))
        refine ⟨k + 1, ?_⟩
        (conv => whnf)
        refine ⟨⟨⟨Nat.sub_lt_sub_left (by omega) (Nat.lt_succ_self k), by omega⟩, ?_, rfl, ?_⟩, by kernel_rfl, by kernel_rfl⟩
        · rw [w64 _ (by omega) (by omega)]; rfl
        · show [Row.vec _ 1 0 eI ((List.range k).map (valQ p moves noise) ++ [valQ p moves noise k])] = [Row.vec _ 1 0 eI ((List.range (k + 1)).map (valQ p moves noise))]
          rw [List.range_succ, List.map_append]; rfl
    · have h := of_decide_eq_false h
      have e4 : k = p.length := by omega
      subst e4
      (conv => whnf)
      generalize hQ : (List.range p.length).map (valQ p moves noise) = Q
      exact hP Q hQ.symm⟩
end Go.Proofs.Try.My
set_option maxRecDepth 100000
set_option maxHeartbeats 0
set_option linter.unusedVariables false
set_option linter.unusedSimpArgs false
namespace Go.Proofs.Try.My
open Go Go.Ev

def topB : PSigma fun P : List SpT → List Int → List Int → Int → Int → Int → Int → Int → Int → Int → Int → Int → Int → List Int → Prop => ∀ (l : List SpT) (p moves : List Int) (f c d thr noise z S1 S2 S3 S4 : Int) (Q : List Int), Q.length ≤ 64 → (Unit → P l p moves f c d thr noise z S1 S2 S3 S4 Q) → topU.1 l p moves f c d thr noise z S1 S2 S3 S4 Q := ⟨_, fun l p moves f c d thr noise z S1 S2 S3 S4 Q hl hP => by
  conv => whnf
  refine Or.inr ⟨Nat, [160], [], [(25, ⟨Int, 3, 1, 0, eI⟩)], fun i => [i64 i], fun _ => [], fun i => [.vec 3 1 0 eI ((List.range i).map (fun i => Q.getD (Q.length - 1 - i) 0))], fun i => Q.length - i, fun i => i ≤ Q.length, ?_⟩
  (conv => whnf)
  refine ⟨⟨0, ?_⟩, ?_⟩
  · (conv => whnf)
    exact ⟨⟨Nat.zero_le _, rfl, rfl, rfl⟩, by kernel_rfl, by kernel_rfl⟩
  · intro k hk
    (conv => whnf)
    refine ⟨fun h => ?_, fun h => ?_⟩
    · have h := of_decide_eq_true h
      have e1 : IntKind.i64.wrap ((Q.length : Int) - 1) = (Q.length : Int) - 1 := w64 _ (by omega) (by omega)
      have e2 : IntKind.i64.wrap ((Q.length : Int) - 1 - (k : Int)) = ((Q.length - 1 - k : Nat) : Int) := by rw [w64 _ (by omega) (by omega)]; omega
      (conv => whnf)
      (repeat' (first | (refine ⟨by kernel_rfl, ?_⟩; (conv => whnf)) | fail))
      rw [e1, e2]
      refine ⟨⟨by omega, by omega⟩, ?_⟩
      (conv => whnf)
      (repeat' (first | (refine ⟨by kernel_rfl, ?_⟩; (conv => whnf)) | fail))
      refine ⟨by show (((Q.length - 1 - k : Nat) : Int)).toNat < Q.length; rw [Int.toNat_natCast]; omega, ?_⟩
      (conv => whnf)
      (repeat' (first | (refine ⟨by kernel_rfl, ?_⟩; (conv => whnf)) | fail))
      refine ⟨⟨Int, 1, 0, eI, (List.range k).map (fun i => Q.getD (Q.length - 1 - i) 0)⟩, [Q.getD (Q.length - 1 - k) 0], rfl, rfl, ⟨rfl, rfl⟩, ?_, ?_, fun y _ => ⟨rfl, rfl, rfl⟩, ?_⟩
      · show (((List.range k).map _).length + 1) * 8 ≤ _; simp; omega
      · show ((List.range k).map _).length + 1 ≤ _; simp; omega
      (conv => whnf)
      (repeat' (first | (refine ⟨by kernel_rfl, ?_⟩; (conv => whnf)) | fail))
      refine ⟨k + 1, ?_⟩
      (conv => whnf)
      refine ⟨⟨⟨Nat.sub_lt_sub_left (by omega) (Nat.lt_succ_self k), by omega⟩, ?_, rfl, ?_⟩, by kernel_rfl, by kernel_rfl⟩
      · rw [w64 _ (by omega) (by omega)]; rfl
      · show [Row.vec _ 1 0 eI ((List.range k).map (fun i => Q.getD (Q.length - 1 - i) 0) ++ [Q.getD (Q.length - 1 - k) 0])] = [Row.vec _ 1 0 eI ((List.range (k + 1)).map (fun i => Q.getD (Q.length - 1 - i) 0))]
        rw [List.range_succ, List.map_append]; rfl
    · have h := of_decide_eq_false h
      have e4 : k = Q.length := by omega
      subst e4
      (conv => whnf)
      exact hP ()⟩
theorem tm_end {l : List SpT} {p moves : List Int} {f c d thr noise z S1 S2 S3 S4 : Int} {Q : List Int} {A B C D w1 w2 x1 x2 v1 v2 y1 y2 Z : Int}
    (f1 : PC Try.prog 47 [ints Q, i64 (IntKind.i64.wrap (4 * thr))] (.tup [i64 A, i64 B, .bool true]))
    (f2 : PC Try.prog 47 [ints ((List.range Q.length).map (fun i => Q.getD (Q.length - 1 - i) 0)), i64 (IntKind.i64.wrap (4 * thr))] (.tup [i64 C, i64 D, .bool true]))
    (mk : PC Try.prog 48 [i64 (IntKind.i64.wrap (IntKind.i64.wrap (IntKind.i64.wrap (IntKind.i64.wrap (IntKind.i64.wrap ((Q.length : Int) - 1) * D) - C) * B) - IntKind.i64.wrap (A * D))), i64 (IntKind.i64.wrap (B * D))] (.tup [.agg [i64 w1, i64 w2], i64 0]))
    (wz : PC Try.prog 50 [i64 (IntKind.i64.wrap (16 * z))] ((.agg [i64 Z, i64 1])))
    (mu : PC Try.prog 49 [.agg [i64 w1, i64 w2], .agg [i64 Z, i64 1]] (.tup [.agg [i64 x1, i64 x2], i64 0]))
    (mf : PC Try.prog 48 [i64 (IntKind.i64.wrap f), i64 (IntKind.i64.wrap d)] (.tup [.agg [i64 v1, i64 v2], i64 0]))
    (dv : PC Try.prog 51 [.agg [i64 x1, i64 x2], .agg [i64 v1, i64 v2]] (.tup [.agg [i64 y1, i64 y2], i64 0]))
    (hin : PC Try.prog 52 [.agg [i64 S1, i64 S2, i64 S3, i64 S4], .agg [i64 y1, i64 y2]] (.tup [.bool true, i64 0])) : topB.1 l p moves f c d thr noise z S1 S2 S3 S4 Q := by
  conv => whnf
  (repeat' (first | (refine ⟨by kernel_rfl, ?_⟩; (conv => whnf)) | (refine And.intro (a := _ ∧ _) ⟨by omega, by omega⟩ ?_; (conv => whnf))))
  refine Or.inl ?_
  (conv => whnf)
  refine ⟨true, ?_⟩
  (conv => whnf)
  refine ⟨_, f1, ?_⟩
  (conv => whnf)
  (repeat' (first | (refine ⟨by kernel_rfl, ?_⟩; (conv => whnf)) | (refine And.intro (a := _ ∧ _) ⟨by omega, by omega⟩ ?_; (conv => whnf))))
  refine Or.inl ?_
  (conv => whnf)
  refine ⟨true, ?_⟩
  (conv => whnf)
  refine ⟨_, f2, ?_⟩
  (conv => whnf)
  (repeat' (first | (refine ⟨_, by first | with_reducible exact mk | with_reducible exact wz | with_reducible exact mu | with_reducible exact mf | with_reducible exact dv | with_reducible exact hin, ?_⟩; (conv => whnf)) | (refine Or.inl ?_; (conv => whnf); refine ⟨_, by first | with_reducible exact mk | with_reducible exact wz | with_reducible exact mu | with_reducible exact mf | with_reducible exact dv | with_reducible exact hin, ?_⟩; (conv => whnf)) | (refine Or.inl ?_; (conv => whnf); refine ⟨false, ?_⟩; (conv => whnf); refine ⟨_, by first | with_reducible exact mk | with_reducible exact wz | with_reducible exact mu | with_reducible exact mf | with_reducible exact dv | with_reducible exact hin, ?_⟩; (conv => whnf)) | (refine ⟨by kernel_rfl, ?_⟩; (conv => whnf)) | (refine ⟨fun _ => ?_, fun h => absurd h (by first | decide | (simp; done) | fail)⟩; (conv => whnf)) | (refine ⟨fun h => absurd h (by first | decide | (simp; done) | fail), fun _ => ?_⟩; (conv => whnf)) | fail))
  all_goals (first | rfl | set_option pp.maxSteps 300 in trace_state)
end Go.Proofs.Try.My
