/- A helper text: contracts of functions of the program, and plain lemmas. -/
import Derived.Test.YtpcipgblegdeeaaMzLf0
set_option maxRecDepth 100000
set_option maxHeartbeats 0
set_option linter.unusedVariables false
set_option linter.unusedSimpArgs false
namespace Go.Proofs.Try.My
open Go Go.Ev

theorem lfOkd (l L1 L2 : List SpT) (a x z h : Int) (K1 K2 K3 K4 K5 K6 K7 K8 R1 R2 R3 R4 C1 C2 C3 C4 C5 C6 C7 C8 S1 S2 S3 S4 : Int) (b1 b2 b3 : Bool) (hl : l.length ≤ 12) (a1 : 0 ≤ a) (a2 : a < l.length)
    (e1 : (l.drop (Int.toNat 0)).take (a - 0).toNat = L1) (e2 : (l.drop (IntKind.i64.wrap (a + 1)).toNat).take ((l.length : Int) - IntKind.i64.wrap (a + 1)).toNat = L2) (hL : L1.length + L2.length ≤ 12)
    
    (k1 : PC Try.prog 51 [vws l] (.tup [cam (((K1, K2), (K3, K4)), ((K5, K6), (K7, K8))), i64 0])) (k2 : PC Try.prog 49 [vws l, i64 x, i64 z] (.tup [sp ((R1, R2), (R3, R4)), i64 2]))
    (k3 : PC Try.prog 51 [vws (L1 ++ L2)] (.tup [cam (((C1, C2), (C3, C4)), ((C5, C6), (C7, C8))), i64 43])) (k4 : PC Try.prog 49 [vws (L1 ++ L2), i64 x, i64 z] (.tup [sp ((S1, S2), (S3, S4)), i64 h]))
    (k5 : PC Try.prog 51 [vws l.reverse] (.tup [cam (((K1, K2), (K3, K4)), ((K5, K6), (K7, K8))), i64 0]))
    (w1 : PC Try.prog 42 [sp ((K1, K2), (K3, K4)), sp ((C1, C2), (C3, C4))] (.bool b1)) (w2 : PC Try.prog 42 [sp ((K5, K6), (K7, K8)), sp ((C5, C6), (C7, C8))] (.bool b2)) (w3 : PC Try.prog 42 [sp ((R1, R2), (R3, R4)), sp ((S1, S2), (S3, S4))] (.bool b3)) :
    PC Try.prog 14 [vws l, i64 a, i64 x, i64 z] (.bool true) := by
  have al := pc_alive4
  have wa : IntKind.i64.wrap (a + 1) = a + 1 := w64 _ (by omega) (by omega)
  refine pc_of_body hm Try.func14 (by kernel_rfl) ?_
  conv => whnf
  (repeat' (first | (refine ⟨_, by first | with_reducible exact al | with_reducible exact k1 | with_reducible exact k2, ?_⟩; (conv => whnf)) | (refine Or.inl ?_; (conv => whnf); refine ⟨_, by first | with_reducible exact al | with_reducible exact k1 | with_reducible exact k2, ?_⟩; (conv => whnf)) | (refine Or.inl ?_; (conv => whnf); refine ⟨false, ?_⟩; (conv => whnf); refine ⟨_, by first | with_reducible exact al | with_reducible exact k1 | with_reducible exact k2, ?_⟩; (conv => whnf)) | (refine ⟨by kernel_rfl, ?_⟩; (conv => whnf)) | (refine ⟨fun _ => ?_, fun h => absurd h (by first | decide | (simp; done) | fail)⟩; (conv => whnf)) | (refine ⟨fun h => absurd h (by first | decide | (simp; done) | fail), fun _ => ?_⟩; (conv => whnf)) | ((with_reducible refine And.intro (a := _ = true → _) (b := _ = false → _) (fun hh => ?_) (fun hh => ?_)) <;> (try simp only [decide_eq_true_eq, decide_eq_false_iff_not, Bool.or_eq_true, Bool.and_eq_true, Bool.or_eq_false_iff, Bool.and_eq_false_iff, Bool.not_eq_true', Bool.not_eq_false', ge_iff_le, gt_iff_lt] at hh) <;> (first | (exfalso; omega) | (conv => whnf))) | fail))
  refine ⟨⟨by omega, by omega, by omega⟩, ?_⟩
  (conv => whnf)
  refine ⟨⟨SpT, 4, z4, eS, []⟩, L1, rfl, ⟨rfl, rfl⟩, ?_, ?_, ?_, fun y _ => ⟨rfl, rfl, rfl⟩, ?_⟩
  · rw [e1]; rfl
  · show (0 + L1.length) * 32 ≤ _; omega
  · show 0 + L1.length ≤ _; omega
  (conv => whnf)
  refine ⟨by rw [wa]; omega, ?_⟩
  (conv => whnf)
  refine ⟨⟨SpT, 4, z4, eS, L1⟩, L2, rfl, rfl, ?_, ?_, ?_, fun y _ => ⟨rfl, rfl, rfl⟩, ?_⟩
  · rw [e2]; rfl
  · show (L1.length + L2.length) * 32 ≤ _; omega
  · show L1.length + L2.length ≤ _; omega
  (conv => whnf)
  (repeat' (first | (refine ⟨by kernel_rfl, ?_⟩; (conv => whnf)) | fail))
  (first | (refine Or.inl ?_; (conv => whnf); refine ⟨true, ?_⟩) | refine ⟨true, ?_⟩)
  (conv => whnf)
  refine ⟨_, k3, ?_⟩
  (conv => whnf)
  (repeat' (first | (refine ⟨_, by first | with_reducible exact k4, ?_⟩; (conv => whnf)) | (refine Or.inl ?_; (conv => whnf); refine ⟨_, by first | with_reducible exact k4, ?_⟩; (conv => whnf)) | (refine Or.inl ?_; (conv => whnf); refine ⟨false, ?_⟩; (conv => whnf); refine ⟨_, by first | with_reducible exact k4, ?_⟩; (conv => whnf)) | (refine ⟨by kernel_rfl, ?_⟩; (conv => whnf)) | (refine ⟨fun _ => ?_, fun h => absurd h (by first | decide | (simp; done) | fail)⟩; (conv => whnf)) | (refine ⟨fun h => absurd h (by first | decide | (simp; done) | fail), fun _ => ?_⟩; (conv => whnf)) | fail))
  refine Or.inr ⟨Nat, [81], [], [(19, ⟨SpT, 85, 4, z4, eS⟩)], fun i => [i64 i], fun _ => [], fun i => [.vec 85 4 z4 eS ((List.range i).map (fun i => l.getD (l.length - 1 - i) z4))], fun i => l.length - i, fun i => i ≤ l.length, ?_⟩
  (conv => whnf)
  refine ⟨⟨0, ?_⟩, ?_⟩
  · (conv => whnf)
    exact ⟨⟨Nat.zero_le _, rfl, rfl, rfl⟩, by kernel_rfl, by kernel_rfl⟩
  · intro i hi
    (conv => whnf)
    refine ⟨fun h => ?_, fun h => ?_⟩
    · have h := of_decide_eq_true h
      have h' : i < l.length := Int.ofNat_lt.1 h
      have w1 : IntKind.i64.wrap ((l.length : Int) - 1) = (l.length : Int) - 1 := w64 _ (by omega) (by omega)
      have w2 : IntKind.i64.wrap ((l.length : Int) - 1 - (i : Int)) = ((l.length - 1 - i : Nat) : Int) := by rw [w64 _ (by omega) (by omega)]; omega
      (conv => whnf)
      (repeat' (first | (refine ⟨by kernel_rfl, ?_⟩; (conv => whnf)) | fail))
      rw [w1, w2]
      refine ⟨⟨by omega, by omega⟩, ?_⟩
      (conv => whnf)
      (repeat' (first | (refine ⟨by kernel_rfl, ?_⟩; (conv => whnf)) | fail))
      refine ⟨⟨SpT, 4, z4, eS, (List.range i).map (fun i => l.getD (l.length - 1 - i) z4)⟩, [l.getD (l.length - 1 - i) z4], rfl, rfl, ⟨rfl, rfl⟩, ?_, ?_, fun y _ => ⟨rfl, rfl, rfl⟩, ?_⟩
      · show (((List.range i).map _).length + 1) * 32 ≤ _; simp; omega
      · show ((List.range i).map _).length + 1 ≤ _; simp; omega
      (conv => whnf)
      (repeat' (first | (refine ⟨by kernel_rfl, ?_⟩; (conv => whnf)) | fail))
      refine ⟨i + 1, ?_⟩
      (conv => whnf)
      refine ⟨⟨⟨Nat.sub_lt_sub_left (by omega) (Nat.lt_succ_self i), by omega⟩, ?_, rfl, ?_⟩, by kernel_rfl, by kernel_rfl⟩
      · rw [w64 _ (by omega) (by omega)]; rfl
      · show [Row.vec _ 4 z4 eS ((List.range i).map (fun i => l.getD (l.length - 1 - i) z4) ++ [l.getD (l.length - 1 - i) z4])] = [Row.vec _ 4 z4 eS ((List.range (i + 1)).map (fun i => l.getD (l.length - 1 - i) z4))]
        rw [List.range_succ, List.map_append]; rfl
    · have h := of_decide_eq_false h
      obtain rfl : i = l.length := by omega
      rw [rev_views]
      (conv => whnf)
      refine Or.inl ?_
      (conv => whnf)
      refine ⟨false, ?_⟩
      (conv => whnf)
      refine ⟨_, k5, ?_⟩
      (conv => whnf)
      (repeat' (first | (refine ⟨by kernel_rfl, ?_⟩; (conv => whnf)) | (refine ⟨fun _ => ?_, fun h => absurd h (by first | decide | (simp; done) | fail)⟩; (conv => whnf)) | (refine ⟨fun h => absurd h (by first | decide | (simp; done) | fail), fun _ => ?_⟩; (conv => whnf)) | ((with_reducible refine And.intro (a := _ = true → _) (b := _ = false → _) (fun hh => ?_) (fun hh => ?_)) <;> (try simp only [decide_eq_true_eq, decide_eq_false_iff_not, Bool.or_eq_true, Bool.and_eq_true, Bool.or_eq_false_iff, Bool.and_eq_false_iff, Bool.not_eq_true', Bool.not_eq_false', ge_iff_le, gt_iff_lt] at hh) <;> (first | (exfalso; omega) | (conv => whnf))) | fail))
      all_goals (first | rfl | (simp; done) | set_option pp.maxSteps 300 in trace_state)
end Go.Proofs.Try.My
