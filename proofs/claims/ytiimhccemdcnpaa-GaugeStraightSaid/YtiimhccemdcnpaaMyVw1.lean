/- A helper text: contracts of functions of the program, and plain lemmas. -/
import Derived.Test.YtiimhccemdcnpaaEvSix
import Derived.Test.YtiimhccemdcnpaaMyIm1
import Derived.Test.YtiimhccemdcnpaaMyVw0
import Derived.Test.YtiimhccemdcnpaaMyFl
import Derived.Test.YtiimhccemdcnpaaMyGeA
import Derived.Test.YtiimhccemdcnpaaMyLvB
import Derived.Test.YtiimhccemdcnpaaMyGcA
set_option maxRecDepth 100000
set_option maxHeartbeats 0
set_option linter.unusedVariables false
set_option linter.unusedSimpArgs false
namespace Go.Proofs.Try.My
open Go Go.Ev

theorem pc_odd (n : Int) : PC Try.prog 19 [i64 n] (.bool (!withB n 0 255)) := by
  have c := pc_gfrom 0 255 n
  generalize withB n 0 255 = b at *
  refine pc_of_bodyF hm Try.func19 (by kernel_rfl) ?_
  conv => whnf
  (repeat' (first | (refine ⟨_, by first | with_reducible exact c, ?_⟩; (conv => whnf)) | (refine Or.inl ?_; (conv => whnf); refine ⟨_, by first | with_reducible exact c, ?_⟩; (conv => whnf)) | (refine Or.inl ?_; (conv => whnf); refine ⟨false, ?_⟩; (conv => whnf); refine ⟨_, by first | with_reducible exact c, ?_⟩; (conv => whnf)) | (refine ⟨by kernel_rfl, ?_⟩; (conv => whnf)) | fail))
theorem vwBad (W H thr noise : Int) (pix : List Int) (E : Int) (hE : E ≠ 0) (c1 : PC Try.prog 18 [img W H pix] (i64 E)) : PC Try.prog 5 [img W H pix, i64 thr, i64 noise] (.tup [.nils, i64 E]) := by
  refine pc_of_bodyF hm Try.func5 (by kernel_rfl) ?_
  conv => whnf
  (repeat' (first | (refine ⟨_, by first | exact c1, ?_⟩; (conv => whnf)) | (refine Or.inl ?_; (conv => whnf); refine ⟨_, by first | exact c1, ?_⟩; (conv => whnf)) | (refine Or.inl ?_; (conv => whnf); refine ⟨false, ?_⟩; (conv => whnf); refine ⟨_, by first | exact c1, ?_⟩; (conv => whnf)) | (refine ⟨by kernel_rfl, ?_⟩; (conv => whnf)) | (refine ⟨fun _ => ?_, fun h => absurd h (by first | decide | (simp; done) | fail)⟩; (conv => whnf)) | (refine ⟨fun h => absurd h (by first | decide | (simp; done) | fail), fun _ => ?_⟩; (conv => whnf)) | ((with_reducible refine And.intro (a := _ = true → _) (b := _ = false → _) (fun hh => ?_) (fun hh => ?_)) <;> (try simp only [decide_eq_true_eq, decide_eq_false_iff_not, Bool.or_eq_true, Bool.and_eq_true, Bool.or_eq_false_iff, Bool.and_eq_false_iff, Bool.not_eq_true', Bool.not_eq_false', ge_iff_le, gt_iff_lt] at hh) <;> (first | (exfalso; omega) | (conv => whnf))) | fail))
  all_goals (first | rfl | set_option pp.maxSteps 300 in trace_state)
theorem vwArg (W H thr noise : Int) (pix : List Int) (b1 b2 b3 : Bool) (hb : b1 = false ∨ b2 = false ∨ W < 2 ∨ b3 = true) (c1 : PC Try.prog 18 [img W H pix] (i64 0)) (c2 : PC Try.prog 20 [i64 1, i64 255, i64 thr] (.bool b1)) (c3 : PC Try.prog 20 [i64 0, i64 64, i64 noise] (.bool b2))
    (c4 : PC Try.prog 21 [ints pix, .fn (.func 19) [] []] (.bool b3)) : PC Try.prog 5 [img W H pix, i64 thr, i64 noise] (.tup [.nils, i64 2]) := by
  cases b1
  · refine pc_of_bodyF hm Try.func5 (by kernel_rfl) ?_
    conv => whnf
    (repeat' (first | (refine ⟨_, by first | exact c1 | exact c2, ?_⟩; (conv => whnf)) | (refine Or.inl ?_; (conv => whnf); refine ⟨_, by first | exact c1 | exact c2, ?_⟩; (conv => whnf)) | (refine Or.inl ?_; (conv => whnf); refine ⟨false, ?_⟩; (conv => whnf); refine ⟨_, by first | exact c1 | exact c2, ?_⟩; (conv => whnf)) | (refine ⟨by kernel_rfl, ?_⟩; (conv => whnf)) | (refine ⟨fun _ => ?_, fun h => absurd h (by first | decide | (simp; done) | fail)⟩; (conv => whnf)) | (refine ⟨fun h => absurd h (by first | decide | (simp; done) | fail), fun _ => ?_⟩; (conv => whnf)) | ((with_reducible refine And.intro (a := _ = true → _) (b := _ = false → _) (fun hh => ?_) (fun hh => ?_)) <;> (try simp only [decide_eq_true_eq, decide_eq_false_iff_not, Bool.or_eq_true, Bool.and_eq_true, Bool.or_eq_false_iff, Bool.and_eq_false_iff, Bool.not_eq_true', Bool.not_eq_false', ge_iff_le, gt_iff_lt] at hh) <;> (first | (exfalso; omega) | (conv => whnf))) | fail))
    all_goals (first | rfl | set_option pp.maxSteps 300 in trace_state)
  cases b2
  · refine pc_of_bodyF hm Try.func5 (by kernel_rfl) ?_
    conv => whnf
    (repeat' (first | (refine ⟨_, by first | exact c1 | exact c2 | exact c3, ?_⟩; (conv => whnf)) | (refine Or.inl ?_; (conv => whnf); refine ⟨_, by first | exact c1 | exact c2 | exact c3, ?_⟩; (conv => whnf)) | (refine Or.inl ?_; (conv => whnf); refine ⟨false, ?_⟩; (conv => whnf); refine ⟨_, by first | exact c1 | exact c2 | exact c3, ?_⟩; (conv => whnf)) | (refine ⟨by kernel_rfl, ?_⟩; (conv => whnf)) | (refine ⟨fun _ => ?_, fun h => absurd h (by first | decide | (simp; done) | fail)⟩; (conv => whnf)) | (refine ⟨fun h => absurd h (by first | decide | (simp; done) | fail), fun _ => ?_⟩; (conv => whnf)) | ((with_reducible refine And.intro (a := _ = true → _) (b := _ = false → _) (fun hh => ?_) (fun hh => ?_)) <;> (try simp only [decide_eq_true_eq, decide_eq_false_iff_not, Bool.or_eq_true, Bool.and_eq_true, Bool.or_eq_false_iff, Bool.and_eq_false_iff, Bool.not_eq_true', Bool.not_eq_false', ge_iff_le, gt_iff_lt] at hh) <;> (first | (exfalso; omega) | (conv => whnf))) | fail))
    all_goals (first | rfl | set_option pp.maxSteps 300 in trace_state)
  by_cases hW : W < 2
  · refine pc_of_bodyF hm Try.func5 (by kernel_rfl) ?_
    conv => whnf
    (repeat' (first | (refine ⟨_, by first | exact c1 | exact c2 | exact c3, ?_⟩; (conv => whnf)) | (refine Or.inl ?_; (conv => whnf); refine ⟨_, by first | exact c1 | exact c2 | exact c3, ?_⟩; (conv => whnf)) | (refine Or.inl ?_; (conv => whnf); refine ⟨false, ?_⟩; (conv => whnf); refine ⟨_, by first | exact c1 | exact c2 | exact c3, ?_⟩; (conv => whnf)) | (refine ⟨by kernel_rfl, ?_⟩; (conv => whnf)) | (refine ⟨fun _ => ?_, fun h => absurd h (by first | decide | (simp; done) | fail)⟩; (conv => whnf)) | (refine ⟨fun h => absurd h (by first | decide | (simp; done) | fail), fun _ => ?_⟩; (conv => whnf)) | ((with_reducible refine And.intro (a := _ = true → _) (b := _ = false → _) (fun hh => ?_) (fun hh => ?_)) <;> (try simp only [decide_eq_true_eq, decide_eq_false_iff_not, Bool.or_eq_true, Bool.and_eq_true, Bool.or_eq_false_iff, Bool.and_eq_false_iff, Bool.not_eq_true', Bool.not_eq_false', ge_iff_le, gt_iff_lt] at hh) <;> (first | (exfalso; omega) | (conv => whnf))) | fail))
    all_goals (first | rfl | set_option pp.maxSteps 300 in trace_state)
  cases b3
  · simp [hW] at hb
  · refine pc_of_bodyF hm Try.func5 (by kernel_rfl) ?_
    conv => whnf
    (repeat' (first | (refine ⟨_, by first | exact c1 | exact c2 | exact c3 | exact c4, ?_⟩; (conv => whnf)) | (refine Or.inl ?_; (conv => whnf); refine ⟨_, by first | exact c1 | exact c2 | exact c3 | exact c4, ?_⟩; (conv => whnf)) | (refine Or.inl ?_; (conv => whnf); refine ⟨false, ?_⟩; (conv => whnf); refine ⟨_, by first | exact c1 | exact c2 | exact c3 | exact c4, ?_⟩; (conv => whnf)) | (refine ⟨by kernel_rfl, ?_⟩; (conv => whnf)) | (refine ⟨fun _ => ?_, fun h => absurd h (by first | decide | (simp; done) | fail)⟩; (conv => whnf)) | (refine ⟨fun h => absurd h (by first | decide | (simp; done) | fail), fun _ => ?_⟩; (conv => whnf)) | ((with_reducible refine And.intro (a := _ = true → _) (b := _ = false → _) (fun hh => ?_) (fun hh => ?_)) <;> (try simp only [decide_eq_true_eq, decide_eq_false_iff_not, Bool.or_eq_true, Bool.and_eq_true, Bool.or_eq_false_iff, Bool.and_eq_false_iff, Bool.not_eq_true', Bool.not_eq_false', ge_iff_le, gt_iff_lt] at hh) <;> (first | (exfalso; omega) | (conv => whnf))) | fail))
    all_goals (first | rfl | set_option pp.maxSteps 300 in trace_state)
theorem vwOk (W H : Nat) (thr noise : Int) (pix : List Int) (hW : 2 ≤ W) (hW2 : W ≤ 16) (hH : H ≤ 16) (hlen : pix.length = W * H) (c1 : PC Try.prog 18 [img W H pix] (i64 0)) (c2 : PC Try.prog 20 [i64 1, i64 255, i64 thr] (.bool true)) (c3 : PC Try.prog 20 [i64 0, i64 64, i64 noise] (.bool true))
    (c4 : PC Try.prog 21 [ints pix, .fn (.func 19) [] []] (.bool false)) : PC Try.prog 5 [img W H pix, i64 thr, i64 noise] (.tup [vws (imV pix W thr noise H), i64 0]) := by
  have w0 := pc_whole 16
  refine pc_of_bodyF hm Try.func5 (by kernel_rfl) ?_
  conv => whnf
  (repeat' (first | (refine ⟨_, by first | exact c1 | exact c2 | exact c3 | exact c4, ?_⟩; (conv => whnf)) | (refine Or.inl ?_; (conv => whnf); refine ⟨_, by first | exact c1 | exact c2 | exact c3 | exact c4, ?_⟩; (conv => whnf)) | (refine Or.inl ?_; (conv => whnf); refine ⟨false, ?_⟩; (conv => whnf); refine ⟨_, by first | exact c1 | exact c2 | exact c3 | exact c4, ?_⟩; (conv => whnf)) | (refine ⟨by kernel_rfl, ?_⟩; (conv => whnf)) | (refine ⟨fun _ => ?_, fun h => absurd h (by first | decide | (simp; done) | fail)⟩; (conv => whnf)) | (refine ⟨fun h => absurd h (by first | decide | (simp; done) | fail), fun _ => ?_⟩; (conv => whnf)) | ((with_reducible refine And.intro (a := _ = true → _) (b := _ = false → _) (fun hh => ?_) (fun hh => ?_)) <;> (try simp only [decide_eq_true_eq, decide_eq_false_iff_not, Bool.or_eq_true, Bool.and_eq_true, Bool.or_eq_false_iff, Bool.and_eq_false_iff, Bool.not_eq_true', Bool.not_eq_false', ge_iff_le, gt_iff_lt] at hh) <;> (first | (exfalso; omega) | (conv => whnf))) | fail))
  refine Or.inr ⟨Nat, [46], [], [(10, ⟨SpT, 42, 4, z4, eS⟩)], fun i => [i64 i], fun _ => [], fun i => [.vec 42 4 z4 eS (imV pix W thr noise i)], fun i => H - i, fun i => i ≤ H, ?_⟩
  (conv => whnf)
  refine ⟨⟨0, ?_⟩, ?_⟩
  · (conv => whnf)
    exact ⟨⟨Nat.zero_le _, rfl, rfl, rfl⟩, by kernel_rfl, by kernel_rfl⟩
  · intro y hy
    (conv => whnf)
    refine ⟨fun h => ?_, fun h => ?_⟩
    · have h := of_decide_eq_true h
      have h' : y < H := Int.ofNat_lt.1 h
      have m1 : y * W ≤ 15 * 16 := Nat.mul_le_mul (by omega) hW2
      have m2 : (y + 1) * W ≤ H * W := Nat.mul_le_mul_right W (by omega)
      have m3 : (y + 1) * W = y * W + W := Nat.succ_mul y W
      have e1 : IntKind.i64.wrap ((y : Int) * (W : Int)) = ((y * W : Nat) : Int) := by rw [← Int.natCast_mul]; exact w64 _ (by omega) (by omega)
      have e2 : IntKind.i64.wrap ((y : Int) + 1) = ((y + 1 : Nat) : Int) := by rw [w64 _ (by omega) (by omega)]; rfl
      have e3 : IntKind.i64.wrap (IntKind.i64.wrap ((y : Int) + 1) * (W : Int)) = (((y + 1) * W : Nat) : Int) := by rw [e2, ← Int.natCast_mul]; exact w64 _ (by omega) (by omega)
      have ln : (imV pix W thr noise y).length ≤ y := imV_len pix W thr noise y
      have hlen2 : pix.length = H * W := by rw [hlen, Nat.mul_comm]
      have cR := pc_gRise (rowP pix W y) thr 0 noise (by unfold rowP; rw [List.length_take, List.length_drop]; omega)
      have cut : (pix.drop (IntKind.i64.wrap ((y : Int) * (W : Int))).toNat).take (IntKind.i64.wrap (IntKind.i64.wrap ((y : Int) + 1) * (W : Int)) - IntKind.i64.wrap ((y : Int) * (W : Int))).toNat = rowP pix W y := by
        rw [e3, e1]
        unfold rowP
        rw [show (((y * W : Nat) : Int)).toNat = y * W from Int.toNat_natCast _, show ((((y + 1) * W : Nat) : Int) - ((y * W : Nat) : Int)).toNat = W by omega]
      have hV : imV pix W thr noise (y + 1) = imV pix W thr noise y ++ rowV pix W thr noise y := imV_succ pix W thr noise y
      have hr : rowV pix W thr noise y = if (edgF (rowP pix W y) thr 0 noise 1).2 = 0 then [edgV (edgF (rowP pix W y) thr 0 noise 1).1 y] else [] := rfl
      have ev := fun h => edge_view (p := rowP pix W y) (thr := thr) (noise := noise) h y (by omega) (by unfold rowP; rw [List.length_take]; omega)
      have cM := fun s => pc_MulSpans s s16
      rw [← cut] at cR
      generalize hB : imV pix W thr noise y = B at *
      generalize hT : imV pix W thr noise (y + 1) = T at *
      generalize hR : rowV pix W thr noise y = R at *
      rw [cut] at cR
      generalize hE : edgF (rowP pix W y) thr 0 noise 1 = E at *
      rw [← cut] at cR
      obtain ⟨S, e⟩ := E
      simp only [] at hr ev cR
      clear hB hR hE
      (conv => whnf)
      refine ⟨⟨by rw [e1]; omega, by rw [e1, e3]; omega, by rw [e3]; omega⟩, ?_⟩
      (conv => whnf)
      (repeat' (first | (refine ⟨_, by first | exact cR, ?_⟩; (conv => whnf)) | (refine Or.inl ?_; (conv => whnf); refine ⟨_, by first | exact cR, ?_⟩; (conv => whnf)) | (refine Or.inl ?_; (conv => whnf); refine ⟨false, ?_⟩; (conv => whnf); refine ⟨_, by first | exact cR, ?_⟩; (conv => whnf)) | (refine ⟨by kernel_rfl, ?_⟩; (conv => whnf)) | fail))
      by_cases h0 : e = 0
      rotate_left
      · rw [if_neg h0] at hr
        refine ⟨fun _ => ?_, fun h => absurd (show e = 0 by simpa using h) h0⟩
        (conv => whnf)
        refine ⟨y + 1, ?_⟩
        (conv => whnf)
        refine ⟨⟨⟨Nat.sub_lt_sub_left (by omega) (Nat.lt_succ_self y), by omega⟩, ?_, rfl, ?_⟩, by kernel_rfl, by kernel_rfl⟩
        · rw [w64 _ (by omega) (by omega)]; rfl
        · show [Row.vec _ 4 z4 eS B] = [Row.vec _ 4 z4 eS (imV pix W thr noise (y + 1))]
          rw [hT, hV, hr, List.append_nil]
      · rw [if_pos h0] at hr
        obtain ⟨k0, k1, k2, _⟩ := ev h0
        have cM := cM S
        rw [k0] at cM
        have hv : edgV S y = (((y : Int), 1), ((mulS S s16).1.1.1 / (mulS S s16).1.1.2, -(-(mulS S s16).1.2.1 / (mulS S s16).1.2.2))) := rfl
        have cF := pc_Floor (mulS S s16).1.1 k1
        have cC := pc_Ceil (mulS S s16).1.2 k2
        generalize (mulS S s16).1 = M at *
        clear ev k0 k1 k2
        obtain ⟨⟨M1, M2⟩, ⟨M3, M4⟩⟩ := M
        simp only [] at hv cF cC
        generalize M1 / M2 = lo at *
        generalize -(-M3 / M4) = hi at *
        refine ⟨fun h => absurd h0 (by simpa using h), fun _ => ?_⟩
        (conv => whnf)
        (repeat' (first | (refine ⟨_, by first | exact w0 | exact cM | exact cF | exact cC, ?_⟩; (conv => whnf)) | (refine Or.inl ?_; (conv => whnf); refine ⟨_, by first | exact w0 | exact cM | exact cF | exact cC, ?_⟩; (conv => whnf)) | (refine Or.inl ?_; (conv => whnf); refine ⟨false, ?_⟩; (conv => whnf); refine ⟨_, by first | exact w0 | exact cM | exact cF | exact cC, ?_⟩; (conv => whnf)) | (refine ⟨by kernel_rfl, ?_⟩; (conv => whnf)) | fail))
        (repeat' (first | (refine ⟨_, by first | exact w0 | exact cM | exact cF | exact cC, ?_⟩; (conv => whnf)) | (refine Or.inl ?_; (conv => whnf); refine ⟨_, by first | exact w0 | exact cM | exact cF | exact cC, ?_⟩; (conv => whnf)) | (refine Or.inl ?_; (conv => whnf); refine ⟨false, ?_⟩; (conv => whnf); refine ⟨_, by first | exact w0 | exact cM | exact cF | exact cC, ?_⟩; (conv => whnf)) | (refine ⟨by kernel_rfl, ?_⟩; (conv => whnf)) | (refine ⟨fun _ => ?_, fun h => absurd h (by first | decide | (simp; done) | fail)⟩; (conv => whnf)) | (refine ⟨fun h => absurd h (by first | decide | (simp; done) | fail), fun _ => ?_⟩; (conv => whnf)) | fail))
        refine ⟨⟨SpT, 4, z4, eS, B⟩, [edgV S y], rfl, rfl, ⟨rfl, ?_⟩, ?_, ?_, fun z _ => ⟨rfl, rfl, rfl⟩, ?_⟩
        · rw [hv]; rfl
        · show (B.length + 1) * 32 ≤ _; omega
        · show B.length + 1 ≤ _; omega
        (conv => whnf)
        (repeat' (first | (refine ⟨by kernel_rfl, ?_⟩; (conv => whnf)) | (refine And.intro (a := _ ∧ _) ⟨by omega, by omega⟩ ?_; (conv => whnf))))
        refine ⟨y + 1, ?_⟩
        (conv => whnf)
        refine ⟨⟨⟨Nat.sub_lt_sub_left (by omega) (Nat.lt_succ_self y), by omega⟩, ?_, rfl, ?_⟩, by kernel_rfl, by kernel_rfl⟩
        · rw [w64 _ (by omega) (by omega)]; rfl
        · show [Row.vec _ 4 z4 eS (B ++ [edgV S y])] = [Row.vec _ 4 z4 eS (imV pix W thr noise (y + 1))]
          rw [hT, hV, hr]
    · have h := of_decide_eq_false h
      have e4 : y = H := by omega
      subst e4
      (conv => whnf)
      first | rfl | set_option pp.maxSteps 300 in trace_state
end Go.Proofs.Try.My
