/- A helper text: contracts of functions of the program, and plain lemmas. -/
import Derived.Test.YtblmmhmdnnnidaaGreatEvSix
import Derived.Test.YtblmmhmdnnnidaaGreatMzVl1
import Derived.Test.YtblmmhmdnnnidaaGreatMzGb0
set_option maxRecDepth 100000
set_option maxHeartbeats 0
set_option linter.unusedVariables false
set_option linter.unusedSimpArgs false
namespace Go.Proofs.Tryz.My
open Go Go.Ev

theorem pc_rSeen (pix : List Int) (W H : Nat) (thr noise : Int) (hW2 : W ≤ 16) (hH : H ≤ 16) (hlen : pix.length = W * H) : PC Tryz.prog 21 [img W H pix, i64 thr, i64 noise] (vws (imV pix W thr noise H)) := by
  refine pc_of_bodyF hm Tryz.func21 (by kernel_rfl) ?_
  conv => whnf
  refine Or.inr ⟨Nat, [8], [], [(7, ⟨SpT, 43, 4, z4, eS⟩)], fun i => [i64 i], fun _ => [], fun i => [.vec 43 4 z4 eS (imV pix W thr noise i)], fun i => H - i, fun i => i ≤ H, ?_⟩
  (conv => whnf)
  refine ⟨⟨0, ?_⟩, ?_⟩
  · (conv => whnf)
    exact ⟨⟨Nat.zero_le _, rfl, rfl, rfl⟩, by kernel_rfl, by kernel_rfl⟩
  · intro y hy
    (conv => whnf)
    refine ⟨fun h => ?_, fun h => ?_⟩
    · have h := of_decide_eq_true h
      have h' : y < H := Int.ofNat_lt.1 h
      have ln : (imV pix W thr noise y).length ≤ y := imV_len pix W thr noise y
      have rl : (rowP pix W y).length ≤ 16 := by unfold rowP; rw [List.length_take]; omega
      have cC := pc_clipped pix W H y hW2 hH h' hlen
      have cR := pc_r5Rise (rowP pix W y) thr 0 noise (by omega)
      have hV : imV pix W thr noise (y + 1) = imV pix W thr noise y ++ rowV pix W thr noise y := imV_succ pix W thr noise y
      have hr : rowV pix W thr noise y = if (edgF (rowP pix W y) thr 0 noise 1).2 = 0 then [edgV (edgF (rowP pix W y) thr 0 noise 1).1 y] else [] := rfl
      have ev := fun h => edge_ends (p := rowP pix W y) (thr := thr) (noise := noise) h rl
      generalize hB : imV pix W thr noise y = B at *
      generalize hT : imV pix W thr noise (y + 1) = T at *
      generalize hR : rowV pix W thr noise y = R at *
      generalize hE : edgF (rowP pix W y) thr 0 noise 1 = E at *
      generalize rowP pix W y = p at *
      obtain ⟨S, e⟩ := E
      simp only [] at hr ev cR
      clear hB hR hE
      (conv => whnf)
      (repeat' (first | (refine ⟨_, by first | exact cC | exact cR, ?_⟩; (conv => whnf)) | (refine Or.inl ?_; (conv => whnf); refine ⟨_, by first | exact cC | exact cR, ?_⟩; (conv => whnf)) | (refine Or.inl ?_; (conv => whnf); refine ⟨false, ?_⟩; (conv => whnf); refine ⟨_, by first | exact cC | exact cR, ?_⟩; (conv => whnf)) | (refine ⟨by kernel_rfl, ?_⟩; (conv => whnf)) | fail))
      by_cases h0 : e = 0
      rotate_left
      · rw [if_neg h0] at hr
        refine ⟨fun _ => ?_, fun h => absurd (show e = 0 by simpa using h) h0⟩
        (conv => whnf)
        refine ⟨y + 1, ?_⟩
        (conv => whnf)
        refine ⟨⟨⟨Nat.sub_lt_sub_left (by omega) (Nat.lt_succ_self y), by omega⟩, ?_, rfl, ?_⟩, by kernel_rfl, by kernel_rfl⟩
        · rw [w64 _ (by omega) (by omega)]; rfl
        · show [Row.vec _ 4 z4 eS B] = [Row.vec _ 4 z4 eS (imV pix W thr noise (y + 1))]
          rw [hT, hV, hr, List.append_nil]
      · rw [if_pos h0] at hr
        obtain ⟨k0, k1, k2, k3, k4, k5, k6⟩ := ev h0
        have v16 : validB (16, 1) = true := by decide
        have t1 := pc_rTimes S.1 (16, 1) k2 v16
        have t2 := pc_rTimes S.2 (16, 1) k3 v16
        have d1 := pc_rDown (mulF S.1 (16, 1)).1 k4
        have n1 := pc_rNeg (mulF S.2 (16, 1)).1 k5
        have d2 := pc_rDown (negF (mulF S.2 (16, 1)).1) (minus_valid k5)
        have hv : edgV S y = (((y : Int), 1), ((mulF S.1 (16, 1)).1.1 / (mulF S.1 (16, 1)).1.2, -(-(mulF S.2 (16, 1)).1.1 / (mulF S.2 (16, 1)).1.2))) := by unfold edgV; rw [k6]
        have bq : -4611686018427387903 ≤ -(mulF S.2 (16, 1)).1.1 / (mulF S.2 (16, 1)).1.2 ∧ -(mulF S.2 (16, 1)).1.1 / (mulF S.2 (16, 1)).1.2 ≤ 4611686018427387903 := ceil_bound k5
        generalize mulF S.1 (16, 1) = A at *
        generalize mulF S.2 (16, 1) = C at *
        clear ev k0 k1 k2 k3 k4 k5 k6
        obtain ⟨⟨A1, A2⟩, A3⟩ := A
        obtain ⟨⟨C1, C2⟩, C3⟩ := C
        obtain ⟨⟨S1, S2⟩, ⟨S3, S4⟩⟩ := S
        unfold negF at d2 n1
        simp only [] at hv d1 d2 n1 bq t1 t2
        generalize A1 / A2 = lo at *
        generalize -C1 / C2 = hi at *
        have wh : IntKind.i64.wrap (0 - hi) = -hi := by rw [Int.zero_sub]; exact w64 _ (by omega) (by omega)
        refine ⟨fun h => absurd h0 (by simpa using h), fun _ => ?_⟩
        (conv => whnf)
        (repeat' (first | (refine ⟨_, by first | exact t1 | exact t2 | exact d1 | exact n1 | exact d2, ?_⟩; (conv => whnf)) | (refine Or.inl ?_; (conv => whnf); refine ⟨_, by first | exact t1 | exact t2 | exact d1 | exact n1 | exact d2, ?_⟩; (conv => whnf)) | (refine Or.inl ?_; (conv => whnf); refine ⟨false, ?_⟩; (conv => whnf); refine ⟨_, by first | exact t1 | exact t2 | exact d1 | exact n1 | exact d2, ?_⟩; (conv => whnf)) | (refine ⟨by kernel_rfl, ?_⟩; (conv => whnf)) | fail))
        (repeat' (first | (refine ⟨_, by first | exact t1 | exact t2 | exact d1 | exact n1 | exact d2, ?_⟩; (conv => whnf)) | (refine Or.inl ?_; (conv => whnf); refine ⟨_, by first | exact t1 | exact t2 | exact d1 | exact n1 | exact d2, ?_⟩; (conv => whnf)) | (refine Or.inl ?_; (conv => whnf); refine ⟨false, ?_⟩; (conv => whnf); refine ⟨_, by first | exact t1 | exact t2 | exact d1 | exact n1 | exact d2, ?_⟩; (conv => whnf)) | (refine ⟨by kernel_rfl, ?_⟩; (conv => whnf)) | (refine ⟨fun _ => ?_, fun h => absurd h (by first | decide | (simp; done) | fail)⟩; (conv => whnf)) | (refine ⟨fun h => absurd h (by first | decide | (simp; done) | fail), fun _ => ?_⟩; (conv => whnf)) | fail))
        refine ⟨⟨SpT, 4, z4, eS, B⟩, [edgV ((S1, S2), (S3, S4)) y], rfl, rfl, ⟨rfl, ?_⟩, ?_, ?_, fun z _ => ⟨rfl, rfl, rfl⟩, ?_⟩
        · rw [hv]
          show [[i64 (y : Int), i64 1, i64 lo, i64 (IntKind.i64.wrap (0 - hi))]] = [[i64 (y : Int), i64 1, i64 lo, i64 (-hi)]]
          rw [wh]
        · show (B.length + 1) * 32 ≤ _; omega
        · show B.length + 1 ≤ _; omega
        (conv => whnf)
        (repeat' (first | (refine ⟨by kernel_rfl, ?_⟩; (conv => whnf)) | (refine And.intro (a := _ ∧ _) ⟨by omega, by omega⟩ ?_; (conv => whnf))))
        refine ⟨y + 1, ?_⟩
        (conv => whnf)
        refine ⟨⟨⟨Nat.sub_lt_sub_left (by omega) (Nat.lt_succ_self y), by omega⟩, ?_, rfl, ?_⟩, by kernel_rfl, by kernel_rfl⟩
        · rw [w64 _ (by omega) (by omega)]; rfl
        · show [Row.vec _ 4 z4 eS (B ++ [edgV ((S1, S2), (S3, S4)) y])] = [Row.vec _ 4 z4 eS (imV pix W thr noise (y + 1))]
          rw [hT, hV, hr]
    · have h := of_decide_eq_false h
      have e4 : y = H := by omega
      subst e4
      (conv => whnf)
      first | rfl | set_option pp.maxSteps 300 in trace_state
end Go.Proofs.Tryz.My
