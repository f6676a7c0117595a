/- A helper text: contracts of functions of the program, and plain lemmas. -/
import Derived.Test.YtblmmhmdnnnidaaGreatMzLvA
set_option maxRecDepth 100000
set_option maxHeartbeats 0
set_option linter.unusedVariables false
set_option linter.unusedSimpArgs false
namespace Go.Proofs.Tryz.My
open Go Go.Ev

def seenQ (q : List SpT) (x z : Int) (xs : List (List AV)) (hx : -1000 ≤ x ∧ x ≤ 1000) (hz : 1 ≤ z ∧ z ≤ 1000) (hl : q.length ≤ 12) (hv : ∀ i, i < q.length → viewB (q.getD i z4) = true)
    (hz0 : ∀ i j, i < q.length → j < (zerO x z (q.getD i z4)).length → xs[((q.take i).flatMap (zerO x z)).length + j]? = ((zerO x z (q.getD i z4))[j]?).map eB)
    (l1 : ∀ i, ((q.take i).flatMap (lowO x z)).length ≤ 12) (l2 : ∀ i, ((q.take i).flatMap (higO x z)).length ≤ 12) : PSigma (fun Q : Nat → Prop => (∀ l, Q l) → ∀ l, (seenP q x z xs).1 l) := ⟨_, fun hQ l => by
  intro i hi
  (conv => whnf)
  refine ⟨fun h => ?_, fun h => ?_⟩
  · have h := of_decide_eq_true h
    have h' : i < q.length := Int.ofNat_lt.1 h
    have gi : q.getD (Int.toNat (i : Int)) z4 = q.getD i z4 := rfl
    have vi := (viewB_iff _).1 (hv i h')
    have tz : (q.take (i + 1)).flatMap (zerO x z) = _ := take_flat (zerO x z) q z4 h'
    have tl : (q.take (i + 1)).flatMap (lowO x z) = _ := take_flat (lowO x z) q z4 h'
    have th : (q.take (i + 1)).flatMap (higO x z) = _ := take_flat (higO x z) q z4 h'
    have z0 := hz0 i 0 h'
    have z1 := hz0 i 1 h'
    have l1i := l1 i
    have l2i := l2 i
    rw [Nat.add_zero] at z0
    have e0 : sOf x z (q.getD i z4) = (q.getD i z4).1.1 * z - x * (q.getD i z4).1.2 := rfl
    have eL : limL x z (q.getD i z4) = ((sgn (sOf x z (q.getD i z4)), absI (sOf x z (q.getD i z4))), ((q.getD i z4).1.2 * z, (q.getD i z4).2.1)) := rfl
    have eH : limH x z (q.getD i z4) = ((sgn (sOf x z (q.getD i z4)), absI (sOf x z (q.getD i z4))), ((q.getD i z4).1.2 * z, (q.getD i z4).2.2)) := rfl
    have eZ : zerO x z (q.getD i z4) = if sOf x z (q.getD i z4) = 0 then [(-1, -(q.getD i z4).2.1), (1, (q.getD i z4).2.2)] else [] := rfl
    have eW : lowO x z (q.getD i z4) = if sOf x z (q.getD i z4) = 0 then [] else if 0 < sOf x z (q.getD i z4) then [limL x z (q.getD i z4)] else [limH x z (q.getD i z4)] := rfl
    have eU : higO x z (q.getD i z4) = if sOf x z (q.getD i z4) = 0 then [] else if 0 < sOf x z (q.getD i z4) then [limH x z (q.getD i z4)] else [limL x z (q.getD i z4)] := rfl
    rw [eW, eL, eH, e0] at tl
    rw [eU, eL, eH, e0] at th
    rw [eZ, e0] at tz z0 z1
    clear e0 eL eH eZ eW eU
    (conv => whnf)
    refine ⟨⟨by omega, by omega⟩, ?_⟩
    (conv => whnf)
    rw [gi]
    generalize (q.getD i z4).1.1 = vx at *
    generalize (q.getD i z4).1.2 = vz at *
    generalize (q.getD i z4).2.1 = vl at *
    generalize (q.getD i z4).2.2 = vh at *
    obtain ⟨s, hs⟩ : ∃ s, vx * z - x * vz = s := ⟨_, rfl⟩
    have m1 := mul_pm (a := vx) (b := z) (A := 1000) (B := 1000) (by omega) (by omega) (by omega) (by omega)
    have m2 := mul_pm (a := x) (b := vz) (A := 1000) (B := 1000) (by omega) (by omega) (by omega) (by omega)
    have m3 := mul_pm (a := vz) (b := z) (A := 1000) (B := 1000) (by omega) (by omega) (by omega) (by omega)
    have ws : IntKind.i64.wrap (IntKind.i64.wrap (vx * z) - IntKind.i64.wrap (x * vz)) = s := by
      rw [w64 (vx * z) (by omega) (by omega), w64 (x * vz) (by omega) (by omega), w64 _ (by omega) (by omega)]; exact hs
    have sb : -2000000 ≤ s ∧ s ≤ 2000000 := by omega
    have wu : IntKind.i64.wrap (vz * z) = vz * z := w64 _ (by omega) (by omega)
    have wn : IntKind.i64.wrap (0 - s) = -s := by rw [w64 _ (by omega) (by omega)]; omega
    have wv : IntKind.i64.wrap (0 - vl) = -vl := by rw [w64 _ (by omega) (by omega)]; omega
    rw [hs] at tz tl th z0 z1
    rw [ws]
    have cs := pc_lsign s
    generalize hS : (if s < 0 then (-1 : Int) else if 0 < s then 1 else 0) = S at cs
    (repeat' (first | (refine ⟨by kernel_rfl, ?_⟩; (conv => whnf)) | fail))
    refine ⟨_, cs, ?_⟩
    (conv => whnf)
    (repeat' (first | (refine ⟨by kernel_rfl, ?_⟩; (conv => whnf)) | fail))
    refine ⟨_, cs, ?_⟩
    (conv => whnf)
    (repeat' (first | (refine ⟨by kernel_rfl, ?_⟩; (conv => whnf)) | fail))
    refine ⟨fun h2 => ?_, fun h2 => ?_⟩
    · have h2 := of_decide_eq_true h2
      obtain rfl : s = 0 := h2
      have z0 := z0 (by simp)
      have z1 := z1 (by simp)
      simp only [if_true] at tz tl th z0 z1
      (conv => whnf)
      (repeat' (first | (refine ⟨by kernel_rfl, ?_⟩; (conv => whnf)) | fail))
      refine ⟨⟨rfl, z0.trans ?_, by kernel_rfl⟩, ?_, ?_⟩
      · show some [AV.agg [i64 (-1), i64 (-vl)]] = some [AV.agg [i64 (-1), i64 (IntKind.i64.wrap (0 - vl))]]
        rw [wv]
      · (conv => whnf)
        (repeat' (first | (refine ⟨by kernel_rfl, ?_⟩; (conv => whnf)) | fail))
        refine ⟨⟨rfl, z1.trans ?_, by kernel_rfl⟩, ?_, ?_⟩
        · rfl
        · (conv => whnf)
          (repeat' (first | (refine ⟨by kernel_rfl, ?_⟩; (conv => whnf)) | fail))
          refine ⟨i + 1, ?_⟩
          (conv => whnf)
          refine ⟨⟨⟨Nat.sub_lt_sub_left h' (Nat.lt_succ_self i), h'⟩, ?_, ?_, ?_⟩, by kernel_rfl, by kernel_rfl⟩
          · rw [w64 _ (by omega) (by omega)]; rfl
          · show [Row.ctr l xs _ false] = [Row.ctr l xs ((q.take (i + 1)).flatMap (zerO x z)).length false]
            rw [tz, List.length_append]; rfl
          · show [Row.vec _ 4 z4 eS _, Row.vec _ 4 z4 eS _] = [Row.vec _ 4 z4 eS ((q.take (i + 1)).flatMap (lowO x z)), Row.vec _ 4 z4 eS ((q.take (i + 1)).flatMap (higO x z))]
            rw [tl, th]; simp only [List.append_nil]
        · (conv => whnf)
          intro h; cases h
      · (conv => whnf)
        intro h; cases h
    · have h2 := of_decide_eq_false h2
      have h2 : ¬ s = 0 := h2
      rw [if_neg h2] at tz tl th
      (conv => whnf)
      (repeat' (first | (refine ⟨by kernel_rfl, ?_⟩; (conv => whnf)) | fail))
      refine ⟨fun h3 => ?_, fun h3 => ?_⟩
      · have h3 := of_decide_eq_true h3
        rw [if_pos h3] at tl th
        (conv => whnf)
        (repeat' (first | (refine ⟨by kernel_rfl, ?_⟩; (conv => whnf)) | fail))
        refine ⟨⟨SpT, 4, z4, eS, (q.take i).flatMap (lowO x z)⟩, [((sgn s, absI s), (vz * z, vl))], rfl, rfl, ⟨rfl, ?_⟩, ?_, ?_, fun y _ => ⟨rfl, rfl, rfl⟩, ?_⟩
        · show [[i64 S, i64 (if IntKind.i64.wrap (0 - s) > s then IntKind.i64.wrap (0 - s) else s), i64 (IntKind.i64.wrap (vz * z)), i64 vl]] = [[i64 (sgn s), i64 (absI s), i64 (vz * z), i64 vl]]
          rw [wn, wu, ← hS]; rfl
        · show (((q.take i).flatMap (lowO x z)).length + 1) * 32 ≤ _
          refine Nat.le_trans (show _ ≤ 1000 by omega) ?_; simp
        · show ((q.take i).flatMap (lowO x z)).length + 1 ≤ _
          refine Nat.le_trans (show _ ≤ 1000 by omega) ?_; simp
        (conv => whnf)
        (repeat' (first | (refine ⟨by kernel_rfl, ?_⟩; (conv => whnf)) | fail))
        refine ⟨⟨SpT, 4, z4, eS, (q.take i).flatMap (higO x z)⟩, [((sgn s, absI s), (vz * z, vh))], rfl, rfl, ⟨rfl, ?_⟩, ?_, ?_, fun y _ => ⟨rfl, rfl, rfl⟩, ?_⟩
        · show [[i64 S, i64 (if IntKind.i64.wrap (0 - s) > s then IntKind.i64.wrap (0 - s) else s), i64 (IntKind.i64.wrap (vz * z)), i64 vh]] = [[i64 (sgn s), i64 (absI s), i64 (vz * z), i64 vh]]
          rw [wn, wu, ← hS]; rfl
        · show (((q.take i).flatMap (higO x z)).length + 1) * 32 ≤ _
          refine Nat.le_trans (show _ ≤ 1000 by omega) ?_; simp
        · show ((q.take i).flatMap (higO x z)).length + 1 ≤ _
          refine Nat.le_trans (show _ ≤ 1000 by omega) ?_; simp
        (conv => whnf)
        (repeat' (first | (refine ⟨by kernel_rfl, ?_⟩; (conv => whnf)) | fail))
        refine ⟨i + 1, ?_⟩
        (conv => whnf)
        refine ⟨⟨⟨Nat.sub_lt_sub_left h' (Nat.lt_succ_self i), h'⟩, ?_, ?_, ?_⟩, by kernel_rfl, by kernel_rfl⟩
        · rw [w64 _ (by omega) (by omega)]; rfl
        · show [Row.ctr l xs _ false] = [Row.ctr l xs ((q.take (i + 1)).flatMap (zerO x z)).length false]
          rw [tz, List.length_append]; rfl
        · show [Row.vec _ 4 z4 eS _, Row.vec _ 4 z4 eS _] = [Row.vec _ 4 z4 eS ((q.take (i + 1)).flatMap (lowO x z)), Row.vec _ 4 z4 eS ((q.take (i + 1)).flatMap (higO x z))]
          rw [tl, th]
      · have h3 := of_decide_eq_false h3
        rw [if_neg h3] at tl th
        (conv => whnf)
        (repeat' (first | (refine ⟨by kernel_rfl, ?_⟩; (conv => whnf)) | fail))
        refine ⟨⟨SpT, 4, z4, eS, (q.take i).flatMap (lowO x z)⟩, [((sgn s, absI s), (vz * z, vh))], rfl, rfl, ⟨rfl, ?_⟩, ?_, ?_, fun y _ => ⟨rfl, rfl, rfl⟩, ?_⟩
        · show [[i64 S, i64 (if IntKind.i64.wrap (0 - s) > s then IntKind.i64.wrap (0 - s) else s), i64 (IntKind.i64.wrap (vz * z)), i64 vh]] = [[i64 (sgn s), i64 (absI s), i64 (vz * z), i64 vh]]
          rw [wn, wu, ← hS]; rfl
        · show (((q.take i).flatMap (lowO x z)).length + 1) * 32 ≤ _
          refine Nat.le_trans (show _ ≤ 1000 by omega) ?_; simp
        · show ((q.take i).flatMap (lowO x z)).length + 1 ≤ _
          refine Nat.le_trans (show _ ≤ 1000 by omega) ?_; simp
        (conv => whnf)
        (repeat' (first | (refine ⟨by kernel_rfl, ?_⟩; (conv => whnf)) | fail))
        refine ⟨⟨SpT, 4, z4, eS, (q.take i).flatMap (higO x z)⟩, [((sgn s, absI s), (vz * z, vl))], rfl, rfl, ⟨rfl, ?_⟩, ?_, ?_, fun y _ => ⟨rfl, rfl, rfl⟩, ?_⟩
        · show [[i64 S, i64 (if IntKind.i64.wrap (0 - s) > s then IntKind.i64.wrap (0 - s) else s), i64 (IntKind.i64.wrap (vz * z)), i64 vl]] = [[i64 (sgn s), i64 (absI s), i64 (vz * z), i64 vl]]
          rw [wn, wu, ← hS]; rfl
        · show (((q.take i).flatMap (higO x z)).length + 1) * 32 ≤ _
          refine Nat.le_trans (show _ ≤ 1000 by omega) ?_; simp
        · show ((q.take i).flatMap (higO x z)).length + 1 ≤ _
          refine Nat.le_trans (show _ ≤ 1000 by omega) ?_; simp
        (conv => whnf)
        (repeat' (first | (refine ⟨by kernel_rfl, ?_⟩; (conv => whnf)) | fail))
        refine ⟨i + 1, ?_⟩
        (conv => whnf)
        refine ⟨⟨⟨Nat.sub_lt_sub_left h' (Nat.lt_succ_self i), h'⟩, ?_, ?_, ?_⟩, by kernel_rfl, by kernel_rfl⟩
        · rw [w64 _ (by omega) (by omega)]; rfl
        · show [Row.ctr l xs _ false] = [Row.ctr l xs ((q.take (i + 1)).flatMap (zerO x z)).length false]
          rw [tz, List.length_append]; rfl
        · show [Row.vec _ 4 z4 eS _, Row.vec _ 4 z4 eS _] = [Row.vec _ 4 z4 eS ((q.take (i + 1)).flatMap (lowO x z)), Row.vec _ 4 z4 eS ((q.take (i + 1)).flatMap (higO x z))]
          rw [tl, th]
  · have h := of_decide_eq_false h
    obtain rfl : i = q.length := by omega
    exact hQ l⟩
end Go.Proofs.Tryz.My
