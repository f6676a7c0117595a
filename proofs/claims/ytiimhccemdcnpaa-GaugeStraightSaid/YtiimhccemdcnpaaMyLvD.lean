/- A helper text: contracts of functions of the program, and plain lemmas. -/
import Derived.Test.YtiimhccemdcnpaaMyLvA
set_option maxRecDepth 100000
set_option maxHeartbeats 0
set_option linter.unusedVariables false
set_option linter.unusedSimpArgs false
namespace Go.Proofs.Try.My
open Go Go.Ev

def seenQ (q : List SpT) (x z : Int) (xs : List (List AV)) (hx : -1000 ≤ x ∧ x ≤ 1000) (hz : 1 ≤ z ∧ z ≤ 1000) (hl : q.length ≤ 12) (hv : ∀ i, i < q.length → viewB (q.getD i z4) = true)
    (hz0 : ∀ i j, i < q.length → j < (zerO x z (q.getD i z4)).length → xs[((q.take i).flatMap (zerO x z)).length + j]? = ((zerO x z (q.getD i z4))[j]?).map eB)
    (l1 : ∀ i, ((q.take i).flatMap (lowO x z)).length ≤ 12) (l2 : ∀ i, ((q.take i).flatMap (higO x z)).length ≤ 12) : PSigma (fun Q : Nat → Prop => (∀ l, Q l) → ∀ l, (seenP q x z xs).1 l) := ⟨_, fun hQ l => by
  intro i hi
  (conv => whnf)
  refine ⟨fun h => ?_, fun h => ?_⟩
  · have h := of_decide_eq_true h
    have h' : i < q.length := Int.ofNat_lt.1 h
    have gi : q.getD (Int.toNat (i : Int)) z4 = q.getD i z4 := rfl
    have vi := (viewB_iff _).1 (hv i h')
    have tz : (q.take (i + 1)).flatMap (zerO x z) = _ := take_flat (zerO x z) q z4 h'
    have tl : (q.take (i + 1)).flatMap (lowO x z) = _ := take_flat (lowO x z) q z4 h'
    have th : (q.take (i + 1)).flatMap (higO x z) = _ := take_flat (higO x z) q z4 h'
    have z0 := hz0 i 0 h'
    have z1 := hz0 i 1 h'
    have l1i := l1 i
    have l2i := l2 i
    rw [Nat.add_zero] at z0
    have e0 : sOf x z (q.getD i z4) = (q.getD i z4).1.1 * z - x * (q.getD i z4).1.2 := rfl
    have eL : limL x z (q.getD i z4) = ((sgn (sOf x z (q.getD i z4)), absI (sOf x z (q.getD i z4))), ((q.getD i z4).1.2 * z, (q.getD i z4).2.1)) := rfl
    have eH : limH x z (q.getD i z4) = ((sgn (sOf x z (q.getD i z4)), absI (sOf x z (q.getD i z4))), ((q.getD i z4).1.2 * z, (q.getD i z4).2.2)) := rfl
    have eZ : zerO x z (q.getD i z4) = if sOf x z (q.getD i z4) = 0 then [(-1, -(q.getD i z4).2.1), (1, (q.getD i z4).2.2)] else [] := rfl
    have eW : lowO x z (q.getD i z4) = if sOf x z (q.getD i z4) = 0 then [] else if 0 < sOf x z (q.getD i z4) then [limL x z (q.getD i z4)] else [limH x z (q.getD i z4)] := rfl
    have eU : higO x z (q.getD i z4) = if sOf x z (q.getD i z4) = 0 then [] else if 0 < sOf x z (q.getD i z4) then [limH x z (q.getD i z4)] else [limL x z (q.getD i z4)] := rfl
    rw [eW, eL, eH, e0] at tl
    rw [eU, eL, eH, e0] at th
    rw [eZ, e0] at tz z0 z1
    clear e0 eL eH eZ eW eU
    (conv => whnf)
    refine ⟨⟨by omega, by omega⟩, ?_⟩
    (conv => whnf)
    rw [gi]
    generalize (q.getD i z4).1.1 = vx at *
    generalize (q.getD i z4).1.2 = vz at *
    generalize (q.getD i z4).2.1 = vl at *
    generalize (q.getD i z4).2.2 = vh at *
    obtain ⟨s, hs⟩ : ∃ s, vx * z - x * vz = s := ⟨_, rfl⟩
    have m1 := mul_pm (a := vx) (b := z) (A := 1000) (B := 1000) (by omega) (by omega) (by omega) (by omega)
    have m2 := mul_pm (a := x) (b := vz) (A := 1000) (B := 1000) (by omega) (by omega) (by omega) (by omega)
    have m3 := mul_pm (a := vz) (b := z) (A := 1000) (B := 1000) (by omega) (by omega) (by omega) (by omega)
    have ws : IntKind.i64.wrap (IntKind.i64.wrap (vx * z) - IntKind.i64.wrap (x * vz)) = s := by
      rw [w64 (vx * z) (by omega) (by omega), w64 (x * vz) (by omega) (by omega), w64 _ (by omega) (by omega)]; exact hs
    have sb : -2000000 ≤ s ∧ s ≤ 2000000 := by omega
    have wu : IntKind.i64.wrap (vz * z) = vz * z := w64 _ (by omega) (by omega)
    have wn : IntKind.i64.wrap (0 - s) = -s := by rw [w64 _ (by omega) (by omega)]; omega
    have wv : IntKind.i64.wrap (0 - vl) = -vl := by rw [w64 _ (by omega) (by omega)]; omega
    rw [hs] at tz tl th z0 z1
    rw [ws]
    have cs := pc_lsign s
    generalize hS : (if s < 0 then (-1 : Int) else if 0 < s then 1 else 0) = S at cs
    (repeat' (first | (refine ⟨by kernel_rfl, ?_⟩; (conv => whnf)) | fail))
    refine ⟨_, cs, ?_⟩
    (conv => whnf)
    (repeat' (first | (refine ⟨by kernel_rfl, ?_⟩; (conv => whnf)) | fail))
    refine ⟨_, cs, ?_⟩
    (conv => whnf)
    (repeat' (first | (refine ⟨by kernel_rfl, ?_⟩; (conv => whnf)) | fail))
    refine ⟨fun h2 => ?_, fun h2 => ?_⟩
    · have h2 := of_decide_eq_true h2
      obtain rfl : s = 0 := h2
      have z0 := z0 (by simp)
      have z1 := z1 (by simp)
      simp only [if_true] at tz tl th z0 z1
      (conv => whnf)
      (repeat' (first | (refine ⟨by kernel_rfl, ?_⟩; (conv => whnf)) | fail))
      refine ⟨⟨rfl, z0.trans ?_, by kernel_rfl⟩, ?_, ?_⟩
      · show some [AV.agg [i64 (-1), i64 (-vl)]] = some [AV.agg [i64 (-1), i64 (IntKind.i64.wrap (0 - vl))]]
        rw [wv]
      · (conv => whnf)
        (repeat' (first | (refine ⟨by kernel_rfl, ?_⟩; (conv => whnf)) | fail))
        refine ⟨⟨rfl, z1.trans ?_, by kernel_rfl⟩, ?_, ?_⟩
        · rfl
        · (conv => whnf)
          (repeat' (first | (refine ⟨by kernel_rfl, ?_⟩; (conv => whnf)) | fail))
          refine ⟨i + 1, ?_⟩
          (conv => whnf)
          refine ⟨⟨⟨Nat.sub_lt_sub_left h' (Nat.lt_succ_self i), h'⟩, ?_, ?_, ?_⟩, by kernel_rfl, by kernel_rfl⟩
          · rw [w64 _ (by omega) (by omega)]; rfl
          · show [Row.ctr l xs _ false] = [Row.ctr l xs ((q.take (i + 1)).flatMap (zerO x z)).length false]
            rw [tz, List.length_append]; rfl
          · show [Row.vec _ 4 z4 eS _, Row.vec _ 4 z4 eS _] = [Row.vec _ 4 z4 eS ((q.take (i + 1)).flatMap (lowO x z)), Row.vec _ 4 z4 eS ((q.take (i + 1)).flatMap (higO x z))]
            rw [tl, th]; simp only [List.append_nil]
        · (conv => whnf)
          intro h; cases h
      · (conv => whnf)
        intro h; cases h
    · have h2 := of_decide_eq_false h2
      have h2 : ¬ s = 0 := h2
      rw [if_neg h2] at tz tl th
      (conv => whnf)
      (repeat' (first | (refine ⟨by kernel_rfl, ?_⟩; (conv => whnf)) | fail))
      refine ⟨fun h3 => ?_, fun h3 => ?_⟩
      · have h3 := of_decide_eq_true h3
        rw [if_pos h3] at tl th
        (conv => whnf)
        (repeat' (first | (refine ⟨by kernel_rfl, ?_⟩; (conv => whnf)) | fail))
        refine ⟨⟨SpT, 4, z4, eS, (q.take i).flatMap (lowO x z)⟩, [((sgn s, absI s), (vz * z, vl))], rfl, rfl, ⟨rfl, ?_⟩, ?_, ?_, fun y _ => ⟨rfl, rfl, rfl⟩, ?_⟩
        · show [[i64 S, i64 (if IntKind.i64.wrap (0 - s) > s then IntKind.i64.wrap (0 - s) else s), i64 (IntKind.i64.wrap (vz * z)), i64 vl]] = [[i64 (sgn s), i64 (absI s), i64 (vz * z), i64 vl]]
          rw [wn, wu, ← hS]; rfl
        · show (((q.take i).flatMap (lowO x z)).length + 1) * 32 ≤ _
          refine Nat.le_trans (show _ ≤ 1000 by omega) ?_; simp
        · show ((q.take i).flatMap (lowO x z)).length + 1 ≤ _
          refine Nat.le_trans (show _ ≤ 1000 by omega) ?_; simp
        (conv => whnf)
        (repeat' (first | (refine ⟨by kernel_rfl, ?_⟩; (conv => whnf)) | fail))
        refine ⟨⟨SpT, 4, z4, eS, (q.take i).flatMap (higO x z)⟩, [((sgn s, absI s), (vz * z, vh))], rfl, rfl, ⟨rfl, ?_⟩, ?_, ?_, fun y _ => ⟨rfl, rfl, rfl⟩, ?_⟩
        · show [[i64 S, i64 (if IntKind.i64.wrap (0 - s) > s then IntKind.i64.wrap (0 - s) else s), i64 (IntKind.i64.wrap (vz * z)), i64 vh]] = [[i64 (sgn s), i64 (absI s), i64 (vz * z), i64 vh]]
          rw [wn, wu, ← hS]; rfl
        · show (((q.take i).flatMap (higO x z)).length + 1) * 32 ≤ _
          refine Nat.le_trans (show _ ≤ 1000 by omega) ?_; simp
        · show ((q.take i).flatMap (higO x z)).length + 1 ≤ _
          refine Nat.le_trans (show _ ≤ 1000 by omega) ?_; simp
        (conv => whnf)
        (repeat' (first | (refine ⟨by kernel_rfl, ?_⟩; (conv => whnf)) | fail))
        refine ⟨i + 1, ?_⟩
        (conv => whnf)
        refine ⟨⟨⟨Nat.sub_lt_sub_left h' (Nat.lt_succ_self i), h'⟩, ?_, ?_, ?_⟩, by kernel_rfl, by kernel_rfl⟩
        · rw [w64 _ (by omega) (by omega)]; rfl
        · show [Row.ctr l xs _ false] = [Row.ctr l xs ((q.take (i + 1)).flatMap (zerO x z)).length false]
          rw [tz, List.length_append]; rfl
        · show [Row.vec _ 4 z4 eS _, Row.vec _ 4 z4 eS _] = [Row.vec _ 4 z4 eS ((q.take (i + 1)).flatMap (lowO x z)), Row.vec _ 4 z4 eS ((q.take (i + 1)).flatMap (higO x z))]
          rw [tl, th]
      · have h3 := of_decide_eq_false h3
        rw [if_neg h3] at tl th
        (conv => whnf)
        (repeat' (first | (refine ⟨by kernel_rfl, ?_⟩; (conv => whnf)) | fail))
        refine ⟨⟨SpT, 4, z4, eS, (q.take i).flatMap (lowO x z)⟩, [((sgn s, absI s), (vz * z, vh))], rfl, rfl, ⟨rfl, ?_⟩, ?_, ?_, fun y _ => ⟨rfl, rfl, rfl⟩, ?_⟩
        · show [[i64 S, i64 (if IntKind.i64.wrap (0 - s) > s then IntKind.i64.wrap (0 - s) else s), i64 (IntKind.i64.wrap (vz * z)), i64 vh]] = [[i64 (sgn s), i64 (absI s), i64 (vz * z), i64 vh]]
          rw [wn, wu, ← hS]; rfl
        · show (((q.take i).flatMap (lowO x z)).length + 1) * 32 ≤ _
          refine Nat.le_trans (show _ ≤ 1000 by omega) ?_; simp
        · show ((q.take i).flatMap (lowO x z)).length + 1 ≤ _
          refine Nat.le_trans (show _ ≤ 1000 by omega) ?_; simp
        (conv => whnf)
        (repeat' (first | (refine ⟨by kernel_rfl, ?_⟩; (conv => whnf)) | fail))
        refine ⟨⟨SpT, 4, z4, eS, (q.take i).flatMap (higO x z)⟩, [((sgn s, absI s), (vz * z, vl))], rfl, rfl, ⟨rfl, ?_⟩, ?_, ?_, fun y _ => ⟨rfl, rfl, rfl⟩, ?_⟩
        · show [[i64 S, i64 (if IntKind.i64.wrap (0 - s) > s then IntKind.i64.wrap (0 - s) else s), i64 (IntKind.i64.wrap (vz * z)), i64 vl]] = [[i64 (sgn s), i64 (absI s), i64 (vz * z), i64 vl]]
          rw [wn, wu, ← hS]; rfl
        · show (((q.take i).flatMap (higO x z)).length + 1) * 32 ≤ _
          refine Nat.le_trans (show _ ≤ 1000 by omega) ?_; simp
        · show ((q.take i).flatMap (higO x z)).length + 1 ≤ _
          refine Nat.le_trans (show _ ≤ 1000 by omega) ?_; simp
        (conv => whnf)
        (repeat' (first | (refine ⟨by kernel_rfl, ?_⟩; (conv => whnf)) | fail))
        refine ⟨i + 1, ?_⟩
        (conv => whnf)
        refine ⟨⟨⟨Nat.sub_lt_sub_left h' (Nat.lt_succ_self i), h'⟩, ?_, ?_, ?_⟩, by kernel_rfl, by kernel_rfl⟩
        · rw [w64 _ (by omega) (by omega)]; rfl
        · show [Row.ctr l xs _ false] = [Row.ctr l xs ((q.take (i + 1)).flatMap (zerO x z)).length false]
          rw [tz, List.length_append]; rfl
        · show [Row.vec _ 4 z4 eS _, Row.vec _ 4 z4 eS _] = [Row.vec _ 4 z4 eS ((q.take (i + 1)).flatMap (lowO x z)), Row.vec _ 4 z4 eS ((q.take (i + 1)).flatMap (higO x z))]
          rw [tl, th]
  · have h := of_decide_eq_false h
    obtain rfl : i = q.length := by omega
    exact hQ l⟩
end Go.Proofs.Try.My
set_option maxRecDepth 100000
set_option maxHeartbeats 0
set_option linter.unusedVariables false
set_option linter.unusedSimpArgs false
namespace Go.Proofs.Try.My
open Go Go.Ev

theorem seen_end (q : List SpT) (x z : Int) (xs : List (List AV)) (hx : -1000 ≤ x ∧ x ≤ 1000) (hz : 1 ≤ z ∧ z ≤ 1000) (hl : q.length ≤ 12) (hv : ∀ i, i < q.length → viewB (q.getD i z4) = true)
    (hz0 : ∀ i j, i < q.length → j < (zerO x z (q.getD i z4)).length → xs[((q.take i).flatMap (zerO x z)).length + j]? = ((zerO x z (q.getD i z4))[j]?).map eB)
    (l1 : ∀ i, ((q.take i).flatMap (lowO x z)).length ≤ 12) (l2 : ∀ i, ((q.take i).flatMap (higO x z)).length ≤ 12)
    (ok1 : ∀ j, j < (lowT q x z).length → limOK ((lowT q x z).getD j z4)) (ok2 : ∀ j, j < (higT q x z).length → limOK ((higT q x z).getD j z4))
    (hg : ∀ i j, i < (lowT q x z).length → j < (higT q x z).length → xs[(q.flatMap (zerO x z)).length + (i * (higT q x z).length + j)]? = some (eB (bndP ((lowT q x z).getD i z4) ((higT q x z).getD j z4))))
    (hlen : xs.length = (q.flatMap (zerO x z)).length + (lowT q x z).length * (higT q x z).length) (l : Nat) : (seenQ q x z xs hx hz hl hv hz0 l1 l2).1 l := by
  have b1 : (lowT q x z).length ≤ 12 := by have := l1 q.length; rw [List.take_length] at this; exact this
  have b2 : (higT q x z).length ≤ 12 := by have := l2 q.length; rw [List.take_length] at this; exact this
  have e1 : (q.take q.length).flatMap (lowO x z) = lowT q x z := by rw [List.take_length]; rfl
  have e2 : (q.take q.length).flatMap (higO x z) = higT q x z := by rw [List.take_length]; rfl
  have e3 : (q.take q.length).flatMap (zerO x z) = q.flatMap (zerO x z) := by rw [List.take_length]
  generalize q.flatMap (zerO x z) = Z at *
  (conv => whnf)
  rw [e1, e2, e3]
  clear e1 e2 e3 hz0 l1 l2
  generalize lowT q x z = A at *
  generalize higT q x z = B at *
  generalize Z.length = Z at *
  refine Or.inr ⟨Nat, [99], [143], [], fun i => [i64 i], fun i => [.ctr l xs (Z + i * B.length) false], fun _ => [], fun i => A.length - i, fun i => i ≤ A.length, ?_⟩
  (conv => whnf)
  refine ⟨⟨0, ?_⟩, ?_⟩
  · (conv => whnf)
    refine ⟨⟨Nat.zero_le _, rfl, ?_, rfl⟩, by kernel_rfl, by kernel_rfl⟩
    show [Row.ctr l xs Z false] = [Row.ctr l xs (Z + 0 * B.length) false]
    rw [Nat.zero_mul]; rfl
  · intro i hi
    (conv => whnf)
    refine ⟨fun h => ?_, fun h => ?_⟩
    · have h := of_decide_eq_true h
      have h' : i < A.length := Int.ofNat_lt.1 h
      have gi : A.getD (Int.toNat (i : Int)) z4 = A.getD i z4 := rfl
      (conv => whnf)
      refine ⟨⟨by omega, by omega⟩, ?_⟩
      (conv => whnf)
      refine ⟨h', ?_⟩
      (conv => whnf)
      (repeat' (first | (refine ⟨by kernel_rfl, ?_⟩; (conv => whnf)) | fail))
      refine Or.inr ⟨Nat, [105], [143], [], fun j => [i64 j], fun j => [.ctr l xs (Z + (i * B.length + j)) false], fun _ => [], fun j => B.length - j, fun j => j ≤ B.length, ?_⟩
      (conv => whnf)
      refine ⟨⟨0, ?_⟩, ?_⟩
      · (conv => whnf)
        exact ⟨⟨Nat.zero_le _, rfl, rfl, rfl⟩, by kernel_rfl, by kernel_rfl⟩
      · intro j hj
        (conv => whnf)
        refine ⟨fun h2 => ?_, fun h2 => ?_⟩
        · have h2 := of_decide_eq_true h2
          have h2' : j < B.length := Int.ofNat_lt.1 h2
          have gj : B.getD (Int.toNat (j : Int)) z4 = B.getD j z4 := rfl
          have hg := hg i j h' h2'
          have oi := ok1 i h'
          have oj := ok2 j h2'
          unfold limOK at oi oj
          unfold bndP at hg
          (conv => whnf)
          refine ⟨⟨by omega, by omega⟩, ?_⟩
          (conv => whnf)
          refine ⟨h2', ?_⟩
          (conv => whnf)
          rw [gi, gj]
          generalize (A.getD i z4).1.1 = aS at *
          generalize (A.getD i z4).1.2 = az at *
          generalize (A.getD i z4).2.1 = au at *
          generalize (A.getD i z4).2.2 = aT at *
          generalize (B.getD j z4).1.1 = bs at *
          generalize (B.getD j z4).1.2 = bz at *
          generalize (B.getD j z4).2.1 = bu at *
          generalize (B.getD j z4).2.2 = bt at *
          (repeat' (first | (refine ⟨by kernel_rfl, ?_⟩; (conv => whnf)) | fail))
          have m1 := mul_pm (a := bs) (b := az) (A := 1) (B := 2000000) (by omega) (by omega) (by omega) (by omega)
          have m2 := mul_pm (a := bs * az) (b := bu) (A := 2000000) (B := 1000000) (by omega) (by omega) (by omega) (by omega)
          have m3 := mul_pm (a := aS) (b := bz) (A := 1) (B := 2000000) (by omega) (by omega) (by omega) (by omega)
          have m4 := mul_pm (a := aS * bz) (b := au) (A := 2000000) (B := 1000000) (by omega) (by omega) (by omega) (by omega)
          have m5 := mul_pm (a := bt) (b := bs * az * bu) (A := 4096) (B := 2000000000000) (by omega) (by omega) (by omega) (by omega)
          have m6 := mul_pm (a := aT) (b := aS * bz * au) (A := 4096) (B := 2000000000000) (by omega) (by omega) (by omega) (by omega)
          refine ⟨⟨rfl, hg.trans ?_, by kernel_rfl⟩, ?_, ?_⟩
          · show some [AV.agg [i64 (bs * az * bu - aS * bz * au), i64 (bt * (bs * az * bu) - aT * (aS * bz * au))]] = some [AV.agg [i64 (IntKind.i64.wrap (IntKind.i64.wrap (IntKind.i64.wrap (bs * az) * bu) - IntKind.i64.wrap (IntKind.i64.wrap (aS * bz) * au))), i64 (IntKind.i64.wrap (IntKind.i64.wrap (bt * IntKind.i64.wrap (IntKind.i64.wrap (bs * az) * bu)) - IntKind.i64.wrap (aT * IntKind.i64.wrap (IntKind.i64.wrap (aS * bz) * au))))]]
            rw [w64 (bs * az) (by omega) (by omega), w64 (bs * az * bu) (by omega) (by omega), w64 (aS * bz) (by omega) (by omega), w64 (aS * bz * au) (by omega) (by omega), w64 (bt * (bs * az * bu)) (by omega) (by omega), w64 (aT * (aS * bz * au)) (by omega) (by omega), w64 (bs * az * bu - aS * bz * au) (by omega) (by omega), w64 (bt * (bs * az * bu) - aT * (aS * bz * au)) (by omega) (by omega)]
          · (conv => whnf)
            refine ⟨j + 1, ?_⟩
            (conv => whnf)
            refine ⟨⟨⟨Nat.sub_lt_sub_left h2' (Nat.lt_succ_self j), h2'⟩, ?_, rfl, rfl⟩, by kernel_rfl, by kernel_rfl⟩
            rw [w64 _ (by omega) (by omega)]; rfl
          · (conv => whnf)
            intro h; cases h
        · have h2 := of_decide_eq_false h2
          obtain rfl : j = B.length := by omega
          (conv => whnf)
          (repeat' (first | (refine ⟨by kernel_rfl, ?_⟩; (conv => whnf)) | (refine And.intro (a := _ ∧ _) ⟨by omega, by omega⟩ ?_; (conv => whnf))))
          refine ⟨i + 1, ?_⟩
          (conv => whnf)
          refine ⟨⟨⟨Nat.sub_lt_sub_left h' (Nat.lt_succ_self i), h'⟩, ?_, ?_, rfl⟩, by kernel_rfl, by kernel_rfl⟩
          · rw [w64 _ (by omega) (by omega)]; rfl
          · show [Row.ctr l xs (Z + (i * B.length + B.length)) false] = [Row.ctr l xs (Z + (i + 1) * B.length) false]
            rw [Nat.succ_mul]
    · have h := of_decide_eq_false h
      obtain rfl : i = A.length := by omega
      (conv => whnf)
      intro _
      exact hlen.symm
theorem sq_seen (q : List SpT) (x z : Int) (hx : -1000 ≤ x ∧ x ≤ 1000) (hz : 1 ≤ z ∧ z ≤ 1000) (hl : q.length ≤ 12) (hv : ∀ i, i < q.length → viewB (q.getD i z4) = true) :
    SQ Try.prog 73 [.pt [vws q] 0, .pt [i64 z] 0, .pt [i64 x] 0] ((seeL q x z).map eB) := by
  obtain ⟨ok1, ok2⟩ := lowT_ok hx hz hv
  have hz0 : ∀ i j, i < q.length → j < (zerO x z (q.getD i z4)).length → ((seeL q x z).map eB)[((q.take i).flatMap (zerO x z)).length + j]? = ((zerO x z (q.getD i z4))[j]?).map eB := fun i j hi hj => by
    rw [List.getElem?_map]
    unfold seeL
    rw [List.getElem?_append_left, flat_at (zerO x z) q z4 hi hj]
    have e : (q.take (i + 1)).flatMap (zerO x z) = (q.take i).flatMap (zerO x z) ++ zerO x z (q.getD i z4) := take_flat _ q z4 hi
    have := flat_take_le (zerO x z) q (i + 1)
    rw [e, List.length_append] at this
    omega
  have hg : ∀ i j, i < (lowT q x z).length → j < (higT q x z).length → ((seeL q x z).map eB)[(q.flatMap (zerO x z)).length + (i * (higT q x z).length + j)]? = some (eB (bndP ((lowT q x z).getD i z4) ((higT q x z).getD j z4))) := fun i j hi hj => by
    rw [List.getElem?_map]
    unfold seeL
    rw [List.getElem?_append_right (by omega), show (q.flatMap (zerO x z)).length + (i * (higT q x z).length + j) - (q.flatMap (zerO x z)).length = i * (higT q x z).length + j by omega,
      flat_get bndP (lowT q x z) (higT q x z) z4 z4 hi hj]
    rfl
  have hlen : ((seeL q x z).map eB).length = (q.flatMap (zerO x z)).length + (lowT q x z).length * (higT q x z).length := by
    rw [List.length_map]
    unfold seeL
    rw [List.length_append, flat_all bndP (lowT q x z) (higT q x z)]
  have l1 : ∀ i, ((q.take i).flatMap (lowO x z)).length ≤ 12 := fun i => by
    have := flat_take_le (lowO x z) q i
    have := flat_len_le (lowO x z) q 1 fun a => (low_len x z a).1
    omega
  have l2 : ∀ i, ((q.take i).flatMap (higO x z)).length ≤ 12 := fun i => by
    have := flat_take_le (higO x z) q i
    have := flat_len_le (higO x z) q 1 fun a => (low_len x z a).2
    omega
  exact (seenP q x z _).2 fun l => (seenQ q x z _ hx hz hl hv hz0 l1 l2).2 (fun l => seen_end q x z _ hx hz hl hv hz0 l1 l2 ok1 ok2 hg hlen l) l
end Go.Proofs.Try.My
