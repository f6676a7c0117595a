/- A helper text: contracts of functions of the program, and plain lemmas. -/
import Derived.Test.YtjkoeomndepolaaMnGa5
set_option maxRecDepth 100000
set_option maxHeartbeats 0
set_option linter.unusedVariables false
set_option linter.unusedSimpArgs false
namespace Go.Proofs.Try.My
open Go Go.Ev

theorem pc_FirstOf (p : List Int) (thr a : Int) (hp : byteL p) (hl : p.length ≤ 64) (ha : 0 ≤ a) (hn : a < p.length) (t1 : 1 ≤ thr) (t2 : thr ≤ 255) :
    PC Try.prog 65 [ints p, i64 thr, i64 a] (.tup [fr (brF p thr a 1).1, .bool (brF p thr a 1).2]) := by
  have st : stepsN p.length a 1 = ((p.length : Int) - a).toNat := by unfold stepsN; simp
  have eK : ∀ k : Nat, atK p a 1 k = p.getD (a + k).toNat 0 := by intro k; unfold atK; rw [Int.one_mul]
  have e0 : atK p a 1 0 = p.getD a.toNat 0 := by rw [eK]; simp
  refine pc_of_body hm Try.func65 (by kernel_rfl) ?_
  conv => whnf
  refine ⟨⟨by omega, by omega⟩, ?_⟩
  (conv => whnf)
  refine ⟨fun h => ?_, fun h => ?_⟩
  · have h := of_decide_eq_true h
    have hb := brF_some (brk_some.2 ⟨show 0 < stepsN p.length a 1 by omega, by rw [e0]; exact h, fun j hj => absurd hj (Nat.not_lt_zero j)⟩)
    have hpl : placeF p thr a 1 0 = (makeF a 1).1 := rfl
    rw [hb, hpl]
    (conv => whnf)
    (first | (refine Or.inl ?_; (conv => whnf); refine ⟨_, pc_made5 a 1 (by unfold I64; omega) (by unfold I64; omega), ?_⟩) | refine ⟨_, pc_made5 a 1 (by unfold I64; omega) (by unfold I64; omega), ?_⟩)
    (conv => whnf)
  have h := of_decide_eq_false h
  (conv => whnf)
  refine Or.inr ⟨Nat, [8], [], [], fun k => [i64 (a + k)], fun _ => [], fun _ => [], fun k => p.length - k, fun k => a + k < p.length ∧ ∀ j, j ≤ k → atK p a 1 j < thr, ?_⟩
  (conv => whnf)
  refine ⟨⟨0, ?_⟩, ?_⟩
  · (conv => whnf)
    refine ⟨⟨⟨by omega, fun j hj => ?_⟩, ?_, rfl, rfl⟩, by kernel_rfl, by kernel_rfl⟩
    · obtain rfl : j = 0 := by omega
      rw [e0]; omega
    · show [i64 a] = [i64 (a + ((0 : Nat) : Int))]
      simp
  · intro k hk
    have w1 : IntKind.i64.wrap (a + k + 1) = a + k + 1 := w64 _ (by omega) (by omega)
    have ek : atK p a 1 k = p.getD (a + k).toNat 0 := eK k
    have ek1 : atK p a 1 (k + 1) = p.getD (a + k + 1).toNat 0 := by rw [eK]; congr 2; omega
    (conv => whnf)
    rw [w1]
    refine ⟨fun h1 => ?_, fun h1 => ?_⟩
    · have h1 := of_decide_eq_true h1
      (conv => whnf)
      rw [w1]
      refine ⟨⟨by omega, by omega⟩, ?_⟩
      (conv => whnf)
      refine ⟨fun h2 => ?_, fun h2 => ?_⟩
      · have h2 := of_decide_eq_true h2
        have hks : k + 1 < stepsN p.length a 1 := by omega
        have hv := brk_some.2 ⟨hks, by rw [ek1]; exact h2, fun j hj => hk.2 j (by omega)⟩
        have hb := brF_some hv
        have b1 := atK_byte hp ha hn (.inl rfl) hks
        have b2 := atK_byte hp ha hn (.inl rfl) (k := k) (by omega)
        have hpl : placeF p thr a 1 (k + 1) = (makeF ((a + 1 * (k : Int)) * (atK p a 1 (k + 1) - atK p a 1 k) + 1 * (thr - atK p a 1 k)) (atK p a 1 (k + 1) - atK p a 1 k)).1 := rfl
        rw [ek, ek1, Int.one_mul, Int.one_mul] at hpl
        rw [ek] at b2
        rw [ek1] at b1
        rw [hb, hpl]
        have k2 := hk.2 k (Nat.le_refl k)
        rw [ek] at k2
        clear hv hb hpl ek ek1 eK e0 hk
        (conv => whnf)
        (repeat' (first | (refine ⟨by kernel_rfl, ?_⟩; (conv => whnf)) | (refine And.intro (a := _ ∧ _) ⟨by omega, by omega⟩ ?_; (conv => whnf))))
        rw [w1]
        generalize p.getD (a + k + 1).toNat 0 = u at *
        generalize p.getD (a + k).toNat 0 = v at *
        have m1 : (a + k) * (u - v) ≤ 64 * (u - v) := Int.mul_le_mul_of_nonneg_right (by omega) (by omega)
        have m2 : 0 ≤ (a + k) * (u - v) := Int.mul_nonneg (by omega) (by omega)
        have w2 : IntKind.i64.wrap (u - v) = u - v := w64 _ (by omega) (by omega)
        rw [w2]
        have w3 : IntKind.i64.wrap ((a + k) * (u - v)) = (a + k) * (u - v) := w64 _ (by omega) (by omega)
        rw [w3]
        have w4 : IntKind.i64.wrap ((a + k) * (u - v) + thr) = (a + k) * (u - v) + thr := w64 _ (by omega) (by omega)
        rw [w4]
        have w5 : IntKind.i64.wrap ((a + k) * (u - v) + thr - v) = (a + k) * (u - v) + (thr - v) := by rw [w64 _ (by omega) (by omega)]; omega
        rw [w5]
        (first | (refine Or.inl ?_; (conv => whnf); refine ⟨_, pc_made5 _ _ (by unfold I64; omega) (by unfold I64; omega), ?_⟩) | refine ⟨_, pc_made5 _ _ (by unfold I64; omega) (by unfold I64; omega), ?_⟩)
        (conv => whnf)
      · have h2 := of_decide_eq_false h2
        refine ⟨k + 1, ?_⟩
        (conv => whnf)
        refine ⟨⟨⟨Nat.sub_lt_sub_left (by omega) (Nat.lt_succ_self k), by omega, fun j hj => ?_⟩, ?_, rfl, rfl⟩, by kernel_rfl, by kernel_rfl⟩
        · by_cases e : j = k + 1
          · subst e; rw [ek1]; omega
          · exact hk.2 j (by omega)
        · rw [w1]
          show [i64 (a + k + 1)] = [i64 (a + ((k + 1 : Nat) : Int))]
          congr 2; omega
    · have h1 := of_decide_eq_false h1
      have hb := brF_none (p := p) (thr := thr) (a := a) (d := 1) (brk_none.2 fun j hj => hk.2 j (by omega))
      rw [hb]
      (conv => whnf)
theorem pc_LastOf (p : List Int) (thr a : Int) (hp : byteL p) (hl : p.length ≤ 64) (ha : 0 ≤ a) (hn : a < p.length) (t1 : 1 ≤ thr) (t2 : thr ≤ 255) :
    PC Try.prog 66 [ints p, i64 thr, i64 a] (.tup [fr (brF p thr a (-1)).1, .bool (brF p thr a (-1)).2]) := by
  have st : stepsN p.length a (-1) = (a + 1).toNat := by unfold stepsN; simp
  have eK : ∀ k : Nat, atK p a (-1) k = p.getD (a - k).toNat 0 := by intro k; unfold atK; congr 2; omega
  have e0 : atK p a (-1) 0 = p.getD a.toNat 0 := by rw [eK]; simp
  refine pc_of_body hm Try.func66 (by kernel_rfl) ?_
  conv => whnf
  refine ⟨⟨by omega, by omega⟩, ?_⟩
  (conv => whnf)
  refine ⟨fun h => ?_, fun h => ?_⟩
  · have h := of_decide_eq_true h
    have hb := brF_some (brk_some.2 ⟨show 0 < stepsN p.length a (-1) by omega, by rw [e0]; exact h, fun j hj => absurd hj (Nat.not_lt_zero j)⟩)
    have hpl : placeF p thr a (-1) 0 = (makeF a 1).1 := rfl
    rw [hb, hpl]
    (conv => whnf)
    (first | (refine Or.inl ?_; (conv => whnf); refine ⟨_, pc_made5 a 1 (by unfold I64; omega) (by unfold I64; omega), ?_⟩) | refine ⟨_, pc_made5 a 1 (by unfold I64; omega) (by unfold I64; omega), ?_⟩)
    (conv => whnf)
  have h := of_decide_eq_false h
  (conv => whnf)
  refine Or.inr ⟨Nat, [8], [], [], fun k => [i64 (a - k)], fun _ => [], fun _ => [], fun k => p.length - k, fun k => 0 ≤ a - k ∧ ∀ j, j ≤ k → atK p a (-1) j < thr, ?_⟩
  (conv => whnf)
  refine ⟨⟨0, ?_⟩, ?_⟩
  · (conv => whnf)
    refine ⟨⟨⟨by omega, fun j hj => ?_⟩, ?_, rfl, rfl⟩, by kernel_rfl, by kernel_rfl⟩
    · obtain rfl : j = 0 := by omega
      rw [e0]; omega
    · show [i64 a] = [i64 (a - ((0 : Nat) : Int))]
      simp
  · intro k hk
    have w1 : IntKind.i64.wrap (a - k - 1) = a - k - 1 := w64 _ (by omega) (by omega)
    have ek : atK p a (-1) k = p.getD (a - k).toNat 0 := eK k
    have ek1 : atK p a (-1) (k + 1) = p.getD (a - k - 1).toNat 0 := by rw [eK]; congr 2; omega
    (conv => whnf)
    refine ⟨fun h1 => ?_, fun h1 => ?_⟩
    · have h1 := of_decide_eq_true h1
      (conv => whnf)
      rw [w1]
      refine ⟨⟨by omega, by omega⟩, ?_⟩
      (conv => whnf)
      refine ⟨fun h2 => ?_, fun h2 => ?_⟩
      · have h2 := of_decide_eq_true h2
        have hks : k + 1 < stepsN p.length a (-1) := by omega
        have hv := brk_some.2 ⟨hks, by rw [ek1]; exact h2, fun j hj => hk.2 j (by omega)⟩
        have hb := brF_some hv
        have b1 := atK_byte hp ha hn (.inr rfl) hks
        have b2 := atK_byte hp ha hn (.inr rfl) (k := k) (by omega)
        have hpl : placeF p thr a (-1) (k + 1) = (makeF ((a + -1 * (k : Int)) * (atK p a (-1) (k + 1) - atK p a (-1) k) + -1 * (thr - atK p a (-1) k)) (atK p a (-1) (k + 1) - atK p a (-1) k)).1 := rfl
        rw [ek, ek1, show a + -1 * (k : Int) = a - k by omega] at hpl
        rw [ek] at b2
        rw [ek1] at b1
        rw [hb, hpl]
        have k2 := hk.2 k (Nat.le_refl k)
        rw [ek] at k2
        clear hv hb hpl ek ek1 eK e0
        (conv => whnf)
        (repeat' (first | (refine ⟨by kernel_rfl, ?_⟩; (conv => whnf)) | (refine And.intro (a := _ ∧ _) ⟨by omega, by omega⟩ ?_; (conv => whnf))))
        rw [w1]
        have hak := hk.1
        clear hk
        generalize p.getD (a - k - 1).toNat 0 = u at *
        generalize p.getD (a - k).toNat 0 = v at *
        have m1 : (a - k) * (u - v) ≤ 64 * (u - v) := Int.mul_le_mul_of_nonneg_right (by omega) (by omega)
        have m2 : 0 ≤ (a - k) * (u - v) := Int.mul_nonneg (by omega) (by omega)
        have w2 : IntKind.i64.wrap (u - v) = u - v := w64 _ (by omega) (by omega)
        rw [w2]
        have w3 : IntKind.i64.wrap ((a - k) * (u - v)) = (a - k) * (u - v) := w64 _ (by omega) (by omega)
        rw [w3]
        have w4 : IntKind.i64.wrap (thr - v) = thr - v := w64 _ (by omega) (by omega)
        rw [w4]
        have w5 : IntKind.i64.wrap ((a - k) * (u - v) - (thr - v)) = (a - k) * (u - v) + -1 * (thr - v) := by rw [w64 _ (by omega) (by omega)]; omega
        rw [w5]
        (first | (refine Or.inl ?_; (conv => whnf); refine ⟨_, pc_made5 _ _ (by unfold I64; omega) (by unfold I64; omega), ?_⟩) | refine ⟨_, pc_made5 _ _ (by unfold I64; omega) (by unfold I64; omega), ?_⟩)
        (conv => whnf)
      · have h2 := of_decide_eq_false h2
        refine ⟨k + 1, ?_⟩
        (conv => whnf)
        refine ⟨⟨⟨Nat.sub_lt_sub_left (by omega) (Nat.lt_succ_self k), by omega, fun j hj => ?_⟩, ?_, rfl, rfl⟩, by kernel_rfl, by kernel_rfl⟩
        · by_cases e : j = k + 1
          · subst e; rw [ek1]; omega
          · exact hk.2 j (by omega)
        · rw [w1]
          show [i64 (a - k - 1)] = [i64 (a - ((k + 1 : Nat) : Int))]
          congr 2; omega
    · have h1 := of_decide_eq_false h1
      have hb := brF_none (p := p) (thr := thr) (a := a) (d := -1) (brk_none.2 fun j hj => hk.2 j (by omega))
      rw [hb]
      (conv => whnf)
end Go.Proofs.Try.My
