/- A helper text: contracts of functions of the program, and plain lemmas. -/
import Derived.Test.YtjkoeomndepolaaMyEx5
set_option maxRecDepth 100000
set_option maxHeartbeats 0
set_option linter.unusedVariables false
set_option linter.unusedSimpArgs false
namespace Go.Proofs.Try.My
open Go Go.Ev

theorem lead_norm {y : Nat} (h0 : 0 < y) (h : y < 18446744073709551616) : 64 - lenN y ≤ 63 ∧ 9223372036854775808 ≤ y * 2 ^ (64 - lenN y) ∧ y * 2 ^ (64 - lenN y) < 18446744073709551616 := by
  obtain ⟨m, e, h1, h2⟩ := lenN_bounds (x := y) (by omega)
  have hl : lenN y ≤ 64 := lenN_le (k := 64) h
  rw [e] at hl ⊢
  refine ⟨by omega, ?_, ?_⟩
  · have : 2 ^ m * 2 ^ (64 - (m + 1)) ≤ y * 2 ^ (64 - (m + 1)) := Nat.mul_le_mul_right _ h1
    rw [← Nat.pow_add, show m + (64 - (m + 1)) = 63 by omega] at this
    exact this
  · have : y * 2 ^ (64 - (m + 1)) < 2 ^ (m + 1) * 2 ^ (64 - (m + 1)) := Nat.mul_lt_mul_of_pos_right h2 (Nat.pow_pos (by omega))
    rw [← Nat.pow_add, show m + 1 + (64 - (m + 1)) = 64 by omega] at this
    exact this
theorem un_eq {hi lo s : Nat} (hs : s ≤ 63) (h2 : lo < 18446744073709551616) (h3 : hi * 2 ^ s < 18446744073709551616) :
    bits .or .u64 (IntKind.u64.wrap ((hi : Int) * 2 ^ min (Int.toNat (s : Int)) IntKind.u64.bits)) ((lo : Int).fdiv (2 ^ min (Int.toNat ((64 - s : Nat) : Int)) IntKind.u64.bits)) = ((hi * 2 ^ s + lo / 2 ^ (64 - s) : Nat) : Int) := by
  have hb : lo / 2 ^ (64 - s) < 2 ^ s := by
    rw [Nat.div_lt_iff_lt_mul (Nat.pow_pos (by omega)), ← Nat.pow_add, show s + (64 - s) = 64 by omega]
    exact h2
  rw [shl_u _ _ (by omega), shr_u _ _ (by omega), Nat.mod_eq_of_lt h3, bits_or_u _ _ h3 (Nat.lt_of_le_of_lt (Nat.div_le_self _ _) h2), Nat.mul_comm hi, Nat.two_pow_add_eq_or_of_lt hb]
theorem all_eq_aux {hi lo T D W r : Nat} (h : D * W + r = lo * T) : (hi * W + lo) * T = (hi * T + D) * W + r := by
  rw [Nat.add_mul, Nat.add_mul, Nat.mul_right_comm, Nat.add_assoc, h]
theorem all_eq {hi lo s : Nat} (hs : s ≤ 63) : (hi * 18446744073709551616 + lo) * 2 ^ s = (hi * 2 ^ s + lo / 2 ^ (64 - s)) * 18446744073709551616 + lo * 2 ^ s % 18446744073709551616 := by
  have e : lo * 2 ^ s / 18446744073709551616 = lo / 2 ^ (64 - s) := by
    have : 18446744073709551616 = 2 ^ (64 - s) * 2 ^ s := by rw [← Nat.pow_add, show 64 - s + s = 64 by omega]
    rw [this, Nat.mul_div_mul_right _ _ (Nat.pow_pos (by omega))]
  have h := Nat.div_add_mod' (lo * 2 ^ s) 18446744073709551616
  rw [e] at h
  exact all_eq_aux h
theorem un_lt {hi lo y s : Nat} (hs : s ≤ 63) (h1 : hi < y) (h2 : lo < 18446744073709551616) : hi * 2 ^ s + lo / 2 ^ (64 - s) < y * 2 ^ s := by
  have hb : lo / 2 ^ (64 - s) < 2 ^ s := by
    rw [Nat.div_lt_iff_lt_mul (Nat.pow_pos (by omega)), ← Nat.pow_add, show s + (64 - s) = 64 by omega]
    exact h2
  have : (hi + 1) * 2 ^ s ≤ y * 2 ^ s := Nat.mul_le_mul_right _ h1
  rw [Nat.add_mul, Nat.one_mul] at this
  omega
theorem cmp_u {q Z r A : Nat} (hq : q < 4294967296) (hZ : Z < 4294967296) (hr : r < 4294967296) (hA : A < 4294967296) :
    IntKind.u64.wrap ((q : Int) * (Z : Int)) = ((q * Z : Nat) : Int) ∧ IntKind.u64.wrap (IntKind.u64.wrap (4294967296 * (r : Int)) + (A : Int)) = ((4294967296 * r + A : Nat) : Int) := by
  have : q * Z ≤ 4294967295 * 4294967295 := Nat.mul_le_mul (by omega) (by omega)
  refine ⟨by rw [mul_u, Nat.mod_eq_of_lt (by omega)], ?_⟩
  have e : IntKind.u64.wrap (4294967296 * (r : Int)) = ((4294967296 * r % 18446744073709551616 : Nat) : Int) := mul_u 4294967296 r
  rw [e, add_u, Nat.mod_eq_of_lt (a := 4294967296 * r) (by omega), Nat.mod_eq_of_lt (by omega)]
theorem next_u {q Q : Nat} (h : q = Q + 1) (hq : Q < 18446744073709551616) : IntKind.u64.wrap ((q : Int) - 1) = (Q : Int) := by
  subst h
  rw [show ((Q + 1 : Nat) : Int) - 1 = (Q : Int) by omega, wu _ hq]
theorem sum_u {r P : Nat} (hr : r < 4294967296) (hP : P < 4294967296) : IntKind.u64.wrap ((r : Int) + (P : Int)) = ((r + P : Nat) : Int) := by
  rw [add_u, Nat.mod_eq_of_lt (by omega)]
theorem dig_pos' {q Z r A : Nat} (h : ((q * Z : Nat) : Int) > ((4294967296 * r + A : Nat) : Int)) : 0 < q := by
  rcases Nat.eq_zero_or_pos q with h0 | h0
  · subst h0; simp at h; omega
  · exact h0
theorem dig_top' {Y U A q r : Nat} (h : Dig Y U A q r) : q ≤ 4294967297 := h.le
theorem div64_walk (hi lo y s Y U L A C P Z Q1 R1 Q0 quo rem : Nat) (hl : PC Try.prog 166 [u64 y] (i64 s)) (n1 : s ≤ 63) (h1 : hi < y) (h2 : lo < 18446744073709551616) (h3 : y < 18446744073709551616) (hz : hi ≠ 0)
    (e1 : IntKind.u64.wrap ((y : Int) * 2 ^ min (Int.toNat (s : Int)) IntKind.u64.bits) = (Y : Int))
    (e2 : bits .or .u64 (IntKind.u64.wrap ((hi : Int) * 2 ^ min (Int.toNat (s : Int)) IntKind.u64.bits)) ((lo : Int).fdiv (2 ^ min (Int.toNat ((64 - s : Nat) : Int)) IntKind.u64.bits)) = (U : Int))
    (e3 : IntKind.u64.wrap ((lo : Int) * 2 ^ min (Int.toNat (s : Int)) IntKind.u64.bits) = (L : Int)) (e4 : IntKind.u64.wrap (64 - (s : Int)) = ((64 - s : Nat) : Int))
    (p1 : ((Y : Nat) : Int).fdiv (2 ^ min (Int.toNat 32) IntKind.u64.bits) = (P : Int)) (p2 : bits .and .u64 (Y : Int) 4294967295 = (Z : Int))
    (p3 : ((L : Nat) : Int).fdiv (2 ^ min (Int.toNat 32) IntKind.u64.bits) = (A : Int)) (p4 : bits .and .u64 (L : Int) 4294967295 = (C : Int))
    (f1 : IntKind.u64.wrap ((U : Int).tdiv (P : Int)) = ((U / P : Nat) : Int)) (f2 : IntKind.u64.wrap ((U : Int) - IntKind.u64.wrap (((U / P : Nat) : Int) * (P : Int))) = ((U % P : Nat) : Int))
    (f3 : IntKind.u64.wrap ((R1 : Int).tdiv (P : Int)) = ((R1 / P : Nat) : Int)) (f4 : IntKind.u64.wrap ((R1 : Int) - IntKind.u64.wrap (((R1 / P : Nat) : Int) * (P : Int))) = ((R1 % P : Nat) : Int))
    (b1 : 2147483648 ≤ P) (b2 : P < 4294967296) (b3 : Z < 4294967296) (b4 : A < 4294967296) (b5 : C < 4294967296)
    (x1 : ∀ q r, Dig Y U A q r → q * Z ≤ 4294967296 * r + A → q = Q1) (x2 : ∀ q r, Dig Y U A (q + 1) r → (4294967296 ≤ q + 1 ∨ (q + 1) * Z > 4294967296 * r + A) → Dig Y U A q (r + P)) (x3 : ∀ q r, Dig Y U A q r → q ≤ 4294967296 → 4294967296 ≤ r → q = Q1) (x4 : Dig Y U A (U / P) (U % P)) (x5 : Unit → Q1 < 4294967296)
    (y1 : ∀ q r, Dig Y R1 C q r → q * Z ≤ 4294967296 * r + C → q = Q0) (y2 : ∀ q r, Dig Y R1 C (q + 1) r → (4294967296 ≤ q + 1 ∨ (q + 1) * Z > 4294967296 * r + C) → Dig Y R1 C q (r + P)) (y3 : ∀ q r, Dig Y R1 C q r → q ≤ 4294967296 → 4294967296 ≤ r → q = Q0) (y4 : Dig Y R1 C (R1 / P) (R1 % P)) (y5 : Unit → Q0 < 4294967296)
    (r1 : IntKind.u64.wrap (IntKind.u64.wrap (IntKind.u64.wrap ((U : Int) * 4294967296) + (A : Int)) - IntKind.u64.wrap ((Q1 : Int) * (Y : Int))) = (R1 : Int))
    (r2 : (IntKind.u64.wrap (IntKind.u64.wrap (IntKind.u64.wrap ((R1 : Int) * 4294967296) + (C : Int)) - IntKind.u64.wrap ((Q0 : Int) * (Y : Int)))).fdiv (2 ^ min (Int.toNat (s : Int)) IntKind.u64.bits) = (rem : Int))
    (g1 : IntKind.u64.wrap (IntKind.u64.wrap ((Q1 : Int) * 4294967296) + (Q0 : Int)) = (quo : Int)) :
    PC Try.prog 162 [u64 hi, u64 lo, u64 y] (.tup [u64 quo, u64 rem]) := by
  refine pc_of_body hm Try.func162 (by kernel_rfl) ?_
  conv => whnf
  (repeat' (first | (refine And.intro (a := _ = true → _) (b := _ = false → _) (fun hh => ?_) (fun hh => ?_) <;> (first | simp only [decide_eq_true_eq, decide_eq_false_iff_not, Bool.or_eq_true, Bool.and_eq_true, Bool.or_eq_false_iff, Bool.and_eq_false_iff, Bool.not_eq_true', Bool.not_eq_false', ge_iff_le, gt_iff_lt] at hh | skip) <;> (first | (exfalso; omega) | (exfalso; simp [*] at hh; done) | (exfalso; revert hh; decide) | exact absurd (by assumption) hh | (conv => whnf))) | (refine ⟨by kernel_rfl, ?_⟩; (conv => whnf)) | (refine And.intro (a := _ ∧ _) ⟨by omega, by omega⟩ ?_; (conv => whnf)) | (refine And.intro (a := _ ∧ _) ⟨by decide, by decide⟩ ?_; (conv => whnf)) | (refine And.intro (a := _ ≤ _) (by omega) ?_; (conv => whnf)) | (refine And.intro (a := _ ≠ _) (by omega) ?_; (conv => whnf)) | (refine Or.inl ?_; (conv => whnf); first | (refine ⟨_, by first | exact hl, ?_⟩; (conv => whnf)) | (refine ⟨false, ?_⟩; (conv => whnf); refine ⟨_, by first | exact hl, ?_⟩; (conv => whnf))) | (refine ⟨_, by first | exact hl, ?_⟩; (conv => whnf))))
  rw [wu s (by omega)]
  refine ⟨by omega, ?_⟩
  (conv => whnf)
  refine ⟨by omega, ?_⟩
  (conv => whnf)
  rw [e4]
  refine ⟨by omega, ?_⟩
  (conv => whnf)
  refine ⟨by omega, ?_⟩
  (conv => whnf)
  rw [e1, e2, e3, p1, p2, p3, p4]
  refine ⟨by omega, ?_⟩
  (conv => whnf)
  rw [f1, f2]
  refine Or.inr ⟨Nat × Nat, [15, 16], [], [], fun i => [u64 i.1, u64 i.2], fun _ => [], fun _ => [], fun i => i.1, fun i => Dig Y U A i.1 i.2 ∧ i.2 < 4294967296, ?_⟩
  (conv => whnf)
  refine ⟨⟨(U / P, U % P), ?_⟩, ?_⟩
  · (conv => whnf)
    exact ⟨⟨⟨x4, Nat.lt_of_lt_of_le (Nat.mod_lt _ (by omega)) (by omega)⟩, rfl, rfl, rfl⟩, by kernel_rfl, by kernel_rfl⟩
  · rintro ⟨q, r⟩ ⟨hd, hr⟩
    simp only [] at hd hr
    have hq := dig_top' hd
    (conv => whnf)
    refine ⟨fun c1 => ?_, fun c1 => ?_⟩
    · replace c1 := of_decide_eq_true c1
      (conv => whnf)
      obtain ⟨q, rfl⟩ : ∃ k, q = k + 1 := ⟨q - 1, by omega⟩
      have hd' := x2 q r hd (Or.inl (by omega))
      have hs := sum_u hr b2
      have hn := next_u (q := q + 1) rfl (by omega)
      rw [hs]
      refine ⟨fun c2 => ?_, fun c2 => ?_⟩
      · replace c2 := of_decide_eq_true c2
        (conv => whnf)
        have hQ := x3 q (r + P) hd' (by omega) (by omega)
        subst hQ
        rw [hn]
        rw [r1]
        refine ⟨by omega, ?_⟩
        (conv => whnf)
        rw [f3, f4]
        clear hd hr hq c1
        refine Or.inr ⟨Nat × Nat, [18, 16], [], [], fun i => [u64 i.1, u64 i.2], fun _ => [], fun _ => [], fun i => i.1, fun i => Dig Y R1 C i.1 i.2 ∧ i.2 < 4294967296, ?_⟩
        (conv => whnf)
        refine ⟨⟨(R1 / P, R1 % P), ?_⟩, ?_⟩
        · (conv => whnf)
          exact ⟨⟨⟨y4, Nat.lt_of_lt_of_le (Nat.mod_lt _ (by omega)) (by omega)⟩, rfl, rfl, rfl⟩, by kernel_rfl, by kernel_rfl⟩
        · rintro ⟨q0, r0⟩ ⟨hd, hr⟩
          simp only [] at hd hr
          have hq := dig_top' hd
          (conv => whnf)
          refine ⟨fun c1 => ?_, fun c1 => ?_⟩
          · replace c1 := of_decide_eq_true c1
            (conv => whnf)
            obtain ⟨q0, rfl⟩ : ∃ k, q0 = k + 1 := ⟨q0 - 1, by omega⟩
            have hd' := y2 q0 r0 hd (Or.inl (by omega))
            have hs := sum_u hr b2
            have hn := next_u (q := q0 + 1) rfl (by omega)
            rw [hs]
            refine ⟨fun c2 => ?_, fun c2 => ?_⟩
            · replace c2 := of_decide_eq_true c2
              (conv => whnf)
              have hQ := y3 q0 (r0 + P) hd' (by omega) (by omega)
              subst hQ
              rw [hn]
              refine ⟨by omega, ?_⟩
              (conv => whnf)
              rw [r2, g1]
            · replace c2 := of_decide_eq_false c2
              (conv => whnf)
              refine ⟨(q0, r0 + P), ?_⟩
              (conv => whnf)
              refine ⟨⟨⟨Nat.lt_succ_self _, hd', by omega⟩, ?_, rfl, rfl⟩, by kernel_rfl, by kernel_rfl⟩
              show [AV.int .u64 (IntKind.u64.wrap (((q0 + 1 : Nat) : Int) - 1)), AV.int .u64 ((r0 + P : Nat) : Int)] = _
              rw [hn]
          · replace c1 := of_decide_eq_false c1
            have hcu := cmp_u (q := q0) (Z := Z) (r := r0) (A := C) (by omega) b3 hr (by assumption)
            (conv => whnf)
            rw [hcu.1, hcu.2]
            refine ⟨fun c3 => ?_, fun c3 => ?_⟩
            · replace c3 := of_decide_eq_true c3
              (conv => whnf)
              obtain ⟨q0, rfl⟩ : ∃ k, q0 = k + 1 := ⟨q0 - 1, by have := dig_pos' c3; omega⟩
              have hd' := y2 q0 r0 hd (Or.inr (by omega))
              have hs := sum_u hr b2
              have hn := next_u (q := q0 + 1) rfl (by omega)
              rw [hs]
              refine ⟨fun c2 => ?_, fun c2 => ?_⟩
              · replace c2 := of_decide_eq_true c2
                (conv => whnf)
                have hQ := y3 q0 (r0 + P) hd' (by omega) (by omega)
                subst hQ
                rw [hn]
                refine ⟨by omega, ?_⟩
                (conv => whnf)
                rw [r2, g1]
              · replace c2 := of_decide_eq_false c2
                (conv => whnf)
                refine ⟨(q0, r0 + P), ?_⟩
                (conv => whnf)
                refine ⟨⟨⟨Nat.lt_succ_self _, hd', by omega⟩, ?_, rfl, rfl⟩, by kernel_rfl, by kernel_rfl⟩
                show [AV.int .u64 (IntKind.u64.wrap (((q0 + 1 : Nat) : Int) - 1)), AV.int .u64 ((r0 + P : Nat) : Int)] = _
                rw [hn]
            · replace c3 := of_decide_eq_false c3
              (conv => whnf)
              have hQ := y1 q0 r0 hd (by omega)
              subst hQ
              refine ⟨by omega, ?_⟩
              (conv => whnf)
              rw [r2, g1]
      · replace c2 := of_decide_eq_false c2
        (conv => whnf)
        refine ⟨(q, r + P), ?_⟩
        (conv => whnf)
        refine ⟨⟨⟨Nat.lt_succ_self _, hd', by omega⟩, ?_, rfl, rfl⟩, by kernel_rfl, by kernel_rfl⟩
        show [AV.int .u64 (IntKind.u64.wrap (((q + 1 : Nat) : Int) - 1)), AV.int .u64 ((r + P : Nat) : Int)] = _
        rw [hn]
    · replace c1 := of_decide_eq_false c1
      have hcu := cmp_u (q := q) (Z := Z) (r := r) (A := A) (by omega) b3 hr (by assumption)
      (conv => whnf)
      rw [hcu.1, hcu.2]
      refine ⟨fun c3 => ?_, fun c3 => ?_⟩
      · replace c3 := of_decide_eq_true c3
        (conv => whnf)
        obtain ⟨q, rfl⟩ : ∃ k, q = k + 1 := ⟨q - 1, by have := dig_pos' c3; omega⟩
        have hd' := x2 q r hd (Or.inr (by omega))
        have hs := sum_u hr b2
        have hn := next_u (q := q + 1) rfl (by omega)
        rw [hs]
        refine ⟨fun c2 => ?_, fun c2 => ?_⟩
        · replace c2 := of_decide_eq_true c2
          (conv => whnf)
          have hQ := x3 q (r + P) hd' (by omega) (by omega)
          subst hQ
          rw [hn]
          rw [r1]
          refine ⟨by omega, ?_⟩
          (conv => whnf)
          rw [f3, f4]
          clear hd hr hq c1
          refine Or.inr ⟨Nat × Nat, [18, 16], [], [], fun i => [u64 i.1, u64 i.2], fun _ => [], fun _ => [], fun i => i.1, fun i => Dig Y R1 C i.1 i.2 ∧ i.2 < 4294967296, ?_⟩
          (conv => whnf)
          refine ⟨⟨(R1 / P, R1 % P), ?_⟩, ?_⟩
          · (conv => whnf)
            exact ⟨⟨⟨y4, Nat.lt_of_lt_of_le (Nat.mod_lt _ (by omega)) (by omega)⟩, rfl, rfl, rfl⟩, by kernel_rfl, by kernel_rfl⟩
          · rintro ⟨q0, r0⟩ ⟨hd, hr⟩
            simp only [] at hd hr
            have hq := dig_top' hd
            (conv => whnf)
            refine ⟨fun c1 => ?_, fun c1 => ?_⟩
            · replace c1 := of_decide_eq_true c1
              (conv => whnf)
              obtain ⟨q0, rfl⟩ : ∃ k, q0 = k + 1 := ⟨q0 - 1, by omega⟩
              have hd' := y2 q0 r0 hd (Or.inl (by omega))
              have hs := sum_u hr b2
              have hn := next_u (q := q0 + 1) rfl (by omega)
              rw [hs]
              refine ⟨fun c2 => ?_, fun c2 => ?_⟩
              · replace c2 := of_decide_eq_true c2
                (conv => whnf)
                have hQ := y3 q0 (r0 + P) hd' (by omega) (by omega)
                subst hQ
                rw [hn]
                refine ⟨by omega, ?_⟩
                (conv => whnf)
                rw [r2, g1]
              · replace c2 := of_decide_eq_false c2
                (conv => whnf)
                refine ⟨(q0, r0 + P), ?_⟩
                (conv => whnf)
                refine ⟨⟨⟨Nat.lt_succ_self _, hd', by omega⟩, ?_, rfl, rfl⟩, by kernel_rfl, by kernel_rfl⟩
                show [AV.int .u64 (IntKind.u64.wrap (((q0 + 1 : Nat) : Int) - 1)), AV.int .u64 ((r0 + P : Nat) : Int)] = _
                rw [hn]
            · replace c1 := of_decide_eq_false c1
              have hcu := cmp_u (q := q0) (Z := Z) (r := r0) (A := C) (by omega) b3 hr (by assumption)
              (conv => whnf)
              rw [hcu.1, hcu.2]
              refine ⟨fun c3 => ?_, fun c3 => ?_⟩
              · replace c3 := of_decide_eq_true c3
                (conv => whnf)
                obtain ⟨q0, rfl⟩ : ∃ k, q0 = k + 1 := ⟨q0 - 1, by have := dig_pos' c3; omega⟩
                have hd' := y2 q0 r0 hd (Or.inr (by omega))
                have hs := sum_u hr b2
                have hn := next_u (q := q0 + 1) rfl (by omega)
                rw [hs]
                refine ⟨fun c2 => ?_, fun c2 => ?_⟩
                · replace c2 := of_decide_eq_true c2
                  (conv => whnf)
                  have hQ := y3 q0 (r0 + P) hd' (by omega) (by omega)
                  subst hQ
                  rw [hn]
                  refine ⟨by omega, ?_⟩
                  (conv => whnf)
                  rw [r2, g1]
                · replace c2 := of_decide_eq_false c2
                  (conv => whnf)
                  refine ⟨(q0, r0 + P), ?_⟩
                  (conv => whnf)
                  refine ⟨⟨⟨Nat.lt_succ_self _, hd', by omega⟩, ?_, rfl, rfl⟩, by kernel_rfl, by kernel_rfl⟩
                  show [AV.int .u64 (IntKind.u64.wrap (((q0 + 1 : Nat) : Int) - 1)), AV.int .u64 ((r0 + P : Nat) : Int)] = _
                  rw [hn]
              · replace c3 := of_decide_eq_false c3
                (conv => whnf)
                have hQ := y1 q0 r0 hd (by omega)
                subst hQ
                refine ⟨by omega, ?_⟩
                (conv => whnf)
                rw [r2, g1]
        · replace c2 := of_decide_eq_false c2
          (conv => whnf)
          refine ⟨(q, r + P), ?_⟩
          (conv => whnf)
          refine ⟨⟨⟨Nat.lt_succ_self _, hd', by omega⟩, ?_, rfl, rfl⟩, by kernel_rfl, by kernel_rfl⟩
          show [AV.int .u64 (IntKind.u64.wrap (((q + 1 : Nat) : Int) - 1)), AV.int .u64 ((r + P : Nat) : Int)] = _
          rw [hn]
      · replace c3 := of_decide_eq_false c3
        (conv => whnf)
        have hQ := x1 q r hd (by omega)
        subst hQ
        rw [r1]
        refine ⟨by omega, ?_⟩
        (conv => whnf)
        rw [f3, f4]
        clear hd hr hq c1
        refine Or.inr ⟨Nat × Nat, [18, 16], [], [], fun i => [u64 i.1, u64 i.2], fun _ => [], fun _ => [], fun i => i.1, fun i => Dig Y R1 C i.1 i.2 ∧ i.2 < 4294967296, ?_⟩
        (conv => whnf)
        refine ⟨⟨(R1 / P, R1 % P), ?_⟩, ?_⟩
        · (conv => whnf)
          exact ⟨⟨⟨y4, Nat.lt_of_lt_of_le (Nat.mod_lt _ (by omega)) (by omega)⟩, rfl, rfl, rfl⟩, by kernel_rfl, by kernel_rfl⟩
        · rintro ⟨q0, r0⟩ ⟨hd, hr⟩
          simp only [] at hd hr
          have hq := dig_top' hd
          (conv => whnf)
          refine ⟨fun c1 => ?_, fun c1 => ?_⟩
          · replace c1 := of_decide_eq_true c1
            (conv => whnf)
            obtain ⟨q0, rfl⟩ : ∃ k, q0 = k + 1 := ⟨q0 - 1, by omega⟩
            have hd' := y2 q0 r0 hd (Or.inl (by omega))
            have hs := sum_u hr b2
            have hn := next_u (q := q0 + 1) rfl (by omega)
            rw [hs]
            refine ⟨fun c2 => ?_, fun c2 => ?_⟩
            · replace c2 := of_decide_eq_true c2
              (conv => whnf)
              have hQ := y3 q0 (r0 + P) hd' (by omega) (by omega)
              subst hQ
              rw [hn]
              refine ⟨by omega, ?_⟩
              (conv => whnf)
              rw [r2, g1]
            · replace c2 := of_decide_eq_false c2
              (conv => whnf)
              refine ⟨(q0, r0 + P), ?_⟩
              (conv => whnf)
              refine ⟨⟨⟨Nat.lt_succ_self _, hd', by omega⟩, ?_, rfl, rfl⟩, by kernel_rfl, by kernel_rfl⟩
              show [AV.int .u64 (IntKind.u64.wrap (((q0 + 1 : Nat) : Int) - 1)), AV.int .u64 ((r0 + P : Nat) : Int)] = _
              rw [hn]
          · replace c1 := of_decide_eq_false c1
            have hcu := cmp_u (q := q0) (Z := Z) (r := r0) (A := C) (by omega) b3 hr (by assumption)
            (conv => whnf)
            rw [hcu.1, hcu.2]
            refine ⟨fun c3 => ?_, fun c3 => ?_⟩
            · replace c3 := of_decide_eq_true c3
              (conv => whnf)
              obtain ⟨q0, rfl⟩ : ∃ k, q0 = k + 1 := ⟨q0 - 1, by have := dig_pos' c3; omega⟩
              have hd' := y2 q0 r0 hd (Or.inr (by omega))
              have hs := sum_u hr b2
              have hn := next_u (q := q0 + 1) rfl (by omega)
              rw [hs]
              refine ⟨fun c2 => ?_, fun c2 => ?_⟩
              · replace c2 := of_decide_eq_true c2
                (conv => whnf)
                have hQ := y3 q0 (r0 + P) hd' (by omega) (by omega)
                subst hQ
                rw [hn]
                refine ⟨by omega, ?_⟩
                (conv => whnf)
                rw [r2, g1]
              · replace c2 := of_decide_eq_false c2
                (conv => whnf)
                refine ⟨(q0, r0 + P), ?_⟩
                (conv => whnf)
                refine ⟨⟨⟨Nat.lt_succ_self _, hd', by omega⟩, ?_, rfl, rfl⟩, by kernel_rfl, by kernel_rfl⟩
                show [AV.int .u64 (IntKind.u64.wrap (((q0 + 1 : Nat) : Int) - 1)), AV.int .u64 ((r0 + P : Nat) : Int)] = _
                rw [hn]
            · replace c3 := of_decide_eq_false c3
              (conv => whnf)
              have hQ := y1 q0 r0 hd (by omega)
              subst hQ
              refine ⟨by omega, ?_⟩
              (conv => whnf)
              rw [r2, g1]
end Go.Proofs.Try.My
