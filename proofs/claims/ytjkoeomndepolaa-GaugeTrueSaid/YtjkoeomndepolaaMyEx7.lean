/- A helper text: contracts of functions of the program, and plain lemmas. -/
import Derived.Test.YtjkoeomndepolaaMyEx6
set_option maxRecDepth 100000
set_option maxHeartbeats 0
set_option linter.unusedVariables false
set_option linter.unusedSimpArgs false
namespace Go.Proofs.Try.My
open Go Go.Ev

theorem guess_u {u P : Nat} (hu : u < 18446744073709551616) : IntKind.u64.wrap ((u : Int).tdiv (P : Int)) = ((u / P : Nat) : Int) ∧ IntKind.u64.wrap ((u : Int) - IntKind.u64.wrap (((u / P : Nat) : Int) * (P : Int))) = ((u % P : Nat) : Int) := by
  have hd := Nat.div_add_mod' u P
  refine ⟨div_u _ _ (by omega), ?_⟩
  rw [mul_u, Nat.mod_eq_of_lt (by omega), sub_u _ _ (by omega)]
  congr 1
  omega
theorem both_u {p q : Nat} (hp : p < 4294967296) (hq : q < 4294967296) : IntKind.u64.wrap (IntKind.u64.wrap ((p : Int) * 4294967296) + (q : Int)) = ((p * 4294967296 + q : Nat) : Int) := by
  have e : IntKind.u64.wrap ((p : Int) * 4294967296) = ((p * 4294967296 % 18446744073709551616 : Nat) : Int) := mul_u p 4294967296
  rw [e, add_u]
  congr 1
  omega
theorem sub_mul_u {u e q Y : Nat} (he : e < 4294967296) : IntKind.u64.wrap (IntKind.u64.wrap (IntKind.u64.wrap ((u : Int) * 4294967296) + (e : Int)) - IntKind.u64.wrap ((q : Int) * (Y : Int))) = (((u * 4294967296 % 18446744073709551616 + e + (18446744073709551616 - q * Y % 18446744073709551616)) % 18446744073709551616 : Nat) : Int) := by
  have e1 : IntKind.u64.wrap ((u : Int) * 4294967296) = ((u * 4294967296 % 18446744073709551616 : Nat) : Int) := mul_u u 4294967296
  rw [e1, mul_u, add_u, sub_u _ _ (Nat.le_of_lt (Nat.mod_lt _ (by omega)))]
  congr 1
  omega
theorem pc_Div64 (hi lo y : Nat) (h1 : hi < y) (h2 : lo < 18446744073709551616) (h3 : y < 18446744073709551616) : PC Try.prog 162 [u64 hi, u64 lo, u64 y] (.tup [u64 ((hi * 18446744073709551616 + lo) / y), u64 ((hi * 18446744073709551616 + lo) % y)]) := by
  by_cases hz : hi = 0
  · subst hz
    refine pc_of_body hm Try.func162 (by kernel_rfl) ?_
    conv => whnf
    (repeat' (first | (refine And.intro (a := _ = true → _) (b := _ = false → _) (fun hh => ?_) (fun hh => ?_) <;> (first | simp only [decide_eq_true_eq, decide_eq_false_iff_not, Bool.or_eq_true, Bool.and_eq_true, Bool.or_eq_false_iff, Bool.and_eq_false_iff, Bool.not_eq_true', Bool.not_eq_false', ge_iff_le, gt_iff_lt] at hh | skip) <;> (first | (exfalso; omega) | (exfalso; simp [*] at hh; done) | (exfalso; revert hh; decide) | exact absurd (by assumption) hh | (conv => whnf))) | (refine ⟨by kernel_rfl, ?_⟩; (conv => whnf)) | (refine And.intro (a := _ ∧ _) ⟨by omega, by omega⟩ ?_; (conv => whnf)) | (refine And.intro (a := _ ∧ _) ⟨by decide, by decide⟩ ?_; (conv => whnf)) | (refine And.intro (a := _ ≤ _) (by omega) ?_; (conv => whnf)) | (refine And.intro (a := _ ≠ _) (by omega) ?_; (conv => whnf))))
    rw [div_u _ _ h2, mod_u, Nat.zero_mul, Nat.zero_add]
  have hl := pc_LeadingZeros64 y h3
  obtain ⟨n1, n2, n3⟩ := lead_norm (by omega) h3
  generalize 64 - lenN y = s at *
  have e1 : IntKind.u64.wrap ((y : Int) * 2 ^ min (Int.toNat (s : Int)) IntKind.u64.bits) = ((y * 2 ^ s : Nat) : Int) := by rw [shl_u _ _ (by omega), Nat.mod_eq_of_lt n3]
  have e2 := un_eq n1 h2 (Nat.lt_of_le_of_lt (Nat.mul_le_mul_right _ (Nat.le_of_lt h1)) n3)
  have e3 : IntKind.u64.wrap ((lo : Int) * 2 ^ min (Int.toNat (s : Int)) IntKind.u64.bits) = ((lo * 2 ^ s % 18446744073709551616 : Nat) : Int) := shl_u _ _ (by omega)
  have e4 : IntKind.u64.wrap (64 - (s : Int)) = ((64 - s : Nat) : Int) := by rw [show 64 - (s : Int) = ((64 - s : Nat) : Int) by omega, wu _ (by omega)]
  have a1 := all_eq (hi := hi) (lo := lo) n1
  have a2 := un_lt n1 h1 h2
  have a3 : lo * 2 ^ s % 18446744073709551616 < 18446744073709551616 := Nat.mod_lt _ (by omega)
  have e5 := shr_u ((hi * 18446744073709551616 + lo) % y * 2 ^ s) s (by omega)
  rw [Nat.mul_div_cancel _ (Nat.pow_pos (by omega)), ← Nat.mul_mod_mul_right] at e5
  have e6 := Nat.mul_div_mul_right (hi * 18446744073709551616 + lo) y (Nat.pow_pos (n := s) (show 0 < 2 by omega))
  rw [a1] at e5 e6
  clear a1
  obtain ⟨Y, hY⟩ : ∃ Y, Y = y * 2 ^ s := ⟨_, rfl⟩
  rw [← hY] at n2 n3 e1 a2 e5 e6
  obtain ⟨U, hU⟩ : ∃ U, U = hi * 2 ^ s + lo / 2 ^ (64 - s) := ⟨_, rfl⟩
  rw [← hU] at e2 a2 e5 e6
  obtain ⟨L, hL⟩ : ∃ L, L = lo * 2 ^ s % 18446744073709551616 := ⟨_, rfl⟩
  rw [← hL] at e3 a3 e5 e6
  clear hY hU hL
  obtain ⟨t1, t2⟩ := two_digits (y := Y) (u := U) (e := L / 4294967296) (f := L % 4294967296) (w := U * 18446744073709551616 + L) (by omega) (by omega)
  rw [← t1] at e6
  rw [← t2] at e5
  clear t1 t2
  have l1 : L / 4294967296 < 4294967296 := by omega
  have l2 : L % 4294967296 < 4294967296 := by omega
  have m1 := Nat.mod_lt (U * 4294967296 + L / 4294967296) (show 0 < Y by omega)
  have r1 := dig_rest (y := Y) (u := U) (e := L / 4294967296) (by omega) n3
  have d1 := dig_first n2 n3 a2 l1
  have d2 := dig_first n2 n3 m1 l2
  have r2 := dig_rest (y := Y) (u := (U * 4294967296 + L / 4294967296) % Y) (e := L % 4294967296) (by omega) n3
  have g1 := dig_top (show 0 < Y by omega) a2 l1
  have g2 := dig_top (show 0 < Y by omega) m1 l2
  have fd := fun u (hu : u < Y) => guess_u (P := Y / 4294967296) (Nat.lt_trans hu n3)
  have hy0 : 0 < Y := by omega
  refine div64_walk hi lo y s Y U L (L / 4294967296) (L % 4294967296) (Y / 4294967296) (Y % 4294967296) ((U * 4294967296 + L / 4294967296) / Y) ((U * 4294967296 + L / 4294967296) % Y) _ _ _ hl n1 h1 h2 h3 hz e1 e2 e3 e4
    (shr32_u _) (mask32_u _ n3) (shr32_u _) (mask32_u _ a3) (fd U a2).1 (fd U a2).2 (fd _ m1).1 (fd _ m1).2 (by omega) (by omega) (by omega) l1 l2
    (fun q r h hn => dig_done h hy0 hn) (fun q r h hc => dig_next h hy0 a2 l1 hc) (fun q r h hq hr => dig_break h hy0 hq hr) d1 (fun _ => g1)
    (fun q r h hn => dig_done h hy0 hn) (fun q r h hc => dig_next h hy0 m1 l2 hc) (fun q r h hq hr => dig_break h hy0 hq hr) d2 (fun _ => g2)
    ?_ ?_ ?_
  · rw [sub_mul_u l1, r1]
  · rw [sub_mul_u l2, r2, e5]
  · rw [← e6]
    exact both_u g1 g2
end Go.Proofs.Try.My
