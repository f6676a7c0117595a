/- A helper text: contracts of functions of the program, and plain lemmas. -/
import Derived.Test.YtanhmmiifbhcpaaMyStripes3
set_option maxRecDepth 100000
set_option maxHeartbeats 0
namespace Go.Proofs.Try.My
open Go Go.Ev

theorem values_iff (l : List Int) (lo hi : Int) : (∀ i, i < l.length → withB (l.getD i 0) lo hi = true) ↔ l.any (outB lo hi) = false := by
  constructor
  · intro h
    refine List.any_eq_false.2 fun x hx => ?_
    obtain ⟨i, hi, rfl⟩ := List.getElem_of_mem hx
    have := h i hi
    simp only [List.getD, List.getElem?_eq_getElem hi, Option.getD_some, withB, Bool.and_eq_true, decide_eq_true_eq] at this
    simp only [outB, Bool.or_eq_true, decide_eq_true_eq]
    omega
  · intro h i hi
    have := val_of_any h i hi
    simp only [withB, Bool.and_eq_true, decide_eq_true_eq]
    exact this
def refB (on off : List Int) (noise : Int) (k : Nat) : Bool := decide (∀ i, i < on.length → okAt on off noise k i)
def refF (on off : List Int) (noise : Int) (k : Nat) : List Int := List.map (fun k : Nat => (k : Int)) ((List.range k).filter (refB on off noise))
theorem refF_len (on off : List Int) (noise : Int) (k : Nat) : (refF on off noise k).length ≤ k := by
  have := List.length_filter_le (refB on off noise) (List.range k)
  simp only [refF, List.length_map]
  simpa using this
theorem refF_pos {on off : List Int} {noise : Int} {k : Nat} (h : refB on off noise k = true) : refF on off noise (k + 1) = refF on off noise k ++ [(k : Int)] := by
  simp [refF, List.range_succ, h]
theorem refF_neg {on off : List Int} {noise : Int} {k : Nat} (h : refB on off noise k = false) : refF on off noise (k + 1) = refF on off noise k := by
  simp [refF, List.range_succ, h]
theorem lim_eq2 (n : Nat) (h : n ≤ 8) : IntKind.i64.wrap (1 * 2 ^ min (IntKind.u64.wrap (n : Int)).toNat IntKind.i64.bits) = ((2 ^ n : Nat) : Int) := by
  rw [wu64 _ (by omega) (by omega)]
  exact lim_eq n h

theorem pc_refStripes_bad (on off : List Int) (noise : Int) (h1 : on.length < 2 ^ 40) (h2 : off.length < 2 ^ 40) (hb : ¬ stripesOk on off noise) : PC Try.prog 11 [ints on, ints off, i64 noise] (.tup [.nils, i64 2]) := by
  refine pc_of_body hm Try.func11 (by kernel_rfl) ?_
  conv => whnf
  refine ⟨_, pc_within _ 1 8, ?_⟩
  (conv => whnf)
  (repeat' (first | (refine And.intro (a := _ = true → _) (b := _ = false → _) (fun hh => ?_) (fun hh => ?_) <;> (first | simp only [decide_eq_true_eq, decide_eq_false_iff_not, Bool.or_eq_true, Bool.and_eq_true, Bool.or_eq_false_iff, Bool.and_eq_false_iff, Bool.not_eq_true', Bool.not_eq_false', ge_iff_le, gt_iff_lt] at hh | skip) <;> (first | (exfalso; omega) | (exfalso; simp [*] at hh; done) | exact absurd (by assumption) hh | (conv => whnf))) | (refine ⟨by kernel_rfl, ?_⟩; (conv => whnf)) | (refine And.intro (a := _ ∧ _) ⟨by omega, by omega⟩ ?_; (conv => whnf)) | (refine And.intro (a := _ ≤ _) (by omega) ?_; (conv => whnf)) | (refine And.intro (a := _ ≠ _) (by omega) ?_; (conv => whnf)) | (refine ⟨_, by first | exact pc_within _ 0 64 | exact pc_values on h1 | exact pc_values off h2, ?_⟩; (conv => whnf)) | (refine ⟨false, ?_⟩; (conv => whnf))))
  exfalso
  apply hb
  simp only [withB, Bool.and_eq_true, decide_eq_true_eq] at *
  rename_i x1 x2 x3 x4
  refine ⟨by omega, by omega, by omega, (values_iff _ _ _).1 ?_, (values_iff _ _ _).1 ?_, ?_⟩
  · intro i hi; simpa [withB] using x3 i hi
  · intro i hi; simpa [withB] using x4 i hi
  · simp [outB]; omega
theorem pc_refStripes (on off : List Int) (noise : Int) (h1 : on.length < 2 ^ 40) (h2 : off.length < 2 ^ 40) (hb : stripesOk on off noise) : PC Try.prog 11 [ints on, ints off, i64 noise] (.tup [ints (refF on off noise (2 ^ on.length)), i64 0]) := by
  unfold stripesOk at hb
  obtain ⟨b1, b2, b3, b4, b5, b6⟩ := hb
  have b7 : 0 ≤ noise ∧ noise ≤ 64 := by simp [outB] at b6; omega
  have c1 : withB on.length 1 8 = true := by simp [withB]; omega
  have c2 : withB noise 0 64 = true := by simp [withB]; omega
  have c4 := (values_iff on 0 255).2 b4
  have c5 := (values_iff off 0 255).2 b5
  have hp : 2 ^ on.length ≤ 2 ^ 8 := Nat.pow_le_pow_right (by omega) (by omega)
  refine pc_of_body hm Try.func11 (by kernel_rfl) ?_
  conv => whnf
  refine ⟨_, pc_within _ 1 8, ?_⟩
  rw [c1]
  (conv => whnf)
  (repeat' (first | (refine And.intro (a := _ = true → _) (b := _ = false → _) (fun hh => ?_) (fun hh => ?_) <;> (first | simp only [decide_eq_true_eq, decide_eq_false_iff_not, Bool.or_eq_true, Bool.and_eq_true, Bool.or_eq_false_iff, Bool.and_eq_false_iff, Bool.not_eq_true', Bool.not_eq_false', ge_iff_le, gt_iff_lt] at hh | skip) <;> (first | (exfalso; omega) | (exfalso; simp [*] at hh; done) | exact absurd (by assumption) hh | (conv => whnf))) | (refine ⟨by kernel_rfl, ?_⟩; (conv => whnf)) | (refine And.intro (a := _ ∧ _) ⟨by omega, by omega⟩ ?_; (conv => whnf)) | (refine And.intro (a := _ ≤ _) (by omega) ?_; (conv => whnf)) | (refine And.intro (a := _ ≠ _) (by omega) ?_; (conv => whnf)) | (refine ⟨_, by first | exact pc_within _ 0 64 | exact pc_values on h1 | exact pc_values off h2, ?_⟩; (conv => whnf)) | (refine ⟨false, ?_⟩; (conv => whnf))))
  refine Or.inr ⟨Nat, [9], [], [(8, ⟨Int, 3, 1, 0, eI⟩)], fun i => [i64 i], fun _ => [], fun i => [.vec 3 1 0 eI (refF on off noise i)], fun i => 2 ^ on.length - i, fun i => i ≤ 2 ^ on.length, ?_⟩
  (conv => whnf)
  refine ⟨⟨0, ?_⟩, ?_⟩
  · (conv => whnf)
    exact ⟨⟨by simp, rfl, rfl, rfl⟩, by kernel_rfl, by kernel_rfl⟩
  · intro k hk
    (conv => whnf)
    have c0 : 0 ≤ IntKind.u64.wrap (on.length : Int) := by rw [wu64 _ (by omega) (by omega)]; omega
    refine ⟨c0, ?_⟩
    (conv => whnf)
    rw [lim_eq2 _ b2]
    refine ⟨fun h => ?_, fun h => ?_⟩
    · have h : (k : Int) < ((2 ^ on.length : Nat) : Int) := of_decide_eq_true h
      have wk : IntKind.i64.wrap (k + 1) = ((k + 1 : Nat) : Int) := by rw [w64 _ (by omega) (by omega)]; omega
      (conv => whnf)
      refine ⟨_, pc_may on off noise k (by omega) b3 b7 c4 c5, ?_⟩
      (conv => whnf)
      refine ⟨fun h3 => ?_, fun h3 => ?_⟩
      · have h3 : refB on off noise k = true := h3
        have hlen := refF_len on off noise k
        (conv => whnf)
        refine ⟨⟨Int, 1, 0, eI, refF on off noise k⟩, [(k : Int)], rfl, rfl, ⟨rfl, rfl⟩, ?_, ?_, fun y _ => ⟨rfl, rfl, rfl⟩, ?_⟩
        · show ((refF on off noise k).length + 1) * 8 ≤ _; omega
        · show (refF on off noise k).length + 1 ≤ _; omega
        (conv => whnf)
        refine ⟨k + 1, ?_⟩
        (conv => whnf)
        refine ⟨⟨⟨Nat.sub_lt_sub_left (by omega) (Nat.lt_succ_self k), by omega⟩, ?_, rfl, ?_⟩, by kernel_rfl, by kernel_rfl⟩
        · rw [wk]
        · show [Row.vec 3 1 0 eI _] = [Row.vec 3 1 0 eI (refF on off noise (k + 1))]
          rw [refF_pos h3]
      · have h3 : refB on off noise k = false := h3
        (conv => whnf)
        refine ⟨k + 1, ?_⟩
        (conv => whnf)
        refine ⟨⟨⟨Nat.sub_lt_sub_left (by omega) (Nat.lt_succ_self k), by omega⟩, ?_, rfl, ?_⟩, by kernel_rfl, by kernel_rfl⟩
        · rw [wk]
        · show [Row.vec 3 1 0 eI _] = [Row.vec 3 1 0 eI (refF on off noise (k + 1))]
          rw [refF_neg h3]
    · have h : ¬ (k : Int) < ((2 ^ on.length : Nat) : Int) := of_decide_eq_false h
      obtain rfl : k = 2 ^ on.length := by omega
      (conv => whnf)
end Go.Proofs.Try.My
