/- A helper text: contracts of functions of the program, and plain lemmas. -/
import Derived.Test.YtblmmhmdnnnidaaEvSix
import Derived.Test.YtblmmhmdnnnidaaMyExA
import Derived.Test.YtblmmhmdnnnidaaMySame
set_option maxRecDepth 100000
set_option maxHeartbeats 0
set_option linter.unusedVariables false
set_option linter.unusedSimpArgs false
namespace Go.Proofs.Try.My
open Go Go.Ev

def grayF (k : Int) : Int := bits .xor .i64 k (k.fdiv 2)
def codeF (k : Int) : Int := bits .xor .i64 k (IntKind.i64.wrap (k.tdiv 2))
theorem pc_lensGray (k : Int) : PC Try.prog 28 [i64 k] (.tup [i64 (if outB 0 255 k then 0 else grayF k), i64 (if outB 0 255 k then 2 else 0)]) := by
  refine pc_of_bodyF hm Try.func28 (by kernel_rfl) ?_
  conv => whnf
  (first | (refine Or.inl ?_; (conv => whnf); refine ⟨false, ?_⟩) | refine ⟨false, ?_⟩)
  (conv => whnf)
  (first | (refine Or.inl ?_; (conv => whnf); refine ⟨_, pc_fromL 0 255 [k] (by simp), ?_⟩) | refine ⟨_, pc_fromL 0 255 [k] (by simp), ?_⟩)
  (conv => whnf)
  refine ⟨fun h => ?_, fun h => ?_⟩
  · (conv => whnf)
    have h : outB 0 255 k = true := by simpa using h
    rw [h]; rfl
  · (conv => whnf)
    have h : outB 0 255 k = false := by simpa using h
    rw [h]; rfl
def bitAt (n i k : Int) : Int := ((codeF k).fdiv (2 ^ (n - 1 - i).toNat)).tmod 2
def okAt (on off : List Int) (noise k : Int) (i : Nat) : Prop := ¬ (bitAt on.length i k = 0 ∧ 2 * noise < on.getD i 0 - off.getD i 0 ∨ bitAt on.length i k = 1 ∧ 2 * noise < off.getD i 0 - on.getD i 0)
instance (on off : List Int) (noise k : Int) (i : Nat) : Decidable (okAt on off noise k i) := by unfold okAt; infer_instance
end Go.Proofs.Try.My
set_option maxRecDepth 100000
set_option maxHeartbeats 0
set_option linter.unusedVariables false
set_option linter.unusedSimpArgs false
namespace Go.Proofs.Try.My
open Go Go.Ev


theorem bits_and_nat (a b : Nat) (ha : a < 2 ^ 62) (hb : b < 2 ^ 62) : bits .and .i64 (a : Int) (b : Int) = ((a &&& b : Nat) : Int) := by
  have h : (BitVec.ofInt 64 (a : Int) &&& BitVec.ofInt 64 (b : Int)).toNat = a &&& b := by
    rw [BitVec.toNat_and, BitVec.toNat_ofInt, BitVec.toNat_ofInt]
    congr 1 <;> omega
  show IntKind.i64.wrap (((BitVec.ofInt 64 (a : Int) &&& BitVec.ofInt 64 (b : Int)).toNat : Nat) : Int) = _
  rw [h]
  have : a &&& b ≤ a := Nat.and_le_left
  exact w64 _ (by omega) (by omega)
theorem bits_or_nat (a b : Nat) (ha : a < 2 ^ 62) (hb : b < 2 ^ 62) : bits .or .i64 (a : Int) (b : Int) = ((a ||| b : Nat) : Int) := by
  have h : (BitVec.ofInt 64 (a : Int) ||| BitVec.ofInt 64 (b : Int)).toNat = a ||| b := by
    rw [BitVec.toNat_or, BitVec.toNat_ofInt, BitVec.toNat_ofInt]
    congr 1 <;> omega
  show IntKind.i64.wrap (((BitVec.ofInt 64 (a : Int) ||| BitVec.ofInt 64 (b : Int)).toNat : Nat) : Int) = _
  rw [h]
  have : a ||| b < 2 ^ 62 := Nat.or_lt_two_pow ha hb
  exact w64 _ (by omega) (by omega)
theorem bits_xor_nat (a b : Nat) (ha : a < 2 ^ 62) (hb : b < 2 ^ 62) : bits .xor .i64 (a : Int) (b : Int) = ((a ^^^ b : Nat) : Int) := by
  have h : (BitVec.ofInt 64 (a : Int) ^^^ BitVec.ofInt 64 (b : Int)).toNat = a ^^^ b := by
    rw [BitVec.toNat_xor, BitVec.toNat_ofInt, BitVec.toNat_ofInt]
    congr 1 <;> omega
  show IntKind.i64.wrap (((BitVec.ofInt 64 (a : Int) ^^^ BitVec.ofInt 64 (b : Int)).toNat : Nat) : Int) = _
  rw [h]
  have : a ^^^ b < 2 ^ 62 := Nat.xor_lt_two_pow ha hb
  exact w64 _ (by omega) (by omega)

def stripesOk (on off : List Int) (noise : Int) : Prop := 1 ≤ on.length ∧ on.length ≤ 8 ∧ off.length = on.length ∧ on.any (outB 0 255) = false ∧ off.any (outB 0 255) = false ∧ outB 0 64 noise = false

theorem pc_lensStripes_bad (on off : List Int) (noise : Int) (h1 : on.length < 2 ^ 40) (h2 : off.length < 2 ^ 40) (hb : ¬ stripesOk on off noise) : PC Try.prog 91 [ints on, ints off, i64 noise] (.tup [.nils, i64 2]) := by
  unfold stripesOk at hb
  refine pc_of_bodyF hm Try.func91 (by kernel_rfl) ?_
  conv => whnf
  (repeat' (first | (refine And.intro (a := _ = true → _) (b := _ = false → _) (fun hh => ?_) (fun hh => ?_) <;> (first | simp only [decide_eq_true_eq, decide_eq_false_iff_not, Bool.or_eq_true, Bool.and_eq_true, Bool.or_eq_false_iff, Bool.and_eq_false_iff, Bool.not_eq_true', Bool.not_eq_false', ge_iff_le, gt_iff_lt] at hh | skip) <;> (first | (exfalso; omega) | (exfalso; simp [*] at hh; done) | (exfalso; revert hh; decide) | exact absurd (by assumption) hh | (conv => whnf))) | (refine ⟨by kernel_rfl, ?_⟩; (conv => whnf)) | (refine And.intro (a := _ ∧ _) ⟨by omega, by omega⟩ ?_; (conv => whnf)) | (refine And.intro (a := _ ∧ _) ⟨by decide, by decide⟩ ?_; (conv => whnf)) | (refine And.intro (a := _ ≤ _) (by omega) ?_; (conv => whnf)) | (refine And.intro (a := _ ≠ _) (by omega) ?_; (conv => whnf)) | (refine Or.inl ?_; (conv => whnf); first | (refine ⟨_, by first | exact pc_fromL 0 64 [noise] (by simp) | exact pc_from 0 255 on h1 | exact pc_from 0 255 off h2, ?_⟩; (conv => whnf)) | (refine ⟨false, ?_⟩; (conv => whnf); refine ⟨_, by first | exact pc_fromL 0 64 [noise] (by simp) | exact pc_from 0 255 on h1 | exact pc_from 0 255 off h2, ?_⟩; (conv => whnf))) | (refine ⟨_, by first | exact pc_fromL 0 64 [noise] (by simp) | exact pc_from 0 255 on h1 | exact pc_from 0 255 off h2, ?_⟩; (conv => whnf))))
  exact (hb ⟨by omega, by omega, by omega, by assumption, by assumption, by simpa using ‹[noise].any _ = false›⟩).elim
/-- Which bits are known, and what they are, after i of them. -/
def kb (on off : List Int) (noise : Int) : Nat → Nat × Nat
  | 0 => (0, 0)
  | i + 1 => let p := kb on off noise i
    let d := on.getD i 0 - off.getD i 0
    if 2 * noise < d then (2 * p.1 ||| 1, 2 * p.2 ||| 1) else if 2 * noise < -d then (2 * p.1 ||| 1, 2 * p.2) else (2 * p.1, 2 * p.2)
theorem or1_lt (a n : Nat) (h : a < 2 ^ n) : 2 * a ||| 1 < 2 ^ (n + 1) := Nat.or_lt_two_pow (by rw [Nat.pow_succ]; omega) (Nat.one_lt_two_pow (by omega))
theorem kb_lt (on off : List Int) (noise : Int) : ∀ i, (kb on off noise i).1 < 2 ^ i ∧ (kb on off noise i).2 < 2 ^ i
  | 0 => by simp [kb]
  | i + 1 => by
    have h := kb_lt on off noise i
    have h1 := or1_lt _ _ h.1
    have h2 := or1_lt _ _ h.2
    have h3 := h.1
    have h4 := h.2
    simp only [kb]
    split
    · exact ⟨h1, h2⟩
    · split
      · exact ⟨h1, by rw [Nat.pow_succ]; simp only []; omega⟩
      · exact ⟨by rw [Nat.pow_succ]; simp only []; omega, by rw [Nat.pow_succ]; simp only []; omega⟩
theorem shl1 (a : Nat) (h : a < 2 ^ 8) : IntKind.i64.wrap ((a : Int) * 2 ^ min (Int.toNat 1) IntKind.i64.bits) = ((2 * a : Nat) : Int) := by
  have : (2 : Int) ^ min (Int.toNat 1) IntKind.i64.bits = 2 := by decide
  rw [this, w64 _ (by omega) (by omega)]
  omega
theorem val_of_any {l : List Int} {lo hi : Int} (h : l.any (outB lo hi) = false) (i : Nat) (hl : i < l.length) : lo ≤ l.getD i 0 ∧ l.getD i 0 ≤ hi := by
  have := List.any_eq_false.1 h (l.getD i 0) (by simp [List.getD, hl])
  simp only [outB, Bool.or_eq_true, decide_eq_true_eq] at this
  omega
theorem or1 (a : Nat) (h : a < 2 ^ 8) : bits .or .i64 ((2 * a : Nat) : Int) 1 = ((2 * a ||| 1 : Nat) : Int) := bits_or_nat (2 * a) 1 (by omega) (by omega)
def stripeB (on off : List Int) (noise : Int) (k : Nat) : Bool := ((k ^^^ (k >>> 1)) &&& (kb on off noise on.length).1) == (kb on off noise on.length).2
def outF (on off : List Int) (noise : Int) (k : Nat) : List Int := List.map (fun k : Nat => (k : Int)) ((List.range k).filter (stripeB on off noise))
theorem outF_len (on off : List Int) (noise : Int) (k : Nat) : (outF on off noise k).length ≤ k := by
  have := List.length_filter_le (stripeB on off noise) (List.range k)
  simp only [outF, List.length_map]
  simpa using this
theorem outF_pos {on off : List Int} {noise : Int} {k : Nat} (h : stripeB on off noise k = true) : outF on off noise (k + 1) = outF on off noise k ++ [(k : Int)] := by
  simp [outF, List.range_succ, h]
theorem outF_neg {on off : List Int} {noise : Int} {k : Nat} (h : stripeB on off noise k = false) : outF on off noise (k + 1) = outF on off noise k := by
  simp [outF, List.range_succ, h]
theorem shr1 (k : Nat) : (k : Int).fdiv (2 ^ min (Int.toNat 1) IntKind.i64.bits) = ((k >>> 1 : Nat) : Int) := by
  have : (2 : Int) ^ min (Int.toNat 1) IntKind.i64.bits = 2 := by decide
  rw [this, Nat.shiftRight_eq_div_pow, Int.fdiv_eq_ediv_of_nonneg _ (by omega)]
  omega
theorem cond_nat (k a : Nat) (hk : k < 2 ^ 9) (ha : a < 2 ^ 9) : bits .and .i64 (bits .xor .i64 (k : Int) ((k : Int).fdiv (2 ^ min (Int.toNat 1) IntKind.i64.bits))) (a : Int) = (((k ^^^ (k >>> 1)) &&& a : Nat) : Int) := by
  have h1 : k >>> 1 < 2 ^ 9 := by rw [Nat.shiftRight_eq_div_pow]; omega
  have h2 : k ^^^ (k >>> 1) < 2 ^ 9 := Nat.xor_lt_two_pow hk h1
  rw [shr1, bits_xor_nat _ _ (by omega) (by omega), bits_and_nat _ _ (by omega) (by omega)]
theorem lim_eq (n : Nat) (h : n ≤ 8) : IntKind.i64.wrap (1 * 2 ^ min (n : Int).toNat IntKind.i64.bits) = ((2 ^ n : Nat) : Int) := by
  have h2 : min (n : Int).toNat IntKind.i64.bits = n := by show min n 64 = n; omega
  have h3 : (2 : Nat) ^ n ≤ 2 ^ 8 := Nat.pow_le_pow_right (by omega) h
  have h4 : (1 : Int) * 2 ^ n = ((2 ^ n : Nat) : Int) := by simp
  have h5 : ∀ m : Nat, m ≤ 2 ^ 8 → IntKind.i64.wrap (m : Int) = m := fun m hm => w64 _ (by omega) (by omega)
  rw [h2, h4, h5 _ h3]
theorem pc_lensStripes (on off : List Int) (noise : Int) (h1 : on.length < 2 ^ 40) (h2 : off.length < 2 ^ 40) (hb : stripesOk on off noise) : PC Try.prog 91 [ints on, ints off, i64 noise] (.tup [ints (outF on off noise (2 ^ on.length)), i64 0]) := by
  unfold stripesOk at hb
  obtain ⟨b1, b2, b3, b4, b5, b6⟩ := hb
  have b7 : 0 ≤ noise ∧ noise ≤ 64 := by simp [outB] at b6; omega
  refine pc_of_bodyF hm Try.func91 (by kernel_rfl) ?_
  conv => whnf
  (repeat' (first | (refine And.intro (a := _ = true → _) (b := _ = false → _) (fun hh => ?_) (fun hh => ?_) <;> (first | simp only [decide_eq_true_eq, decide_eq_false_iff_not, Bool.or_eq_true, Bool.and_eq_true, Bool.or_eq_false_iff, Bool.and_eq_false_iff, Bool.not_eq_true', Bool.not_eq_false', ge_iff_le, gt_iff_lt] at hh | skip) <;> (first | (exfalso; omega) | (exfalso; simp [*] at hh; done) | (exfalso; revert hh; decide) | exact absurd (by assumption) hh | (conv => whnf))) | (refine ⟨by kernel_rfl, ?_⟩; (conv => whnf)) | (refine And.intro (a := _ ∧ _) ⟨by omega, by omega⟩ ?_; (conv => whnf)) | (refine And.intro (a := _ ∧ _) ⟨by decide, by decide⟩ ?_; (conv => whnf)) | (refine And.intro (a := _ ≤ _) (by omega) ?_; (conv => whnf)) | (refine And.intro (a := _ ≠ _) (by omega) ?_; (conv => whnf)) | (refine Or.inl ?_; (conv => whnf); first | (refine ⟨_, by first | exact pc_fromL 0 64 [noise] (by simp) | exact pc_from 0 255 on h1 | exact pc_from 0 255 off h2, ?_⟩; (conv => whnf)) | (refine ⟨false, ?_⟩; (conv => whnf); refine ⟨_, by first | exact pc_fromL 0 64 [noise] (by simp) | exact pc_from 0 255 on h1 | exact pc_from 0 255 off h2, ?_⟩; (conv => whnf))) | (refine ⟨_, by first | exact pc_fromL 0 64 [noise] (by simp) | exact pc_from 0 255 on h1 | exact pc_from 0 255 off h2, ?_⟩; (conv => whnf))))
  refine Or.inr ⟨Nat, [8, 9, 47], [], [], fun i => [i64 (kb on off noise i).1, i64 (kb on off noise i).2, i64 i], fun _ => [], fun _ => [], fun i => on.length - i, fun i => i ≤ on.length, ?_⟩
  (conv => whnf)
  refine ⟨⟨0, ?_⟩, ?_⟩
  · (conv => whnf)
    exact ⟨⟨by simp, rfl, rfl, rfl⟩, by kernel_rfl, by kernel_rfl⟩
  · intro i hi
    have hk := kb_lt on off noise i
    have hp : 2 ^ i ≤ 2 ^ 8 := Nat.pow_le_pow_right (by omega) (by omega)
    (conv => whnf)
    refine ⟨fun h => ?_, fun h => ?_⟩
    · have h := of_decide_eq_true h
      have a1 := val_of_any b4 i (by omega)
      have a2 := val_of_any b5 i (by omega)
      have d1 : IntKind.i64.wrap (on.getD (i : Int).toNat 0 - off.getD (i : Int).toNat 0) = on.getD i 0 - off.getD i 0 := w64 (on.getD i 0 - off.getD i 0) (by omega) (by omega)
      have d2 : IntKind.i64.wrap (0 - (on.getD i 0 - off.getD i 0)) = - (on.getD i 0 - off.getD i 0) := by rw [w64 _ (by omega) (by omega)]; omega
      have d3 : IntKind.i64.wrap (2 * noise) = 2 * noise := w64 _ (by omega) (by omega)
      have wi : IntKind.i64.wrap (i + 1) = ((i + 1 : Nat) : Int) := by rw [w64 _ (by omega) (by omega)]; omega
      (conv => whnf)
      (repeat' (first | (refine And.intro (a := _ = true → _) (b := _ = false → _) (fun hh => ?_) (fun hh => ?_) <;> (first | simp only [decide_eq_true_eq, decide_eq_false_iff_not, Bool.or_eq_true, Bool.and_eq_true, Bool.or_eq_false_iff, Bool.and_eq_false_iff, Bool.not_eq_true', Bool.not_eq_false', ge_iff_le, gt_iff_lt] at hh | skip) <;> (first | (exfalso; omega) | (exfalso; simp [*] at hh; done) | (exfalso; revert hh; decide) | exact absurd (by assumption) hh | (conv => whnf))) | (refine ⟨by kernel_rfl, ?_⟩; (conv => whnf)) | (refine And.intro (a := _ ∧ _) ⟨by omega, by omega⟩ ?_; (conv => whnf)) | (refine And.intro (a := _ ∧ _) ⟨by decide, by decide⟩ ?_; (conv => whnf)) | (refine And.intro (a := _ ≤ _) (by omega) ?_; (conv => whnf)) | (refine And.intro (a := _ ≠ _) (by omega) ?_; (conv => whnf))))
      all_goals
        refine ⟨i + 1, ?_⟩
        (conv => whnf)
        refine ⟨⟨⟨Nat.sub_lt_sub_left (by omega) (Nat.lt_succ_self i), by omega⟩, ?_, rfl, rfl⟩, by kernel_rfl, by kernel_rfl⟩
        show [i64 _, i64 _, i64 _] = [i64 ((kb on off noise (i + 1)).1 : Nat), i64 ((kb on off noise (i + 1)).2 : Nat), i64 ((i + 1 : Nat) : Int)]
        simp only [kb]
        rw [shl1 _ (by omega), shl1 _ (by omega), wi]
      · rename_i hA
        have hB := hh
        rw [d1] at hB
        simp only [d1, d2, d3] at hA
        have c : 2 * noise < on.getD i 0 - off.getD i 0 := by split at hA <;> omega
        rw [or1 _ (by omega), or1 _ (by omega), if_pos c]
      · rename_i hA
        have hB := hh
        rw [d1] at hB
        simp only [d1, d2, d3] at hA
        have c : ¬ 2 * noise < on.getD i 0 - off.getD i 0 := by omega
        have c2 : 2 * noise < -(on.getD i 0 - off.getD i 0) := by split at hA <;> omega
        rw [or1 _ (by omega), if_neg c, if_pos c2]
      · have hA := hh
        simp only [d1, d2, d3] at hA
        have c : ¬ 2 * noise < on.getD i 0 - off.getD i 0 := by split at hA <;> omega
        have c2 : ¬ 2 * noise < -(on.getD i 0 - off.getD i 0) := by split at hA <;> omega
        rw [if_neg c, if_neg c2]
    · have h := of_decide_eq_false h
      obtain rfl : i = on.length := by omega
      (conv => whnf)
      (repeat' (first | (refine And.intro (a := _ = true → _) (b := _ = false → _) (fun hh => ?_) (fun hh => ?_) <;> (first | simp only [decide_eq_true_eq, decide_eq_false_iff_not, Bool.or_eq_true, Bool.and_eq_true, Bool.or_eq_false_iff, Bool.and_eq_false_iff, Bool.not_eq_true', Bool.not_eq_false', ge_iff_le, gt_iff_lt] at hh | skip) <;> (first | (exfalso; omega) | (exfalso; simp [*] at hh; done) | (exfalso; revert hh; decide) | exact absurd (by assumption) hh | (conv => whnf))) | (refine ⟨by kernel_rfl, ?_⟩; (conv => whnf)) | (refine And.intro (a := _ ∧ _) ⟨by omega, by omega⟩ ?_; (conv => whnf)) | (refine And.intro (a := _ ∧ _) ⟨by decide, by decide⟩ ?_; (conv => whnf)) | (refine And.intro (a := _ ≤ _) (by omega) ?_; (conv => whnf)) | (refine And.intro (a := _ ≠ _) (by omega) ?_; (conv => whnf))))
      refine Or.inr ⟨Nat, [80], [], [(12, ⟨Int, 3, 1, 0, eI⟩)], fun i => [i64 i], fun _ => [], fun i => [.vec 3 1 0 eI (outF on off noise i)], fun i => 2 ^ on.length - i, fun i => i ≤ 2 ^ on.length, ?_⟩
      (conv => whnf)
      refine ⟨⟨0, ?_⟩, ?_⟩
      · (conv => whnf)
        exact ⟨⟨by simp, rfl, rfl, rfl⟩, by kernel_rfl, by kernel_rfl⟩
      · intro k hk
        (conv => whnf)
        have hk2 := kb_lt on off noise on.length
        rw [lim_eq _ b2]
        refine ⟨fun h => ?_, fun h => ?_⟩
        · have h : (k : Int) < ((2 ^ on.length : Nat) : Int) := of_decide_eq_true h
          have wk : IntKind.i64.wrap (k + 1) = ((k + 1 : Nat) : Int) := by rw [w64 _ (by omega) (by omega)]; omega
          (conv => whnf)
          rw [cond_nat k _ (by omega) (by omega)]
          refine ⟨fun h3 => ?_, fun h3 => ?_⟩
          · have h3 : stripeB on off noise k = true := by
              simp only [decide_eq_true_eq] at h3
              simp only [stripeB, beq_iff_eq]; omega
            have hlen := outF_len on off noise k
            (conv => whnf)
            refine ⟨⟨Int, 1, 0, eI, outF on off noise k⟩, [(k : Int)], rfl, rfl, ⟨rfl, rfl⟩, ?_, ?_, fun y _ => ⟨rfl, rfl, rfl⟩, ?_⟩
            · show ((outF on off noise k).length + 1) * 8 ≤ _; omega
            · show (outF on off noise k).length + 1 ≤ _; omega
            (conv => whnf)
            refine ⟨k + 1, ?_⟩
            (conv => whnf)
            refine ⟨⟨⟨Nat.sub_lt_sub_left (by omega) (Nat.lt_succ_self k), by omega⟩, ?_, rfl, ?_⟩, by kernel_rfl, by kernel_rfl⟩
            · rw [wk]
            · show [Row.vec 3 1 0 eI _] = [Row.vec 3 1 0 eI (outF on off noise (k + 1))]
              rw [outF_pos h3]
          · have h3 : stripeB on off noise k = false := by
              simp only [decide_eq_false_iff_not] at h3
              simp only [stripeB, beq_eq_false_iff_ne, ne_eq]; omega
            (conv => whnf)
            refine ⟨k + 1, ?_⟩
            (conv => whnf)
            refine ⟨⟨⟨Nat.sub_lt_sub_left (by omega) (Nat.lt_succ_self k), by omega⟩, ?_, rfl, ?_⟩, by kernel_rfl, by kernel_rfl⟩
            · rw [wk]
            · show [Row.vec 3 1 0 eI _] = [Row.vec 3 1 0 eI (outF on off noise (k + 1))]
              rw [outF_neg h3]
        · have h : ¬ (k : Int) < ((2 ^ on.length : Nat) : Int) := of_decide_eq_false h
          obtain rfl : k = 2 ^ on.length := by omega
          (conv => whnf)
end Go.Proofs.Try.My
