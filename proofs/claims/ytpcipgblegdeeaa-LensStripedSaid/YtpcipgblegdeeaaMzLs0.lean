/- A helper text: contracts of functions of the program, and plain lemmas. -/
import Derived.Test.YtpcipgblegdeeaaMzSp3
import Derived.Test.YtpcipgblegdeeaaMzGa1
set_option maxRecDepth 100000
set_option maxHeartbeats 0
set_option linter.unusedVariables false
set_option linter.unusedSimpArgs false
namespace Go.Proofs.Try.My
open Go Go.Ev

/-! ### Stripes with noise -/
abbrev e8 (n : Int) : List AV := [.int .u8 n]
abbrev u8s (l : List Int) : AV := .sl 1 0 e8 l
def clV (x : Int) : Int := if (if x > 0 then x else 0) < 255 then (if x > 0 then x else 0) else 255
theorem clV_near {a s N : Int} (h1 : 0 ≤ a) (h2 : a ≤ 255) (h3 : -N ≤ s) (h4 : s ≤ N) : 0 ≤ clV (a + s) ∧ clV (a + s) ≤ 255 ∧ -N ≤ clV (a + s) - a ∧ clV (a + s) - a ≤ N := by
  unfold clV
  split <;> split <;> omega
def brV (ideal more : List Int) (i : Nat) : Int := if ideal.getD i 0 + more.getD i 0 < 255 then ideal.getD i 0 + more.getD i 0 else 255
def onZ (ideal more : List Int) (g n : Int) (i : Nat) : Int := if (g.fdiv (2 ^ (n - 1 - (i : Int)).toNat)).tmod 2 = 1 then brV ideal more i else ideal.getD i 0
def offZ (ideal more : List Int) (g n : Int) (i : Nat) : Int := if (g.fdiv (2 ^ (n - 1 - (i : Int)).toNat)).tmod 2 = 1 then ideal.getD i 0 else brV ideal more i
def onV (ideal more noises : List Int) (g n N : Int) (i : Nat) : Int := clV (onZ ideal more g n i + (noises.getD (2 * i) 0).tmod (2 * N + 1) - N)
def offV (ideal more noises : List Int) (g n N : Int) (i : Nat) : Int := clV (offZ ideal more g n i + (noises.getD (2 * i + 1) 0).tmod (2 * N + 1) - N)
def bytesB (l : List Int) : Prop := ∀ i, 0 ≤ l.getD i 0 ∧ l.getD i 0 ≤ 255
theorem tmod_near {x N : Int} (hx : 0 ≤ x) (hN : 0 ≤ N) : -N ≤ x.tmod (2 * N + 1) - N ∧ x.tmod (2 * N + 1) - N ≤ N := by
  have h1 := Int.tmod_nonneg (2 * N + 1) hx
  have h2 := Int.tmod_lt_of_pos x (show 0 < 2 * N + 1 by omega)
  omega
theorem striped_law {ideal more noises : List Int} {N : Int} {k n : Nat} (hn : ideal.length = n) (n1 : 1 ≤ n) (n8 : n ≤ 8) (h1 : bytesB ideal) (h2 : bytesB more) (h3 : bytesB noises) (N0 : 0 ≤ N) (N1 : N ≤ 64) (hk : k < 2 ^ n) :
    let on := (List.range n).map (onV ideal more noises (grayF k) n N)
    let off := (List.range n).map (offV ideal more noises (grayF k) n N)
    stripesOk on off N ∧ (k : Int) ∈ outF on off N (2 ^ n) := by
  intro on off
  have hk8 : k < 256 := Nat.lt_of_lt_of_le hk (Nat.pow_le_pow_right (by omega) n8)
  have hg : grayF (k : Int) = codeF (k : Int) := gray_code _ (by simp only [withB, Bool.and_eq_true, decide_eq_true_eq]; omega)
  have lon : on.length = n := by simp [on]
  have loff : off.length = n := by simp [off]
  have gon : ∀ i, i < n → on.getD i 0 = onV ideal more noises (grayF k) n N i := fun i hi => by simp [on, List.getD, hi]
  have goff : ∀ i, i < n → off.getD i 0 = offV ideal more noises (grayF k) n N i := fun i hi => by simp [off, List.getD, hi]
  have br : ∀ i, ideal.getD i 0 ≤ brV ideal more i ∧ brV ideal more i ≤ 255 := fun i => by
    have a := h1 i
    have b := h2 i
    unfold brV
    split <;> omega
  have key : ∀ i, (0 ≤ onV ideal more noises (grayF k) n N i ∧ onV ideal more noises (grayF k) n N i ≤ 255) ∧ (0 ≤ offV ideal more noises (grayF k) n N i ∧ offV ideal more noises (grayF k) n N i ≤ 255) ∧
      ((grayF (k : Int)).fdiv (2 ^ ((n : Int) - 1 - (i : Int)).toNat)).tmod 2 = 1 ∧ offV ideal more noises (grayF k) n N i - onV ideal more noises (grayF k) n N i ≤ 2 * N ∨
      (0 ≤ onV ideal more noises (grayF k) n N i ∧ onV ideal more noises (grayF k) n N i ≤ 255) ∧ (0 ≤ offV ideal more noises (grayF k) n N i ∧ offV ideal more noises (grayF k) n N i ≤ 255) ∧
      ((grayF (k : Int)).fdiv (2 ^ ((n : Int) - 1 - (i : Int)).toNat)).tmod 2 ≠ 1 ∧ onV ideal more noises (grayF k) n N i - offV ideal more noises (grayF k) n N i ≤ 2 * N := fun i => by
    have a := h1 i
    have b := br i
    have s1 := tmod_near (h3 (2 * i)).1 N0
    have s2 := tmod_near (h3 (2 * i + 1)).1 N0
    unfold onV offV onZ offZ
    by_cases hb : ((grayF (k : Int)).fdiv (2 ^ ((n : Int) - 1 - (i : Int)).toNat)).tmod 2 = 1
    · left
      simp only [hb, if_true]
      have c1 := clV_near (a := brV ideal more i) (N := N) (by omega) b.2 s1.1 s1.2
      have c2 := clV_near (a := ideal.getD i 0) (N := N) a.1 a.2 s2.1 s2.2
      rw [← Int.add_sub_assoc] at c1 c2
      refine ⟨⟨c1.1, c1.2.1⟩, ⟨c2.1, c2.2.1⟩, trivial, by omega⟩
    · right
      simp only [hb, if_false]
      have c1 := clV_near (a := ideal.getD i 0) (N := N) a.1 a.2 s1.1 s1.2
      have c2 := clV_near (a := brV ideal more i) (N := N) (by omega) b.2 s2.1 s2.2
      rw [← Int.add_sub_assoc] at c1 c2
      refine ⟨⟨c1.1, c1.2.1⟩, ⟨c2.1, c2.2.1⟩, hb, by omega⟩
  have sok : stripesOk on off N := by
    refine ⟨by omega, by omega, by omega, ?_, ?_, ?_⟩
    · rw [← values_iff]
      intro i hi
      rw [gon i (by omega)]
      simp only [withB, Bool.and_eq_true, decide_eq_true_eq]
      rcases key i with h | h <;> exact h.1
    · rw [← values_iff]
      intro i hi
      rw [goff i (by omega)]
      simp only [withB, Bool.and_eq_true, decide_eq_true_eq]
      rcases key i with h | h <;> exact h.2.1
    · simp only [outB, Bool.or_eq_false_iff, decide_eq_false_iff_not]; omega
  refine ⟨sok, ?_⟩
  rw [outF_refF on off N N0 (2 ^ n) (Nat.pow_le_pow_right (by omega) (by omega))]
  unfold refF
  refine List.mem_map.2 ⟨k, List.mem_filter.2 ⟨List.mem_range.2 hk, ?_⟩, rfl⟩
  unfold refB
  rw [decide_eq_true_eq]
  intro i hi
  rw [lon] at hi
  unfold okAt bitAt
  rw [lon, gon i hi, goff i hi, ← hg]
  rcases key i with ⟨_, _, hb, h⟩ | ⟨_, _, hb, h⟩
  · rintro (⟨h0, _⟩ | ⟨_, h2⟩)
    · omega
    · omega
  · rintro (⟨_, h2⟩ | ⟨h0, _⟩)
    · omega
    · exact hb h0
end Go.Proofs.Try.My
