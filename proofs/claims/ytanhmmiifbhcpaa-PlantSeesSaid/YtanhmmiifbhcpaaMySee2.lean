/- A helper text: contracts of functions of the program, and plain lemmas. -/
import Derived.Test.YtanhmmiifbhcpaaMySee
set_option maxRecDepth 100000
set_option maxHeartbeats 0
set_option linter.unusedVariables false
set_option linter.unusedSimpArgs false
namespace Go.Proofs.Try.My
open Go Go.Ev
theorem pc_within11 (n lo hi : Int) : PC Try.prog 106 [i64 n, i64 lo, i64 hi] (.bool (withB n lo hi)) := by
  refine pc_of_body hm Try.func106 (by kernel_rfl) ?_
  conv => whnf
  refine ⟨fun h => ?_, fun h => ?_⟩ <;> ((conv => whnf); simp_all [-decide_eq_true_eq, -decide_eq_false_iff_not, withB])
theorem pc_pfrom (lo hi n : Int) : PC Try.prog 64 [i64 lo, i64 hi, i64 n] (.bool (withB n lo hi)) := by
  refine pc_of_body hm Try.func64 (by kernel_rfl) ?_
  conv => whnf
  refine ⟨fun h => ?_, fun h => ?_⟩ <;> ((conv => whnf); simp_all [-decide_eq_true_eq, -decide_eq_false_iff_not, withB])
def loudB (n : Int) : Bool := !withB n (-64) 64
theorem pc_Observe1 (n : Int) : PC Try.prog 63 [i64 n] (.bool (loudB n)) := by
  refine pc_of_body hm Try.func63 (by kernel_rfl) ?_
  conv => whnf
  (first | (refine Or.inl ?_; (conv => whnf); refine ⟨_, pc_pfrom (-64) 64 n, ?_⟩) | refine ⟨_, pc_pfrom (-64) 64 n, ?_⟩)
  (conv => whnf)
  rfl
theorem pc_noises (p n : List Int) (hp : p.length < 2 ^ 40) (hn : n.length < 2 ^ 40) : PC Try.prog 68 [ints p, ints n] (.bool (decide (p.length = n.length) && !n.any loudB)) := by
  refine pc_of_body hm Try.func68 (by kernel_rfl) ?_
  conv => whnf
  refine ⟨fun h => ?_, fun h => ?_⟩
  · (conv => whnf)
    have : ¬ p.length = n.length := by simp at h; omega
    simp [this]
  have hpn : p.length = n.length := by simp at h; omega
  (conv => whnf)
  refine Or.inr ⟨Nat, [5], [], [], fun k => [i64 k], fun _ => [], fun _ => [], fun k => n.length - k, fun k => k ≤ n.length ∧ ∀ i, i < k → loudB (n.getD i 0) = false, ?_⟩
  (conv => whnf)
  refine ⟨⟨0, ?_⟩, ?_⟩
  · (conv => whnf)
    exact ⟨⟨by simp, rfl, rfl, rfl⟩, by kernel_rfl, by kernel_rfl⟩
  · intro k hk
    (conv => whnf)
    refine ⟨fun h => ?_, fun h => ?_⟩
    · have h := of_decide_eq_true h
      (conv => whnf)
      refine ⟨⟨by omega, by omega⟩, ?_⟩
      (conv => whnf)
      (first | (refine Or.inl ?_; (conv => whnf); refine ⟨_, pc_within11 _ _ _, ?_⟩) | refine ⟨_, pc_within11 _ _ _, ?_⟩)
      (conv => whnf)
      refine ⟨fun h2 => ?_, fun h2 => ?_⟩
      · (conv => whnf)
        congr 1
        have hm : loudB (n.getD k 0) = true := by simpa [loudB] using h2
        have : n.any loudB = true := List.any_eq_true.2 ⟨n.getD k 0, by simp [List.getD, show k < n.length by omega], hm⟩
        simp [this]
      · refine ⟨k + 1, ?_⟩
        (conv => whnf)
        refine ⟨⟨⟨?_, ?_, ?_⟩, ?_, rfl, rfl⟩, by kernel_rfl, by kernel_rfl⟩
        · show n.length - (k + 1) < n.length - k; omega
        · omega
        · intro i hi
          by_cases e : i = k
          · subst e; simpa [loudB] using h2
          · exact hk.2 i (by omega)
        · rw [w64 _ (by omega) (by omega)]; rfl
    · have h := of_decide_eq_false h
      (conv => whnf)
      congr 1
      have : n.any loudB = false := List.any_eq_false.2 fun x hx => by
        obtain ⟨i, hi, rfl⟩ := List.getElem_of_mem hx
        have := hk.2 i (by omega)
        simpa [List.getD, hi] using this
      simp [this, hpn]

theorem pc_blurred (n : List Int) : PC Try.prog 66 [ints n] (.fn (.func 103) [] [.pt [ints n] 0]) := by
  refine pc_of_body hm Try.func66 (by kernel_rfl) ?_
  conv => whnf

/-- A value brought into the range of a pixel. -/
def clip (x : Int) : Int := if 255 < (if 0 > x then 0 else x) then 255 else (if 0 > x then 0 else x)
theorem clip_eq (x : Int) : clip x = if (if x > 0 then x else 0) < 255 then (if x > 0 then x else 0) else 255 := by unfold clip; split <;> split <;> split <;> (try split) <;> omega
def seenAt (p n : List Int) (i : Nat) : Int := clip (p.getD i 0 + n.getD i 0)
/-- A profile, of which the first k values are seen. -/
def mixL (p : List Int) (f : Nat → Int) (k : Nat) : List Int := (List.range p.length).map fun i => if i < k then f i else p.getD i 0
theorem mixL_length (p : List Int) (f : Nat → Int) (k : Nat) : (mixL p f k).length = p.length := by simp [mixL]
theorem mixL_getD (p : List Int) (f : Nat → Int) (k i : Nat) (h : i < p.length) : (mixL p f k).getD i 0 = if i < k then f i else p.getD i 0 := by simp [mixL, List.getD, h]
theorem mixL_zero (p : List Int) (f : Nat → Int) : mixL p f 0 = p := by
  refine List.ext_getElem (by simp [mixL]) fun i h1 h2 => ?_
  simp [mixL, List.getD, h2]
theorem mixL_succ (p : List Int) (f : Nat → Int) (k : Nat) : (mixL p f k).set k (f k) = mixL p f (k + 1) := by
  refine List.ext_getElem (by simp [mixL]) fun i h1 h2 => ?_
  simp only [mixL, List.getElem_set, List.getElem_map, List.getElem_range]
  by_cases e : k = i
  · subst e; simp
  · simp only [e, if_false]
    by_cases h : i < k
    · simp [h, show i < k + 1 by omega]
    · simp [h, show ¬ i < k + 1 by omega]
def seenL (p n : List Int) : List Int := (List.range p.length).map (seenAt p n)
theorem mixL_all (p : List Int) (f : Nat → Int) : mixL p f p.length = (List.range p.length).map f := by
  refine List.ext_getElem (by simp [mixL]) fun i h1 h2 => ?_
  simp [mixL] at h1 ⊢
  intro h; omega
theorem seenL_length (p n : List Int) : (seenL p n).length = p.length := by simp [seenL]

theorem any_getD {l : List Int} {q : Int → Bool} (h : l.any q = false) (i : Nat) (hi : i < l.length) : q (l.getD i 0) = false := by
  have := List.any_eq_false.1 h (l.getD i 0) (by simp [List.getD, hi])
  simpa using this
theorem val_bounds {l : List Int} (h : l.any badV = false) (i : Nat) (hi : i < l.length) : 0 ≤ l.getD i 0 ∧ l.getD i 0 ≤ 255 := by
  have := any_getD h i hi
  simp only [badV, withB, Bool.not_eq_false', Bool.and_eq_true, decide_eq_true_eq] at this
  exact this
theorem loud_bounds {l : List Int} (h : l.any loudB = false) (i : Nat) (hi : i < l.length) : -64 ≤ l.getD i 0 ∧ l.getD i 0 ≤ 64 := by
  have := any_getD h i hi
  simp only [loudB, withB, Bool.not_eq_false', Bool.and_eq_true, decide_eq_true_eq] at this
  exact this

theorem pw_blurred1 (p n : List Int) (h0 : p ≠ []) (hl : p.length < 2 ^ 30) (hpn : p.length = n.length) (hp : p.any badV = false) (hn : n.any loudB = false) : PW Try.prog 103 [ints p, .pt [ints n] 0] [] (.own 0) [.vec 3 1 0 eI (seenL p n)] := by
  refine pw_of_body hm Try.func103 (by kernel_rfl) ⟨by kernel_rfl, ?_⟩
  conv => whnf
  (refine Or.inr ⟨[ ], [ 8 ], by kernel_rfl, ?_⟩; (conv => whnf); refine ⟨[ ], _, _, _, _, ⟨ pw_Clone p h0 hl, rfl, rfl, by kernel_rfl⟩, ?_⟩)
  (conv => whnf)
  refine Or.inr ⟨Nat, [11], [8], [], fun k => [i64 k], fun k => [.vec 3 1 0 eI (mixL p (seenAt p n) k)], fun _ => [], fun k => n.length - k, fun k => k ≤ n.length, ?_⟩
  (conv => whnf)
  refine ⟨⟨0, ?_⟩, ?_⟩
  · (conv => whnf)
    refine ⟨⟨Nat.zero_le _, rfl, ?_, rfl⟩, by kernel_rfl, by kernel_rfl⟩
    show [Row.vec 3 1 0 eI p] = [Row.vec 3 1 0 eI (mixL p (seenAt p n) 0)]
    rw [mixL_zero]
  · intro k hk
    (conv => whnf)
    refine ⟨fun h => ?_, fun h => ?_⟩
    · have h := of_decide_eq_true h
      have a1 := val_bounds hp k (by omega)
      have a2 := loud_bounds hn k (by omega)
      (conv => whnf)
      refine ⟨⟨by omega, by omega⟩, ?_⟩
      (conv => whnf)
      refine ⟨⟨by omega, by rw [mixL_length]; omega⟩, ?_⟩
      (conv => whnf)
      refine ⟨by rw [mixL_length]; omega, ?_⟩
      (conv => whnf)
      refine ⟨⟨by omega, by rw [mixL_length]; omega⟩, ?_⟩
      (conv => whnf)
      refine ⟨seenAt p n k, ?_, by rw [mixL_length]; omega, ?_⟩
      · have e1 : (mixL p (seenAt p n) k).getD (Int.toNat (k : Int)) 0 = p.getD k 0 := by
          show (mixL p (seenAt p n) k).getD k 0 = _
          rw [mixL_getD p _ k k (by omega)]; simp
        rw [e1, w64 (p.getD k 0 + n.getD (Int.toNat (k : Int)) 0) (by show _ ≤ p.getD k 0 + n.getD k 0; omega) (by show p.getD k 0 + n.getD k 0 ≤ _; omega)]
        rfl
      (conv => whnf)
      refine ⟨k + 1, ?_⟩
      (conv => whnf)
      refine ⟨⟨⟨Nat.sub_lt_sub_left (by omega) (Nat.lt_succ_self k), by omega⟩, ?_, ?_, rfl⟩, by kernel_rfl, by kernel_rfl⟩
      · rw [w64 _ (by omega) (by omega)]; rfl
      · show [Row.vec _ 1 0 eI ((mixL p (seenAt p n) k).set k (seenAt p n k))] = _
        rw [mixL_succ]
    · have h := of_decide_eq_false h
      obtain rfl : k = p.length := by omega
      (conv => whnf)
      refine ⟨[8], by kernel_rfl, ?_⟩
      (conv => whnf)
      refine ⟨rfl, ?_⟩
      show [Row.vec _ 1 0 eI (mixL p (seenAt p n) p.length)] = _
      rw [mixL_all]
      rfl

theorem pc_seen (p n : List Int) (hpn : p.length = n.length) (hl : p.length < 2 ^ 30) (hp : p.any badV = false) (hn : n.any loudB = false) : PC Try.prog 69 [ints p, ints n] (ints (seenL p n)) := by
  refine pc_of_body hm Try.func69 (by kernel_rfl) ?_
  conv => whnf
  refine Or.inr ⟨Nat, [6], [], [(5, ⟨Int, 3, 1, 0, eI⟩)], fun i => [i64 i], fun _ => [], fun i => [.vec 3 1 0 eI ((List.range i).map (seenAt p n))], fun i => p.length - i, fun i => i ≤ p.length, ?_⟩
  (conv => whnf)
  refine ⟨⟨0, ?_⟩, ?_⟩
  · (conv => whnf)
    exact ⟨⟨Nat.zero_le _, rfl, rfl, rfl⟩, by kernel_rfl, by kernel_rfl⟩
  · intro k hk
    (conv => whnf)
    refine ⟨fun h => ?_, fun h => ?_⟩
    · have h := of_decide_eq_true h
      have a1 := val_bounds hp k (by omega)
      have a2 := loud_bounds hn k (by omega)
      (conv => whnf)
      (repeat' (first | (refine And.intro (a := _ = true → _) (b := _ = false → _) (fun hh => ?_) (fun hh => ?_) <;> (first | simp only [decide_eq_true_eq, decide_eq_false_iff_not, Bool.or_eq_true, Bool.and_eq_true, Bool.or_eq_false_iff, Bool.and_eq_false_iff, Bool.not_eq_true', Bool.not_eq_false', ge_iff_le, gt_iff_lt] at hh | skip) <;> (first | (exfalso; omega) | (exfalso; simp [*] at hh; done) | exact absurd (by assumption) hh | (conv => whnf))) | (refine ⟨by kernel_rfl, ?_⟩; (conv => whnf)) | (refine And.intro (a := _ ∧ _) ⟨by omega, by omega⟩ ?_; (conv => whnf)) | (refine And.intro (a := _ ≤ _) (by omega) ?_; (conv => whnf)) | (refine And.intro (a := _ ≠ _) (by omega) ?_; (conv => whnf))))
      refine ⟨⟨Int, 1, 0, eI, (List.range k).map (seenAt p n)⟩, [seenAt p n k], rfl, rfl, ⟨rfl, ?_⟩, ?_, ?_, fun y _ => ⟨rfl, rfl, rfl⟩, ?_⟩
      · rw [w64 (p.getD (Int.toNat (k : Int)) 0 + n.getD (Int.toNat (k : Int)) 0) (by show _ ≤ p.getD k 0 + n.getD k 0; omega) (by show p.getD k 0 + n.getD k 0 ≤ _; omega)]
        show [[i64 _]] = [[i64 (clip (p.getD k 0 + n.getD k 0))]]
        rw [clip_eq]
        rfl
      · show (((List.range k).map (seenAt p n)).length + 1) * 8 ≤ _; simp; omega
      · show ((List.range k).map (seenAt p n)).length + 1 ≤ _; simp; omega
      (conv => whnf)
      (repeat' (first | (refine And.intro (a := _ = true → _) (b := _ = false → _) (fun hh => ?_) (fun hh => ?_) <;> (first | simp only [decide_eq_true_eq, decide_eq_false_iff_not, Bool.or_eq_true, Bool.and_eq_true, Bool.or_eq_false_iff, Bool.and_eq_false_iff, Bool.not_eq_true', Bool.not_eq_false', ge_iff_le, gt_iff_lt] at hh | skip) <;> (first | (exfalso; omega) | (exfalso; simp [*] at hh; done) | exact absurd (by assumption) hh | (conv => whnf))) | (refine ⟨by kernel_rfl, ?_⟩; (conv => whnf)) | (refine And.intro (a := _ ∧ _) ⟨by omega, by omega⟩ ?_; (conv => whnf)) | (refine And.intro (a := _ ≤ _) (by omega) ?_; (conv => whnf)) | (refine And.intro (a := _ ≠ _) (by omega) ?_; (conv => whnf))))
      refine ⟨k + 1, ?_⟩
      (conv => whnf)
      refine ⟨⟨⟨Nat.sub_lt_sub_left (by omega) (Nat.lt_succ_self k), by omega⟩, ?_, rfl, ?_⟩, by kernel_rfl, by kernel_rfl⟩
      · rw [w64 _ (by omega) (by omega)]; rfl
      · show [Row.vec _ 1 0 eI ((List.range k).map (seenAt p n) ++ [seenAt p n k])] = [Row.vec _ 1 0 eI ((List.range (k + 1)).map (seenAt p n))]
        rw [List.range_succ, List.map_append]; rfl
    · have h := of_decide_eq_false h
      obtain rfl : k = p.length := by omega
      (conv => whnf)
      rfl

def obsOk (p n : List Int) : Prop := profB p = true ∧ p.length = n.length ∧ n.any loudB = false
theorem prof_len {p : List Int} (h : profB p = true) : 2 ≤ p.length ∧ p.length ≤ 64 := by
  simp only [profB, withB, Bool.and_eq_true, decide_eq_true_eq] at h; omega
theorem prof_val {p : List Int} (h : profB p = true) : p.any badV = false := by
  simp only [profB, Bool.and_eq_true] at h
  simpa using h.2
theorem pw_Observe (p n : List Int) (h : obsOk p n) : PW Try.prog 33 [ints p, ints n] [] (.tup [.own 0, i64 0]) [.vec 3 1 0 eI (seenL p n)] := by
  obtain ⟨h1, h2, h3⟩ := h
  have hl := prof_len h1
  have hv := prof_val h1
  have c1 := pc_CheckProfile p (by omega)
  rw [h1, if_pos rfl] at c1
  have c2 := pc_ContainsFunc0 _ loudB pc_Observe1 n (by omega)
  rw [h3] at c2
  have h0 : p ≠ [] := by rintro rfl; simp at hl
  refine pw_of_body hm Try.func33 (by kernel_rfl) ⟨by kernel_rfl, ?_⟩
  conv => whnf
  (repeat' (first | (refine And.intro (a := _ = true → _) (b := _ = false → _) (fun hh => ?_) (fun hh => ?_) <;> (first | simp only [decide_eq_true_eq, decide_eq_false_iff_not, Bool.or_eq_true, Bool.and_eq_true, Bool.or_eq_false_iff, Bool.and_eq_false_iff, Bool.not_eq_true', Bool.not_eq_false', ge_iff_le, gt_iff_lt] at hh | skip) <;> (first | (exfalso; omega) | (exfalso; simp [*] at hh; done) | exact absurd (by assumption) hh | (conv => whnf))) | (refine ⟨by kernel_rfl, ?_⟩; (conv => whnf)) | (refine And.intro (a := _ ∧ _) ⟨by omega, by omega⟩ ?_; (conv => whnf)) | (refine And.intro (a := _ ≤ _) (by omega) ?_; (conv => whnf)) | (refine And.intro (a := _ ≠ _) (by omega) ?_; (conv => whnf)) | (refine Or.inl ?_; (conv => whnf); first | (refine ⟨_, by first | exact c1 | exact c2, ?_⟩; (conv => whnf)) | (refine ⟨false, ?_⟩; (conv => whnf); refine ⟨_, by first | exact c1 | exact c2, ?_⟩; (conv => whnf))) | (refine ⟨_, by first | exact c1 | exact c2, ?_⟩; (conv => whnf))))
  (first | (refine Or.inl ?_; (conv => whnf); refine ⟨_, pc_blurred n, ?_⟩) | refine ⟨_, pc_blurred n, ?_⟩)
  (conv => whnf)
  (refine Or.inr ⟨[ ], [ 26 ], by kernel_rfl, ?_⟩; (conv => whnf); refine ⟨[ ], _, _, _, _, ⟨ pw_blurred1 p n h0 (by omega) h2 hv h3, rfl, rfl, by kernel_rfl⟩, ?_⟩)
  (conv => whnf)
  refine ⟨[26], by kernel_rfl, ?_⟩
  (conv => whnf)
  exact ⟨rfl, rfl⟩
theorem pc_Observe_bad (p n : List Int) (hp : p.length < 2 ^ 40) (hn : n.length < 2 ^ 40) (h : ¬ obsOk p n) : PC Try.prog 33 [ints p, ints n] (.tup [.nils, i64 (if profB p then 2 else 50)]) := by
  unfold obsOk at h
  have c1 := pc_CheckProfile p hp
  have c2 := pc_ContainsFunc0 _ loudB pc_Observe1 n hn
  refine pc_of_body hm Try.func33 (by kernel_rfl) ?_
  conv => whnf
  by_cases h1 : profB p = true
  · rw [h1, if_pos rfl]
    rw [h1, if_pos rfl] at c1
    (repeat' (first | (refine And.intro (a := _ = true → _) (b := _ = false → _) (fun hh => ?_) (fun hh => ?_) <;> (first | simp only [decide_eq_true_eq, decide_eq_false_iff_not, Bool.or_eq_true, Bool.and_eq_true, Bool.or_eq_false_iff, Bool.and_eq_false_iff, Bool.not_eq_true', Bool.not_eq_false', ge_iff_le, gt_iff_lt] at hh | skip) <;> (first | (exfalso; omega) | (exfalso; simp [*] at hh; done) | exact absurd (by assumption) hh | (conv => whnf))) | (refine ⟨by kernel_rfl, ?_⟩; (conv => whnf)) | (refine And.intro (a := _ ∧ _) ⟨by omega, by omega⟩ ?_; (conv => whnf)) | (refine And.intro (a := _ ≤ _) (by omega) ?_; (conv => whnf)) | (refine And.intro (a := _ ≠ _) (by omega) ?_; (conv => whnf)) | (refine Or.inl ?_; (conv => whnf); first | (refine ⟨_, by first | exact c1 | exact c2, ?_⟩; (conv => whnf)) | (refine ⟨false, ?_⟩; (conv => whnf); refine ⟨_, by first | exact c1 | exact c2, ?_⟩; (conv => whnf))) | (refine ⟨_, by first | exact c1 | exact c2, ?_⟩; (conv => whnf))))
    refine (h ⟨h1, ?_, ?_⟩).elim
    · omega
    · assumption
  · rw [if_neg h1]
    rw [if_neg h1] at c1
    (repeat' (first | (refine And.intro (a := _ = true → _) (b := _ = false → _) (fun hh => ?_) (fun hh => ?_) <;> (first | simp only [decide_eq_true_eq, decide_eq_false_iff_not, Bool.or_eq_true, Bool.and_eq_true, Bool.or_eq_false_iff, Bool.and_eq_false_iff, Bool.not_eq_true', Bool.not_eq_false', ge_iff_le, gt_iff_lt] at hh | skip) <;> (first | (exfalso; omega) | (exfalso; simp [*] at hh; done) | exact absurd (by assumption) hh | (conv => whnf))) | (refine ⟨by kernel_rfl, ?_⟩; (conv => whnf)) | (refine And.intro (a := _ ∧ _) ⟨by omega, by omega⟩ ?_; (conv => whnf)) | (refine And.intro (a := _ ≤ _) (by omega) ?_; (conv => whnf)) | (refine And.intro (a := _ ≠ _) (by omega) ?_; (conv => whnf)) | (refine Or.inl ?_; (conv => whnf); first | (refine ⟨_, by first | exact c1, ?_⟩; (conv => whnf)) | (refine ⟨false, ?_⟩; (conv => whnf); refine ⟨_, by first | exact c1, ?_⟩; (conv => whnf))) | (refine ⟨_, by first | exact c1, ?_⟩; (conv => whnf))))
theorem pc_Observe11 (p n : List Int) (hp : p.length < 2 ^ 40) (hn : n.length < 2 ^ 40) (h : obsOk p n) : PC Try.prog 34 [ints p, ints n] (.tup [ints (seenL p n), i64 0]) := by
  obtain ⟨h1, h2, h3⟩ := h
  have c1 := pc_CheckProfile5 p hp
  rw [h1, if_pos rfl] at c1
  have c2 := pc_noises p n hp hn
  rw [h3, decide_eq_true h2] at c2
  have hl := prof_len h1
  refine pc_of_body hm Try.func34 (by kernel_rfl) ?_
  conv => whnf
  (repeat' (first | (refine And.intro (a := _ = true → _) (b := _ = false → _) (fun hh => ?_) (fun hh => ?_) <;> (first | simp only [decide_eq_true_eq, decide_eq_false_iff_not, Bool.or_eq_true, Bool.and_eq_true, Bool.or_eq_false_iff, Bool.and_eq_false_iff, Bool.not_eq_true', Bool.not_eq_false', ge_iff_le, gt_iff_lt] at hh | skip) <;> (first | (exfalso; omega) | (exfalso; simp [*] at hh; done) | exact absurd (by assumption) hh | (conv => whnf))) | (refine ⟨by kernel_rfl, ?_⟩; (conv => whnf)) | (refine And.intro (a := _ ∧ _) ⟨by omega, by omega⟩ ?_; (conv => whnf)) | (refine And.intro (a := _ ≤ _) (by omega) ?_; (conv => whnf)) | (refine And.intro (a := _ ≠ _) (by omega) ?_; (conv => whnf)) | (refine Or.inl ?_; (conv => whnf); first | (refine ⟨_, by first | exact c1 | exact c2 | exact pc_seen p n h2 (by omega) (prof_val h1) h3, ?_⟩; (conv => whnf)) | (refine ⟨false, ?_⟩; (conv => whnf); refine ⟨_, by first | exact c1 | exact c2 | exact pc_seen p n h2 (by omega) (prof_val h1) h3, ?_⟩; (conv => whnf))) | (refine ⟨_, by first | exact c1 | exact c2 | exact pc_seen p n h2 (by omega) (prof_val h1) h3, ?_⟩; (conv => whnf))))
theorem pc_Observe11_bad (p n : List Int) (hp : p.length < 2 ^ 40) (hn : n.length < 2 ^ 40) (h : ¬ obsOk p n) : PC Try.prog 34 [ints p, ints n] (.tup [.nils, i64 (if profB p then 2 else 50)]) := by
  unfold obsOk at h
  have c1 := pc_CheckProfile5 p hp
  have c2 := pc_noises p n hp hn
  refine pc_of_body hm Try.func34 (by kernel_rfl) ?_
  conv => whnf
  by_cases h1 : profB p = true
  · rw [h1, if_pos rfl]
    rw [h1, if_pos rfl] at c1
    have h3 : (decide (p.length = n.length) && !n.any loudB) = false := by
      cases hb : (decide (p.length = n.length) && !n.any loudB) with
      | false => rfl
      | true => simp at hb; exact absurd ⟨h1, hb.1, by simpa using hb.2⟩ h
    rw [h3] at c2
    (repeat' (first | (refine And.intro (a := _ = true → _) (b := _ = false → _) (fun hh => ?_) (fun hh => ?_) <;> (first | simp only [decide_eq_true_eq, decide_eq_false_iff_not, Bool.or_eq_true, Bool.and_eq_true, Bool.or_eq_false_iff, Bool.and_eq_false_iff, Bool.not_eq_true', Bool.not_eq_false', ge_iff_le, gt_iff_lt] at hh | skip) <;> (first | (exfalso; omega) | (exfalso; simp [*] at hh; done) | exact absurd (by assumption) hh | (conv => whnf))) | (refine ⟨by kernel_rfl, ?_⟩; (conv => whnf)) | (refine And.intro (a := _ ∧ _) ⟨by omega, by omega⟩ ?_; (conv => whnf)) | (refine And.intro (a := _ ≤ _) (by omega) ?_; (conv => whnf)) | (refine And.intro (a := _ ≠ _) (by omega) ?_; (conv => whnf)) | (refine Or.inl ?_; (conv => whnf); first | (refine ⟨_, by first | exact c1 | exact c2, ?_⟩; (conv => whnf)) | (refine ⟨false, ?_⟩; (conv => whnf); refine ⟨_, by first | exact c1 | exact c2, ?_⟩; (conv => whnf))) | (refine ⟨_, by first | exact c1 | exact c2, ?_⟩; (conv => whnf))))
  · rw [if_neg h1]
    rw [if_neg h1] at c1
    (repeat' (first | (refine And.intro (a := _ = true → _) (b := _ = false → _) (fun hh => ?_) (fun hh => ?_) <;> (first | simp only [decide_eq_true_eq, decide_eq_false_iff_not, Bool.or_eq_true, Bool.and_eq_true, Bool.or_eq_false_iff, Bool.and_eq_false_iff, Bool.not_eq_true', Bool.not_eq_false', ge_iff_le, gt_iff_lt] at hh | skip) <;> (first | (exfalso; omega) | (exfalso; simp [*] at hh; done) | exact absurd (by assumption) hh | (conv => whnf))) | (refine ⟨by kernel_rfl, ?_⟩; (conv => whnf)) | (refine And.intro (a := _ ∧ _) ⟨by omega, by omega⟩ ?_; (conv => whnf)) | (refine And.intro (a := _ ≤ _) (by omega) ?_; (conv => whnf)) | (refine And.intro (a := _ ≠ _) (by omega) ?_; (conv => whnf)) | (refine Or.inl ?_; (conv => whnf); first | (refine ⟨_, by first | exact c1, ?_⟩; (conv => whnf)) | (refine ⟨false, ?_⟩; (conv => whnf); refine ⟨_, by first | exact c1, ?_⟩; (conv => whnf))) | (refine ⟨_, by first | exact c1, ?_⟩; (conv => whnf))))
end Go.Proofs.Try.My
