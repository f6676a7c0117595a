/- A helper text: contracts of functions of the program, and plain lemmas. -/
import Derived.Test.YtiimhccemdcnpaaEvSix
import Derived.Test.YtiimhccemdcnpaaMyExA
set_option maxRecDepth 100000
set_option maxHeartbeats 0
set_option linter.unusedVariables false
set_option linter.unusedSimpArgs false
namespace Go.Proofs.Try.My
open Go Go.Ev

/-! ### Views -/
abbrev vws (l : List SpT) : AV := .sl 4 (((0 : Int), (0 : Int)), ((0 : Int), (0 : Int))) eS l
abbrev z4 : SpT := ((0, 0), (0, 0))
theorem pc_lsign (n : Int) : PC Try.prog 74 [i64 n] (i64 (if n < 0 then -1 else if 0 < n then 1 else 0)) := by
  by_cases h1 : n < 0
  · refine pc_of_bodyF hm Try.func74 (by kernel_rfl) ?_
    conv => whnf
    (repeat' (first | (refine ⟨by kernel_rfl, ?_⟩; (conv => whnf)) | (refine ⟨fun _ => ?_, fun h => absurd h (by first | decide | (simp; done) | fail)⟩; (conv => whnf)) | (refine ⟨fun h => absurd h (by first | decide | (simp; done) | fail), fun _ => ?_⟩; (conv => whnf)) | ((with_reducible refine And.intro (a := _ = true → _) (b := _ = false → _) (fun hh => ?_) (fun hh => ?_)) <;> (try simp only [decide_eq_true_eq, decide_eq_false_iff_not, Bool.or_eq_true, Bool.and_eq_true, Bool.or_eq_false_iff, Bool.and_eq_false_iff, Bool.not_eq_true', Bool.not_eq_false', ge_iff_le, gt_iff_lt] at hh) <;> (first | (exfalso; omega) | (conv => whnf))) | fail))
    all_goals (first | rfl | simp [h1] | (exfalso; omega))
  by_cases h2 : 0 < n
  · refine pc_of_bodyF hm Try.func74 (by kernel_rfl) ?_
    conv => whnf
    (repeat' (first | (refine ⟨by kernel_rfl, ?_⟩; (conv => whnf)) | (refine ⟨fun _ => ?_, fun h => absurd h (by first | decide | (simp; done) | fail)⟩; (conv => whnf)) | (refine ⟨fun h => absurd h (by first | decide | (simp; done) | fail), fun _ => ?_⟩; (conv => whnf)) | ((with_reducible refine And.intro (a := _ = true → _) (b := _ = false → _) (fun hh => ?_) (fun hh => ?_)) <;> (try simp only [decide_eq_true_eq, decide_eq_false_iff_not, Bool.or_eq_true, Bool.and_eq_true, Bool.or_eq_false_iff, Bool.and_eq_false_iff, Bool.not_eq_true', Bool.not_eq_false', ge_iff_le, gt_iff_lt] at hh) <;> (first | (exfalso; omega) | (conv => whnf))) | fail))
    all_goals (first | rfl | simp [h1, h2] | (exfalso; omega))
  · refine pc_of_bodyF hm Try.func74 (by kernel_rfl) ?_
    conv => whnf
    (repeat' (first | (refine ⟨by kernel_rfl, ?_⟩; (conv => whnf)) | (refine ⟨fun _ => ?_, fun h => absurd h (by first | decide | (simp; done) | fail)⟩; (conv => whnf)) | (refine ⟨fun h => absurd h (by first | decide | (simp; done) | fail), fun _ => ?_⟩; (conv => whnf)) | ((with_reducible refine And.intro (a := _ = true → _) (b := _ = false → _) (fun hh => ?_) (fun hh => ?_)) <;> (try simp only [decide_eq_true_eq, decide_eq_false_iff_not, Bool.or_eq_true, Bool.and_eq_true, Bool.or_eq_false_iff, Bool.and_eq_false_iff, Bool.not_eq_true', Bool.not_eq_false', ge_iff_le, gt_iff_lt] at hh) <;> (first | (exfalso; omega) | (conv => whnf))) | fail))
    all_goals (first | rfl | simp [h1, h2] | (exfalso; omega))
theorem pc_fromN (lo hi n : Int) : PC Try.prog 68 [i64 lo, i64 hi, .slc 1 [[i64 n]]] (.bool (withB n lo hi)) := by
  have h := pc_fromL lo hi [n] (by show 1 < _; decide)
  have e : (!([n].any (outB lo hi))) = withB n lo hi := by
    simp only [List.any_cons, List.any_nil, Bool.or_false, outB, withB]
    by_cases h1 : n < lo <;> by_cases h2 : hi < n <;> simp [h1, h2] <;> omega
  rw [e] at h
  exact h
def viewB (v : SpT) : Bool := withB v.1.1 (-1000) 1000 && withB v.1.2 1 1000 && withB v.2.1 (-4096) 4096 && withB v.2.2 v.2.1 4096
theorem viewB_iff (v : SpT) : viewB v = true ↔ -1000 ≤ v.1.1 ∧ v.1.1 ≤ 1000 ∧ 1 ≤ v.1.2 ∧ v.1.2 ≤ 1000 ∧ -4096 ≤ v.2.1 ∧ v.2.1 ≤ 4096 ∧ v.2.1 ≤ v.2.2 ∧ v.2.2 ≤ 4096 := by
  simp only [viewB, withB, Bool.and_eq_true, decide_eq_true_eq, and_assoc]
/-- The error of views. -/
def viewsE (l : List SpT) : Int := if l.length ≤ 12 then (if l.all viewB then 0 else 42) else 4
theorem viewsE_ok {l : List SpT} (h : viewsE l = 0) : l.length ≤ 12 ∧ ∀ i, i < l.length → viewB (l.getD i z4) = true := by
  unfold viewsE at h
  split at h
  · split at h
    · rename_i h1 h2
      refine ⟨h1, fun i hi => ?_⟩
      rw [List.all_eq_true] at h2
      have : l.getD i z4 ∈ l := by
        simp only [List.getD, List.getElem?_eq_getElem hi, Option.getD_some]
        exact List.getElem_mem hi
      exact h2 _ this
    · simp at h
  · simp at h
theorem viewsE_all {l : List SpT} (h1 : l.length ≤ 12) (h : ∀ i, i < l.length → viewB (l.getD i z4) = true) : viewsE l = 0 := by
  unfold viewsE
  rw [if_pos h1, if_pos]
  rw [List.all_eq_true]
  intro x hx
  obtain ⟨i, hi, rfl⟩ := List.getElem_of_mem hx
  have := h i hi
  simpa [List.getD, List.getElem?_eq_getElem hi] using this
theorem viewsE_bad {l : List SpT} (h1 : l.length ≤ 12) {i : Nat} (hi : i < l.length) (h : viewB (l.getD i z4) = false) : viewsE l = 42 := by
  unfold viewsE
  rw [if_pos h1, if_neg]
  intro h2
  rw [List.all_eq_true] at h2
  have : l.getD i z4 ∈ l := by
    simp only [List.getD, List.getElem?_eq_getElem hi, Option.getD_some]
    exact List.getElem_mem hi
  rw [h2 _ this] at h
  simp at h
theorem pc_CheckViews (l : List SpT) (hl : l.length < 2 ^ 39) : PC Try.prog 48 [vws l] (i64 (viewsE l)) := by
  by_cases h12 : l.length ≤ 12
  rotate_left
  · have e : viewsE l = 4 := if_neg h12
    rw [e]
    refine pc_of_bodyF hm Try.func48 (by kernel_rfl) ?_
    conv => whnf
    (repeat' (first | (refine ⟨by kernel_rfl, ?_⟩; (conv => whnf)) | (refine ⟨fun _ => ?_, fun h => absurd h (by first | decide | (simp; done) | fail)⟩; (conv => whnf)) | (refine ⟨fun h => absurd h (by first | decide | (simp; done) | fail), fun _ => ?_⟩; (conv => whnf)) | ((with_reducible refine And.intro (a := _ = true → _) (b := _ = false → _) (fun hh => ?_) (fun hh => ?_)) <;> (try simp only [decide_eq_true_eq, decide_eq_false_iff_not, Bool.or_eq_true, Bool.and_eq_true, Bool.or_eq_false_iff, Bool.and_eq_false_iff, Bool.not_eq_true', Bool.not_eq_false', ge_iff_le, gt_iff_lt] at hh) <;> (first | (exfalso; omega) | (conv => whnf))) | fail))
  refine pc_of_bodyF hm Try.func48 (by kernel_rfl) ?_
  conv => whnf
  refine ⟨fun h => absurd (of_decide_eq_true h) (by omega), fun _ => ?_⟩
  (conv => whnf)
  refine Or.inr ⟨Nat, [10], [], [], fun k => [i64 k], fun _ => [], fun _ => [], fun k => l.length - k, fun k => k ≤ l.length ∧ ∀ i, i < k → viewB (l.getD i z4) = true, ?_⟩
  (conv => whnf)
  refine ⟨⟨0, ?_⟩, ?_⟩
  · (conv => whnf)
    exact ⟨⟨⟨Nat.zero_le _, fun i hi => absurd hi (Nat.not_lt_zero i)⟩, rfl, rfl, rfl⟩, by kernel_rfl, by kernel_rfl⟩
  · intro k hk
    (conv => whnf)
    refine ⟨fun h => ?_, fun h => ?_⟩
    · have h := of_decide_eq_true h
      have hg : l.getD (Int.toNat (k : Int)) z4 = l.getD k z4 := rfl
      have c1 := pc_fromN (-1000) 1000 (l.getD k z4).1.1
      have c2 := pc_fromN 1 1000 (l.getD k z4).1.2
      have c3 := pc_fromN (-4096) 4096 (l.getD k z4).2.1
      have c4 := pc_fromN (l.getD k z4).2.1 4096 (l.getD k z4).2.2
      have hv : viewB (l.getD k z4) = (withB (l.getD k z4).1.1 (-1000) 1000 && withB (l.getD k z4).1.2 1 1000 && withB (l.getD k z4).2.1 (-4096) 4096 && withB (l.getD k z4).2.2 (l.getD k z4).2.1 4096) := rfl
      (conv => whnf)
      refine ⟨⟨by omega, by omega⟩, ?_⟩
      (conv => whnf)
      rw [hg]
      generalize withB (l.getD k z4).1.1 (-1000) 1000 = w1 at *
      generalize withB (l.getD k z4).1.2 1 1000 = w2 at *
      generalize withB (l.getD k z4).2.1 (-4096) 4096 = w3 at *
      generalize withB (l.getD k z4).2.2 (l.getD k z4).2.1 4096 = w4 at *
      cases w1
      · (repeat' (first | (refine ⟨_, by first | exact c1, ?_⟩; (conv => whnf)) | (refine Or.inl ?_; (conv => whnf); refine ⟨_, by first | exact c1, ?_⟩; (conv => whnf)) | (refine Or.inl ?_; (conv => whnf); refine ⟨false, ?_⟩; (conv => whnf); refine ⟨_, by first | exact c1, ?_⟩; (conv => whnf)) | (refine ⟨by kernel_rfl, ?_⟩; (conv => whnf)) | (refine ⟨fun _ => ?_, fun h => absurd h (by first | decide | (simp; done) | fail)⟩; (conv => whnf)) | (refine ⟨fun h => absurd h (by first | decide | (simp; done) | fail), fun _ => ?_⟩; (conv => whnf)) | ((with_reducible refine And.intro (a := _ = true → _) (b := _ = false → _) (fun hh => ?_) (fun hh => ?_)) <;> (try simp only [decide_eq_true_eq, decide_eq_false_iff_not, Bool.or_eq_true, Bool.and_eq_true, Bool.or_eq_false_iff, Bool.and_eq_false_iff, Bool.not_eq_true', Bool.not_eq_false', ge_iff_le, gt_iff_lt] at hh) <;> (first | (exfalso; omega) | (conv => whnf))) | fail))
        exact congrArg i64 (viewsE_bad h12 (Int.ofNat_lt.1 h) (by rw [hv]; rfl)).symm
      cases w2
      · (repeat' (first | (refine ⟨_, by first | exact c1 | exact c2, ?_⟩; (conv => whnf)) | (refine Or.inl ?_; (conv => whnf); refine ⟨_, by first | exact c1 | exact c2, ?_⟩; (conv => whnf)) | (refine Or.inl ?_; (conv => whnf); refine ⟨false, ?_⟩; (conv => whnf); refine ⟨_, by first | exact c1 | exact c2, ?_⟩; (conv => whnf)) | (refine ⟨by kernel_rfl, ?_⟩; (conv => whnf)) | (refine ⟨fun _ => ?_, fun h => absurd h (by first | decide | (simp; done) | fail)⟩; (conv => whnf)) | (refine ⟨fun h => absurd h (by first | decide | (simp; done) | fail), fun _ => ?_⟩; (conv => whnf)) | ((with_reducible refine And.intro (a := _ = true → _) (b := _ = false → _) (fun hh => ?_) (fun hh => ?_)) <;> (try simp only [decide_eq_true_eq, decide_eq_false_iff_not, Bool.or_eq_true, Bool.and_eq_true, Bool.or_eq_false_iff, Bool.and_eq_false_iff, Bool.not_eq_true', Bool.not_eq_false', ge_iff_le, gt_iff_lt] at hh) <;> (first | (exfalso; omega) | (conv => whnf))) | fail))
        exact congrArg i64 (viewsE_bad h12 (Int.ofNat_lt.1 h) (by rw [hv]; rfl)).symm
      cases w3
      · (repeat' (first | (refine ⟨_, by first | exact c1 | exact c2 | exact c3, ?_⟩; (conv => whnf)) | (refine Or.inl ?_; (conv => whnf); refine ⟨_, by first | exact c1 | exact c2 | exact c3, ?_⟩; (conv => whnf)) | (refine Or.inl ?_; (conv => whnf); refine ⟨false, ?_⟩; (conv => whnf); refine ⟨_, by first | exact c1 | exact c2 | exact c3, ?_⟩; (conv => whnf)) | (refine ⟨by kernel_rfl, ?_⟩; (conv => whnf)) | (refine ⟨fun _ => ?_, fun h => absurd h (by first | decide | (simp; done) | fail)⟩; (conv => whnf)) | (refine ⟨fun h => absurd h (by first | decide | (simp; done) | fail), fun _ => ?_⟩; (conv => whnf)) | ((with_reducible refine And.intro (a := _ = true → _) (b := _ = false → _) (fun hh => ?_) (fun hh => ?_)) <;> (try simp only [decide_eq_true_eq, decide_eq_false_iff_not, Bool.or_eq_true, Bool.and_eq_true, Bool.or_eq_false_iff, Bool.and_eq_false_iff, Bool.not_eq_true', Bool.not_eq_false', ge_iff_le, gt_iff_lt] at hh) <;> (first | (exfalso; omega) | (conv => whnf))) | fail))
        exact congrArg i64 (viewsE_bad h12 (Int.ofNat_lt.1 h) (by rw [hv]; rfl)).symm
      cases w4
      · (repeat' (first | (refine ⟨_, by first | exact c1 | exact c2 | exact c3 | exact c4, ?_⟩; (conv => whnf)) | (refine Or.inl ?_; (conv => whnf); refine ⟨_, by first | exact c1 | exact c2 | exact c3 | exact c4, ?_⟩; (conv => whnf)) | (refine Or.inl ?_; (conv => whnf); refine ⟨false, ?_⟩; (conv => whnf); refine ⟨_, by first | exact c1 | exact c2 | exact c3 | exact c4, ?_⟩; (conv => whnf)) | (refine ⟨by kernel_rfl, ?_⟩; (conv => whnf)) | (refine ⟨fun _ => ?_, fun h => absurd h (by first | decide | (simp; done) | fail)⟩; (conv => whnf)) | (refine ⟨fun h => absurd h (by first | decide | (simp; done) | fail), fun _ => ?_⟩; (conv => whnf)) | ((with_reducible refine And.intro (a := _ = true → _) (b := _ = false → _) (fun hh => ?_) (fun hh => ?_)) <;> (try simp only [decide_eq_true_eq, decide_eq_false_iff_not, Bool.or_eq_true, Bool.and_eq_true, Bool.or_eq_false_iff, Bool.and_eq_false_iff, Bool.not_eq_true', Bool.not_eq_false', ge_iff_le, gt_iff_lt] at hh) <;> (first | (exfalso; omega) | (conv => whnf))) | fail))
        exact congrArg i64 (viewsE_bad h12 (Int.ofNat_lt.1 h) (by rw [hv]; rfl)).symm
      · (repeat' (first | (refine ⟨_, by first | exact c1 | exact c2 | exact c3 | exact c4, ?_⟩; (conv => whnf)) | (refine Or.inl ?_; (conv => whnf); refine ⟨_, by first | exact c1 | exact c2 | exact c3 | exact c4, ?_⟩; (conv => whnf)) | (refine Or.inl ?_; (conv => whnf); refine ⟨false, ?_⟩; (conv => whnf); refine ⟨_, by first | exact c1 | exact c2 | exact c3 | exact c4, ?_⟩; (conv => whnf)) | (refine ⟨by kernel_rfl, ?_⟩; (conv => whnf)) | (refine ⟨fun _ => ?_, fun h => absurd h (by first | decide | (simp; done) | fail)⟩; (conv => whnf)) | (refine ⟨fun h => absurd h (by first | decide | (simp; done) | fail), fun _ => ?_⟩; (conv => whnf)) | ((with_reducible refine And.intro (a := _ = true → _) (b := _ = false → _) (fun hh => ?_) (fun hh => ?_)) <;> (try simp only [decide_eq_true_eq, decide_eq_false_iff_not, Bool.or_eq_true, Bool.and_eq_true, Bool.or_eq_false_iff, Bool.and_eq_false_iff, Bool.not_eq_true', Bool.not_eq_false', ge_iff_le, gt_iff_lt] at hh) <;> (first | (exfalso; omega) | (conv => whnf))) | fail))
        refine ⟨k + 1, ?_⟩
        (conv => whnf)
        refine ⟨⟨⟨Nat.sub_lt_sub_left (Int.ofNat_lt.1 h) (Nat.lt_succ_self k), by omega, fun i hi => ?_⟩, ?_, rfl, rfl⟩, by kernel_rfl, by kernel_rfl⟩
        · by_cases e : i = k
          · subst e; rw [hv]; rfl
          · exact hk.2 i (by omega)
        · rw [w64 _ (by omega) (by omega)]; rfl
    · have h := of_decide_eq_false h
      (conv => whnf)
      exact congrArg i64 (viewsE_all h12 fun i hi => hk.2 i (by omega)).symm
theorem mul_pm {a b A B : Int} (h1 : -A ≤ a) (h2 : a ≤ A) (h3 : -B ≤ b) (h4 : b ≤ B) : -(A * B) ≤ a * b ∧ a * b ≤ A * B := by
  have hA : 0 ≤ A := by omega
  have key : ∀ c : Int, 0 ≤ c → c ≤ B → -(A * B) ≤ a * c ∧ a * c ≤ A * B := fun c c1 c2 => by
    have k1 : a * c ≤ A * c := Int.mul_le_mul_of_nonneg_right h2 c1
    have k2 : (-A) * c ≤ a * c := Int.mul_le_mul_of_nonneg_right h1 c1
    have k3 : A * c ≤ A * B := Int.mul_le_mul_of_nonneg_left c2 hA
    have k4 : (-A) * c = -(A * c) := Int.neg_mul A c
    omega
  by_cases h : 0 ≤ b
  · exact key b h h4
  · have k := key (-b) (by omega) (by omega)
    rw [Int.mul_neg] at k
    omega
/-! ### Bounds of the focal length -/
abbrev eB (x : Int × Int) : List AV := [.agg [i64 x.1, i64 x.2]]
def focB (v w : SpT) : Int × Int := (w.1.1 * v.1.2 - v.1.1 * w.1.2, (w.2.2 - v.2.1) * v.1.2 * w.1.2)
def focL (l : List SpT) : List (Int × Int) := l.flatMap fun v => l.map fun w => focB v w
theorem pc_focal (l : List SpT) : PC Try.prog 70 [vws l] (.fn (.func 84) [] [.pt [vws l] 0]) := by
  refine pc_of_bodyF hm Try.func70 (by kernel_rfl) ?_
  conv => whnf
theorem flat_len {α β : Type} (f : α → β → Int × Int) (l : List α) (m : List β) (i : Nat) (hi : i ≤ l.length) : ((l.take i).flatMap fun v => m.map fun w => f v w).length = i * m.length := by
  induction i with
  | zero => simp
  | succ i ih =>
    have := ih (by omega)
    rw [List.take_succ_eq_append_getElem (by omega), List.flatMap_append, List.length_append, this]
    simp
    rw [Nat.succ_mul]
/-- The bounds by pairs, in their order. -/
theorem flat_get {α β : Type} (f : α → β → Int × Int) (l : List α) (m : List β) (dl : α) (dm : β) {i j : Nat} (hi : i < l.length) (hj : j < m.length) :
    (l.flatMap fun v => m.map fun w => f v w)[i * m.length + j]? = some (f (l.getD i dl) (m.getD j dm)) := by
  have e : (l.flatMap fun v => m.map fun w => f v w) = ((l.take i).flatMap fun v => m.map fun w => f v w) ++ ((m.map fun w => f (l.getD i dl) w) ++ ((l.drop (i + 1)).flatMap fun v => m.map fun w => f v w)) := by
    conv => lhs; rw [← List.take_append_drop i l, List.drop_eq_getElem_cons hi]
    rw [List.flatMap_append, List.flatMap_cons]
    simp [List.getD, List.getElem?_eq_getElem hi]
  rw [e, List.getElem?_append_right (by rw [flat_len f l m i (by omega)]; omega), flat_len f l m i (by omega), show i * m.length + j - i * m.length = j by omega, List.getElem?_append_left (by simpa using hj), List.getElem?_map, List.getElem?_eq_getElem hj]
  simp [List.getD, List.getElem?_eq_getElem hj]
theorem flat_all {α β : Type} (f : α → β → Int × Int) (l : List α) (m : List β) : (l.flatMap fun v => m.map fun w => f v w).length = l.length * m.length := by
  have := flat_len f l m l.length (by omega)
  rwa [List.take_length] at this
theorem sq_focal (q : List SpT) (hl : q.length ≤ 12) (hv : ∀ i, i < q.length → viewB (q.getD i z4) = true) : SQ Try.prog 84 [.pt [vws q] 0] ((focL q).map eB) := by
  have hget : ∀ i j, i < q.length → j < q.length → ((focL q).map eB)[i * q.length + j]? = some (eB (focB (q.getD i z4) (q.getD j z4))) := fun i j hi hj => by
    rw [List.getElem?_map, show (focL q)[i * q.length + j]? = _ from flat_get focB q q z4 z4 hi hj]
    rfl
  have hlen : ((focL q).map eB).length = q.length * q.length := by rw [List.length_map]; exact flat_all focB q q
  generalize (focL q).map eB = xs at *
  refine sq_of_bodyF hm Try.func84 (by kernel_rfl) ⟨by kernel_rfl, fun l => ?_⟩
  conv => whnf
  refine Or.inr ⟨Nat, [9], [47], [], fun i => [i64 i], fun i => [.ctr l xs (i * q.length) false], fun _ => [], fun i => q.length - i, fun i => i ≤ q.length, ?_⟩
  (conv => whnf)
  refine ⟨⟨0, ?_⟩, ?_⟩
  · (conv => whnf)
    refine ⟨⟨Nat.zero_le _, rfl, ?_, rfl⟩, by kernel_rfl, by kernel_rfl⟩
    show [Row.ctr l xs 0 false] = [Row.ctr l xs (0 * q.length) false]
    rw [Nat.zero_mul]
  · intro i hi
    (conv => whnf)
    refine ⟨fun h => ?_, fun h => ?_⟩
    · have h := of_decide_eq_true h
      have gi : q.getD (Int.toNat (i : Int)) z4 = q.getD i z4 := rfl
      (conv => whnf)
      (repeat' (first | (refine ⟨by kernel_rfl, ?_⟩; (conv => whnf)) | (refine And.intro (a := _ ∧ _) ⟨by omega, by omega⟩ ?_; (conv => whnf))))
      refine Or.inr ⟨Nat, [15], [47], [], fun j => [i64 j], fun j => [.ctr l xs (i * q.length + j) false], fun _ => [], fun j => q.length - j, fun j => j ≤ q.length, ?_⟩
      (conv => whnf)
      refine ⟨⟨0, ?_⟩, ?_⟩
      · (conv => whnf)
        exact ⟨⟨Nat.zero_le _, rfl, rfl, rfl⟩, by kernel_rfl, by kernel_rfl⟩
      · intro j hj
        (conv => whnf)
        refine ⟨fun h2 => ?_, fun h2 => ?_⟩
        · have h2 := of_decide_eq_true h2
          have gj : q.getD (Int.toNat (j : Int)) z4 = q.getD j z4 := rfl
          have hg := hget i j (by omega) (by omega)
          have vi := (viewB_iff _).1 (hv i (by omega))
          have vj := (viewB_iff _).1 (hv j (by omega))
          (conv => whnf)
          refine ⟨⟨by omega, by omega⟩, ?_⟩
          (conv => whnf)
          rw [gi, gj]
          generalize q.getD i z4 = v at *
          generalize q.getD j z4 = w at *
          obtain ⟨⟨vx, vz⟩, ⟨vl, vh⟩⟩ := v
          obtain ⟨⟨wx, wz⟩, ⟨wl, wh⟩⟩ := w
          simp only [] at vi vj
          (repeat' (first | (refine ⟨by kernel_rfl, ?_⟩; (conv => whnf)) | fail))
          refine ⟨⟨rfl, hg.trans ?_, by kernel_rfl⟩, ?_, ?_⟩
          · have m1 := mul_pm (a := wx) (b := vz) (A := 1000) (B := 1000) (by omega) (by omega) (by omega) (by omega)
            have m2 := mul_pm (a := vx) (b := wz) (A := 1000) (B := 1000) (by omega) (by omega) (by omega) (by omega)
            have m3 := mul_pm (a := wh - vl) (b := vz) (A := 8192) (B := 1000) (by omega) (by omega) (by omega) (by omega)
            have m4 := mul_pm (a := (wh - vl) * vz) (b := wz) (A := 8192000) (B := 1000) (by omega) (by omega) (by omega) (by omega)
            show some [AV.agg [i64 (wx * vz - vx * wz), i64 ((wh - vl) * vz * wz)]] = some [AV.agg [i64 (IntKind.i64.wrap (IntKind.i64.wrap (wx * vz) - IntKind.i64.wrap (vx * wz))), i64 (IntKind.i64.wrap (IntKind.i64.wrap (IntKind.i64.wrap (wh - vl) * vz) * wz))]]
            rw [w64 (wx * vz) (by omega) (by omega), w64 (vx * wz) (by omega) (by omega), w64 (wx * vz - vx * wz) (by omega) (by omega), w64 (wh - vl) (by omega) (by omega), w64 ((wh - vl) * vz) (by omega) (by omega), w64 ((wh - vl) * vz * wz) (by omega) (by omega)]
          · (conv => whnf)
            refine ⟨j + 1, ?_⟩
            (conv => whnf)
            refine ⟨⟨⟨Nat.sub_lt_sub_left (by omega) (Nat.lt_succ_self j), by omega⟩, ?_, rfl, rfl⟩, by kernel_rfl, by kernel_rfl⟩
            rw [w64 _ (by omega) (by omega)]; rfl
          · (conv => whnf)
            intro h; cases h
        · have h2 := of_decide_eq_false h2
          obtain rfl : j = q.length := by omega
          (conv => whnf)
          (repeat' (first | (refine ⟨by kernel_rfl, ?_⟩; (conv => whnf)) | (refine And.intro (a := _ ∧ _) ⟨by omega, by omega⟩ ?_; (conv => whnf))))
          refine ⟨i + 1, ?_⟩
          (conv => whnf)
          refine ⟨⟨⟨Nat.sub_lt_sub_left (by omega) (Nat.lt_succ_self i), by omega⟩, ?_, ?_, rfl⟩, by kernel_rfl, by kernel_rfl⟩
          · rw [w64 _ (by omega) (by omega)]; rfl
          · rw [← Nat.succ_mul]
    · have h := of_decide_eq_false h
      obtain rfl : i = q.length := by omega
      (conv => whnf)
      intro _
      exact hlen.symm
end Go.Proofs.Try.My
