/- A helper text: contracts of functions of the program, and plain lemmas. -/
import Derived.Test.YtjkoeomndepolaaMyEx8
import Derived.Test.YtjkoeomndepolaaMyQv
set_option maxRecDepth 100000
set_option maxHeartbeats 0
set_option linter.unusedVariables false
set_option linter.unusedSimpArgs false
namespace Go.Proofs.Try.My
open Go Go.Ev

abbrev zS : SpT := ((0, 0), (0, 0))
def lesF (a b : Int × Int) : Int × Int := if cmpF b a < 0 then b else a
def greF (a b : Int × Int) : Int × Int := if 0 < cmpF b a then b else a
def endsG (op : Int × Int → Int × Int → (Int × Int) × Int) : SpT → List SpT → SpT × Int
  | s, [] => (s, 0)
  | s, p :: l => if (op p.1 p.2).2 ≠ 0 then (zS, (op p.1 p.2).2) else endsG op (lesF s.1 (op p.1 p.2).1, greF s.2 (op p.1 p.2).1) l
def endsF (op : Int × Int → Int × Int → (Int × Int) × Int) : List SpT → SpT × Int
  | [] => (zS, 0)
  | p :: l => if (op p.1 p.2).2 ≠ 0 then (zS, (op p.1 p.2).2) else endsG op ((op p.1 p.2).1, (op p.1 p.2).1) l
theorem lesF_valid {a b : Int × Int} (ha : validB a = true) (hb : validB b = true) : validB (lesF a b) = true := by
  unfold lesF; split <;> assumption
theorem greF_valid {a b : Int × Int} (ha : validB a = true) (hb : validB b = true) : validB (greF a b) = true := by
  unfold greF; split <;> assumption
theorem pc_lesser (a b : Int × Int) (ha : validB a = true) (hb : validB b = true) : PC Try.prog 97 [fr a, fr b] (fr (lesF a b)) := by
  have c := pc_order b a hb ha
  have h : lesF a b = if cmpF b a < 0 then b else a := rfl
  rw [h]
  generalize cmpF b a = x at *
  refine pc_of_body hm Try.func97 (by kernel_rfl) ?_
  conv => whnf
  (repeat' (first | (refine And.intro (a := _ = true → _) (b := _ = false → _) (fun hh => ?_) (fun hh => ?_) <;> (first | simp only [decide_eq_true_eq, decide_eq_false_iff_not, Bool.or_eq_true, Bool.and_eq_true, Bool.or_eq_false_iff, Bool.and_eq_false_iff, Bool.not_eq_true', Bool.not_eq_false', ge_iff_le, gt_iff_lt] at hh | skip) <;> (first | (exfalso; omega) | (exfalso; simp [*] at hh; done) | (exfalso; revert hh; decide) | exact absurd (by assumption) hh | (conv => whnf))) | (refine ⟨by kernel_rfl, ?_⟩; (conv => whnf)) | (refine And.intro (a := _ ∧ _) ⟨by omega, by omega⟩ ?_; (conv => whnf)) | (refine And.intro (a := _ ∧ _) ⟨by decide, by decide⟩ ?_; (conv => whnf)) | (refine And.intro (a := _ ≤ _) (by omega) ?_; (conv => whnf)) | (refine And.intro (a := _ ≠ _) (by omega) ?_; (conv => whnf)) | (refine Or.inl ?_; (conv => whnf); first | (refine ⟨_, by first | exact c, ?_⟩; (conv => whnf)) | (refine ⟨false, ?_⟩; (conv => whnf); refine ⟨_, by first | exact c, ?_⟩; (conv => whnf))) | (refine ⟨_, by first | exact c, ?_⟩; (conv => whnf))))
  · rw [if_pos hh]
  · rw [if_neg hh]
theorem pc_greater (a b : Int × Int) (ha : validB a = true) (hb : validB b = true) : PC Try.prog 96 [fr a, fr b] (fr (greF a b)) := by
  have c := pc_order b a hb ha
  have h : greF a b = if 0 < cmpF b a then b else a := rfl
  rw [h]
  generalize cmpF b a = x at *
  refine pc_of_body hm Try.func96 (by kernel_rfl) ?_
  conv => whnf
  (repeat' (first | (refine And.intro (a := _ = true → _) (b := _ = false → _) (fun hh => ?_) (fun hh => ?_) <;> (first | simp only [decide_eq_true_eq, decide_eq_false_iff_not, Bool.or_eq_true, Bool.and_eq_true, Bool.or_eq_false_iff, Bool.and_eq_false_iff, Bool.not_eq_true', Bool.not_eq_false', ge_iff_le, gt_iff_lt] at hh | skip) <;> (first | (exfalso; omega) | (exfalso; simp [*] at hh; done) | (exfalso; revert hh; decide) | exact absurd (by assumption) hh | (conv => whnf))) | (refine ⟨by kernel_rfl, ?_⟩; (conv => whnf)) | (refine And.intro (a := _ ∧ _) ⟨by omega, by omega⟩ ?_; (conv => whnf)) | (refine And.intro (a := _ ∧ _) ⟨by decide, by decide⟩ ?_; (conv => whnf)) | (refine And.intro (a := _ ≤ _) (by omega) ?_; (conv => whnf)) | (refine And.intro (a := _ ≠ _) (by omega) ?_; (conv => whnf)) | (refine Or.inl ?_; (conv => whnf); first | (refine ⟨_, by first | exact c, ?_⟩; (conv => whnf)) | (refine ⟨false, ?_⟩; (conv => whnf); refine ⟨_, by first | exact c, ?_⟩; (conv => whnf))) | (refine ⟨_, by first | exact c, ?_⟩; (conv => whnf))))
  · rw [if_pos hh]
  · rw [if_neg hh]
theorem pc_difference (a b : Int × Int) (ha : validB a = true) (hb : validB b = true) : PC Try.prog 91 [fr a, fr b] (.tup [fr (subF a b).1, i64 (subF a b).2]) := by
  have c := pc_minus b hb
  have c2 := pc_sum a (negF b) ha (negF_ok hb).1
  have hs : subF a b = addF a (negF b) := rfl
  rw [hs]
  refine pc_of_body hm Try.func91 (by kernel_rfl) ?_
  conv => whnf
  (repeat' (first | (refine And.intro (a := _ = true → _) (b := _ = false → _) (fun hh => ?_) (fun hh => ?_) <;> (first | simp only [decide_eq_true_eq, decide_eq_false_iff_not, Bool.or_eq_true, Bool.and_eq_true, Bool.or_eq_false_iff, Bool.and_eq_false_iff, Bool.not_eq_true', Bool.not_eq_false', ge_iff_le, gt_iff_lt] at hh | skip) <;> (first | (exfalso; omega) | (exfalso; simp [*] at hh; done) | (exfalso; revert hh; decide) | exact absurd (by assumption) hh | (conv => whnf))) | (refine ⟨by kernel_rfl, ?_⟩; (conv => whnf)) | (refine And.intro (a := _ ∧ _) ⟨by omega, by omega⟩ ?_; (conv => whnf)) | (refine And.intro (a := _ ∧ _) ⟨by decide, by decide⟩ ?_; (conv => whnf)) | (refine And.intro (a := _ ≤ _) (by omega) ?_; (conv => whnf)) | (refine And.intro (a := _ ≠ _) (by omega) ?_; (conv => whnf)) | (refine Or.inl ?_; (conv => whnf); first | (refine ⟨_, by first | exact c | exact c2, ?_⟩; (conv => whnf)) | (refine ⟨false, ?_⟩; (conv => whnf); refine ⟨_, by first | exact c | exact c2, ?_⟩; (conv => whnf))) | (refine ⟨_, by first | exact c | exact c2, ?_⟩; (conv => whnf))))
theorem pc_quotient (a b : Int × Int) (ha : validB a = true) (hb : validB b = true) : PC Try.prog 106 [fr a, fr b] (.tup [fr (quoF a b).1, i64 (quoF a b).2]) := by
  have hq : quoF a b = if b.1 = 0 then ((0, 0), 10) else mulF a (overF b) := rfl
  rw [hq]
  have c := pc_over b hb
  have c2 := fun h0 => pc_times a (overF b) ha (overF_ok hb h0).1
  by_cases h0 : b.1 = 0
  · rw [if_pos h0]
    refine pc_of_body hm Try.func106 (by kernel_rfl) ?_
    conv => whnf
    (repeat' (first | (refine And.intro (a := _ = true → _) (b := _ = false → _) (fun hh => ?_) (fun hh => ?_) <;> (first | simp only [decide_eq_true_eq, decide_eq_false_iff_not, Bool.or_eq_true, Bool.and_eq_true, Bool.or_eq_false_iff, Bool.and_eq_false_iff, Bool.not_eq_true', Bool.not_eq_false', ge_iff_le, gt_iff_lt] at hh | skip) <;> (first | (exfalso; omega) | (exfalso; simp [*] at hh; done) | (exfalso; revert hh; decide) | exact absurd (by assumption) hh | (conv => whnf))) | (refine ⟨by kernel_rfl, ?_⟩; (conv => whnf)) | (refine And.intro (a := _ ∧ _) ⟨by omega, by omega⟩ ?_; (conv => whnf)) | (refine And.intro (a := _ ∧ _) ⟨by decide, by decide⟩ ?_; (conv => whnf)) | (refine And.intro (a := _ ≤ _) (by omega) ?_; (conv => whnf)) | (refine And.intro (a := _ ≠ _) (by omega) ?_; (conv => whnf))))
  · rw [if_neg h0]
    have c2 := c2 h0
    refine pc_of_body hm Try.func106 (by kernel_rfl) ?_
    conv => whnf
    (repeat' (first | (refine And.intro (a := _ = true → _) (b := _ = false → _) (fun hh => ?_) (fun hh => ?_) <;> (first | simp only [decide_eq_true_eq, decide_eq_false_iff_not, Bool.or_eq_true, Bool.and_eq_true, Bool.or_eq_false_iff, Bool.and_eq_false_iff, Bool.not_eq_true', Bool.not_eq_false', ge_iff_le, gt_iff_lt] at hh | skip) <;> (first | (exfalso; omega) | (exfalso; simp [*] at hh; done) | (exfalso; revert hh; decide) | exact absurd (by assumption) hh | (conv => whnf))) | (refine ⟨by kernel_rfl, ?_⟩; (conv => whnf)) | (refine And.intro (a := _ ∧ _) ⟨by omega, by omega⟩ ?_; (conv => whnf)) | (refine And.intro (a := _ ∧ _) ⟨by decide, by decide⟩ ?_; (conv => whnf)) | (refine And.intro (a := _ ≤ _) (by omega) ?_; (conv => whnf)) | (refine And.intro (a := _ ≠ _) (by omega) ?_; (conv => whnf)) | (refine Or.inl ?_; (conv => whnf); first | (refine ⟨_, by first | exact c | exact c2, ?_⟩; (conv => whnf)) | (refine ⟨false, ?_⟩; (conv => whnf); refine ⟨_, by first | exact c | exact c2, ?_⟩; (conv => whnf))) | (refine ⟨_, by first | exact c | exact c2, ?_⟩; (conv => whnf))))
theorem drop_cons {α : Type} (d : α) (l : List α) (k : Nat) (h : k < l.length) : l.drop k = l.getD k d :: l.drop (k + 1) := by
  rw [List.drop_eq_getElem_cons h]; simp [List.getD, h]
theorem pc_ends (D : FuncId) (op : Int × Int → Int × Int → (Int × Int) × Int) (l : List SpT) (hl : l.length < 2 ^ 40) (hv : ∀ p ∈ l, validB p.1 = true ∧ validB p.2 = true)
    (hD : ∀ a b, validB a = true → validB b = true → PC Try.prog D [fr a, fr b] (.tup [fr (op a b).1, i64 (op a b).2])) (hop : ∀ a b, validB a = true → validB b = true → (op a b).2 = 0 → validB (op a b).1 = true) :
    PC Try.prog 114 [.fn (.func D) [] [], sps l] (.tup [sp (endsF op l).1, i64 (endsF op l).2]) := by
  refine pc_of_body hm Try.func114 (by kernel_rfl) ?_
  conv => whnf
  refine Or.inr ⟨Nat × SpT, [13], [6], [], fun i => [i64 i.1], fun i => [.cells 39 (eS i.2)], fun _ => [], fun i => l.length - i.1, fun i => i.1 ≤ l.length ∧ (i.1 = 0 → i.2 = zS) ∧ (0 < i.1 → validB i.2.1 = true ∧ validB i.2.2 = true ∧ endsF op l = endsG op i.2 (l.drop i.1)), ?_⟩
  (conv => whnf)
  refine ⟨⟨(0, zS), ?_⟩, ?_⟩
  · (conv => whnf)
    exact ⟨⟨⟨Nat.zero_le _, fun _ => rfl, fun h => absurd h (Nat.lt_irrefl _)⟩, rfl, rfl, rfl⟩, by kernel_rfl, by kernel_rfl⟩
  · rintro ⟨k, s⟩ ⟨h1, h2, h3⟩
    simp only [] at h1 h2 h3
    (conv => whnf)
    refine ⟨fun h => ?_, fun h => ?_⟩
    · have h := of_decide_eq_true h
      have hk : k < l.length := by omega
      (conv => whnf)
      refine ⟨⟨by omega, by omega⟩, ?_⟩
      have hg : l.getD (Int.toNat (k : Int)) zS = l.getD k zS := rfl
      have hvk := hv (l.getD k zS) (by simp [List.getD, hk])
      have hdr := drop_cons zS l k hk
      rw [hg]
      have hl0 : k = 0 → l = l.getD k zS :: l.drop (k + 1) := fun e => by rw [← hdr, e, List.drop_zero]
      generalize l.getD k zS = p at *
      obtain ⟨⟨n, d⟩, ⟨m, e⟩⟩ := p
      have c := hD (n, d) (m, e) hvk.1 hvk.2
      have cv := hop (n, d) (m, e) hvk.1 hvk.2
      have hG : ∀ s, endsG op s (((n, d), (m, e)) :: l.drop (k + 1)) = if (op (n, d) (m, e)).2 ≠ 0 then (zS, (op (n, d) (m, e)).2) else endsG op (lesF s.1 (op (n, d) (m, e)).1, greF s.2 (op (n, d) (m, e)).1) (l.drop (k + 1)) := fun s => rfl
      have hF : endsF op (((n, d), (m, e)) :: l.drop (k + 1)) = if (op (n, d) (m, e)).2 ≠ 0 then (zS, (op (n, d) (m, e)).2) else endsG op ((op (n, d) (m, e)).1, (op (n, d) (m, e)).1) (l.drop (k + 1)) := rfl
      generalize op (n, d) (m, e) = r at *
      obtain ⟨x, er⟩ := r
      simp only [] at c cv hG hF
      (conv => whnf)
      (repeat' (first | (refine And.intro (a := _ = true → _) (b := _ = false → _) (fun hh => ?_) (fun hh => ?_) <;> (first | simp only [decide_eq_true_eq, decide_eq_false_iff_not, Bool.or_eq_true, Bool.and_eq_true, Bool.or_eq_false_iff, Bool.and_eq_false_iff, Bool.not_eq_true', Bool.not_eq_false', ge_iff_le, gt_iff_lt] at hh | skip) <;> (first | (exfalso; omega) | (exfalso; simp [*] at hh; done) | (exfalso; revert hh; decide) | exact absurd (by assumption) hh | (conv => whnf))) | (refine ⟨by kernel_rfl, ?_⟩; (conv => whnf)) | (refine And.intro (a := _ ∧ _) ⟨by omega, by omega⟩ ?_; (conv => whnf)) | (refine And.intro (a := _ ∧ _) ⟨by decide, by decide⟩ ?_; (conv => whnf)) | (refine And.intro (a := _ ≤ _) (by omega) ?_; (conv => whnf)) | (refine And.intro (a := _ ≠ _) (by omega) ?_; (conv => whnf)) | (refine Or.inl ?_; (conv => whnf); first | (refine ⟨_, by first | exact c, ?_⟩; (conv => whnf)) | (refine ⟨false, ?_⟩; (conv => whnf); refine ⟨_, by first | exact c, ?_⟩; (conv => whnf))) | (refine ⟨_, by first | exact c, ?_⟩; (conv => whnf))))
      · have e : endsF op l = (zS, er) := by
          by_cases h0 : k = 0
          · rw [hl0 h0, hF, if_pos hh]
          · rw [(h3 (by omega)).2.2, hdr, hG, if_pos hh]
        rw [e]
      · have h0 : k = 0 := by omega
        rename_i he
        refine ⟨(k + 1, (x, x)), ?_⟩
        (conv => whnf)
        refine ⟨⟨⟨Nat.sub_lt_sub_left (by omega) (Nat.lt_succ_self k), ⟨by omega, fun h => absurd h (by omega), fun _ => ⟨cv he, cv he, ?_⟩⟩⟩, ?_, rfl, rfl⟩, by kernel_rfl, by kernel_rfl⟩
        · show endsF op l = endsG op (x, x) (l.drop (k + 1))
          rw [hl0 h0, hF, if_neg (by omega)]
          rw [← hl0 h0]
        · rw [w64 _ (by omega) (by omega)]; rfl
      · have h0 : 0 < k := by omega
        rename_i he
        obtain ⟨v1, v2, v3⟩ := h3 h0
        obtain ⟨⟨s1, s2⟩, ⟨s3, s4⟩⟩ := s
        have cl := pc_lesser (s1, s2) x v1 (cv he)
        have cg := pc_greater (s3, s4) x v2 (cv he)
        (repeat' (first | (refine And.intro (a := _ = true → _) (b := _ = false → _) (fun hh => ?_) (fun hh => ?_) <;> (first | simp only [decide_eq_true_eq, decide_eq_false_iff_not, Bool.or_eq_true, Bool.and_eq_true, Bool.or_eq_false_iff, Bool.and_eq_false_iff, Bool.not_eq_true', Bool.not_eq_false', ge_iff_le, gt_iff_lt] at hh | skip) <;> (first | (exfalso; omega) | (exfalso; simp [*] at hh; done) | (exfalso; revert hh; decide) | exact absurd (by assumption) hh | (conv => whnf))) | (refine ⟨by kernel_rfl, ?_⟩; (conv => whnf)) | (refine And.intro (a := _ ∧ _) ⟨by omega, by omega⟩ ?_; (conv => whnf)) | (refine And.intro (a := _ ∧ _) ⟨by decide, by decide⟩ ?_; (conv => whnf)) | (refine And.intro (a := _ ≤ _) (by omega) ?_; (conv => whnf)) | (refine And.intro (a := _ ≠ _) (by omega) ?_; (conv => whnf)) | (refine Or.inl ?_; (conv => whnf); first | (refine ⟨_, by first | exact cl | exact cg, ?_⟩; (conv => whnf)) | (refine ⟨false, ?_⟩; (conv => whnf); refine ⟨_, by first | exact cl | exact cg, ?_⟩; (conv => whnf))) | (refine ⟨_, by first | exact cl | exact cg, ?_⟩; (conv => whnf))))
        refine ⟨(k + 1, (lesF (s1, s2) x, greF (s3, s4) x)), ?_⟩
        (conv => whnf)
        refine ⟨⟨⟨Nat.sub_lt_sub_left (by omega) (Nat.lt_succ_self k), ⟨by omega, fun h => absurd h (by omega), fun _ => ⟨lesF_valid v1 (cv he), greF_valid v2 (cv he), ?_⟩⟩⟩, ?_, rfl, rfl⟩, by kernel_rfl, by kernel_rfl⟩
        · show endsF op l = endsG op (lesF (s1, s2) x, greF (s3, s4) x) (l.drop (k + 1))
          rw [v3, hdr, hG, if_neg (by omega)]
        · rw [w64 _ (by omega) (by omega)]; rfl
    · have h := of_decide_eq_false h
      have hk : k = l.length := by omega
      (conv => whnf)
      by_cases h0 : k = 0
      · have : l = [] := List.eq_nil_of_length_eq_zero (by omega)
        subst this
        rw [h2 h0]
        rfl
      · rw [(h3 (by omega)).2.2, hk, List.drop_length]
        rfl
theorem pc_endsL (D : FuncId) (op : Int × Int → Int × Int → (Int × Int) × Int) (l : List SpT) (hl : l.length < 2 ^ 40) (hv : ∀ p ∈ l, validB p.1 = true ∧ validB p.2 = true)
    (hD : ∀ a b, validB a = true → validB b = true → PC Try.prog D [fr a, fr b] (.tup [fr (op a b).1, i64 (op a b).2])) (hop : ∀ a b, validB a = true → validB b = true → (op a b).2 = 0 → validB (op a b).1 = true) :
    PC Try.prog 114 [.fn (.func D) [] [], .slc 4 (l.map eS)] (.tup [sp (endsF op l).1, i64 (endsF op l).2]) :=
  PC.last (args := [.fn (.func D) [] []]) (pc_ends D op l hl hv hD hop) (.slc 4 zS eS l)
def hasB (s : SpT) (x : Int × Int) : Bool := decide (cmpF s.1 x ≤ 0) && decide (cmpF x s.2 ≤ 0)
theorem pc_has (s : SpT) (x : Int × Int) (h1 : validB s.1 = true) (h2 : validB s.2 = true) (hx : validB x = true) : PC Try.prog 95 [sp s, fr x] (.bool (hasB s x)) := by
  have c1 := pc_order s.1 x h1 hx
  have c2 := pc_order x s.2 hx h2
  have hs : hasB s x = (decide (cmpF s.1 x ≤ 0) && decide (cmpF x s.2 ≤ 0)) := rfl
  rw [hs]
  generalize cmpF s.1 x = p at *
  generalize cmpF x s.2 = q at *
  refine pc_of_body hm Try.func95 (by kernel_rfl) ?_
  conv => whnf
  (repeat' (first | (refine And.intro (a := _ = true → _) (b := _ = false → _) (fun hh => ?_) (fun hh => ?_) <;> (first | simp only [decide_eq_true_eq, decide_eq_false_iff_not, Bool.or_eq_true, Bool.and_eq_true, Bool.or_eq_false_iff, Bool.and_eq_false_iff, Bool.not_eq_true', Bool.not_eq_false', ge_iff_le, gt_iff_lt] at hh | skip) <;> (first | (exfalso; omega) | (exfalso; simp [*] at hh; done) | (exfalso; revert hh; decide) | exact absurd (by assumption) hh | (conv => whnf))) | (refine ⟨by kernel_rfl, ?_⟩; (conv => whnf)) | (refine And.intro (a := _ ∧ _) ⟨by omega, by omega⟩ ?_; (conv => whnf)) | (refine And.intro (a := _ ∧ _) ⟨by decide, by decide⟩ ?_; (conv => whnf)) | (refine And.intro (a := _ ≤ _) (by omega) ?_; (conv => whnf)) | (refine And.intro (a := _ ≠ _) (by omega) ?_; (conv => whnf)) | (refine Or.inl ?_; (conv => whnf); first | (refine ⟨_, by first | exact c1 | exact c2, ?_⟩; (conv => whnf)) | (refine ⟨false, ?_⟩; (conv => whnf); refine ⟨_, by first | exact c1 | exact c2, ?_⟩; (conv => whnf))) | (refine ⟨_, by first | exact c1 | exact c2, ?_⟩; (conv => whnf))))
  all_goals simp [hh]
theorem spanB_iff {s : SpT} : spanB s = true ↔ validB s.1 = true ∧ validB s.2 = true ∧ cmpF s.1 s.2 ≤ 0 := by
  simp [spanB, and_assoc]
theorem addF_ok2 : ∀ a b, validB a = true → validB b = true → (addF a b).2 = 0 → validB (addF a b).1 = true := fun a b ha hb h => ((addF_fits ha hb).ok h).1
theorem subF_ok2 : ∀ a b, validB a = true → validB b = true → (subF a b).2 = 0 → validB (subF a b).1 = true := fun a b ha hb h => ((subF_fits ha hb).ok h).1
theorem mulF_ok2 : ∀ a b, validB a = true → validB b = true → (mulF a b).2 = 0 → validB (mulF a b).1 = true := fun a b ha hb h => ((mulF_fits ha hb).ok h).1
theorem quoF_ok2 : ∀ a b, validB a = true → validB b = true → (quoF a b).2 = 0 → validB (quoF a b).1 = true := fun a b ha hb h => by
  by_cases h0 : b.1 = 0
  · simp [quoF, h0] at h
  · exact ((quoF_fits ha hb h0).ok h).1
/-- The spans of sums, differences, products and quotients. -/
def allP (a b : SpT) : List SpT := [(a.1, b.1), (a.1, b.2), (a.2, b.1), (a.2, b.2)]
def addS (a b : SpT) : SpT × Int := if spanB a && spanB b then endsF addF [(a.1, b.1), (a.2, b.2)] else (zS, 8)
def subS (a b : SpT) : SpT × Int := if spanB a && spanB b then endsF subF [(a.1, b.2), (a.2, b.1)] else (zS, 8)
def mulS (a b : SpT) : SpT × Int := if spanB a && spanB b then endsF mulF (allP a b) else (zS, 8)
def divS (a b : SpT) : SpT × Int := if spanB a && spanB b then (if hasB b (0, 1) then (zS, 10) else endsF quoF (allP a b)) else (zS, 8)
theorem allP_valid {a b : SpT} (ha : spanB a = true) (hb : spanB b = true) : ∀ p ∈ allP a b, validB p.1 = true ∧ validB p.2 = true := by
  rw [spanB_iff] at ha hb
  intro p hp
  simp only [allP, List.mem_cons, List.not_mem_nil, or_false] at hp
  rcases hp with rfl | rfl | rfl | rfl <;> simp [ha, hb]
theorem pc_all (a b : SpT) : PC Try.prog 115 [sp a, sp b] (.slc 4 ((allP a b).map eS)) := by
  refine pc_of_body hm Try.func115 (by kernel_rfl) ?_
  conv => whnf
  (repeat' (first | (refine And.intro (a := _ = true → _) (b := _ = false → _) (fun hh => ?_) (fun hh => ?_) <;> (first | simp only [decide_eq_true_eq, decide_eq_false_iff_not, Bool.or_eq_true, Bool.and_eq_true, Bool.or_eq_false_iff, Bool.and_eq_false_iff, Bool.not_eq_true', Bool.not_eq_false', ge_iff_le, gt_iff_lt] at hh | skip) <;> (first | (exfalso; omega) | (exfalso; simp [*] at hh; done) | (exfalso; revert hh; decide) | exact absurd (by assumption) hh | (conv => whnf))) | (refine ⟨by kernel_rfl, ?_⟩; (conv => whnf)) | (refine And.intro (a := _ ∧ _) ⟨by omega, by omega⟩ ?_; (conv => whnf)) | (refine And.intro (a := _ ∧ _) ⟨by decide, by decide⟩ ?_; (conv => whnf)) | (refine And.intro (a := _ ≤ _) (by omega) ?_; (conv => whnf)) | (refine And.intro (a := _ ≠ _) (by omega) ?_; (conv => whnf))))
  rfl
theorem pc_AddSpans (a b : SpT) : PC Try.prog 78 [sp a, sp b] (.tup [sp (addS a b).1, i64 (addS a b).2]) := by
  have c1 := pc_spans2 a b
  have hs : addS a b = if spanB a && spanB b then endsF addF [(a.1, b.1), (a.2, b.2)] else (zS, 8) := rfl
  rw [hs]
  cases ha : spanB a
  · rw [ha] at c1
    refine pc_of_body hm Try.func78 (by kernel_rfl) ?_
    conv => whnf
    (repeat' (first | (refine And.intro (a := _ = true → _) (b := _ = false → _) (fun hh => ?_) (fun hh => ?_) <;> (first | simp only [decide_eq_true_eq, decide_eq_false_iff_not, Bool.or_eq_true, Bool.and_eq_true, Bool.or_eq_false_iff, Bool.and_eq_false_iff, Bool.not_eq_true', Bool.not_eq_false', ge_iff_le, gt_iff_lt] at hh | skip) <;> (first | (exfalso; omega) | (exfalso; simp [*] at hh; done) | (exfalso; revert hh; decide) | exact absurd (by assumption) hh | (conv => whnf))) | (refine ⟨by kernel_rfl, ?_⟩; (conv => whnf)) | (refine And.intro (a := _ ∧ _) ⟨by omega, by omega⟩ ?_; (conv => whnf)) | (refine And.intro (a := _ ∧ _) ⟨by decide, by decide⟩ ?_; (conv => whnf)) | (refine And.intro (a := _ ≤ _) (by omega) ?_; (conv => whnf)) | (refine And.intro (a := _ ≠ _) (by omega) ?_; (conv => whnf)) | (refine Or.inl ?_; (conv => whnf); first | (refine ⟨_, by first | exact c1, ?_⟩; (conv => whnf)) | (refine ⟨false, ?_⟩; (conv => whnf); refine ⟨_, by first | exact c1, ?_⟩; (conv => whnf))) | (refine ⟨_, by first | exact c1, ?_⟩; (conv => whnf))))
    all_goals simp
  cases hb : spanB b
  · rw [ha, hb] at c1
    refine pc_of_body hm Try.func78 (by kernel_rfl) ?_
    conv => whnf
    (repeat' (first | (refine And.intro (a := _ = true → _) (b := _ = false → _) (fun hh => ?_) (fun hh => ?_) <;> (first | simp only [decide_eq_true_eq, decide_eq_false_iff_not, Bool.or_eq_true, Bool.and_eq_true, Bool.or_eq_false_iff, Bool.and_eq_false_iff, Bool.not_eq_true', Bool.not_eq_false', ge_iff_le, gt_iff_lt] at hh | skip) <;> (first | (exfalso; omega) | (exfalso; simp [*] at hh; done) | (exfalso; revert hh; decide) | exact absurd (by assumption) hh | (conv => whnf))) | (refine ⟨by kernel_rfl, ?_⟩; (conv => whnf)) | (refine And.intro (a := _ ∧ _) ⟨by omega, by omega⟩ ?_; (conv => whnf)) | (refine And.intro (a := _ ∧ _) ⟨by decide, by decide⟩ ?_; (conv => whnf)) | (refine And.intro (a := _ ≤ _) (by omega) ?_; (conv => whnf)) | (refine And.intro (a := _ ≠ _) (by omega) ?_; (conv => whnf)) | (refine Or.inl ?_; (conv => whnf); first | (refine ⟨_, by first | exact c1, ?_⟩; (conv => whnf)) | (refine ⟨false, ?_⟩; (conv => whnf); refine ⟨_, by first | exact c1, ?_⟩; (conv => whnf))) | (refine ⟨_, by first | exact c1, ?_⟩; (conv => whnf))))
    all_goals simp
  rw [ha, hb] at c1
  have va := spanB_iff.1 ha
  have vb := spanB_iff.1 hb
  have c2 := pc_endsL 116 addF [(a.1, b.1), (a.2, b.2)] (by simp) (by simp [va, vb]) pc_sum addF_ok2
  generalize endsF addF [(a.1, b.1), (a.2, b.2)] = r at *
  refine pc_of_body hm Try.func78 (by kernel_rfl) ?_
  conv => whnf
  (repeat' (first | (refine And.intro (a := _ = true → _) (b := _ = false → _) (fun hh => ?_) (fun hh => ?_) <;> (first | simp only [decide_eq_true_eq, decide_eq_false_iff_not, Bool.or_eq_true, Bool.and_eq_true, Bool.or_eq_false_iff, Bool.and_eq_false_iff, Bool.not_eq_true', Bool.not_eq_false', ge_iff_le, gt_iff_lt] at hh | skip) <;> (first | (exfalso; omega) | (exfalso; simp [*] at hh; done) | (exfalso; revert hh; decide) | exact absurd (by assumption) hh | (conv => whnf))) | (refine ⟨by kernel_rfl, ?_⟩; (conv => whnf)) | (refine And.intro (a := _ ∧ _) ⟨by omega, by omega⟩ ?_; (conv => whnf)) | (refine And.intro (a := _ ∧ _) ⟨by decide, by decide⟩ ?_; (conv => whnf)) | (refine And.intro (a := _ ≤ _) (by omega) ?_; (conv => whnf)) | (refine And.intro (a := _ ≠ _) (by omega) ?_; (conv => whnf)) | (refine Or.inl ?_; (conv => whnf); first | (refine ⟨_, by first | exact c1 | exact c2, ?_⟩; (conv => whnf)) | (refine ⟨false, ?_⟩; (conv => whnf); refine ⟨_, by first | exact c1 | exact c2, ?_⟩; (conv => whnf))) | (refine ⟨_, by first | exact c1 | exact c2, ?_⟩; (conv => whnf))))
  all_goals simp
theorem pc_SubSpans (a b : SpT) : PC Try.prog 75 [sp a, sp b] (.tup [sp (subS a b).1, i64 (subS a b).2]) := by
  have c1 := pc_spans2 a b
  have hs : subS a b = if spanB a && spanB b then endsF subF [(a.1, b.2), (a.2, b.1)] else (zS, 8) := rfl
  rw [hs]
  cases ha : spanB a
  · rw [ha] at c1
    refine pc_of_body hm Try.func75 (by kernel_rfl) ?_
    conv => whnf
    (repeat' (first | (refine And.intro (a := _ = true → _) (b := _ = false → _) (fun hh => ?_) (fun hh => ?_) <;> (first | simp only [decide_eq_true_eq, decide_eq_false_iff_not, Bool.or_eq_true, Bool.and_eq_true, Bool.or_eq_false_iff, Bool.and_eq_false_iff, Bool.not_eq_true', Bool.not_eq_false', ge_iff_le, gt_iff_lt] at hh | skip) <;> (first | (exfalso; omega) | (exfalso; simp [*] at hh; done) | (exfalso; revert hh; decide) | exact absurd (by assumption) hh | (conv => whnf))) | (refine ⟨by kernel_rfl, ?_⟩; (conv => whnf)) | (refine And.intro (a := _ ∧ _) ⟨by omega, by omega⟩ ?_; (conv => whnf)) | (refine And.intro (a := _ ∧ _) ⟨by decide, by decide⟩ ?_; (conv => whnf)) | (refine And.intro (a := _ ≤ _) (by omega) ?_; (conv => whnf)) | (refine And.intro (a := _ ≠ _) (by omega) ?_; (conv => whnf)) | (refine Or.inl ?_; (conv => whnf); first | (refine ⟨_, by first | exact c1, ?_⟩; (conv => whnf)) | (refine ⟨false, ?_⟩; (conv => whnf); refine ⟨_, by first | exact c1, ?_⟩; (conv => whnf))) | (refine ⟨_, by first | exact c1, ?_⟩; (conv => whnf))))
    all_goals simp
  cases hb : spanB b
  · rw [ha, hb] at c1
    refine pc_of_body hm Try.func75 (by kernel_rfl) ?_
    conv => whnf
    (repeat' (first | (refine And.intro (a := _ = true → _) (b := _ = false → _) (fun hh => ?_) (fun hh => ?_) <;> (first | simp only [decide_eq_true_eq, decide_eq_false_iff_not, Bool.or_eq_true, Bool.and_eq_true, Bool.or_eq_false_iff, Bool.and_eq_false_iff, Bool.not_eq_true', Bool.not_eq_false', ge_iff_le, gt_iff_lt] at hh | skip) <;> (first | (exfalso; omega) | (exfalso; simp [*] at hh; done) | (exfalso; revert hh; decide) | exact absurd (by assumption) hh | (conv => whnf))) | (refine ⟨by kernel_rfl, ?_⟩; (conv => whnf)) | (refine And.intro (a := _ ∧ _) ⟨by omega, by omega⟩ ?_; (conv => whnf)) | (refine And.intro (a := _ ∧ _) ⟨by decide, by decide⟩ ?_; (conv => whnf)) | (refine And.intro (a := _ ≤ _) (by omega) ?_; (conv => whnf)) | (refine And.intro (a := _ ≠ _) (by omega) ?_; (conv => whnf)) | (refine Or.inl ?_; (conv => whnf); first | (refine ⟨_, by first | exact c1, ?_⟩; (conv => whnf)) | (refine ⟨false, ?_⟩; (conv => whnf); refine ⟨_, by first | exact c1, ?_⟩; (conv => whnf))) | (refine ⟨_, by first | exact c1, ?_⟩; (conv => whnf))))
    all_goals simp
  rw [ha, hb] at c1
  have va := spanB_iff.1 ha
  have vb := spanB_iff.1 hb
  have c2 := pc_endsL 91 subF [(a.1, b.2), (a.2, b.1)] (by simp) (by simp [va, vb]) pc_difference subF_ok2
  generalize endsF subF [(a.1, b.2), (a.2, b.1)] = r at *
  refine pc_of_body hm Try.func75 (by kernel_rfl) ?_
  conv => whnf
  (repeat' (first | (refine And.intro (a := _ = true → _) (b := _ = false → _) (fun hh => ?_) (fun hh => ?_) <;> (first | simp only [decide_eq_true_eq, decide_eq_false_iff_not, Bool.or_eq_true, Bool.and_eq_true, Bool.or_eq_false_iff, Bool.and_eq_false_iff, Bool.not_eq_true', Bool.not_eq_false', ge_iff_le, gt_iff_lt] at hh | skip) <;> (first | (exfalso; omega) | (exfalso; simp [*] at hh; done) | (exfalso; revert hh; decide) | exact absurd (by assumption) hh | (conv => whnf))) | (refine ⟨by kernel_rfl, ?_⟩; (conv => whnf)) | (refine And.intro (a := _ ∧ _) ⟨by omega, by omega⟩ ?_; (conv => whnf)) | (refine And.intro (a := _ ∧ _) ⟨by decide, by decide⟩ ?_; (conv => whnf)) | (refine And.intro (a := _ ≤ _) (by omega) ?_; (conv => whnf)) | (refine And.intro (a := _ ≠ _) (by omega) ?_; (conv => whnf)) | (refine Or.inl ?_; (conv => whnf); first | (refine ⟨_, by first | exact c1 | exact c2, ?_⟩; (conv => whnf)) | (refine ⟨false, ?_⟩; (conv => whnf); refine ⟨_, by first | exact c1 | exact c2, ?_⟩; (conv => whnf))) | (refine ⟨_, by first | exact c1 | exact c2, ?_⟩; (conv => whnf))))
  all_goals simp
theorem pc_MulSpans (a b : SpT) : PC Try.prog 77 [sp a, sp b] (.tup [sp (mulS a b).1, i64 (mulS a b).2]) := by
  have c1 := pc_spans2 a b
  have hs : mulS a b = if spanB a && spanB b then endsF mulF (allP a b) else (zS, 8) := rfl
  rw [hs]
  cases ha : spanB a
  · rw [ha] at c1
    refine pc_of_body hm Try.func77 (by kernel_rfl) ?_
    conv => whnf
    (repeat' (first | (refine And.intro (a := _ = true → _) (b := _ = false → _) (fun hh => ?_) (fun hh => ?_) <;> (first | simp only [decide_eq_true_eq, decide_eq_false_iff_not, Bool.or_eq_true, Bool.and_eq_true, Bool.or_eq_false_iff, Bool.and_eq_false_iff, Bool.not_eq_true', Bool.not_eq_false', ge_iff_le, gt_iff_lt] at hh | skip) <;> (first | (exfalso; omega) | (exfalso; simp [*] at hh; done) | (exfalso; revert hh; decide) | exact absurd (by assumption) hh | (conv => whnf))) | (refine ⟨by kernel_rfl, ?_⟩; (conv => whnf)) | (refine And.intro (a := _ ∧ _) ⟨by omega, by omega⟩ ?_; (conv => whnf)) | (refine And.intro (a := _ ∧ _) ⟨by decide, by decide⟩ ?_; (conv => whnf)) | (refine And.intro (a := _ ≤ _) (by omega) ?_; (conv => whnf)) | (refine And.intro (a := _ ≠ _) (by omega) ?_; (conv => whnf)) | (refine Or.inl ?_; (conv => whnf); first | (refine ⟨_, by first | exact c1, ?_⟩; (conv => whnf)) | (refine ⟨false, ?_⟩; (conv => whnf); refine ⟨_, by first | exact c1, ?_⟩; (conv => whnf))) | (refine ⟨_, by first | exact c1, ?_⟩; (conv => whnf))))
    all_goals simp
  cases hb : spanB b
  · rw [ha, hb] at c1
    refine pc_of_body hm Try.func77 (by kernel_rfl) ?_
    conv => whnf
    (repeat' (first | (refine And.intro (a := _ = true → _) (b := _ = false → _) (fun hh => ?_) (fun hh => ?_) <;> (first | simp only [decide_eq_true_eq, decide_eq_false_iff_not, Bool.or_eq_true, Bool.and_eq_true, Bool.or_eq_false_iff, Bool.and_eq_false_iff, Bool.not_eq_true', Bool.not_eq_false', ge_iff_le, gt_iff_lt] at hh | skip) <;> (first | (exfalso; omega) | (exfalso; simp [*] at hh; done) | (exfalso; revert hh; decide) | exact absurd (by assumption) hh | (conv => whnf))) | (refine ⟨by kernel_rfl, ?_⟩; (conv => whnf)) | (refine And.intro (a := _ ∧ _) ⟨by omega, by omega⟩ ?_; (conv => whnf)) | (refine And.intro (a := _ ∧ _) ⟨by decide, by decide⟩ ?_; (conv => whnf)) | (refine And.intro (a := _ ≤ _) (by omega) ?_; (conv => whnf)) | (refine And.intro (a := _ ≠ _) (by omega) ?_; (conv => whnf)) | (refine Or.inl ?_; (conv => whnf); first | (refine ⟨_, by first | exact c1, ?_⟩; (conv => whnf)) | (refine ⟨false, ?_⟩; (conv => whnf); refine ⟨_, by first | exact c1, ?_⟩; (conv => whnf))) | (refine ⟨_, by first | exact c1, ?_⟩; (conv => whnf))))
    all_goals simp
  rw [ha, hb] at c1
  have c3 := pc_all a b
  have c2 := pc_endsL 105 mulF (allP a b) (by simp [allP]) (allP_valid ha hb) pc_times mulF_ok2
  generalize endsF mulF (allP a b) = r at *
  refine pc_of_body hm Try.func77 (by kernel_rfl) ?_
  conv => whnf
  (repeat' (first | (refine And.intro (a := _ = true → _) (b := _ = false → _) (fun hh => ?_) (fun hh => ?_) <;> (first | simp only [decide_eq_true_eq, decide_eq_false_iff_not, Bool.or_eq_true, Bool.and_eq_true, Bool.or_eq_false_iff, Bool.and_eq_false_iff, Bool.not_eq_true', Bool.not_eq_false', ge_iff_le, gt_iff_lt] at hh | skip) <;> (first | (exfalso; omega) | (exfalso; simp [*] at hh; done) | (exfalso; revert hh; decide) | exact absurd (by assumption) hh | (conv => whnf))) | (refine ⟨by kernel_rfl, ?_⟩; (conv => whnf)) | (refine And.intro (a := _ ∧ _) ⟨by omega, by omega⟩ ?_; (conv => whnf)) | (refine And.intro (a := _ ∧ _) ⟨by decide, by decide⟩ ?_; (conv => whnf)) | (refine And.intro (a := _ ≤ _) (by omega) ?_; (conv => whnf)) | (refine And.intro (a := _ ≠ _) (by omega) ?_; (conv => whnf)) | (refine Or.inl ?_; (conv => whnf); first | (refine ⟨_, by first | exact c1 | exact c3 | exact c2, ?_⟩; (conv => whnf)) | (refine ⟨false, ?_⟩; (conv => whnf); refine ⟨_, by first | exact c1 | exact c3 | exact c2, ?_⟩; (conv => whnf))) | (refine ⟨_, by first | exact c1 | exact c3 | exact c2, ?_⟩; (conv => whnf))))
  all_goals simp
theorem pc_DivSpans (a b : SpT) : PC Try.prog 79 [sp a, sp b] (.tup [sp (divS a b).1, i64 (divS a b).2]) := by
  have c1 := pc_spans2 a b
  have hs : divS a b = if spanB a && spanB b then (if hasB b (0, 1) then (zS, 10) else endsF quoF (allP a b)) else (zS, 8) := rfl
  rw [hs]
  cases ha : spanB a
  · rw [ha] at c1
    refine pc_of_body hm Try.func79 (by kernel_rfl) ?_
    conv => whnf
    (repeat' (first | (refine And.intro (a := _ = true → _) (b := _ = false → _) (fun hh => ?_) (fun hh => ?_) <;> (first | simp only [decide_eq_true_eq, decide_eq_false_iff_not, Bool.or_eq_true, Bool.and_eq_true, Bool.or_eq_false_iff, Bool.and_eq_false_iff, Bool.not_eq_true', Bool.not_eq_false', ge_iff_le, gt_iff_lt] at hh | skip) <;> (first | (exfalso; omega) | (exfalso; simp [*] at hh; done) | (exfalso; revert hh; decide) | exact absurd (by assumption) hh | (conv => whnf))) | (refine ⟨by kernel_rfl, ?_⟩; (conv => whnf)) | (refine And.intro (a := _ ∧ _) ⟨by omega, by omega⟩ ?_; (conv => whnf)) | (refine And.intro (a := _ ∧ _) ⟨by decide, by decide⟩ ?_; (conv => whnf)) | (refine And.intro (a := _ ≤ _) (by omega) ?_; (conv => whnf)) | (refine And.intro (a := _ ≠ _) (by omega) ?_; (conv => whnf)) | (refine Or.inl ?_; (conv => whnf); first | (refine ⟨_, by first | exact c1, ?_⟩; (conv => whnf)) | (refine ⟨false, ?_⟩; (conv => whnf); refine ⟨_, by first | exact c1, ?_⟩; (conv => whnf))) | (refine ⟨_, by first | exact c1, ?_⟩; (conv => whnf))))
    all_goals simp
  cases hb : spanB b
  · rw [ha, hb] at c1
    refine pc_of_body hm Try.func79 (by kernel_rfl) ?_
    conv => whnf
    (repeat' (first | (refine And.intro (a := _ = true → _) (b := _ = false → _) (fun hh => ?_) (fun hh => ?_) <;> (first | simp only [decide_eq_true_eq, decide_eq_false_iff_not, Bool.or_eq_true, Bool.and_eq_true, Bool.or_eq_false_iff, Bool.and_eq_false_iff, Bool.not_eq_true', Bool.not_eq_false', ge_iff_le, gt_iff_lt] at hh | skip) <;> (first | (exfalso; omega) | (exfalso; simp [*] at hh; done) | (exfalso; revert hh; decide) | exact absurd (by assumption) hh | (conv => whnf))) | (refine ⟨by kernel_rfl, ?_⟩; (conv => whnf)) | (refine And.intro (a := _ ∧ _) ⟨by omega, by omega⟩ ?_; (conv => whnf)) | (refine And.intro (a := _ ∧ _) ⟨by decide, by decide⟩ ?_; (conv => whnf)) | (refine And.intro (a := _ ≤ _) (by omega) ?_; (conv => whnf)) | (refine And.intro (a := _ ≠ _) (by omega) ?_; (conv => whnf)) | (refine Or.inl ?_; (conv => whnf); first | (refine ⟨_, by first | exact c1, ?_⟩; (conv => whnf)) | (refine ⟨false, ?_⟩; (conv => whnf); refine ⟨_, by first | exact c1, ?_⟩; (conv => whnf))) | (refine ⟨_, by first | exact c1, ?_⟩; (conv => whnf))))
    all_goals simp
  rw [ha, hb] at c1
  have vb := spanB_iff.1 hb
  have c4 := pc_has b (0, 1) vb.1 vb.2.1 (by decide)
  have c3 := pc_all a b
  have c2 := pc_endsL 106 quoF (allP a b) (by simp [allP]) (allP_valid ha hb) pc_quotient quoF_ok2
  generalize endsF quoF (allP a b) = r at *
  cases hz : hasB b (0, 1)
  · rw [hz] at c4
    refine pc_of_body hm Try.func79 (by kernel_rfl) ?_
    conv => whnf
    (repeat' (first | (refine And.intro (a := _ = true → _) (b := _ = false → _) (fun hh => ?_) (fun hh => ?_) <;> (first | simp only [decide_eq_true_eq, decide_eq_false_iff_not, Bool.or_eq_true, Bool.and_eq_true, Bool.or_eq_false_iff, Bool.and_eq_false_iff, Bool.not_eq_true', Bool.not_eq_false', ge_iff_le, gt_iff_lt] at hh | skip) <;> (first | (exfalso; omega) | (exfalso; simp [*] at hh; done) | (exfalso; revert hh; decide) | exact absurd (by assumption) hh | (conv => whnf))) | (refine ⟨by kernel_rfl, ?_⟩; (conv => whnf)) | (refine And.intro (a := _ ∧ _) ⟨by omega, by omega⟩ ?_; (conv => whnf)) | (refine And.intro (a := _ ∧ _) ⟨by decide, by decide⟩ ?_; (conv => whnf)) | (refine And.intro (a := _ ≤ _) (by omega) ?_; (conv => whnf)) | (refine And.intro (a := _ ≠ _) (by omega) ?_; (conv => whnf)) | (refine Or.inl ?_; (conv => whnf); first | (refine ⟨_, by first | exact c1 | exact c4 | exact c3 | exact c2, ?_⟩; (conv => whnf)) | (refine ⟨false, ?_⟩; (conv => whnf); refine ⟨_, by first | exact c1 | exact c4 | exact c3 | exact c2, ?_⟩; (conv => whnf))) | (refine ⟨_, by first | exact c1 | exact c4 | exact c3 | exact c2, ?_⟩; (conv => whnf))))
    all_goals simp
  · rw [hz] at c4
    refine pc_of_body hm Try.func79 (by kernel_rfl) ?_
    conv => whnf
    (repeat' (first | (refine And.intro (a := _ = true → _) (b := _ = false → _) (fun hh => ?_) (fun hh => ?_) <;> (first | simp only [decide_eq_true_eq, decide_eq_false_iff_not, Bool.or_eq_true, Bool.and_eq_true, Bool.or_eq_false_iff, Bool.and_eq_false_iff, Bool.not_eq_true', Bool.not_eq_false', ge_iff_le, gt_iff_lt] at hh | skip) <;> (first | (exfalso; omega) | (exfalso; simp [*] at hh; done) | (exfalso; revert hh; decide) | exact absurd (by assumption) hh | (conv => whnf))) | (refine ⟨by kernel_rfl, ?_⟩; (conv => whnf)) | (refine And.intro (a := _ ∧ _) ⟨by omega, by omega⟩ ?_; (conv => whnf)) | (refine And.intro (a := _ ∧ _) ⟨by decide, by decide⟩ ?_; (conv => whnf)) | (refine And.intro (a := _ ≤ _) (by omega) ?_; (conv => whnf)) | (refine And.intro (a := _ ≠ _) (by omega) ?_; (conv => whnf)) | (refine Or.inl ?_; (conv => whnf); first | (refine ⟨_, by first | exact c1 | exact c4 | exact c3 | exact c2, ?_⟩; (conv => whnf)) | (refine ⟨false, ?_⟩; (conv => whnf); refine ⟨_, by first | exact c1 | exact c4 | exact c3 | exact c2, ?_⟩; (conv => whnf))) | (refine ⟨_, by first | exact c1 | exact c4 | exact c3 | exact c2, ?_⟩; (conv => whnf))))
    all_goals simp
end Go.Proofs.Try.My
