/- A helper text: contracts of functions of the program, and plain lemmas. -/
import Derived.Test.YtiimhccemdcnpaaEvSix
import Derived.Test.YtiimhccemdcnpaaMyLvA
set_option maxRecDepth 100000
set_option maxHeartbeats 0
set_option linter.unusedVariables false
set_option linter.unusedSimpArgs false
namespace Go.Proofs.Try.My
open Go Go.Ev

theorem pc_narrowed3 (K : FuncId) (q : List SpT) (bs : List (Int × Int)) (hl : ∀ k, k < bs.length → okB (bs.getD k (0, 0))) (sq : SQ Try.prog K [.pt [vws q] 0] (bs.map eB)) :
    PC Try.prog 50 [.fn (.func K) [] [.pt [vws q] 0]] (.tup [sp (narF bs).1, .bool (narF bs).2.1, .bool (narF bs).2.2]) := by
  have hxs : ∀ k x, (bs.map eB)[k]? = some x → k < bs.length ∧ x = eB (bs.getD k (0, 0)) := by
    intro k x hx
    rw [List.getElem?_map] at hx
    by_cases hk : k < bs.length
    · rw [List.getElem?_eq_getElem hk] at hx
      refine ⟨hk, ?_⟩
      simp only [List.getD, List.getElem?_eq_getElem hk, Option.getD_some]
      exact (Option.some.inj hx).symm
    · rw [List.getElem?_eq_none (by omega)] at hx; cases hx
  have hflat : ∀ x ∈ bs.map eB, flatL x = true ∧ x.length = 1 := by
    intro x hx
    obtain ⟨k, _, rfl⟩ := List.mem_map.1 hx
    exact ⟨by kernel_rfl, rfl⟩
  have hlen : (bs.map eB).length = bs.length := List.length_map ..
  have hval := foldN_valid bs hl
  refine pc_of_bodyF hm Try.func50 (by kernel_rfl) ?_
  conv => whnf
  (repeat' (first | (refine ⟨by kernel_rfl, ?_⟩; (conv => whnf)) | fail))
  obtain ⟨BR, hBR⟩ : ∃ BR : Nat → List Row, ∀ k, BR k = [.cells 122 [pF (foldN (bs.take k)).1], .cells 122 [pF (foldN (bs.take k)).2]] := ⟨_, fun _ => rfl⟩
  refine ⟨bs.map eB, [5, 6], BR, fun k => k ≤ bs.length ∧ ∀ j, j < k → badN (bs.getD j (0, 0)) = false, ⟨sq, hflat⟩, ?_⟩
  refine ⟨by kernel_rfl, ?_⟩
  refine ⟨?_, ?_⟩
  · (conv => whnf)
    exact ⟨⟨⟨Nat.zero_le _, fun j hj => absurd hj (Nat.not_lt_zero j)⟩, rfl, (hBR 0).symm, rfl⟩, by kernel_rfl, by kernel_rfl⟩
  refine ⟨?_, ?_⟩
  · with_reducible refine round_mpF hxs ?_
    intro k hks hk
    have e1 := hBR k
    have e2 := hBR (k + 1)
    rw [foldN_step bs hks] at e2
    have v := hval k (by omega)
    have hb := hl k hks
    have hbd := any_bad (l := bs) hks
    have hI : badN (bs.getD k (0, 0)) = false → ∀ j, j < k + 1 → badN (bs.getD j (0, 0)) = false := fun h j hj => by
      by_cases e : j = k
      · subst e; exact h
      · exact hk.2 j (by omega)
    generalize bs.getD k (0, 0) = x at *
    generalize foldN (bs.take k) = S at *
    obtain ⟨a, b⟩ := x
    obtain ⟨_ | ⟨s1, s2⟩, _ | ⟨t1, t2⟩⟩ := S
    · with_reducible rw [e1]
      (conv => whnf)
      (repeat' (first | (refine ⟨by kernel_rfl, ?_⟩; (conv => whnf)) | (refine And.intro (a := _ ∧ _) ⟨by omega, by omega⟩ ?_; (conv => whnf))))
      refine ⟨fun h => ?_, fun h => ?_⟩
      · have h := of_decide_eq_true h
        (conv => whnf)
        refine ⟨fun h2 => ?_, fun h2 => ?_⟩
        · have h2 := of_decide_eq_true h2
          have hbd := hbd (by simp only [badN, Bool.and_eq_true, decide_eq_true_eq]; exact ⟨h, h2⟩)
          (conv => whnf)
          (repeat' (first | (refine ⟨by kernel_rfl, ?_⟩; (conv => whnf)) | fail))
          rw [hbd]
        · have h2 := of_decide_eq_false h2
          rw [stepN2_zero h] at e2
          (conv => whnf)
          refine ⟨⟨⟨by omega, hI (by simp only [badN, Bool.and_eq_false_iff, decide_eq_false_iff_not]; exact .inr h2)⟩, e2.symm⟩, by kernel_rfl⟩
      · have h := of_decide_eq_false h
        have h : ¬ a = 0 := h
        have hI := hI (by simp only [badN, Bool.and_eq_false_iff, decide_eq_false_iff_not]; exact .inl h)
        obtain ⟨v1, v2, _⟩ := quo_ok hb h
        have cm := pc_Make b a (by unfold okB at hb; unfold I64; simp only [] at hb; omega) (by unfold okB at hb; unfold I64; simp only [] at hb; omega)
        rw [v2] at cm
        have p1 := fun hp => stepN2_pos (s := (none, none)) (a := a) (b := b) hp
        have p2 := fun hp => stepN2_neg (s := (none, none)) (a := a) (b := b) h hp
        generalize (makeF b a).1 = n at *
        obtain ⟨n, m⟩ := n
        (conv => whnf)
        (first | (refine Or.inl ?_; (conv => whnf); refine ⟨_, cm, ?_⟩) | refine ⟨_, cm, ?_⟩)
        (conv => whnf)
        (repeat' (first | (refine ⟨by kernel_rfl, ?_⟩; (conv => whnf)) | fail))
        refine ⟨fun h2 => ?_, fun h2 => ?_⟩
        · have h2 := of_decide_eq_true h2
          obtain ⟨⟨r1, r2⟩, hr⟩ := betF_some none (n, m) (-1)
          have cb : PC Try.prog 71 [.nilp, fr (n, m), i64 (-1)] (.pt [i64 r1, i64 r2] 0) := by
            have := pc_better none (n, m) (-1) (.inr rfl) v.2 v1 (fun y hy => pc_Compare _ _ v1 hy)
            rw [hr] at this
            exact this
          rw [p1 h2] at e2
          simp only [hr] at e2
          (conv => whnf)
          (first | (refine Or.inl ?_; (conv => whnf); refine ⟨_, cb, ?_⟩) | refine ⟨_, cb, ?_⟩)
          (conv => whnf)
          (repeat' (first | (refine ⟨by kernel_rfl, ?_⟩; (conv => whnf)) | fail))
          exact ⟨⟨⟨by omega, hI⟩, e2.symm⟩, by kernel_rfl⟩
        · have h2 := of_decide_eq_false h2
          obtain ⟨⟨r1, r2⟩, hr⟩ := betF_some none (n, m) 1
          have cb : PC Try.prog 71 [.nilp, fr (n, m), i64 1] (.pt [i64 r1, i64 r2] 0) := by
            have := pc_better none (n, m) 1 (.inl rfl) v.1 v1 (fun y hy => pc_Compare _ _ v1 hy)
            rw [hr] at this
            exact this
          rw [p2 h2] at e2
          simp only [hr] at e2
          (conv => whnf)
          (first | (refine Or.inl ?_; (conv => whnf); refine ⟨_, cb, ?_⟩) | refine ⟨_, cb, ?_⟩)
          (conv => whnf)
          (repeat' (first | (refine ⟨by kernel_rfl, ?_⟩; (conv => whnf)) | fail))
          exact ⟨⟨⟨by omega, hI⟩, e2.symm⟩, by kernel_rfl⟩
    · with_reducible rw [e1]
      (conv => whnf)
      (repeat' (first | (refine ⟨by kernel_rfl, ?_⟩; (conv => whnf)) | (refine And.intro (a := _ ∧ _) ⟨by omega, by omega⟩ ?_; (conv => whnf))))
      refine ⟨fun h => ?_, fun h => ?_⟩
      · have h := of_decide_eq_true h
        (conv => whnf)
        refine ⟨fun h2 => ?_, fun h2 => ?_⟩
        · have h2 := of_decide_eq_true h2
          have hbd := hbd (by simp only [badN, Bool.and_eq_true, decide_eq_true_eq]; exact ⟨h, h2⟩)
          (conv => whnf)
          (repeat' (first | (refine ⟨by kernel_rfl, ?_⟩; (conv => whnf)) | fail))
          rw [hbd]
        · have h2 := of_decide_eq_false h2
          rw [stepN2_zero h] at e2
          (conv => whnf)
          refine ⟨⟨⟨by omega, hI (by simp only [badN, Bool.and_eq_false_iff, decide_eq_false_iff_not]; exact .inr h2)⟩, e2.symm⟩, by kernel_rfl⟩
      · have h := of_decide_eq_false h
        have h : ¬ a = 0 := h
        have hI := hI (by simp only [badN, Bool.and_eq_false_iff, decide_eq_false_iff_not]; exact .inl h)
        obtain ⟨v1, v2, _⟩ := quo_ok hb h
        have cm := pc_Make b a (by unfold okB at hb; unfold I64; simp only [] at hb; omega) (by unfold okB at hb; unfold I64; simp only [] at hb; omega)
        rw [v2] at cm
        have p1 := fun hp => stepN2_pos (s := (none, (some (t1, t2)))) (a := a) (b := b) hp
        have p2 := fun hp => stepN2_neg (s := (none, (some (t1, t2)))) (a := a) (b := b) h hp
        generalize (makeF b a).1 = n at *
        obtain ⟨n, m⟩ := n
        (conv => whnf)
        (first | (refine Or.inl ?_; (conv => whnf); refine ⟨_, cm, ?_⟩) | refine ⟨_, cm, ?_⟩)
        (conv => whnf)
        (repeat' (first | (refine ⟨by kernel_rfl, ?_⟩; (conv => whnf)) | fail))
        refine ⟨fun h2 => ?_, fun h2 => ?_⟩
        · have h2 := of_decide_eq_true h2
          obtain ⟨⟨r1, r2⟩, hr⟩ := betF_some (some (t1, t2)) (n, m) (-1)
          have cb : PC Try.prog 71 [.pt [i64 t1, i64 t2] 0, fr (n, m), i64 (-1)] (.pt [i64 r1, i64 r2] 0) := by
            have := pc_better (some (t1, t2)) (n, m) (-1) (.inr rfl) v.2 v1 (fun y hy => pc_Compare _ _ v1 hy)
            rw [hr] at this
            exact this
          rw [p1 h2] at e2
          simp only [hr] at e2
          (conv => whnf)
          (first | (refine Or.inl ?_; (conv => whnf); refine ⟨_, cb, ?_⟩) | refine ⟨_, cb, ?_⟩)
          (conv => whnf)
          (repeat' (first | (refine ⟨by kernel_rfl, ?_⟩; (conv => whnf)) | fail))
          exact ⟨⟨⟨by omega, hI⟩, e2.symm⟩, by kernel_rfl⟩
        · have h2 := of_decide_eq_false h2
          obtain ⟨⟨r1, r2⟩, hr⟩ := betF_some none (n, m) 1
          have cb : PC Try.prog 71 [.nilp, fr (n, m), i64 1] (.pt [i64 r1, i64 r2] 0) := by
            have := pc_better none (n, m) 1 (.inl rfl) v.1 v1 (fun y hy => pc_Compare _ _ v1 hy)
            rw [hr] at this
            exact this
          rw [p2 h2] at e2
          simp only [hr] at e2
          (conv => whnf)
          (first | (refine Or.inl ?_; (conv => whnf); refine ⟨_, cb, ?_⟩) | refine ⟨_, cb, ?_⟩)
          (conv => whnf)
          (repeat' (first | (refine ⟨by kernel_rfl, ?_⟩; (conv => whnf)) | fail))
          exact ⟨⟨⟨by omega, hI⟩, e2.symm⟩, by kernel_rfl⟩
    · with_reducible rw [e1]
      (conv => whnf)
      (repeat' (first | (refine ⟨by kernel_rfl, ?_⟩; (conv => whnf)) | (refine And.intro (a := _ ∧ _) ⟨by omega, by omega⟩ ?_; (conv => whnf))))
      refine ⟨fun h => ?_, fun h => ?_⟩
      · have h := of_decide_eq_true h
        (conv => whnf)
        refine ⟨fun h2 => ?_, fun h2 => ?_⟩
        · have h2 := of_decide_eq_true h2
          have hbd := hbd (by simp only [badN, Bool.and_eq_true, decide_eq_true_eq]; exact ⟨h, h2⟩)
          (conv => whnf)
          (repeat' (first | (refine ⟨by kernel_rfl, ?_⟩; (conv => whnf)) | fail))
          rw [hbd]
        · have h2 := of_decide_eq_false h2
          rw [stepN2_zero h] at e2
          (conv => whnf)
          refine ⟨⟨⟨by omega, hI (by simp only [badN, Bool.and_eq_false_iff, decide_eq_false_iff_not]; exact .inr h2)⟩, e2.symm⟩, by kernel_rfl⟩
      · have h := of_decide_eq_false h
        have h : ¬ a = 0 := h
        have hI := hI (by simp only [badN, Bool.and_eq_false_iff, decide_eq_false_iff_not]; exact .inl h)
        obtain ⟨v1, v2, _⟩ := quo_ok hb h
        have cm := pc_Make b a (by unfold okB at hb; unfold I64; simp only [] at hb; omega) (by unfold okB at hb; unfold I64; simp only [] at hb; omega)
        rw [v2] at cm
        have p1 := fun hp => stepN2_pos (s := ((some (s1, s2)), none)) (a := a) (b := b) hp
        have p2 := fun hp => stepN2_neg (s := ((some (s1, s2)), none)) (a := a) (b := b) h hp
        generalize (makeF b a).1 = n at *
        obtain ⟨n, m⟩ := n
        (conv => whnf)
        (first | (refine Or.inl ?_; (conv => whnf); refine ⟨_, cm, ?_⟩) | refine ⟨_, cm, ?_⟩)
        (conv => whnf)
        (repeat' (first | (refine ⟨by kernel_rfl, ?_⟩; (conv => whnf)) | fail))
        refine ⟨fun h2 => ?_, fun h2 => ?_⟩
        · have h2 := of_decide_eq_true h2
          obtain ⟨⟨r1, r2⟩, hr⟩ := betF_some none (n, m) (-1)
          have cb : PC Try.prog 71 [.nilp, fr (n, m), i64 (-1)] (.pt [i64 r1, i64 r2] 0) := by
            have := pc_better none (n, m) (-1) (.inr rfl) v.2 v1 (fun y hy => pc_Compare _ _ v1 hy)
            rw [hr] at this
            exact this
          rw [p1 h2] at e2
          simp only [hr] at e2
          (conv => whnf)
          (first | (refine Or.inl ?_; (conv => whnf); refine ⟨_, cb, ?_⟩) | refine ⟨_, cb, ?_⟩)
          (conv => whnf)
          (repeat' (first | (refine ⟨by kernel_rfl, ?_⟩; (conv => whnf)) | fail))
          exact ⟨⟨⟨by omega, hI⟩, e2.symm⟩, by kernel_rfl⟩
        · have h2 := of_decide_eq_false h2
          obtain ⟨⟨r1, r2⟩, hr⟩ := betF_some (some (s1, s2)) (n, m) 1
          have cb : PC Try.prog 71 [.pt [i64 s1, i64 s2] 0, fr (n, m), i64 1] (.pt [i64 r1, i64 r2] 0) := by
            have := pc_better (some (s1, s2)) (n, m) 1 (.inl rfl) v.1 v1 (fun y hy => pc_Compare _ _ v1 hy)
            rw [hr] at this
            exact this
          rw [p2 h2] at e2
          simp only [hr] at e2
          (conv => whnf)
          (first | (refine Or.inl ?_; (conv => whnf); refine ⟨_, cb, ?_⟩) | refine ⟨_, cb, ?_⟩)
          (conv => whnf)
          (repeat' (first | (refine ⟨by kernel_rfl, ?_⟩; (conv => whnf)) | fail))
          exact ⟨⟨⟨by omega, hI⟩, e2.symm⟩, by kernel_rfl⟩
    · with_reducible rw [e1]
      (conv => whnf)
      (repeat' (first | (refine ⟨by kernel_rfl, ?_⟩; (conv => whnf)) | (refine And.intro (a := _ ∧ _) ⟨by omega, by omega⟩ ?_; (conv => whnf))))
      refine ⟨fun h => ?_, fun h => ?_⟩
      · have h := of_decide_eq_true h
        (conv => whnf)
        refine ⟨fun h2 => ?_, fun h2 => ?_⟩
        · have h2 := of_decide_eq_true h2
          have hbd := hbd (by simp only [badN, Bool.and_eq_true, decide_eq_true_eq]; exact ⟨h, h2⟩)
          (conv => whnf)
          (repeat' (first | (refine ⟨by kernel_rfl, ?_⟩; (conv => whnf)) | fail))
          rw [hbd]
        · have h2 := of_decide_eq_false h2
          rw [stepN2_zero h] at e2
          (conv => whnf)
          refine ⟨⟨⟨by omega, hI (by simp only [badN, Bool.and_eq_false_iff, decide_eq_false_iff_not]; exact .inr h2)⟩, e2.symm⟩, by kernel_rfl⟩
      · have h := of_decide_eq_false h
        have h : ¬ a = 0 := h
        have hI := hI (by simp only [badN, Bool.and_eq_false_iff, decide_eq_false_iff_not]; exact .inl h)
        obtain ⟨v1, v2, _⟩ := quo_ok hb h
        have cm := pc_Make b a (by unfold okB at hb; unfold I64; simp only [] at hb; omega) (by unfold okB at hb; unfold I64; simp only [] at hb; omega)
        rw [v2] at cm
        have p1 := fun hp => stepN2_pos (s := ((some (s1, s2)), (some (t1, t2)))) (a := a) (b := b) hp
        have p2 := fun hp => stepN2_neg (s := ((some (s1, s2)), (some (t1, t2)))) (a := a) (b := b) h hp
        generalize (makeF b a).1 = n at *
        obtain ⟨n, m⟩ := n
        (conv => whnf)
        (first | (refine Or.inl ?_; (conv => whnf); refine ⟨_, cm, ?_⟩) | refine ⟨_, cm, ?_⟩)
        (conv => whnf)
        (repeat' (first | (refine ⟨by kernel_rfl, ?_⟩; (conv => whnf)) | fail))
        refine ⟨fun h2 => ?_, fun h2 => ?_⟩
        · have h2 := of_decide_eq_true h2
          obtain ⟨⟨r1, r2⟩, hr⟩ := betF_some (some (t1, t2)) (n, m) (-1)
          have cb : PC Try.prog 71 [.pt [i64 t1, i64 t2] 0, fr (n, m), i64 (-1)] (.pt [i64 r1, i64 r2] 0) := by
            have := pc_better (some (t1, t2)) (n, m) (-1) (.inr rfl) v.2 v1 (fun y hy => pc_Compare _ _ v1 hy)
            rw [hr] at this
            exact this
          rw [p1 h2] at e2
          simp only [hr] at e2
          (conv => whnf)
          (first | (refine Or.inl ?_; (conv => whnf); refine ⟨_, cb, ?_⟩) | refine ⟨_, cb, ?_⟩)
          (conv => whnf)
          (repeat' (first | (refine ⟨by kernel_rfl, ?_⟩; (conv => whnf)) | fail))
          exact ⟨⟨⟨by omega, hI⟩, e2.symm⟩, by kernel_rfl⟩
        · have h2 := of_decide_eq_false h2
          obtain ⟨⟨r1, r2⟩, hr⟩ := betF_some (some (s1, s2)) (n, m) 1
          have cb : PC Try.prog 71 [.pt [i64 s1, i64 s2] 0, fr (n, m), i64 1] (.pt [i64 r1, i64 r2] 0) := by
            have := pc_better (some (s1, s2)) (n, m) 1 (.inl rfl) v.1 v1 (fun y hy => pc_Compare _ _ v1 hy)
            rw [hr] at this
            exact this
          rw [p2 h2] at e2
          simp only [hr] at e2
          (conv => whnf)
          (first | (refine Or.inl ?_; (conv => whnf); refine ⟨_, cb, ?_⟩) | refine ⟨_, cb, ?_⟩)
          (conv => whnf)
          (repeat' (first | (refine ⟨by kernel_rfl, ?_⟩; (conv => whnf)) | fail))
          exact ⟨⟨⟨by omega, hI⟩, e2.symm⟩, by kernel_rfl⟩
  · with_reducible refine done_mpF ?_
    intro hk
    have e1 := hBR (bs.map eB).length
    have v := hval (bs.map eB).length (by rw [hlen]; omega)
    have hE : narF bs = endN (foldN (bs.take (bs.map eB).length)) := by
      rw [hlen, List.take_length]
      exact no_bad fun j hj => hk.2 j (by rw [hlen]; exact hj)
    rw [hE]
    generalize foldN (bs.take (bs.map eB).length) = S at *
    obtain ⟨_ | ⟨s1, s2⟩, _ | ⟨t1, t2⟩⟩ := S
    · with_reducible rw [e1]
      (conv => whnf)
      (repeat' (first | (refine ⟨by kernel_rfl, ?_⟩; (conv => whnf)) | fail))
      (repeat' (first | (refine ⟨by kernel_rfl, ?_⟩; (conv => whnf)) | (refine ⟨fun _ => ?_, fun h => absurd h (by first | decide | (simp; done) | fail)⟩; (conv => whnf)) | (refine ⟨fun h => absurd h (by first | decide | (simp; done) | fail), fun _ => ?_⟩; (conv => whnf)) | ((with_reducible refine And.intro (a := _ = true → _) (b := _ = false → _) (fun hh => ?_) (fun hh => ?_)) <;> (try simp only [decide_eq_true_eq, decide_eq_false_iff_not, Bool.or_eq_true, Bool.and_eq_true, Bool.or_eq_false_iff, Bool.and_eq_false_iff, Bool.not_eq_true', Bool.not_eq_false', ge_iff_le, gt_iff_lt] at hh) <;> (first | (exfalso; omega) | (conv => whnf))) | fail))
      rfl
    · with_reducible rw [e1]
      (conv => whnf)
      (repeat' (first | (refine ⟨by kernel_rfl, ?_⟩; (conv => whnf)) | fail))
      (repeat' (first | (refine ⟨by kernel_rfl, ?_⟩; (conv => whnf)) | (refine ⟨fun _ => ?_, fun h => absurd h (by first | decide | (simp; done) | fail)⟩; (conv => whnf)) | (refine ⟨fun h => absurd h (by first | decide | (simp; done) | fail), fun _ => ?_⟩; (conv => whnf)) | ((with_reducible refine And.intro (a := _ = true → _) (b := _ = false → _) (fun hh => ?_) (fun hh => ?_)) <;> (try simp only [decide_eq_true_eq, decide_eq_false_iff_not, Bool.or_eq_true, Bool.and_eq_true, Bool.or_eq_false_iff, Bool.and_eq_false_iff, Bool.not_eq_true', Bool.not_eq_false', ge_iff_le, gt_iff_lt] at hh) <;> (first | (exfalso; omega) | (conv => whnf))) | fail))
      rfl
    · with_reducible rw [e1]
      (conv => whnf)
      (repeat' (first | (refine ⟨by kernel_rfl, ?_⟩; (conv => whnf)) | fail))
      (repeat' (first | (refine ⟨by kernel_rfl, ?_⟩; (conv => whnf)) | (refine ⟨fun _ => ?_, fun h => absurd h (by first | decide | (simp; done) | fail)⟩; (conv => whnf)) | (refine ⟨fun h => absurd h (by first | decide | (simp; done) | fail), fun _ => ?_⟩; (conv => whnf)) | ((with_reducible refine And.intro (a := _ = true → _) (b := _ = false → _) (fun hh => ?_) (fun hh => ?_)) <;> (try simp only [decide_eq_true_eq, decide_eq_false_iff_not, Bool.or_eq_true, Bool.and_eq_true, Bool.or_eq_false_iff, Bool.and_eq_false_iff, Bool.not_eq_true', Bool.not_eq_false', ge_iff_le, gt_iff_lt] at hh) <;> (first | (exfalso; omega) | (conv => whnf))) | fail))
      rfl
    · have cc := pc_Compare (s1, s2) (t1, t2) (v.1 _ rfl) (v.2 _ rfl)
      have e3 : endN (some (s1, s2), some (t1, t2)) = if 0 < cmpF (s1, s2) (t1, t2) then (z4, false, false) else (((s1, s2), (t1, t2)), true, true) := rfl
      rw [e3]
      generalize cmpF (s1, s2) (t1, t2) = c at *
      with_reducible rw [e1]
      (conv => whnf)
      (repeat' (first | (refine ⟨by kernel_rfl, ?_⟩; (conv => whnf)) | fail))
      (repeat' (first | (refine ⟨_, by first | with_reducible exact cc, ?_⟩; (conv => whnf)) | (refine Or.inl ?_; (conv => whnf); refine ⟨_, by first | with_reducible exact cc, ?_⟩; (conv => whnf)) | (refine Or.inl ?_; (conv => whnf); refine ⟨false, ?_⟩; (conv => whnf); refine ⟨_, by first | with_reducible exact cc, ?_⟩; (conv => whnf)) | (refine ⟨by kernel_rfl, ?_⟩; (conv => whnf)) | (refine ⟨fun _ => ?_, fun h => absurd h (by first | decide | (simp; done) | fail)⟩; (conv => whnf)) | (refine ⟨fun h => absurd h (by first | decide | (simp; done) | fail), fun _ => ?_⟩; (conv => whnf)) | ((with_reducible refine And.intro (a := _ = true → _) (b := _ = false → _) (fun hh => ?_) (fun hh => ?_)) <;> (try simp only [decide_eq_true_eq, decide_eq_false_iff_not, Bool.or_eq_true, Bool.and_eq_true, Bool.or_eq_false_iff, Bool.and_eq_false_iff, Bool.not_eq_true', Bool.not_eq_false', ge_iff_le, gt_iff_lt] at hh) <;> (first | (exfalso; omega) | (conv => whnf))) | fail))
      · rw [if_pos (by assumption)]
      · rw [if_neg (by assumption)]
end Go.Proofs.Try.My
set_option maxRecDepth 100000
set_option maxHeartbeats 0
set_option linter.unusedVariables false
set_option linter.unusedSimpArgs false
namespace Go.Proofs.Try.My
open Go Go.Ev

theorem pc_narrowed4 (K : FuncId) (q : List SpT) (x z : Int) (bs : List (Int × Int)) (hl : ∀ k, k < bs.length → okB (bs.getD k (0, 0))) (sq : SQ Try.prog K [.pt [vws q] 0, .pt [i64 z] 0, .pt [i64 x] 0] (bs.map eB)) :
    PC Try.prog 50 [.fn (.func K) [] [.pt [vws q] 0, .pt [i64 z] 0, .pt [i64 x] 0]] (.tup [sp (narF bs).1, .bool (narF bs).2.1, .bool (narF bs).2.2]) := by
  have hxs : ∀ k x, (bs.map eB)[k]? = some x → k < bs.length ∧ x = eB (bs.getD k (0, 0)) := by
    intro k x hx
    rw [List.getElem?_map] at hx
    by_cases hk : k < bs.length
    · rw [List.getElem?_eq_getElem hk] at hx
      refine ⟨hk, ?_⟩
      simp only [List.getD, List.getElem?_eq_getElem hk, Option.getD_some]
      exact (Option.some.inj hx).symm
    · rw [List.getElem?_eq_none (by omega)] at hx; cases hx
  have hflat : ∀ x ∈ bs.map eB, flatL x = true ∧ x.length = 1 := by
    intro x hx
    obtain ⟨k, _, rfl⟩ := List.mem_map.1 hx
    exact ⟨by kernel_rfl, rfl⟩
  have hlen : (bs.map eB).length = bs.length := List.length_map ..
  have hval := foldN_valid bs hl
  refine pc_of_bodyF hm Try.func50 (by kernel_rfl) ?_
  conv => whnf
  (repeat' (first | (refine ⟨by kernel_rfl, ?_⟩; (conv => whnf)) | fail))
  obtain ⟨BR, hBR⟩ : ∃ BR : Nat → List Row, ∀ k, BR k = [.cells 122 [pF (foldN (bs.take k)).1], .cells 122 [pF (foldN (bs.take k)).2]] := ⟨_, fun _ => rfl⟩
  refine ⟨bs.map eB, [5, 6], BR, fun k => k ≤ bs.length ∧ ∀ j, j < k → badN (bs.getD j (0, 0)) = false, ⟨sq, hflat⟩, ?_⟩
  refine ⟨by kernel_rfl, ?_⟩
  refine ⟨?_, ?_⟩
  · (conv => whnf)
    exact ⟨⟨⟨Nat.zero_le _, fun j hj => absurd hj (Nat.not_lt_zero j)⟩, rfl, (hBR 0).symm, rfl⟩, by kernel_rfl, by kernel_rfl⟩
  refine ⟨?_, ?_⟩
  · with_reducible refine round_mpF hxs ?_
    intro k hks hk
    have e1 := hBR k
    have e2 := hBR (k + 1)
    rw [foldN_step bs hks] at e2
    have v := hval k (by omega)
    have hb := hl k hks
    have hbd := any_bad (l := bs) hks
    have hI : badN (bs.getD k (0, 0)) = false → ∀ j, j < k + 1 → badN (bs.getD j (0, 0)) = false := fun h j hj => by
      by_cases e : j = k
      · subst e; exact h
      · exact hk.2 j (by omega)
    generalize bs.getD k (0, 0) = x at *
    generalize foldN (bs.take k) = S at *
    obtain ⟨a, b⟩ := x
    obtain ⟨_ | ⟨s1, s2⟩, _ | ⟨t1, t2⟩⟩ := S
    · with_reducible rw [e1]
      (conv => whnf)
      (repeat' (first | (refine ⟨by kernel_rfl, ?_⟩; (conv => whnf)) | (refine And.intro (a := _ ∧ _) ⟨by omega, by omega⟩ ?_; (conv => whnf))))
      refine ⟨fun h => ?_, fun h => ?_⟩
      · have h := of_decide_eq_true h
        (conv => whnf)
        refine ⟨fun h2 => ?_, fun h2 => ?_⟩
        · have h2 := of_decide_eq_true h2
          have hbd := hbd (by simp only [badN, Bool.and_eq_true, decide_eq_true_eq]; exact ⟨h, h2⟩)
          (conv => whnf)
          (repeat' (first | (refine ⟨by kernel_rfl, ?_⟩; (conv => whnf)) | fail))
          rw [hbd]
        · have h2 := of_decide_eq_false h2
          rw [stepN2_zero h] at e2
          (conv => whnf)
          refine ⟨⟨⟨by omega, hI (by simp only [badN, Bool.and_eq_false_iff, decide_eq_false_iff_not]; exact .inr h2)⟩, e2.symm⟩, by kernel_rfl⟩
      · have h := of_decide_eq_false h
        have h : ¬ a = 0 := h
        have hI := hI (by simp only [badN, Bool.and_eq_false_iff, decide_eq_false_iff_not]; exact .inl h)
        obtain ⟨v1, v2, _⟩ := quo_ok hb h
        have cm := pc_Make b a (by unfold okB at hb; unfold I64; simp only [] at hb; omega) (by unfold okB at hb; unfold I64; simp only [] at hb; omega)
        rw [v2] at cm
        have p1 := fun hp => stepN2_pos (s := (none, none)) (a := a) (b := b) hp
        have p2 := fun hp => stepN2_neg (s := (none, none)) (a := a) (b := b) h hp
        generalize (makeF b a).1 = n at *
        obtain ⟨n, m⟩ := n
        (conv => whnf)
        (first | (refine Or.inl ?_; (conv => whnf); refine ⟨_, cm, ?_⟩) | refine ⟨_, cm, ?_⟩)
        (conv => whnf)
        (repeat' (first | (refine ⟨by kernel_rfl, ?_⟩; (conv => whnf)) | fail))
        refine ⟨fun h2 => ?_, fun h2 => ?_⟩
        · have h2 := of_decide_eq_true h2
          obtain ⟨⟨r1, r2⟩, hr⟩ := betF_some none (n, m) (-1)
          have cb : PC Try.prog 71 [.nilp, fr (n, m), i64 (-1)] (.pt [i64 r1, i64 r2] 0) := by
            have := pc_better none (n, m) (-1) (.inr rfl) v.2 v1 (fun y hy => pc_Compare _ _ v1 hy)
            rw [hr] at this
            exact this
          rw [p1 h2] at e2
          simp only [hr] at e2
          (conv => whnf)
          (first | (refine Or.inl ?_; (conv => whnf); refine ⟨_, cb, ?_⟩) | refine ⟨_, cb, ?_⟩)
          (conv => whnf)
          (repeat' (first | (refine ⟨by kernel_rfl, ?_⟩; (conv => whnf)) | fail))
          exact ⟨⟨⟨by omega, hI⟩, e2.symm⟩, by kernel_rfl⟩
        · have h2 := of_decide_eq_false h2
          obtain ⟨⟨r1, r2⟩, hr⟩ := betF_some none (n, m) 1
          have cb : PC Try.prog 71 [.nilp, fr (n, m), i64 1] (.pt [i64 r1, i64 r2] 0) := by
            have := pc_better none (n, m) 1 (.inl rfl) v.1 v1 (fun y hy => pc_Compare _ _ v1 hy)
            rw [hr] at this
            exact this
          rw [p2 h2] at e2
          simp only [hr] at e2
          (conv => whnf)
          (first | (refine Or.inl ?_; (conv => whnf); refine ⟨_, cb, ?_⟩) | refine ⟨_, cb, ?_⟩)
          (conv => whnf)
          (repeat' (first | (refine ⟨by kernel_rfl, ?_⟩; (conv => whnf)) | fail))
          exact ⟨⟨⟨by omega, hI⟩, e2.symm⟩, by kernel_rfl⟩
    · with_reducible rw [e1]
      (conv => whnf)
      (repeat' (first | (refine ⟨by kernel_rfl, ?_⟩; (conv => whnf)) | (refine And.intro (a := _ ∧ _) ⟨by omega, by omega⟩ ?_; (conv => whnf))))
      refine ⟨fun h => ?_, fun h => ?_⟩
      · have h := of_decide_eq_true h
        (conv => whnf)
        refine ⟨fun h2 => ?_, fun h2 => ?_⟩
        · have h2 := of_decide_eq_true h2
          have hbd := hbd (by simp only [badN, Bool.and_eq_true, decide_eq_true_eq]; exact ⟨h, h2⟩)
          (conv => whnf)
          (repeat' (first | (refine ⟨by kernel_rfl, ?_⟩; (conv => whnf)) | fail))
          rw [hbd]
        · have h2 := of_decide_eq_false h2
          rw [stepN2_zero h] at e2
          (conv => whnf)
          refine ⟨⟨⟨by omega, hI (by simp only [badN, Bool.and_eq_false_iff, decide_eq_false_iff_not]; exact .inr h2)⟩, e2.symm⟩, by kernel_rfl⟩
      · have h := of_decide_eq_false h
        have h : ¬ a = 0 := h
        have hI := hI (by simp only [badN, Bool.and_eq_false_iff, decide_eq_false_iff_not]; exact .inl h)
        obtain ⟨v1, v2, _⟩ := quo_ok hb h
        have cm := pc_Make b a (by unfold okB at hb; unfold I64; simp only [] at hb; omega) (by unfold okB at hb; unfold I64; simp only [] at hb; omega)
        rw [v2] at cm
        have p1 := fun hp => stepN2_pos (s := (none, (some (t1, t2)))) (a := a) (b := b) hp
        have p2 := fun hp => stepN2_neg (s := (none, (some (t1, t2)))) (a := a) (b := b) h hp
        generalize (makeF b a).1 = n at *
        obtain ⟨n, m⟩ := n
        (conv => whnf)
        (first | (refine Or.inl ?_; (conv => whnf); refine ⟨_, cm, ?_⟩) | refine ⟨_, cm, ?_⟩)
        (conv => whnf)
        (repeat' (first | (refine ⟨by kernel_rfl, ?_⟩; (conv => whnf)) | fail))
        refine ⟨fun h2 => ?_, fun h2 => ?_⟩
        · have h2 := of_decide_eq_true h2
          obtain ⟨⟨r1, r2⟩, hr⟩ := betF_some (some (t1, t2)) (n, m) (-1)
          have cb : PC Try.prog 71 [.pt [i64 t1, i64 t2] 0, fr (n, m), i64 (-1)] (.pt [i64 r1, i64 r2] 0) := by
            have := pc_better (some (t1, t2)) (n, m) (-1) (.inr rfl) v.2 v1 (fun y hy => pc_Compare _ _ v1 hy)
            rw [hr] at this
            exact this
          rw [p1 h2] at e2
          simp only [hr] at e2
          (conv => whnf)
          (first | (refine Or.inl ?_; (conv => whnf); refine ⟨_, cb, ?_⟩) | refine ⟨_, cb, ?_⟩)
          (conv => whnf)
          (repeat' (first | (refine ⟨by kernel_rfl, ?_⟩; (conv => whnf)) | fail))
          exact ⟨⟨⟨by omega, hI⟩, e2.symm⟩, by kernel_rfl⟩
        · have h2 := of_decide_eq_false h2
          obtain ⟨⟨r1, r2⟩, hr⟩ := betF_some none (n, m) 1
          have cb : PC Try.prog 71 [.nilp, fr (n, m), i64 1] (.pt [i64 r1, i64 r2] 0) := by
            have := pc_better none (n, m) 1 (.inl rfl) v.1 v1 (fun y hy => pc_Compare _ _ v1 hy)
            rw [hr] at this
            exact this
          rw [p2 h2] at e2
          simp only [hr] at e2
          (conv => whnf)
          (first | (refine Or.inl ?_; (conv => whnf); refine ⟨_, cb, ?_⟩) | refine ⟨_, cb, ?_⟩)
          (conv => whnf)
          (repeat' (first | (refine ⟨by kernel_rfl, ?_⟩; (conv => whnf)) | fail))
          exact ⟨⟨⟨by omega, hI⟩, e2.symm⟩, by kernel_rfl⟩
    · with_reducible rw [e1]
      (conv => whnf)
      (repeat' (first | (refine ⟨by kernel_rfl, ?_⟩; (conv => whnf)) | (refine And.intro (a := _ ∧ _) ⟨by omega, by omega⟩ ?_; (conv => whnf))))
      refine ⟨fun h => ?_, fun h => ?_⟩
      · have h := of_decide_eq_true h
        (conv => whnf)
        refine ⟨fun h2 => ?_, fun h2 => ?_⟩
        · have h2 := of_decide_eq_true h2
          have hbd := hbd (by simp only [badN, Bool.and_eq_true, decide_eq_true_eq]; exact ⟨h, h2⟩)
          (conv => whnf)
          (repeat' (first | (refine ⟨by kernel_rfl, ?_⟩; (conv => whnf)) | fail))
          rw [hbd]
        · have h2 := of_decide_eq_false h2
          rw [stepN2_zero h] at e2
          (conv => whnf)
          refine ⟨⟨⟨by omega, hI (by simp only [badN, Bool.and_eq_false_iff, decide_eq_false_iff_not]; exact .inr h2)⟩, e2.symm⟩, by kernel_rfl⟩
      · have h := of_decide_eq_false h
        have h : ¬ a = 0 := h
        have hI := hI (by simp only [badN, Bool.and_eq_false_iff, decide_eq_false_iff_not]; exact .inl h)
        obtain ⟨v1, v2, _⟩ := quo_ok hb h
        have cm := pc_Make b a (by unfold okB at hb; unfold I64; simp only [] at hb; omega) (by unfold okB at hb; unfold I64; simp only [] at hb; omega)
        rw [v2] at cm
        have p1 := fun hp => stepN2_pos (s := ((some (s1, s2)), none)) (a := a) (b := b) hp
        have p2 := fun hp => stepN2_neg (s := ((some (s1, s2)), none)) (a := a) (b := b) h hp
        generalize (makeF b a).1 = n at *
        obtain ⟨n, m⟩ := n
        (conv => whnf)
        (first | (refine Or.inl ?_; (conv => whnf); refine ⟨_, cm, ?_⟩) | refine ⟨_, cm, ?_⟩)
        (conv => whnf)
        (repeat' (first | (refine ⟨by kernel_rfl, ?_⟩; (conv => whnf)) | fail))
        refine ⟨fun h2 => ?_, fun h2 => ?_⟩
        · have h2 := of_decide_eq_true h2
          obtain ⟨⟨r1, r2⟩, hr⟩ := betF_some none (n, m) (-1)
          have cb : PC Try.prog 71 [.nilp, fr (n, m), i64 (-1)] (.pt [i64 r1, i64 r2] 0) := by
            have := pc_better none (n, m) (-1) (.inr rfl) v.2 v1 (fun y hy => pc_Compare _ _ v1 hy)
            rw [hr] at this
            exact this
          rw [p1 h2] at e2
          simp only [hr] at e2
          (conv => whnf)
          (first | (refine Or.inl ?_; (conv => whnf); refine ⟨_, cb, ?_⟩) | refine ⟨_, cb, ?_⟩)
          (conv => whnf)
          (repeat' (first | (refine ⟨by kernel_rfl, ?_⟩; (conv => whnf)) | fail))
          exact ⟨⟨⟨by omega, hI⟩, e2.symm⟩, by kernel_rfl⟩
        · have h2 := of_decide_eq_false h2
          obtain ⟨⟨r1, r2⟩, hr⟩ := betF_some (some (s1, s2)) (n, m) 1
          have cb : PC Try.prog 71 [.pt [i64 s1, i64 s2] 0, fr (n, m), i64 1] (.pt [i64 r1, i64 r2] 0) := by
            have := pc_better (some (s1, s2)) (n, m) 1 (.inl rfl) v.1 v1 (fun y hy => pc_Compare _ _ v1 hy)
            rw [hr] at this
            exact this
          rw [p2 h2] at e2
          simp only [hr] at e2
          (conv => whnf)
          (first | (refine Or.inl ?_; (conv => whnf); refine ⟨_, cb, ?_⟩) | refine ⟨_, cb, ?_⟩)
          (conv => whnf)
          (repeat' (first | (refine ⟨by kernel_rfl, ?_⟩; (conv => whnf)) | fail))
          exact ⟨⟨⟨by omega, hI⟩, e2.symm⟩, by kernel_rfl⟩
    · with_reducible rw [e1]
      (conv => whnf)
      (repeat' (first | (refine ⟨by kernel_rfl, ?_⟩; (conv => whnf)) | (refine And.intro (a := _ ∧ _) ⟨by omega, by omega⟩ ?_; (conv => whnf))))
      refine ⟨fun h => ?_, fun h => ?_⟩
      · have h := of_decide_eq_true h
        (conv => whnf)
        refine ⟨fun h2 => ?_, fun h2 => ?_⟩
        · have h2 := of_decide_eq_true h2
          have hbd := hbd (by simp only [badN, Bool.and_eq_true, decide_eq_true_eq]; exact ⟨h, h2⟩)
          (conv => whnf)
          (repeat' (first | (refine ⟨by kernel_rfl, ?_⟩; (conv => whnf)) | fail))
          rw [hbd]
        · have h2 := of_decide_eq_false h2
          rw [stepN2_zero h] at e2
          (conv => whnf)
          refine ⟨⟨⟨by omega, hI (by simp only [badN, Bool.and_eq_false_iff, decide_eq_false_iff_not]; exact .inr h2)⟩, e2.symm⟩, by kernel_rfl⟩
      · have h := of_decide_eq_false h
        have h : ¬ a = 0 := h
        have hI := hI (by simp only [badN, Bool.and_eq_false_iff, decide_eq_false_iff_not]; exact .inl h)
        obtain ⟨v1, v2, _⟩ := quo_ok hb h
        have cm := pc_Make b a (by unfold okB at hb; unfold I64; simp only [] at hb; omega) (by unfold okB at hb; unfold I64; simp only [] at hb; omega)
        rw [v2] at cm
        have p1 := fun hp => stepN2_pos (s := ((some (s1, s2)), (some (t1, t2)))) (a := a) (b := b) hp
        have p2 := fun hp => stepN2_neg (s := ((some (s1, s2)), (some (t1, t2)))) (a := a) (b := b) h hp
        generalize (makeF b a).1 = n at *
        obtain ⟨n, m⟩ := n
        (conv => whnf)
        (first | (refine Or.inl ?_; (conv => whnf); refine ⟨_, cm, ?_⟩) | refine ⟨_, cm, ?_⟩)
        (conv => whnf)
        (repeat' (first | (refine ⟨by kernel_rfl, ?_⟩; (conv => whnf)) | fail))
        refine ⟨fun h2 => ?_, fun h2 => ?_⟩
        · have h2 := of_decide_eq_true h2
          obtain ⟨⟨r1, r2⟩, hr⟩ := betF_some (some (t1, t2)) (n, m) (-1)
          have cb : PC Try.prog 71 [.pt [i64 t1, i64 t2] 0, fr (n, m), i64 (-1)] (.pt [i64 r1, i64 r2] 0) := by
            have := pc_better (some (t1, t2)) (n, m) (-1) (.inr rfl) v.2 v1 (fun y hy => pc_Compare _ _ v1 hy)
            rw [hr] at this
            exact this
          rw [p1 h2] at e2
          simp only [hr] at e2
          (conv => whnf)
          (first | (refine Or.inl ?_; (conv => whnf); refine ⟨_, cb, ?_⟩) | refine ⟨_, cb, ?_⟩)
          (conv => whnf)
          (repeat' (first | (refine ⟨by kernel_rfl, ?_⟩; (conv => whnf)) | fail))
          exact ⟨⟨⟨by omega, hI⟩, e2.symm⟩, by kernel_rfl⟩
        · have h2 := of_decide_eq_false h2
          obtain ⟨⟨r1, r2⟩, hr⟩ := betF_some (some (s1, s2)) (n, m) 1
          have cb : PC Try.prog 71 [.pt [i64 s1, i64 s2] 0, fr (n, m), i64 1] (.pt [i64 r1, i64 r2] 0) := by
            have := pc_better (some (s1, s2)) (n, m) 1 (.inl rfl) v.1 v1 (fun y hy => pc_Compare _ _ v1 hy)
            rw [hr] at this
            exact this
          rw [p2 h2] at e2
          simp only [hr] at e2
          (conv => whnf)
          (first | (refine Or.inl ?_; (conv => whnf); refine ⟨_, cb, ?_⟩) | refine ⟨_, cb, ?_⟩)
          (conv => whnf)
          (repeat' (first | (refine ⟨by kernel_rfl, ?_⟩; (conv => whnf)) | fail))
          exact ⟨⟨⟨by omega, hI⟩, e2.symm⟩, by kernel_rfl⟩
  · with_reducible refine done_mpF ?_
    intro hk
    have e1 := hBR (bs.map eB).length
    have v := hval (bs.map eB).length (by rw [hlen]; omega)
    have hE : narF bs = endN (foldN (bs.take (bs.map eB).length)) := by
      rw [hlen, List.take_length]
      exact no_bad fun j hj => hk.2 j (by rw [hlen]; exact hj)
    rw [hE]
    generalize foldN (bs.take (bs.map eB).length) = S at *
    obtain ⟨_ | ⟨s1, s2⟩, _ | ⟨t1, t2⟩⟩ := S
    · with_reducible rw [e1]
      (conv => whnf)
      (repeat' (first | (refine ⟨by kernel_rfl, ?_⟩; (conv => whnf)) | fail))
      (repeat' (first | (refine ⟨by kernel_rfl, ?_⟩; (conv => whnf)) | (refine ⟨fun _ => ?_, fun h => absurd h (by first | decide | (simp; done) | fail)⟩; (conv => whnf)) | (refine ⟨fun h => absurd h (by first | decide | (simp; done) | fail), fun _ => ?_⟩; (conv => whnf)) | ((with_reducible refine And.intro (a := _ = true → _) (b := _ = false → _) (fun hh => ?_) (fun hh => ?_)) <;> (try simp only [decide_eq_true_eq, decide_eq_false_iff_not, Bool.or_eq_true, Bool.and_eq_true, Bool.or_eq_false_iff, Bool.and_eq_false_iff, Bool.not_eq_true', Bool.not_eq_false', ge_iff_le, gt_iff_lt] at hh) <;> (first | (exfalso; omega) | (conv => whnf))) | fail))
      rfl
    · with_reducible rw [e1]
      (conv => whnf)
      (repeat' (first | (refine ⟨by kernel_rfl, ?_⟩; (conv => whnf)) | fail))
      (repeat' (first | (refine ⟨by kernel_rfl, ?_⟩; (conv => whnf)) | (refine ⟨fun _ => ?_, fun h => absurd h (by first | decide | (simp; done) | fail)⟩; (conv => whnf)) | (refine ⟨fun h => absurd h (by first | decide | (simp; done) | fail), fun _ => ?_⟩; (conv => whnf)) | ((with_reducible refine And.intro (a := _ = true → _) (b := _ = false → _) (fun hh => ?_) (fun hh => ?_)) <;> (try simp only [decide_eq_true_eq, decide_eq_false_iff_not, Bool.or_eq_true, Bool.and_eq_true, Bool.or_eq_false_iff, Bool.and_eq_false_iff, Bool.not_eq_true', Bool.not_eq_false', ge_iff_le, gt_iff_lt] at hh) <;> (first | (exfalso; omega) | (conv => whnf))) | fail))
      rfl
    · with_reducible rw [e1]
      (conv => whnf)
      (repeat' (first | (refine ⟨by kernel_rfl, ?_⟩; (conv => whnf)) | fail))
      (repeat' (first | (refine ⟨by kernel_rfl, ?_⟩; (conv => whnf)) | (refine ⟨fun _ => ?_, fun h => absurd h (by first | decide | (simp; done) | fail)⟩; (conv => whnf)) | (refine ⟨fun h => absurd h (by first | decide | (simp; done) | fail), fun _ => ?_⟩; (conv => whnf)) | ((with_reducible refine And.intro (a := _ = true → _) (b := _ = false → _) (fun hh => ?_) (fun hh => ?_)) <;> (try simp only [decide_eq_true_eq, decide_eq_false_iff_not, Bool.or_eq_true, Bool.and_eq_true, Bool.or_eq_false_iff, Bool.and_eq_false_iff, Bool.not_eq_true', Bool.not_eq_false', ge_iff_le, gt_iff_lt] at hh) <;> (first | (exfalso; omega) | (conv => whnf))) | fail))
      rfl
    · have cc := pc_Compare (s1, s2) (t1, t2) (v.1 _ rfl) (v.2 _ rfl)
      have e3 : endN (some (s1, s2), some (t1, t2)) = if 0 < cmpF (s1, s2) (t1, t2) then (z4, false, false) else (((s1, s2), (t1, t2)), true, true) := rfl
      rw [e3]
      generalize cmpF (s1, s2) (t1, t2) = c at *
      with_reducible rw [e1]
      (conv => whnf)
      (repeat' (first | (refine ⟨by kernel_rfl, ?_⟩; (conv => whnf)) | fail))
      (repeat' (first | (refine ⟨_, by first | with_reducible exact cc, ?_⟩; (conv => whnf)) | (refine Or.inl ?_; (conv => whnf); refine ⟨_, by first | with_reducible exact cc, ?_⟩; (conv => whnf)) | (refine Or.inl ?_; (conv => whnf); refine ⟨false, ?_⟩; (conv => whnf); refine ⟨_, by first | with_reducible exact cc, ?_⟩; (conv => whnf)) | (refine ⟨by kernel_rfl, ?_⟩; (conv => whnf)) | (refine ⟨fun _ => ?_, fun h => absurd h (by first | decide | (simp; done) | fail)⟩; (conv => whnf)) | (refine ⟨fun h => absurd h (by first | decide | (simp; done) | fail), fun _ => ?_⟩; (conv => whnf)) | ((with_reducible refine And.intro (a := _ = true → _) (b := _ = false → _) (fun hh => ?_) (fun hh => ?_)) <;> (try simp only [decide_eq_true_eq, decide_eq_false_iff_not, Bool.or_eq_true, Bool.and_eq_true, Bool.or_eq_false_iff, Bool.and_eq_false_iff, Bool.not_eq_true', Bool.not_eq_false', ge_iff_le, gt_iff_lt] at hh) <;> (first | (exfalso; omega) | (conv => whnf))) | fail))
      · rw [if_pos (by assumption)]
      · rw [if_neg (by assumption)]
end Go.Proofs.Try.My
