/- A helper text: contracts of functions of the program, and plain lemmas. -/
import Derived.Test.YtanhmmiifbhcpaaMyLr3
set_option maxRecDepth 100000
set_option maxHeartbeats 0
set_option linter.unusedVariables false
set_option linter.unusedSimpArgs false
namespace Go.Proofs.Try.My
open Go Go.Ev

theorem getD_swp (l : List (Int × Int)) (i : Nat) : (l.map swp).getD i (0, 0) = swp (l.getD i (0, 0)) := by
  simp only [List.getD, List.getElem?_map]
  cases l[i]? <;> rfl
theorem okK_swp (l : List (Int × Int)) (i : Nat) : okK (l.map swp) i = okK l i := by
  rw [Bool.eq_iff_iff, okK_iff, okK_iff, getD_swp, getD_swp]
  simp only [swp]
  omega
theorem knotsB_swp (l : List (Int × Int)) : knotsB (l.map swp) = knotsB l := by
  have : okK (l.map swp) = okK l := funext fun i => okK_swp l i
  simp only [knotsB, this, List.length_map]
theorem atB_swp (l : List (Int × Int)) (x : Int × Int) : atB Prod.fst (l.map swp) x = atB Prod.snd l x := funext fun i => by
  simp only [atB, getD_swp, swp]
theorem mapF_swp (l : List (Int × Int)) (x : Int × Int) : mapF Prod.fst Prod.snd (l.map swp) x = mapF Prod.snd Prod.fst l x := by
  have e1 : firstK Prod.fst (l.map swp) x = firstK Prod.snd l x := by simp only [firstK, atB_swp, List.length_map]
  have e2 : mayB Prod.fst (l.map swp) x = mayB Prod.snd l x := by simp only [mayB, getD_swp, swp, List.length_map]
  have e3 : ∀ i, atF Prod.fst Prod.snd (l.map swp) x i = atF Prod.snd Prod.fst l x i := fun i => by simp only [atF, getD_swp, swp]
  simp only [mapF, e1, e2, e3]
theorem corF_swp (l : List (Int × Int)) (x : Int × Int) : corF Prod.fst Prod.snd (l.map swp) x = corF Prod.snd Prod.fst l x := by
  simp only [corF, knotsB_swp, mapF_swp]
theorem makeF_ok {n d : Int} (hd : d ≠ 0) (h1 : n.natAbs ≤ 4611686018427387903) (h2 : d.natAbs ≤ 4611686018427387903) : (makeF n d).2 = 0 := by
  have q1 : n.natAbs / Nat.gcd n.natAbs d.natAbs ≤ 4611686018427387903 := Nat.le_trans (Nat.div_le_self _ _) h1
  have q2 : d.natAbs / Nat.gcd n.natAbs d.natAbs ≤ 4611686018427387903 := Nat.le_trans (Nat.div_le_self _ _) h2
  simp only [makeF, hd, if_false, madeF, q1, q2, and_self, if_true]
theorem firstK_lt {l : List (Int × Int)} {sa st} (h : TabOk l sa st) {x : Int × Int} (hm : mayB sa l x = true) : max (firstK sa l x) 1 < l.length := by
  obtain ⟨hv, hd, hx0, hxl⟩ := mayB_iff hm
  have := firstK_le sa l x
  have := h.two
  by_cases e : firstK sa l x = l.length
  · have := firstK_below sa l x (l.length - 1) (by omega)
    simp only [atB, decide_eq_false_iff_not] at this
    omega
  · omega
theorem atF_ok {l : List (Int × Int)} {sa st} (h : TabOk l sa st) {x : Int × Int} (hm : mayB sa l x = true) (k : Nat) (hk : k + 1 < l.length) : (atF sa st l x k).2 = 0 := by
  obtain ⟨hv, hd, hx0, hxl⟩ := mayB_iff hm
  have hvv := (validB_iff x).1 hv
  have htwo := h.two
  have z0 := h.inA 0 (by omega)
  have zl := h.inA (l.length - 1) (by omega)
  have b0 := mul_bd (a := sa (l.getD 0 (0, 0))) (A := 4096) (b := x.2) (B := 1048576) z0.1 z0.2 (by omega) hd
  have bl := mul_bd (a := sa (l.getD (l.length - 1) (0, 0))) (A := 4096) (b := x.2) (B := 1048576) zl.1 zl.2 (by omega) hd
  have k1 := h.inA k (by omega)
  have k2 := h.inA (k + 1) hk
  have k3 := h.inT k (by omega)
  have k4 := h.inT (k + 1) hk
  have k5 := h.up k hk
  have bi := mul_bd (a := sa (l.getD k (0, 0))) (A := 4096) (b := x.2) (B := 1048576) k1.1 k1.2 (by omega) hd
  have d1 := mul_bd (a := sa (l.getD (k + 1) (0, 0)) - sa (l.getD k (0, 0))) (A := 8192) (b := x.2) (B := 1048576) (by omega) (by omega) (by omega) hd
  have d1' : 0 < (sa (l.getD (k + 1) (0, 0)) - sa (l.getD k (0, 0))) * x.2 := Int.mul_pos (by omega) (by omega)
  have d2 := mul_bd (a := st (l.getD k (0, 0))) (A := 4096) (b := (sa (l.getD (k + 1) (0, 0)) - sa (l.getD k (0, 0))) * x.2) (B := 8192 * 1048576) (by omega) (by omega) (by omega) (by omega)
  have d3 := mul_bd2 (a := x.1 - sa (l.getD k (0, 0)) * x.2) (A := 8589934592) (b := st (l.getD (k + 1) (0, 0)) - st (l.getD k (0, 0))) (B := 8192) (by omega) (by omega) (by omega) (by omega)
  exact makeF_ok (by omega) (by omega) (by omega)
theorem mapF_ok {l : List (Int × Int)} {sa st} (h : TabOk l sa st) {x : Int × Int} (hm : mayB sa l x = true) : mapF sa st l x = ((atF sa st l x (max (firstK sa l x) 1 - 1)).1, 0) := by
  have h1 := firstK_lt h hm
  have h2 := atF_ok h hm (max (firstK sa l x) 1 - 1) (by omega)
  simp only [mapF, hm, if_true]
  rw [← h2]
theorem pc_rCorrect (l : List (Int × Int)) (x : Int × Int) (hl : l.length < 2 ^ 32) (i1 : I64 x.1) (i2 : I64 x.2) : PC Try.prog 14 [frs l, fr x] (.tup [fr (corF Prod.fst Prod.snd l x).1, i64 (corF Prod.fst Prod.snd l x).2]) := by
  have c := pc_ValidKnots l (by omega)
  cases h : knotsB l
  · rw [h] at c
    have : corF Prod.fst Prod.snd l x = ((0, 0), 40) := by simp only [corF, h]; rfl
    rw [this]
    refine pc_of_body hm Try.func14 (by kernel_rfl) ?_
    conv => whnf
    (repeat' (first | (refine And.intro (a := _ = true → _) (b := _ = false → _) (fun hh => ?_) (fun hh => ?_) <;> (first | simp only [decide_eq_true_eq, decide_eq_false_iff_not, Bool.or_eq_true, Bool.and_eq_true, Bool.or_eq_false_iff, Bool.and_eq_false_iff, Bool.not_eq_true', Bool.not_eq_false', ge_iff_le, gt_iff_lt] at hh | skip) <;> (first | (exfalso; omega) | (exfalso; simp [*] at hh; done) | exact absurd (by assumption) hh | (conv => whnf))) | (refine ⟨by kernel_rfl, ?_⟩; (conv => whnf)) | (refine And.intro (a := _ ∧ _) ⟨by omega, by omega⟩ ?_; (conv => whnf)) | (refine And.intro (a := _ ≤ _) (by omega) ?_; (conv => whnf)) | (refine And.intro (a := _ ≠ _) (by omega) ?_; (conv => whnf)) | (refine Or.inl ?_; (conv => whnf); first | (refine ⟨_, by first | exact c, ?_⟩; (conv => whnf)) | (refine ⟨false, ?_⟩; (conv => whnf); refine ⟨_, by first | exact c, ?_⟩; (conv => whnf))) | (refine ⟨_, by first | exact c, ?_⟩; (conv => whnf))))
    all_goals simp
  · rw [h] at c
    have c2 := pc_On l x (tab_at h) i1 i2
    have hc : corF Prod.fst Prod.snd l x = mapF Prod.fst Prod.snd l x := by simp only [corF, h, if_true]
    rw [hc]
    cases hm2 : mayB Prod.fst l x
    · rw [hm2] at c2
      have : mapF Prod.fst Prod.snd l x = ((0, 0), 2) := by simp only [mapF, hm2]; rfl
      rw [this]
      refine pc_of_body hm Try.func14 (by kernel_rfl) ?_
      conv => whnf
      (repeat' (first | (refine And.intro (a := _ = true → _) (b := _ = false → _) (fun hh => ?_) (fun hh => ?_) <;> (first | simp only [decide_eq_true_eq, decide_eq_false_iff_not, Bool.or_eq_true, Bool.and_eq_true, Bool.or_eq_false_iff, Bool.and_eq_false_iff, Bool.not_eq_true', Bool.not_eq_false', ge_iff_le, gt_iff_lt] at hh | skip) <;> (first | (exfalso; omega) | (exfalso; simp [*] at hh; done) | exact absurd (by assumption) hh | (conv => whnf))) | (refine ⟨by kernel_rfl, ?_⟩; (conv => whnf)) | (refine And.intro (a := _ ∧ _) ⟨by omega, by omega⟩ ?_; (conv => whnf)) | (refine And.intro (a := _ ≤ _) (by omega) ?_; (conv => whnf)) | (refine And.intro (a := _ ≠ _) (by omega) ?_; (conv => whnf)) | (refine Or.inl ?_; (conv => whnf); first | (refine ⟨_, by first | exact c | exact c2, ?_⟩; (conv => whnf)) | (refine ⟨false, ?_⟩; (conv => whnf); refine ⟨_, by first | exact c | exact c2, ?_⟩; (conv => whnf))) | (refine ⟨_, by first | exact c | exact c2, ?_⟩; (conv => whnf))))
      all_goals simp
    · rw [hm2] at c2
      have c3 := pc_Corrected l x (tab_at h) hm2
      rw [mapF_ok (tab_at h) hm2]
      refine pc_of_body hm Try.func14 (by kernel_rfl) ?_
      conv => whnf
      (repeat' (first | (refine And.intro (a := _ = true → _) (b := _ = false → _) (fun hh => ?_) (fun hh => ?_) <;> (first | simp only [decide_eq_true_eq, decide_eq_false_iff_not, Bool.or_eq_true, Bool.and_eq_true, Bool.or_eq_false_iff, Bool.and_eq_false_iff, Bool.not_eq_true', Bool.not_eq_false', ge_iff_le, gt_iff_lt] at hh | skip) <;> (first | (exfalso; omega) | (exfalso; simp [*] at hh; done) | exact absurd (by assumption) hh | (conv => whnf))) | (refine ⟨by kernel_rfl, ?_⟩; (conv => whnf)) | (refine And.intro (a := _ ∧ _) ⟨by omega, by omega⟩ ?_; (conv => whnf)) | (refine And.intro (a := _ ≤ _) (by omega) ?_; (conv => whnf)) | (refine And.intro (a := _ ≠ _) (by omega) ?_; (conv => whnf)) | (refine Or.inl ?_; (conv => whnf); first | (refine ⟨_, by first | exact c | exact c2 | exact c3, ?_⟩; (conv => whnf)) | (refine ⟨false, ?_⟩; (conv => whnf); refine ⟨_, by first | exact c | exact c2 | exact c3, ?_⟩; (conv => whnf))) | (refine ⟨_, by first | exact c | exact c2 | exact c3, ?_⟩; (conv => whnf))))
      all_goals simp
theorem pc_rDistort (l : List (Int × Int)) (x : Int × Int) (hl : l.length < 2 ^ 32) (i1 : I64 x.1) (i2 : I64 x.2) : PC Try.prog 16 [frs l, fr x] (.tup [fr (corF Prod.snd Prod.fst l x).1, i64 (corF Prod.snd Prod.fst l x).2]) := by
  have c := pc_ValidKnots l (by omega)
  cases h : knotsB l
  · rw [h] at c
    have : corF Prod.snd Prod.fst l x = ((0, 0), 40) := by simp only [corF, h]; rfl
    rw [this]
    refine pc_of_body hm Try.func16 (by kernel_rfl) ?_
    conv => whnf
    (repeat' (first | (refine And.intro (a := _ = true → _) (b := _ = false → _) (fun hh => ?_) (fun hh => ?_) <;> (first | simp only [decide_eq_true_eq, decide_eq_false_iff_not, Bool.or_eq_true, Bool.and_eq_true, Bool.or_eq_false_iff, Bool.and_eq_false_iff, Bool.not_eq_true', Bool.not_eq_false', ge_iff_le, gt_iff_lt] at hh | skip) <;> (first | (exfalso; omega) | (exfalso; simp [*] at hh; done) | exact absurd (by assumption) hh | (conv => whnf))) | (refine ⟨by kernel_rfl, ?_⟩; (conv => whnf)) | (refine And.intro (a := _ ∧ _) ⟨by omega, by omega⟩ ?_; (conv => whnf)) | (refine And.intro (a := _ ≤ _) (by omega) ?_; (conv => whnf)) | (refine And.intro (a := _ ≠ _) (by omega) ?_; (conv => whnf)) | (refine Or.inl ?_; (conv => whnf); first | (refine ⟨_, by first | exact c, ?_⟩; (conv => whnf)) | (refine ⟨false, ?_⟩; (conv => whnf); refine ⟨_, by first | exact c, ?_⟩; (conv => whnf))) | (refine ⟨_, by first | exact c, ?_⟩; (conv => whnf))))
    all_goals simp
  · rw [h] at c
    have c2 := pc_turned l hl
    have c3 := pc_rCorrect (l.map swp) x (by simpa using hl) i1 i2
    rw [corF_swp] at c3
    refine pc_of_body hm Try.func16 (by kernel_rfl) ?_
    conv => whnf
    (repeat' (first | (refine And.intro (a := _ = true → _) (b := _ = false → _) (fun hh => ?_) (fun hh => ?_) <;> (first | simp only [decide_eq_true_eq, decide_eq_false_iff_not, Bool.or_eq_true, Bool.and_eq_true, Bool.or_eq_false_iff, Bool.and_eq_false_iff, Bool.not_eq_true', Bool.not_eq_false', ge_iff_le, gt_iff_lt] at hh | skip) <;> (first | (exfalso; omega) | (exfalso; simp [*] at hh; done) | exact absurd (by assumption) hh | (conv => whnf))) | (refine ⟨by kernel_rfl, ?_⟩; (conv => whnf)) | (refine And.intro (a := _ ∧ _) ⟨by omega, by omega⟩ ?_; (conv => whnf)) | (refine And.intro (a := _ ≤ _) (by omega) ?_; (conv => whnf)) | (refine And.intro (a := _ ≠ _) (by omega) ?_; (conv => whnf)) | (refine Or.inl ?_; (conv => whnf); first | (refine ⟨_, by first | exact c | exact c2 | exact c3, ?_⟩; (conv => whnf)) | (refine ⟨false, ?_⟩; (conv => whnf); refine ⟨_, by first | exact c | exact c2 | exact c3, ?_⟩; (conv => whnf))) | (refine ⟨_, by first | exact c | exact c2 | exact c3, ?_⟩; (conv => whnf))))
    all_goals skip
    all_goals simp
theorem pc_rCorrectSpan (l : List (Int × Int)) (s : SpT) (hl : l.length < 2 ^ 32) (i1 : I64 s.1.1) (i2 : I64 s.1.2) (i3 : I64 s.2.1) (i4 : I64 s.2.2) : PC Try.prog 18 [frs l, sp s] (.tup [sp (corS l s).1, i64 (corS l s).2]) := by
  have c := pc_ValidKnots l (by omega)
  have c2 := pc_rValidSpan s i1 i2 i3 i4
  cases h : knotsB l
  · rw [h] at c
    have : corS l s = (((0, 0), (0, 0)), 40) := by simp only [corS, h]; rfl
    rw [this]
    refine pc_of_body hm Try.func18 (by kernel_rfl) ?_
    conv => whnf
    (repeat' (first | (refine And.intro (a := _ = true → _) (b := _ = false → _) (fun hh => ?_) (fun hh => ?_) <;> (first | simp only [decide_eq_true_eq, decide_eq_false_iff_not, Bool.or_eq_true, Bool.and_eq_true, Bool.or_eq_false_iff, Bool.and_eq_false_iff, Bool.not_eq_true', Bool.not_eq_false', ge_iff_le, gt_iff_lt] at hh | skip) <;> (first | (exfalso; omega) | (exfalso; simp [*] at hh; done) | exact absurd (by assumption) hh | (conv => whnf))) | (refine ⟨by kernel_rfl, ?_⟩; (conv => whnf)) | (refine And.intro (a := _ ∧ _) ⟨by omega, by omega⟩ ?_; (conv => whnf)) | (refine And.intro (a := _ ≤ _) (by omega) ?_; (conv => whnf)) | (refine And.intro (a := _ ≠ _) (by omega) ?_; (conv => whnf)) | (refine Or.inl ?_; (conv => whnf); first | (refine ⟨_, by first | exact c, ?_⟩; (conv => whnf)) | (refine ⟨false, ?_⟩; (conv => whnf); refine ⟨_, by first | exact c, ?_⟩; (conv => whnf))) | (refine ⟨_, by first | exact c, ?_⟩; (conv => whnf))))
    all_goals simp
  · rw [h] at c
    have c3 := pc_On l s.1 (tab_at h) i1 i2
    have c4 := pc_On l s.2 (tab_at h) i3 i4
    have hd : corS l s = if spanB s && decide ((mapF Prod.fst Prod.snd l s.1).2 = 0) && decide ((mapF Prod.fst Prod.snd l s.2).2 = 0) then (((mapF Prod.fst Prod.snd l s.1).1, (mapF Prod.fst Prod.snd l s.2).1), 0) else (((0, 0), (0, 0)), 2) := by simp only [corS, h, if_true]
    rw [hd]
    have no : ∀ x, mayB Prod.fst l x = false → decide ((mapF Prod.fst Prod.snd l x).2 = 0) = false := fun x hx => by simp [mapF, hx]
    cases h2 : spanB s
    · rw [h2] at c2
      simp only [Bool.false_and]
      refine pc_of_body hm Try.func18 (by kernel_rfl) ?_
      conv => whnf
      (repeat' (first | (refine And.intro (a := _ = true → _) (b := _ = false → _) (fun hh => ?_) (fun hh => ?_) <;> (first | simp only [decide_eq_true_eq, decide_eq_false_iff_not, Bool.or_eq_true, Bool.and_eq_true, Bool.or_eq_false_iff, Bool.and_eq_false_iff, Bool.not_eq_true', Bool.not_eq_false', ge_iff_le, gt_iff_lt] at hh | skip) <;> (first | (exfalso; omega) | (exfalso; simp [*] at hh; done) | exact absurd (by assumption) hh | (conv => whnf))) | (refine ⟨by kernel_rfl, ?_⟩; (conv => whnf)) | (refine And.intro (a := _ ∧ _) ⟨by omega, by omega⟩ ?_; (conv => whnf)) | (refine And.intro (a := _ ≤ _) (by omega) ?_; (conv => whnf)) | (refine And.intro (a := _ ≠ _) (by omega) ?_; (conv => whnf)) | (refine Or.inl ?_; (conv => whnf); first | (refine ⟨_, by first | exact c | exact c2, ?_⟩; (conv => whnf)) | (refine ⟨false, ?_⟩; (conv => whnf); refine ⟨_, by first | exact c | exact c2, ?_⟩; (conv => whnf))) | (refine ⟨_, by first | exact c | exact c2, ?_⟩; (conv => whnf))))
      all_goals simp
    · rw [h2] at c2
      cases h3 : mayB Prod.fst l s.1
      · rw [h3] at c3
        rw [no _ h3]
        simp only [Bool.false_and, Bool.and_false]
        refine pc_of_body hm Try.func18 (by kernel_rfl) ?_
        conv => whnf
        (repeat' (first | (refine And.intro (a := _ = true → _) (b := _ = false → _) (fun hh => ?_) (fun hh => ?_) <;> (first | simp only [decide_eq_true_eq, decide_eq_false_iff_not, Bool.or_eq_true, Bool.and_eq_true, Bool.or_eq_false_iff, Bool.and_eq_false_iff, Bool.not_eq_true', Bool.not_eq_false', ge_iff_le, gt_iff_lt] at hh | skip) <;> (first | (exfalso; omega) | (exfalso; simp [*] at hh; done) | exact absurd (by assumption) hh | (conv => whnf))) | (refine ⟨by kernel_rfl, ?_⟩; (conv => whnf)) | (refine And.intro (a := _ ∧ _) ⟨by omega, by omega⟩ ?_; (conv => whnf)) | (refine And.intro (a := _ ≤ _) (by omega) ?_; (conv => whnf)) | (refine And.intro (a := _ ≠ _) (by omega) ?_; (conv => whnf)) | (refine Or.inl ?_; (conv => whnf); first | (refine ⟨_, by first | exact c | exact c2 | exact c3, ?_⟩; (conv => whnf)) | (refine ⟨false, ?_⟩; (conv => whnf); refine ⟨_, by first | exact c | exact c2 | exact c3, ?_⟩; (conv => whnf))) | (refine ⟨_, by first | exact c | exact c2 | exact c3, ?_⟩; (conv => whnf))))
        all_goals simp
      · rw [h3] at c3
        cases h4 : mayB Prod.fst l s.2
        · rw [h4] at c4
          rw [no _ h4]
          simp only [Bool.false_and, Bool.and_false]
          refine pc_of_body hm Try.func18 (by kernel_rfl) ?_
          conv => whnf
          (repeat' (first | (refine And.intro (a := _ = true → _) (b := _ = false → _) (fun hh => ?_) (fun hh => ?_) <;> (first | simp only [decide_eq_true_eq, decide_eq_false_iff_not, Bool.or_eq_true, Bool.and_eq_true, Bool.or_eq_false_iff, Bool.and_eq_false_iff, Bool.not_eq_true', Bool.not_eq_false', ge_iff_le, gt_iff_lt] at hh | skip) <;> (first | (exfalso; omega) | (exfalso; simp [*] at hh; done) | exact absurd (by assumption) hh | (conv => whnf))) | (refine ⟨by kernel_rfl, ?_⟩; (conv => whnf)) | (refine And.intro (a := _ ∧ _) ⟨by omega, by omega⟩ ?_; (conv => whnf)) | (refine And.intro (a := _ ≤ _) (by omega) ?_; (conv => whnf)) | (refine And.intro (a := _ ≠ _) (by omega) ?_; (conv => whnf)) | (refine Or.inl ?_; (conv => whnf); first | (refine ⟨_, by first | exact c | exact c2 | exact c3 | exact c4, ?_⟩; (conv => whnf)) | (refine ⟨false, ?_⟩; (conv => whnf); refine ⟨_, by first | exact c | exact c2 | exact c3 | exact c4, ?_⟩; (conv => whnf))) | (refine ⟨_, by first | exact c | exact c2 | exact c3 | exact c4, ?_⟩; (conv => whnf))))
          all_goals simp
        · rw [h4] at c4
          rw [mapF_ok (tab_at h) h3, mapF_ok (tab_at h) h4]
          have c5 := pc_Corrected l s.1 (tab_at h) h3
          have c6 := pc_Corrected l s.2 (tab_at h) h4
          refine pc_of_body hm Try.func18 (by kernel_rfl) ?_
          conv => whnf
          (repeat' (first | (refine And.intro (a := _ = true → _) (b := _ = false → _) (fun hh => ?_) (fun hh => ?_) <;> (first | simp only [decide_eq_true_eq, decide_eq_false_iff_not, Bool.or_eq_true, Bool.and_eq_true, Bool.or_eq_false_iff, Bool.and_eq_false_iff, Bool.not_eq_true', Bool.not_eq_false', ge_iff_le, gt_iff_lt] at hh | skip) <;> (first | (exfalso; omega) | (exfalso; simp [*] at hh; done) | exact absurd (by assumption) hh | (conv => whnf))) | (refine ⟨by kernel_rfl, ?_⟩; (conv => whnf)) | (refine And.intro (a := _ ∧ _) ⟨by omega, by omega⟩ ?_; (conv => whnf)) | (refine And.intro (a := _ ≤ _) (by omega) ?_; (conv => whnf)) | (refine And.intro (a := _ ≠ _) (by omega) ?_; (conv => whnf)) | (refine Or.inl ?_; (conv => whnf); first | (refine ⟨_, by first | exact c | exact c2 | exact c3 | exact c4 | exact c5 | exact c6, ?_⟩; (conv => whnf)) | (refine ⟨false, ?_⟩; (conv => whnf); refine ⟨_, by first | exact c | exact c2 | exact c3 | exact c4 | exact c5 | exact c6, ?_⟩; (conv => whnf))) | (refine ⟨_, by first | exact c | exact c2 | exact c3 | exact c4 | exact c5 | exact c6, ?_⟩; (conv => whnf))))
          all_goals simp
end Go.Proofs.Try.My
