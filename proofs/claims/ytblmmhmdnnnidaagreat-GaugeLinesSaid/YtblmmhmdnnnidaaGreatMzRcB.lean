/- A helper text: contracts of functions of the program, and plain lemmas. -/
import Derived.Test.YtblmmhmdnnnidaaGreatEvSix
import Derived.Test.YtblmmhmdnnnidaaGreatMzRcA
import Derived.Test.YtblmmhmdnnnidaaGreatMzPf
import Derived.Test.YtblmmhmdnnnidaaGreatMzLvB
set_option maxRecDepth 100000
set_option maxHeartbeats 0
set_option linter.unusedVariables false
set_option linter.unusedSimpArgs false
namespace Go.Proofs.Tryz.My
open Go Go.Ev

abbrev prs (l : List PrT) : AV := .sl 3 z3 eP3 l
theorem filt_step (f : PrT → Bool) (L : List PrT) {q : Nat} (hq : q < L.length) : (L.take (q + 1)).filter f = (L.take q).filter f ++ (if f (L.getD q z3) then [L.getD q z3] else []) := by
  rw [List.take_succ_eq_append_getElem hq, List.filter_append]
  congr 1
  simp only [List.getD, List.getElem?_eq_getElem hq, Option.getD_some, List.filter_cons, List.filter_nil]
theorem filt_len (f : PrT → Bool) (L : List PrT) (q : Nat) (h : L.length ≤ 4) : ((L.take q).filter f).length ≤ 4 := by
  have := List.length_filter_le f (L.take q)
  rw [List.length_take] at this
  omega
theorem pc_rCorners (l : List SpT) (hl : l.length ≤ 12) (hv : ∀ v ∈ l, viewB v = true) : PC Tryz.prog 44 [vws l] (prs (corL l)) := by
  have hg : ∀ k, k < l.length → viewB (l.getD k z4) = true := fun k hk => hv _ (by
    simp only [List.getD, List.getElem?_eq_getElem hk, Option.getD_some]
    exact List.getElem_mem hk)
  have szO : ∀ v w, (corO l v w).length ≤ 4 := fun v w => by
    unfold corO
    split
    · simp
    · exact Nat.le_trans (List.length_filter_le _ _) (by simp [fourP])
  have szI : ∀ i, (corI l i).length ≤ i * 4 := fun i => by
    have := flat_len_le (fun k => corO l (l.getD i z4) (l.getD k z4)) (List.range i) 4 (fun k => szO _ _)
    rw [List.length_range] at this
    exact this
  have szL : ∀ i, i ≤ 12 → ((List.range i).flatMap (corI l)).length ≤ i * 48 := fun i hi => by
    induction i with
    | zero => simp
    | succ n ih =>
      rw [List.range_succ, List.flatMap_append, List.length_append]
      have := ih (by omega)
      have := szI n
      show _ + (corI l n ++ []).length ≤ _
      rw [List.append_nil]
      omega
  refine pc_of_bodyF hm Tryz.func44 (by kernel_rfl) ?_
  conv => whnf
  refine Or.inr ⟨Nat, [4], [], [(3, ⟨PrT, 125, 3, z3, eP3⟩)], fun i => [i64 i], fun _ => [], fun i => [.vec 125 3 z3 eP3 ((List.range i).flatMap (corI l))], fun i => l.length - i, fun i => i ≤ l.length, ?_⟩
  (conv => whnf)
  refine ⟨⟨0, ?_⟩, ?_⟩
  · (conv => whnf)
    exact ⟨⟨Nat.zero_le _, rfl, rfl, rfl⟩, by kernel_rfl, by kernel_rfl⟩
  · intro i hi
    (conv => whnf)
    refine ⟨fun h => ?_, fun h => ?_⟩
    · have h := of_decide_eq_true h
      have h' : i < l.length := Int.ofNat_lt.1 h
      (conv => whnf)
      refine Or.inr ⟨Nat, [5], [], [(3, ⟨PrT, 125, 3, z3, eP3⟩)], fun k => [i64 k], fun _ => [], fun k => [.vec 125 3 z3 eP3 ((List.range i).flatMap (corI l) ++ (List.range k).flatMap fun k => corO l (l.getD i z4) (l.getD k z4))], fun k => i - k, fun k => k ≤ i, ?_⟩
      (conv => whnf)
      refine ⟨⟨0, ?_⟩, ?_⟩
      · (conv => whnf)
        refine ⟨⟨Nat.zero_le _, rfl, rfl, ?_⟩, by kernel_rfl, by kernel_rfl⟩
        show [Row.vec _ 3 z3 eP3 ((List.range i).flatMap (corI l))] = [Row.vec _ 3 z3 eP3 ((List.range i).flatMap (corI l) ++ [])]
        rw [List.append_nil]
      · intro k hk
        (conv => whnf)
        refine ⟨fun hh => ?_, fun hh => ?_⟩
        · have hh := of_decide_eq_true hh
          have hk' : k < i := Int.ofNat_lt.1 hh
          obtain ⟨v, hv0⟩ : ∃ v, l.getD i z4 = v := ⟨_, rfl⟩
          obtain ⟨w, hw0⟩ : ∃ w, l.getD k z4 = w := ⟨_, rfl⟩
          have gv : viewB v = true := by rw [← hv0]; exact hg i h'
          have gw : viewB w = true := by rw [← hw0]; exact hg k (by omega)
          rw [hv0]
          have vi := (viewB_iff v).1 gv
          have vk := (viewB_iff w).1 gw
          have n1 := mul_pm (a := (v).1.1) (b := (w).1.2) (A := 1000) (B := 1000) (by omega) (by omega) (by omega) (by omega)
          have n2 := mul_pm (a := (w).1.1) (b := (v).1.2) (A := 1000) (B := 1000) (by omega) (by omega) (by omega) (by omega)
          have w1 := w64 ((v).1.1 * (w).1.2) (by omega) (by omega)
          have w2 := w64 ((w).1.1 * (v).1.2) (by omega) (by omega)
          have m1 := pc_rmet (v) (w) (v).2.1 (w).2.1 gv gw (by omega) (by omega)
          have m2 := pc_rmet (v) (w) (v).2.1 (w).2.2 gv gw (by omega) (by omega)
          have m3 := pc_rmet (v) (w) (v).2.2 (w).2.1 gv gw (by omega) (by omega)
          have m4 := pc_rmet (v) (w) (v).2.2 (w).2.2 gv gw (by omega) (by omega)
          have ka := fun p hp => pc_rAll p l (by omega) hv hp
          have o1 := (metP_ok (v := v) (w := w) (a := (v).2.1) (b := (w).2.1) gv gw (by omega) (by omega)).1
          have o2 := (metP_ok (v := v) (w := w) (a := (v).2.1) (b := (w).2.2) gv gw (by omega) (by omega)).1
          have o3 := (metP_ok (v := v) (w := w) (a := (v).2.2) (b := (w).2.1) gv gw (by omega) (by omega)).1
          have o4 := (metP_ok (v := v) (w := w) (a := (v).2.2) (b := (w).2.2) gv gw (by omega) (by omega)).1
          have a1 := ka _ o1
          have a2 := ka _ o2
          have a3 := ka _ o3
          have a4 := ka _ o4
          have nxt : (List.range (k + 1)).flatMap (fun k => corO l v (l.getD k z4)) = (List.range k).flatMap (fun k => corO l v (l.getD k z4)) ++ corO l (v) (w) := by
            rw [List.range_succ, List.flatMap_append, ← hw0]; simp
          have hsz : ((List.range i).flatMap (corI l) ++ (List.range k).flatMap fun k => corO l v (l.getD k z4)).length ≤ 700 := by
            rw [List.length_append]
            have := szL i (by omega)
            have := flat_len_le (fun k => corO l v (l.getD k z4)) (List.range k) 4 (fun k => szO _ _)
            rw [List.length_range] at this
            omega
          generalize hB : ((List.range i).flatMap (corI l) ++ (List.range k).flatMap fun k => corO l v (l.getD k z4)) = B at *
          have nxt2 : (List.range i).flatMap (corI l) ++ (List.range (k + 1)).flatMap (fun k => corO l v (l.getD k z4)) = B ++ corO l (v) (w) := by
            rw [nxt, ← List.append_assoc, hB]
          have hco : corO l (v) (w) = if (v).1.1 * (w).1.2 = (w).1.1 * (v).1.2 then [] else [metP (v) (w) (v).2.1 (w).2.1, metP (v) (w) (v).2.1 (w).2.2, metP (v) (w) (v).2.2 (w).2.1, metP (v) (w) (v).2.2 (w).2.2].filter fun p => l.all (fulB p) := rfl
          clear hB nxt ka o1 o2 o3 o4 n1 n2 vi vk hg szO szI szL gv gw
          have hv1 : l.getD (Int.toNat (i : Int)) z4 = v := hv0
          have hw1 : l.getD (Int.toNat (k : Int)) z4 = w := hw0
          (conv => whnf)
          (repeat' (first | (refine ⟨by kernel_rfl, ?_⟩; (conv => whnf)) | (refine And.intro (a := _ ∧ _) ⟨by omega, by omega⟩ ?_; (conv => whnf))))
          rw [hv1, hw1]
          by_cases hs : v.1.1 * w.1.2 = w.1.1 * v.1.2
          · refine ⟨fun _ => ?_, fun h => absurd (show IntKind.i64.wrap (v.1.1 * w.1.2) = IntKind.i64.wrap (w.1.1 * v.1.2) by rw [w1, w2]; exact hs) (of_decide_eq_false h)⟩
            (conv => whnf)
            refine ⟨k + 1, ?_⟩
            (conv => whnf)
            refine ⟨⟨⟨Nat.sub_lt_sub_left (by omega) (Nat.lt_succ_self k), by omega⟩, ?_, rfl, ?_⟩, by kernel_rfl, by kernel_rfl⟩
            · rw [w64 _ (by omega) (by omega)]; rfl
            · show [Row.vec _ 3 z3 eP3 B] = [Row.vec _ 3 z3 eP3 ((List.range i).flatMap (corI l) ++ (List.range (k + 1)).flatMap fun k => corO l v (l.getD k z4))]
              rw [nxt2, hco, if_pos hs, List.append_nil]
          · rw [if_neg hs] at hco
            refine ⟨fun h => absurd (show v.1.1 * w.1.2 = w.1.1 * v.1.2 by have k := of_decide_eq_true h; rw [show IntKind.i64.wrap (v.1.1 * w.1.2) = v.1.1 * w.1.2 from w1, show IntKind.i64.wrap (w.1.1 * v.1.2) = w.1.1 * v.1.2 from w2] at k; exact k) hs, fun _ => ?_⟩
            obtain ⟨P1, hP1⟩ : ∃ P, metP v w v.2.1 w.2.1 = P := ⟨_, rfl⟩
            obtain ⟨P2, hP2⟩ : ∃ P, metP v w v.2.1 w.2.2 = P := ⟨_, rfl⟩
            obtain ⟨P3, hP3⟩ : ∃ P, metP v w v.2.2 w.2.1 = P := ⟨_, rfl⟩
            obtain ⟨P4, hP4⟩ : ∃ P, metP v w v.2.2 w.2.2 = P := ⟨_, rfl⟩
            rw [hP1, hP2, hP3, hP4] at hco
            rw [hP1] at a1 m1
            rw [hP2] at a2 m2
            rw [hP3] at a3 m3
            rw [hP4] at a4 m4
            clear hP1 hP2 hP3 hP4
            (conv => whnf)
            (repeat' (first | (refine ⟨_, by first | with_reducible exact m1 | with_reducible exact m2 | with_reducible exact m3 | with_reducible exact m4, ?_⟩; (conv => whnf)) | (refine Or.inl ?_; (conv => whnf); refine ⟨_, by first | with_reducible exact m1 | with_reducible exact m2 | with_reducible exact m3 | with_reducible exact m4, ?_⟩; (conv => whnf)) | (refine Or.inl ?_; (conv => whnf); refine ⟨false, ?_⟩; (conv => whnf); refine ⟨_, by first | with_reducible exact m1 | with_reducible exact m2 | with_reducible exact m3 | with_reducible exact m4, ?_⟩; (conv => whnf)) | (refine ⟨by kernel_rfl, ?_⟩; (conv => whnf)) | fail))
            clear m1 m2 m3 m4
            have hlen : ∀ q, (B ++ ([P1, P2, P3, P4].take q).filter (fun p => l.all (fulB p))).length ≤ 704 := fun q => by
              rw [List.length_append]
              have := filt_len (fun p => l.all (fulB p)) [P1, P2, P3, P4] q (by simp)
              omega
            have hst := fun q hq => filt_step (fun p => l.all (fulB p)) [P1, P2, P3, P4] (q := q) hq
            refine Or.inr ⟨Nat, [9], [], [(3, ⟨PrT, 125, 3, z3, eP3⟩)], fun q => [i64 q], fun _ => [], fun q => [.vec 125 3 z3 eP3 (B ++ ([P1, P2, P3, P4].take q).filter (fun p => l.all (fulB p)))], fun q => 4 - q, fun q => q ≤ 4, ?_⟩
            (conv => whnf)
            refine ⟨⟨0, ?_⟩, ?_⟩
            · (conv => whnf)
              refine ⟨⟨Nat.zero_le _, rfl, rfl, ?_⟩, by kernel_rfl, by kernel_rfl⟩
              show [Row.vec _ 3 z3 eP3 B] = [Row.vec _ 3 z3 eP3 (B ++ [])]
              rw [List.append_nil]
            · intro q hq
              (conv => whnf)
              refine ⟨fun h4 => ?_, fun h4 => ?_⟩
              · have h4 := of_decide_eq_true h4
                have hq' : q = 0 ∨ q = 1 ∨ q = 2 ∨ q = 3 := by
                  have : (q : Int) < 4 := h4
                  omega
                have hst := hst q (by simp; omega)
                have hlen := hlen q
                rcases hq' with rfl | rfl | rfl | rfl
                · have e0 : [P1, P2, P3, P4].getD 0 z3 = P1 := rfl
                  rw [e0] at hst
                  generalize ([P1, P2, P3, P4].take 0).filter (fun p => l.all (fulB p)) = F0 at *
                  generalize hbb : l.all (fulB P1) = b at *
                  (conv => whnf)
                  refine ⟨⟨by decide, by show ((0 : Nat) : Int) < ((4 : Nat) : Int); decide⟩, ?_⟩
                  (conv => whnf)
                  (repeat' (first | (refine ⟨_, by first | exact a1, ?_⟩; (conv => whnf)) | (refine Or.inl ?_; (conv => whnf); refine ⟨_, by first | exact a1, ?_⟩; (conv => whnf)) | (refine Or.inl ?_; (conv => whnf); refine ⟨false, ?_⟩; (conv => whnf); refine ⟨_, by first | exact a1, ?_⟩; (conv => whnf)) | (refine ⟨by kernel_rfl, ?_⟩; (conv => whnf)) | fail))
                  cases b
                  · (repeat' (first | (refine ⟨by kernel_rfl, ?_⟩; (conv => whnf)) | (refine ⟨fun _ => ?_, fun h => absurd h (by first | decide | (simp; done) | fail)⟩; (conv => whnf)) | (refine ⟨fun h => absurd h (by first | decide | (simp; done) | fail), fun _ => ?_⟩; (conv => whnf)) | fail))
                    (conv => whnf)
                    refine ⟨1, ?_⟩
                    (conv => whnf)
                    refine ⟨⟨⟨by decide, by decide⟩, ?_, rfl, ?_⟩, by kernel_rfl, by kernel_rfl⟩
                    · first | rfl | (rw [w64 _ (by omega) (by omega)]; rfl)
                    · show [Row.vec _ 3 z3 eP3 (B ++ F0)] = [Row.vec _ 3 z3 eP3 (B ++ ([P1, P2, P3, P4].take (0 + 1)).filter (fun p => l.all (fulB p)))]
                      rw [hst]
                      simp
                  · (repeat' (first | (refine ⟨by kernel_rfl, ?_⟩; (conv => whnf)) | (refine ⟨fun _ => ?_, fun h => absurd h (by first | decide | (simp; done) | fail)⟩; (conv => whnf)) | (refine ⟨fun h => absurd h (by first | decide | (simp; done) | fail), fun _ => ?_⟩; (conv => whnf)) | fail))
                    refine ⟨⟨by decide, by show ((0 : Nat) : Int) < ((4 : Nat) : Int); decide⟩, ?_⟩
                    (conv => whnf)
                    refine ⟨⟨PrT, 3, z3, eP3, B ++ F0⟩, [P1], rfl, rfl, ⟨rfl, rfl⟩, ?_, ?_, fun y _ => ⟨rfl, rfl, rfl⟩, ?_⟩
                    · show ((B ++ F0).length + 1) * 24 ≤ _; omega
                    · show (B ++ F0).length + 1 ≤ _; omega
                    (conv => whnf)
                    (repeat' (first | (refine ⟨by kernel_rfl, ?_⟩; (conv => whnf)) | fail))
                    (conv => whnf)
                    refine ⟨1, ?_⟩
                    (conv => whnf)
                    refine ⟨⟨⟨by decide, by decide⟩, ?_, rfl, ?_⟩, by kernel_rfl, by kernel_rfl⟩
                    · first | rfl | (rw [w64 _ (by omega) (by omega)]; rfl)
                    · show [Row.vec _ 3 z3 eP3 (B ++ F0 ++ [P1])] = [Row.vec _ 3 z3 eP3 (B ++ ([P1, P2, P3, P4].take (0 + 1)).filter (fun p => l.all (fulB p)))]
                      rw [hst, List.append_assoc]
                      simp
                · have e0 : [P1, P2, P3, P4].getD 1 z3 = P2 := rfl
                  rw [e0] at hst
                  generalize ([P1, P2, P3, P4].take 1).filter (fun p => l.all (fulB p)) = F0 at *
                  generalize hbb : l.all (fulB P2) = b at *
                  (conv => whnf)
                  refine ⟨⟨by decide, by show ((1 : Nat) : Int) < ((4 : Nat) : Int); decide⟩, ?_⟩
                  (conv => whnf)
                  (repeat' (first | (refine ⟨_, by first | exact a2, ?_⟩; (conv => whnf)) | (refine Or.inl ?_; (conv => whnf); refine ⟨_, by first | exact a2, ?_⟩; (conv => whnf)) | (refine Or.inl ?_; (conv => whnf); refine ⟨false, ?_⟩; (conv => whnf); refine ⟨_, by first | exact a2, ?_⟩; (conv => whnf)) | (refine ⟨by kernel_rfl, ?_⟩; (conv => whnf)) | fail))
                  cases b
                  · (repeat' (first | (refine ⟨by kernel_rfl, ?_⟩; (conv => whnf)) | (refine ⟨fun _ => ?_, fun h => absurd h (by first | decide | (simp; done) | fail)⟩; (conv => whnf)) | (refine ⟨fun h => absurd h (by first | decide | (simp; done) | fail), fun _ => ?_⟩; (conv => whnf)) | fail))
                    (conv => whnf)
                    refine ⟨2, ?_⟩
                    (conv => whnf)
                    refine ⟨⟨⟨by decide, by decide⟩, ?_, rfl, ?_⟩, by kernel_rfl, by kernel_rfl⟩
                    · first | rfl | (rw [w64 _ (by omega) (by omega)]; rfl)
                    · show [Row.vec _ 3 z3 eP3 (B ++ F0)] = [Row.vec _ 3 z3 eP3 (B ++ ([P1, P2, P3, P4].take (1 + 1)).filter (fun p => l.all (fulB p)))]
                      rw [hst]
                      simp
                  · (repeat' (first | (refine ⟨by kernel_rfl, ?_⟩; (conv => whnf)) | (refine ⟨fun _ => ?_, fun h => absurd h (by first | decide | (simp; done) | fail)⟩; (conv => whnf)) | (refine ⟨fun h => absurd h (by first | decide | (simp; done) | fail), fun _ => ?_⟩; (conv => whnf)) | fail))
                    refine ⟨⟨by decide, by show ((1 : Nat) : Int) < ((4 : Nat) : Int); decide⟩, ?_⟩
                    (conv => whnf)
                    refine ⟨⟨PrT, 3, z3, eP3, B ++ F0⟩, [P2], rfl, rfl, ⟨rfl, rfl⟩, ?_, ?_, fun y _ => ⟨rfl, rfl, rfl⟩, ?_⟩
                    · show ((B ++ F0).length + 1) * 24 ≤ _; omega
                    · show (B ++ F0).length + 1 ≤ _; omega
                    (conv => whnf)
                    (repeat' (first | (refine ⟨by kernel_rfl, ?_⟩; (conv => whnf)) | fail))
                    (conv => whnf)
                    refine ⟨2, ?_⟩
                    (conv => whnf)
                    refine ⟨⟨⟨by decide, by decide⟩, ?_, rfl, ?_⟩, by kernel_rfl, by kernel_rfl⟩
                    · first | rfl | (rw [w64 _ (by omega) (by omega)]; rfl)
                    · show [Row.vec _ 3 z3 eP3 (B ++ F0 ++ [P2])] = [Row.vec _ 3 z3 eP3 (B ++ ([P1, P2, P3, P4].take (1 + 1)).filter (fun p => l.all (fulB p)))]
                      rw [hst, List.append_assoc]
                      simp
                · have e0 : [P1, P2, P3, P4].getD 2 z3 = P3 := rfl
                  rw [e0] at hst
                  generalize ([P1, P2, P3, P4].take 2).filter (fun p => l.all (fulB p)) = F0 at *
                  generalize hbb : l.all (fulB P3) = b at *
                  (conv => whnf)
                  refine ⟨⟨by decide, by show ((2 : Nat) : Int) < ((4 : Nat) : Int); decide⟩, ?_⟩
                  (conv => whnf)
                  (repeat' (first | (refine ⟨_, by first | exact a3, ?_⟩; (conv => whnf)) | (refine Or.inl ?_; (conv => whnf); refine ⟨_, by first | exact a3, ?_⟩; (conv => whnf)) | (refine Or.inl ?_; (conv => whnf); refine ⟨false, ?_⟩; (conv => whnf); refine ⟨_, by first | exact a3, ?_⟩; (conv => whnf)) | (refine ⟨by kernel_rfl, ?_⟩; (conv => whnf)) | fail))
                  cases b
                  · (repeat' (first | (refine ⟨by kernel_rfl, ?_⟩; (conv => whnf)) | (refine ⟨fun _ => ?_, fun h => absurd h (by first | decide | (simp; done) | fail)⟩; (conv => whnf)) | (refine ⟨fun h => absurd h (by first | decide | (simp; done) | fail), fun _ => ?_⟩; (conv => whnf)) | fail))
                    (conv => whnf)
                    refine ⟨3, ?_⟩
                    (conv => whnf)
                    refine ⟨⟨⟨by decide, by decide⟩, ?_, rfl, ?_⟩, by kernel_rfl, by kernel_rfl⟩
                    · first | rfl | (rw [w64 _ (by omega) (by omega)]; rfl)
                    · show [Row.vec _ 3 z3 eP3 (B ++ F0)] = [Row.vec _ 3 z3 eP3 (B ++ ([P1, P2, P3, P4].take (2 + 1)).filter (fun p => l.all (fulB p)))]
                      rw [hst]
                      simp
                  · (repeat' (first | (refine ⟨by kernel_rfl, ?_⟩; (conv => whnf)) | (refine ⟨fun _ => ?_, fun h => absurd h (by first | decide | (simp; done) | fail)⟩; (conv => whnf)) | (refine ⟨fun h => absurd h (by first | decide | (simp; done) | fail), fun _ => ?_⟩; (conv => whnf)) | fail))
                    refine ⟨⟨by decide, by show ((2 : Nat) : Int) < ((4 : Nat) : Int); decide⟩, ?_⟩
                    (conv => whnf)
                    refine ⟨⟨PrT, 3, z3, eP3, B ++ F0⟩, [P3], rfl, rfl, ⟨rfl, rfl⟩, ?_, ?_, fun y _ => ⟨rfl, rfl, rfl⟩, ?_⟩
                    · show ((B ++ F0).length + 1) * 24 ≤ _; omega
                    · show (B ++ F0).length + 1 ≤ _; omega
                    (conv => whnf)
                    (repeat' (first | (refine ⟨by kernel_rfl, ?_⟩; (conv => whnf)) | fail))
                    (conv => whnf)
                    refine ⟨3, ?_⟩
                    (conv => whnf)
                    refine ⟨⟨⟨by decide, by decide⟩, ?_, rfl, ?_⟩, by kernel_rfl, by kernel_rfl⟩
                    · first | rfl | (rw [w64 _ (by omega) (by omega)]; rfl)
                    · show [Row.vec _ 3 z3 eP3 (B ++ F0 ++ [P3])] = [Row.vec _ 3 z3 eP3 (B ++ ([P1, P2, P3, P4].take (2 + 1)).filter (fun p => l.all (fulB p)))]
                      rw [hst, List.append_assoc]
                      simp
                · have e0 : [P1, P2, P3, P4].getD 3 z3 = P4 := rfl
                  rw [e0] at hst
                  generalize ([P1, P2, P3, P4].take 3).filter (fun p => l.all (fulB p)) = F0 at *
                  generalize hbb : l.all (fulB P4) = b at *
                  (conv => whnf)
                  refine ⟨⟨by decide, by show ((3 : Nat) : Int) < ((4 : Nat) : Int); decide⟩, ?_⟩
                  (conv => whnf)
                  (repeat' (first | (refine ⟨_, by first | exact a4, ?_⟩; (conv => whnf)) | (refine Or.inl ?_; (conv => whnf); refine ⟨_, by first | exact a4, ?_⟩; (conv => whnf)) | (refine Or.inl ?_; (conv => whnf); refine ⟨false, ?_⟩; (conv => whnf); refine ⟨_, by first | exact a4, ?_⟩; (conv => whnf)) | (refine ⟨by kernel_rfl, ?_⟩; (conv => whnf)) | fail))
                  cases b
                  · (repeat' (first | (refine ⟨by kernel_rfl, ?_⟩; (conv => whnf)) | (refine ⟨fun _ => ?_, fun h => absurd h (by first | decide | (simp; done) | fail)⟩; (conv => whnf)) | (refine ⟨fun h => absurd h (by first | decide | (simp; done) | fail), fun _ => ?_⟩; (conv => whnf)) | fail))
                    (conv => whnf)
                    refine ⟨4, ?_⟩
                    (conv => whnf)
                    refine ⟨⟨⟨by decide, by decide⟩, ?_, rfl, ?_⟩, by kernel_rfl, by kernel_rfl⟩
                    · first | rfl | (rw [w64 _ (by omega) (by omega)]; rfl)
                    · show [Row.vec _ 3 z3 eP3 (B ++ F0)] = [Row.vec _ 3 z3 eP3 (B ++ ([P1, P2, P3, P4].take (3 + 1)).filter (fun p => l.all (fulB p)))]
                      rw [hst]
                      simp
                  · (repeat' (first | (refine ⟨by kernel_rfl, ?_⟩; (conv => whnf)) | (refine ⟨fun _ => ?_, fun h => absurd h (by first | decide | (simp; done) | fail)⟩; (conv => whnf)) | (refine ⟨fun h => absurd h (by first | decide | (simp; done) | fail), fun _ => ?_⟩; (conv => whnf)) | fail))
                    refine ⟨⟨by decide, by show ((3 : Nat) : Int) < ((4 : Nat) : Int); decide⟩, ?_⟩
                    (conv => whnf)
                    refine ⟨⟨PrT, 3, z3, eP3, B ++ F0⟩, [P4], rfl, rfl, ⟨rfl, rfl⟩, ?_, ?_, fun y _ => ⟨rfl, rfl, rfl⟩, ?_⟩
                    · show ((B ++ F0).length + 1) * 24 ≤ _; omega
                    · show (B ++ F0).length + 1 ≤ _; omega
                    (conv => whnf)
                    (repeat' (first | (refine ⟨by kernel_rfl, ?_⟩; (conv => whnf)) | fail))
                    (conv => whnf)
                    refine ⟨4, ?_⟩
                    (conv => whnf)
                    refine ⟨⟨⟨by decide, by decide⟩, ?_, rfl, ?_⟩, by kernel_rfl, by kernel_rfl⟩
                    · first | rfl | (rw [w64 _ (by omega) (by omega)]; rfl)
                    · show [Row.vec _ 3 z3 eP3 (B ++ F0 ++ [P4])] = [Row.vec _ 3 z3 eP3 (B ++ ([P1, P2, P3, P4].take (3 + 1)).filter (fun p => l.all (fulB p)))]
                      rw [hst, List.append_assoc]
                      simp
              · have h4 := of_decide_eq_false h4
                have e4 : q = 4 := by
                  have : ¬ (q : Int) < 4 := h4
                  omega
                subst e4
                (conv => whnf)
                refine ⟨k + 1, ?_⟩
                (conv => whnf)
                refine ⟨⟨⟨Nat.sub_lt_sub_left (by omega) (Nat.lt_succ_self k), by omega⟩, ?_, rfl, ?_⟩, by kernel_rfl, by kernel_rfl⟩
                · rw [w64 _ (by omega) (by omega)]; rfl
                · show [Row.vec _ 3 z3 eP3 (B ++ ([P1, P2, P3, P4].take 4).filter (fun p => l.all (fulB p)))] = [Row.vec _ 3 z3 eP3 ((List.range i).flatMap (corI l) ++ (List.range (k + 1)).flatMap fun k => corO l v (l.getD k z4))]
                  rw [nxt2, hco]
                  rfl
        · have hh := of_decide_eq_false hh
          have e4 : k = i := by omega
          subst e4
          (conv => whnf)
          refine ⟨k + 1, ?_⟩
          (conv => whnf)
          refine ⟨⟨⟨Nat.sub_lt_sub_left (by omega) (Nat.lt_succ_self k), by omega⟩, ?_, rfl, ?_⟩, by kernel_rfl, by kernel_rfl⟩
          · rw [w64 _ (by omega) (by omega)]; rfl
          · show [Row.vec _ 3 z3 eP3 ((List.range k).flatMap (corI l) ++ (List.range k).flatMap fun j => corO l (l.getD k z4) (l.getD j z4))] = [Row.vec _ 3 z3 eP3 ((List.range (k + 1)).flatMap (corI l))]
            rw [List.range_succ, List.flatMap_append]
            show _ = [Row.vec _ 3 z3 eP3 ((List.range k).flatMap (corI l) ++ (corI l k ++ []))]
            rw [List.append_nil]
            rfl
    · have h := of_decide_eq_false h
      have e4 : i = l.length := by omega
      subst e4
      (conv => whnf)
      first | rfl | set_option pp.maxSteps 300 in trace_state
end Go.Proofs.Tryz.My
set_option maxRecDepth 100000
set_option maxHeartbeats 0
set_option linter.unusedVariables false
set_option linter.unusedSimpArgs false
namespace Go.Proofs.Tryz.My
open Go Go.Ev

theorem lo_bounds {l : List SpT} (hv : ∀ v ∈ l, viewB v = true) (k : Nat) : (-4096 ≤ loF (l.take k) ∧ loF (l.take k) ≤ 4096) ∧ -4096 ≤ hiF (l.take k) ∧ hiF (l.take k) ≤ 4096 := by
  obtain ⟨_, a2, a3⟩ := fold_hi (l.take k) (-4096)
  obtain ⟨_, b2, b3⟩ := fold_lo (l.take k) 4096
  unfold loF hiF
  have hb : ∀ v ∈ l.take k, -4096 ≤ v.2.1 ∧ v.2.1 ≤ v.2.2 ∧ v.2.2 ≤ 4096 := fun v h => by
    have := (viewB_iff v).1 (hv v (List.mem_of_mem_take h))
    omega
  refine ⟨⟨a2, ?_⟩, ?_, b2⟩
  · rcases a3 with e | ⟨v, v1, e⟩
    · rw [e]; decide
    · rw [e]; have := hb v v1; omega
  · rcases b3 with e | ⟨v, v1, e⟩
    · rw [e]; decide
    · rw [e]; have := hb v v1; omega
theorem pc_rAgrCor (l : List SpT) (L : List PrT) (c1 : PC Tryz.prog 75 [vws l] (.bool false)) (c2 : PC Tryz.prog 44 [vws l] (prs L)) : PC Tryz.prog 74 [vws l] (.bool (decide (0 < L.length))) := by
  refine pc_of_bodyF hm Tryz.func74 (by kernel_rfl) ?_
  conv => whnf
  (repeat' (first | (refine ⟨_, by first | with_reducible exact c1, ?_⟩; (conv => whnf)) | (refine Or.inl ?_; (conv => whnf); refine ⟨_, by first | with_reducible exact c1, ?_⟩; (conv => whnf)) | (refine Or.inl ?_; (conv => whnf); refine ⟨false, ?_⟩; (conv => whnf); refine ⟨_, by first | with_reducible exact c1, ?_⟩; (conv => whnf)) | (refine ⟨by kernel_rfl, ?_⟩; (conv => whnf)) | fail))
  (repeat' (first | (refine ⟨by kernel_rfl, ?_⟩; (conv => whnf)) | (refine ⟨fun _ => ?_, fun h => absurd h (by first | decide | (simp; done) | fail)⟩; (conv => whnf)) | (refine ⟨fun h => absurd h (by first | decide | (simp; done) | fail), fun _ => ?_⟩; (conv => whnf)) | fail))
  (repeat' (first | (refine ⟨_, by first | with_reducible exact c2, ?_⟩; (conv => whnf)) | (refine Or.inl ?_; (conv => whnf); refine ⟨_, by first | with_reducible exact c2, ?_⟩; (conv => whnf)) | (refine Or.inl ?_; (conv => whnf); refine ⟨false, ?_⟩; (conv => whnf); refine ⟨_, by first | with_reducible exact c2, ?_⟩; (conv => whnf)) | (refine ⟨by kernel_rfl, ?_⟩; (conv => whnf)) | fail))
  rw [show decide ((L.length : Int) > 0) = decide (0 < L.length) by rw [decide_eq_decide]; omega]
theorem pc_rAgrOne (l : List SpT) (hl : l.length ≤ 12) (hv : ∀ v ∈ l, viewB v = true) (c1 : PC Tryz.prog 75 [vws l] (.bool true)) : PC Tryz.prog 74 [vws l] (.bool (decide (loF l ≤ hiF l))) := by
  have hb := fun k => lo_bounds hv k
  refine pc_of_bodyF hm Tryz.func74 (by kernel_rfl) ?_
  conv => whnf
  (repeat' (first | (refine ⟨_, by first | with_reducible exact c1, ?_⟩; (conv => whnf)) | (refine Or.inl ?_; (conv => whnf); refine ⟨_, by first | with_reducible exact c1, ?_⟩; (conv => whnf)) | (refine Or.inl ?_; (conv => whnf); refine ⟨false, ?_⟩; (conv => whnf); refine ⟨_, by first | with_reducible exact c1, ?_⟩; (conv => whnf)) | (refine ⟨by kernel_rfl, ?_⟩; (conv => whnf)) | fail))
  (repeat' (first | (refine ⟨by kernel_rfl, ?_⟩; (conv => whnf)) | (refine ⟨fun _ => ?_, fun h => absurd h (by first | decide | (simp; done) | fail)⟩; (conv => whnf)) | (refine ⟨fun h => absurd h (by first | decide | (simp; done) | fail), fun _ => ?_⟩; (conv => whnf)) | fail))
  refine Or.inr ⟨Nat, [3, 4, 5], [], [], fun i => [i64 (loF (l.take i)), i64 (hiF (l.take i)), i64 i], fun _ => [], fun _ => [], fun i => l.length - i, fun i => i ≤ l.length, ?_⟩
  (conv => whnf)
  refine ⟨⟨0, ?_⟩, ?_⟩
  · (conv => whnf)
    exact ⟨⟨Nat.zero_le _, rfl, rfl, rfl⟩, by kernel_rfl, by kernel_rfl⟩
  · intro i hi
    (conv => whnf)
    refine ⟨fun h => ?_, fun h => ?_⟩
    · have h := of_decide_eq_true h
      have h' : i < l.length := Int.ofNat_lt.1 h
      have s1 := loF_step l h'
      have s2 := hiF_step l h'
      have b := hb i
      have e : l.getD (Int.toNat (i : Int)) z4 = l.getD i z4 := rfl
      (conv => whnf)
      (repeat' (first | (refine ⟨by kernel_rfl, ?_⟩; (conv => whnf)) | (refine And.intro (a := _ ∧ _) ⟨by omega, by omega⟩ ?_; (conv => whnf))))
      rw [e]
      generalize l.getD i z4 = v at *
      obtain ⟨⟨v1, v2⟩, ⟨v3, v4⟩⟩ := v
      generalize loF (l.take i) = a at *
      generalize hiF (l.take i) = c at *
      refine ⟨i + 1, ?_⟩
      (conv => whnf)
      refine ⟨⟨⟨Nat.sub_lt_sub_left (by omega) (Nat.lt_succ_self i), by omega⟩, ?_, rfl, rfl⟩, by kernel_rfl, by kernel_rfl⟩
      show [i64 (if v3 > a then v3 else a), i64 (if v4 < c then v4 else c), i64 (IntKind.i64.wrap ((i : Int) + 1))] = [i64 (loF (l.take (i + 1))), i64 (hiF (l.take (i + 1))), i64 ((i + 1 : Nat) : Int)]
      rw [s1, s2, w64 _ (by omega) (by omega), Int.max_def, Int.min_def]
      show [i64 (if v3 > a then v3 else a), i64 (if v4 < c then v4 else c), i64 ((i : Int) + 1)] = [i64 (if a ≤ v3 then v3 else a), i64 (if c ≤ v4 then c else v4), i64 ((i + 1 : Nat) : Int)]
      rw [show (if v3 > a then v3 else a) = (if a ≤ v3 then v3 else a) by split <;> split <;> omega, show (if v4 < c then v4 else c) = (if c ≤ v4 then c else v4) by split <;> split <;> omega]
      rfl
    · have h := of_decide_eq_false h
      have e4 : i = l.length := by omega
      subst e4
      rw [List.take_length]
      (conv => whnf)
      first | rfl | set_option pp.maxSteps 300 in trace_state
theorem pc_rAgree (l : List SpT) (hl : l.length ≤ 12) (hv : ∀ v ∈ l, viewB v = true) : PC Tryz.prog 74 [vws l] (.bool (agrF l)) := by
  have c1 := pc_rAlike l (by omega) hv
  have c2 := pc_rCorners l hl hv
  rw [agr_eq hv]
  cases hk : alikeB l
  · rw [hk] at c1
    rw [if_neg (by decide)]
    exact pc_rAgrCor l _ c1 c2
  · rw [hk] at c1
    rw [if_pos rfl]
    exact pc_rAgrOne l hl hv c1
end Go.Proofs.Tryz.My
set_option maxRecDepth 100000
set_option maxHeartbeats 0
set_option linter.unusedVariables false
set_option linter.unusedSimpArgs false
namespace Go.Proofs.Tryz.My
open Go Go.Ev

theorem pc_askBad (l : List SpT) (E : Int) (hE : E ≠ 0) (c0 : PC Tryz.prog 73 [vws l] (i64 E)) : PC Tryz.prog 43 [vws l] (i64 E) := by
  refine pc_of_bodyF hm Tryz.func43 (by kernel_rfl) ?_
  conv => whnf
  (repeat' (first | (refine ⟨_, by first | with_reducible exact c0, ?_⟩; (conv => whnf)) | (refine Or.inl ?_; (conv => whnf); refine ⟨_, by first | with_reducible exact c0, ?_⟩; (conv => whnf)) | (refine Or.inl ?_; (conv => whnf); refine ⟨false, ?_⟩; (conv => whnf); refine ⟨_, by first | with_reducible exact c0, ?_⟩; (conv => whnf)) | (refine ⟨by kernel_rfl, ?_⟩; (conv => whnf)) | (refine ⟨fun _ => ?_, fun h => absurd h (by first | decide | (simp; done) | fail)⟩; (conv => whnf)) | (refine ⟨fun h => absurd h (by first | decide | (simp; done) | fail), fun _ => ?_⟩; (conv => whnf)) | ((with_reducible refine And.intro (a := _ = true → _) (b := _ = false → _) (fun hh => ?_) (fun hh => ?_)) <;> (try simp only [decide_eq_true_eq, decide_eq_false_iff_not, Bool.or_eq_true, Bool.and_eq_true, Bool.or_eq_false_iff, Bool.and_eq_false_iff, Bool.not_eq_true', Bool.not_eq_false', ge_iff_le, gt_iff_lt] at hh) <;> (first | (exfalso; omega) | (conv => whnf))) | fail))
theorem pc_askOk (l : List SpT) (A B : Bool) (c0 : PC Tryz.prog 73 [vws l] (i64 0)) (c1 : PC Tryz.prog 74 [vws l] (.bool A)) (c2 : PC Tryz.prog 75 [vws l] (.bool B)) : PC Tryz.prog 43 [vws l] (i64 (if A then (if B then 43 else 0) else 6)) := by
  cases A
  · refine pc_of_bodyF hm Tryz.func43 (by kernel_rfl) ?_
    conv => whnf
    (repeat' (first | (refine ⟨_, by first | with_reducible exact c0 | with_reducible exact c1, ?_⟩; (conv => whnf)) | (refine Or.inl ?_; (conv => whnf); refine ⟨_, by first | with_reducible exact c0 | with_reducible exact c1, ?_⟩; (conv => whnf)) | (refine Or.inl ?_; (conv => whnf); refine ⟨false, ?_⟩; (conv => whnf); refine ⟨_, by first | with_reducible exact c0 | with_reducible exact c1, ?_⟩; (conv => whnf)) | (refine ⟨by kernel_rfl, ?_⟩; (conv => whnf)) | (refine ⟨fun _ => ?_, fun h => absurd h (by first | decide | (simp; done) | fail)⟩; (conv => whnf)) | (refine ⟨fun h => absurd h (by first | decide | (simp; done) | fail), fun _ => ?_⟩; (conv => whnf)) | ((with_reducible refine And.intro (a := _ = true → _) (b := _ = false → _) (fun hh => ?_) (fun hh => ?_)) <;> (try simp only [decide_eq_true_eq, decide_eq_false_iff_not, Bool.or_eq_true, Bool.and_eq_true, Bool.or_eq_false_iff, Bool.and_eq_false_iff, Bool.not_eq_true', Bool.not_eq_false', ge_iff_le, gt_iff_lt] at hh) <;> (first | (exfalso; omega) | (conv => whnf))) | fail))
    all_goals rfl
  cases B
  · refine pc_of_bodyF hm Tryz.func43 (by kernel_rfl) ?_
    conv => whnf
    (repeat' (first | (refine ⟨_, by first | with_reducible exact c0 | with_reducible exact c1 | with_reducible exact c2, ?_⟩; (conv => whnf)) | (refine Or.inl ?_; (conv => whnf); refine ⟨_, by first | with_reducible exact c0 | with_reducible exact c1 | with_reducible exact c2, ?_⟩; (conv => whnf)) | (refine Or.inl ?_; (conv => whnf); refine ⟨false, ?_⟩; (conv => whnf); refine ⟨_, by first | with_reducible exact c0 | with_reducible exact c1 | with_reducible exact c2, ?_⟩; (conv => whnf)) | (refine ⟨by kernel_rfl, ?_⟩; (conv => whnf)) | (refine ⟨fun _ => ?_, fun h => absurd h (by first | decide | (simp; done) | fail)⟩; (conv => whnf)) | (refine ⟨fun h => absurd h (by first | decide | (simp; done) | fail), fun _ => ?_⟩; (conv => whnf)) | ((with_reducible refine And.intro (a := _ = true → _) (b := _ = false → _) (fun hh => ?_) (fun hh => ?_)) <;> (try simp only [decide_eq_true_eq, decide_eq_false_iff_not, Bool.or_eq_true, Bool.and_eq_true, Bool.or_eq_false_iff, Bool.and_eq_false_iff, Bool.not_eq_true', Bool.not_eq_false', ge_iff_le, gt_iff_lt] at hh) <;> (first | (exfalso; omega) | (conv => whnf))) | fail))
    all_goals rfl
  · refine pc_of_bodyF hm Tryz.func43 (by kernel_rfl) ?_
    conv => whnf
    (repeat' (first | (refine ⟨_, by first | with_reducible exact c0 | with_reducible exact c1 | with_reducible exact c2, ?_⟩; (conv => whnf)) | (refine Or.inl ?_; (conv => whnf); refine ⟨_, by first | with_reducible exact c0 | with_reducible exact c1 | with_reducible exact c2, ?_⟩; (conv => whnf)) | (refine Or.inl ?_; (conv => whnf); refine ⟨false, ?_⟩; (conv => whnf); refine ⟨_, by first | with_reducible exact c0 | with_reducible exact c1 | with_reducible exact c2, ?_⟩; (conv => whnf)) | (refine ⟨by kernel_rfl, ?_⟩; (conv => whnf)) | (refine ⟨fun _ => ?_, fun h => absurd h (by first | decide | (simp; done) | fail)⟩; (conv => whnf)) | (refine ⟨fun h => absurd h (by first | decide | (simp; done) | fail), fun _ => ?_⟩; (conv => whnf)) | ((with_reducible refine And.intro (a := _ = true → _) (b := _ = false → _) (fun hh => ?_) (fun hh => ?_)) <;> (try simp only [decide_eq_true_eq, decide_eq_false_iff_not, Bool.or_eq_true, Bool.and_eq_true, Bool.or_eq_false_iff, Bool.and_eq_false_iff, Bool.not_eq_true', Bool.not_eq_false', ge_iff_le, gt_iff_lt] at hh) <;> (first | (exfalso; omega) | (conv => whnf))) | fail))
    all_goals rfl
theorem pc_asked (l : List SpT) (hl : l.length < 2 ^ 39) : PC Tryz.prog 43 [vws l] (i64 (askV l)) := by
  have c0 := pc_rCheckViews l hl
  unfold askV
  by_cases hE : viewsE l = 0
  · obtain ⟨h1, h2⟩ := viewsE_mem hE
    rw [if_pos hE]
    rw [hE] at c0
    exact pc_askOk l _ _ c0 (pc_rAgree l h1 h2) (pc_rAlike l hl h2)
  · rw [if_neg hE]
    exact pc_askBad l _ hE c0
theorem pc_rcalBad (l : List SpT) (E : Int) (hE : E ≠ 0) (c0 : PC Tryz.prog 43 [vws l] (i64 E)) : PC Tryz.prog 23 [vws l] (.tup [cam (z4, z4), i64 E]) := by
  refine pc_of_bodyF hm Tryz.func23 (by kernel_rfl) ?_
  conv => whnf
  (repeat' (first | (refine ⟨_, by first | with_reducible exact c0, ?_⟩; (conv => whnf)) | (refine Or.inl ?_; (conv => whnf); refine ⟨_, by first | with_reducible exact c0, ?_⟩; (conv => whnf)) | (refine Or.inl ?_; (conv => whnf); refine ⟨false, ?_⟩; (conv => whnf); refine ⟨_, by first | with_reducible exact c0, ?_⟩; (conv => whnf)) | (refine ⟨by kernel_rfl, ?_⟩; (conv => whnf)) | (refine ⟨fun _ => ?_, fun h => absurd h (by first | decide | (simp; done) | fail)⟩; (conv => whnf)) | (refine ⟨fun h => absurd h (by first | decide | (simp; done) | fail), fun _ => ?_⟩; (conv => whnf)) | ((with_reducible refine And.intro (a := _ = true → _) (b := _ = false → _) (fun hh => ?_) (fun hh => ?_)) <;> (try simp only [decide_eq_true_eq, decide_eq_false_iff_not, Bool.or_eq_true, Bool.and_eq_true, Bool.or_eq_false_iff, Bool.and_eq_false_iff, Bool.not_eq_true', Bool.not_eq_false', ge_iff_le, gt_iff_lt] at hh) <;> (first | (exfalso; omega) | (conv => whnf))) | fail))
theorem pc_rcalOk (l : List SpT) (L : List PrT) (S1 S2 S3 S4 U1 U2 U3 U4 : Int) (c0 : PC Tryz.prog 43 [vws l] (i64 0)) (c1 : PC Tryz.prog 44 [vws l] (prs L))
    (c2 : PC Tryz.prog 45 [prs L, i64 1, i64 0, i64 1] (sp ((S1, S2), (S3, S4)))) (c3 : PC Tryz.prog 45 [prs L, i64 0, i64 1, i64 1] (sp ((U1, U2), (U3, U4)))) :
    PC Tryz.prog 23 [vws l] (.tup [cam (((S1, S2), (S3, S4)), ((U1, U2), (U3, U4))), i64 0]) := by
  refine pc_of_bodyF hm Tryz.func23 (by kernel_rfl) ?_
  conv => whnf
  (repeat' (first | (refine ⟨_, by first | with_reducible exact c0 | with_reducible exact c1 | with_reducible exact c2 | with_reducible exact c3, ?_⟩; (conv => whnf)) | (refine Or.inl ?_; (conv => whnf); refine ⟨_, by first | with_reducible exact c0 | with_reducible exact c1 | with_reducible exact c2 | with_reducible exact c3, ?_⟩; (conv => whnf)) | (refine Or.inl ?_; (conv => whnf); refine ⟨false, ?_⟩; (conv => whnf); refine ⟨_, by first | with_reducible exact c0 | with_reducible exact c1 | with_reducible exact c2 | with_reducible exact c3, ?_⟩; (conv => whnf)) | (refine ⟨by kernel_rfl, ?_⟩; (conv => whnf)) | (refine ⟨fun _ => ?_, fun h => absurd h (by first | decide | (simp; done) | fail)⟩; (conv => whnf)) | (refine ⟨fun h => absurd h (by first | decide | (simp; done) | fail), fun _ => ?_⟩; (conv => whnf)) | ((with_reducible refine And.intro (a := _ = true → _) (b := _ = false → _) (fun hh => ?_) (fun hh => ?_)) <;> (try simp only [decide_eq_true_eq, decide_eq_false_iff_not, Bool.or_eq_true, Bool.and_eq_true, Bool.or_eq_false_iff, Bool.and_eq_false_iff, Bool.not_eq_true', Bool.not_eq_false', ge_iff_le, gt_iff_lt] at hh) <;> (first | (exfalso; omega) | (conv => whnf))) | fail))
theorem cor_len {l : List SpT} (hl : l.length ≤ 12) : (corL l).length ≤ 700 := by
  have szO : ∀ v w, (corO l v w).length ≤ 4 := fun v w => by
    unfold corO
    split
    · simp
    · exact Nat.le_trans (List.length_filter_le _ _) (by simp [fourP])
  have szI : ∀ i, (corI l i).length ≤ i * 4 := fun i => by
    have := flat_len_le (fun k => corO l (l.getD i z4) (l.getD k z4)) (List.range i) 4 (fun k => szO _ _)
    rw [List.length_range] at this
    exact this
  have szL : ∀ i, i ≤ 12 → ((List.range i).flatMap (corI l)).length ≤ i * 48 := fun i hi => by
    induction i with
    | zero => simp
    | succ n ih =>
      rw [List.range_succ, List.flatMap_append, List.length_append]
      have := ih (by omega)
      have := szI n
      show _ + (corI l n ++ []).length ≤ _
      rw [List.append_nil]
      omega
  have := szL l.length hl
  unfold corL
  omega
theorem pc_rCalibrate (l : List SpT) (hl : l.length < 2 ^ 39) : PC Tryz.prog 23 [vws l] (.tup [cam (calF l).1, i64 (calF l).2]) := by
  have c0 := pc_asked l hl
  by_cases hE : askV l = 0
  · obtain ⟨e1, e2, e3, e4, _⟩ := ask_cal hE
    obtain ⟨h1, h2⟩ := viewsE_mem e1
    rw [hE] at c0
    have hp : ∀ p ∈ corL l, okP p ∧ 0 < p.2 := fun p hp => ⟨corL_okP h2 hp, (corL_ok hp).1⟩
    have k := cor_len h1
    have c2 := pc_spanned (corL l) 1 0 1 (by omega) hp (by omega) (by omega) (by omega)
    have c3 := pc_spanned (corL l) 0 1 1 (by omega) hp (by omega) (by omega) (by omega)
    rw [e2] at c2
    rw [e3] at c3
    have := pc_rcalOk l _ _ _ _ _ _ _ _ _ c0 (pc_rCorners l h1 h2) c2 c3
    rw [e4]
    exact this
  · rw [(ask_bad hE).1]
    exact pc_rcalBad l _ hE c0
end Go.Proofs.Tryz.My
