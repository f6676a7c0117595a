/- A helper text: contracts of functions of the program, and plain lemmas. -/
import Derived.Test.YtpcipgblegdeeaaMzLs1
set_option maxRecDepth 100000
set_option maxHeartbeats 0
set_option linter.unusedVariables false
set_option linter.unusedSimpArgs false
namespace Go.Proofs.Try.My
open Go Go.Ev

theorem lsOk (k N : Int) (ideal more noises l : List Int) (g : Int) (k0 : 0 ≤ k) (k1 : k ≤ 255) (h : lsB k N ideal more noises) (b1 : bytesB ideal) (b2 : bytesB more) (b3 : bytesB noises) (hmem : k ∈ l) (hl : l.length < 2 ^ 40)
    (kg : PC Try.prog 37 [i64 (IntKind.i64.wrap k)] (.tup [i64 g, i64 0]))
    (ks : PC Try.prog 38 [ints ((List.range ideal.length).map (onV ideal more noises g ideal.length N)), ints ((List.range ideal.length).map (offV ideal more noises g ideal.length N)), i64 N] (.tup [ints l, i64 0])) :
    PC Try.prog 9 [.int .u8 k, u8s ideal, u8s more, u8s noises, i64 N] (.bool true) := by
  have al := pc_alive4
  unfold lsB at h
  obtain ⟨c1, c2, c3, c4, c5, c6, c7⟩ := h
  have wk : IntKind.i64.wrap k = k := w64 _ (by omega) (by omega)
  have wn : IntKind.i64.wrap (2 * (ideal.length : Int)) = 2 * (ideal.length : Int) := w64 _ (by omega) (by omega)
  have wl : IntKind.i64.wrap (1 * 2 ^ min (ideal.length : Int).toNat IntKind.i64.bits) = ((2 ^ ideal.length : Nat) : Int) := lim_eq ideal.length c2
  have e2 : ((2 ^ ideal.length : Nat) : Int) = (2 : Int) ^ ideal.length := by simp
  rw [e2] at wl
  refine pc_of_body hm Try.func9 (by kernel_rfl) ?_
  conv => whnf
  (repeat' (first | (refine ⟨_, by first | with_reducible exact al, ?_⟩; (conv => whnf)) | (refine Or.inl ?_; (conv => whnf); refine ⟨_, by first | with_reducible exact al, ?_⟩; (conv => whnf)) | (refine Or.inl ?_; (conv => whnf); refine ⟨false, ?_⟩; (conv => whnf); refine ⟨_, by first | with_reducible exact al, ?_⟩; (conv => whnf)) | (refine ⟨by kernel_rfl, ?_⟩; (conv => whnf)) | (refine ⟨fun _ => ?_, fun h => absurd h (by first | decide | (simp; done) | fail)⟩; (conv => whnf)) | (refine ⟨fun h => absurd h (by first | decide | (simp; done) | fail), fun _ => ?_⟩; (conv => whnf)) | fail))
  (refine ⟨fun h => absurd (of_decide_eq_true h) (by omega), fun _ => ?_⟩; (conv => whnf))
  (refine ⟨fun h => absurd (of_decide_eq_true h) (by omega), fun _ => ?_⟩; (conv => whnf))
  refine ⟨fun h => absurd h (by simp; omega), fun _ => ?_⟩
  (conv => whnf)
  refine ⟨fun h => absurd h (by rw [wn]; simp; omega), fun _ => ?_⟩
  (conv => whnf)
  (refine ⟨fun h => absurd (of_decide_eq_true h) (by omega), fun _ => ?_⟩; (conv => whnf))
  (refine ⟨fun h => absurd (of_decide_eq_true h) (by omega), fun _ => ?_⟩; (conv => whnf))
  refine ⟨by omega, ?_⟩
  (conv => whnf)
  refine ⟨fun h => absurd (of_decide_eq_true h) (by rw [wk, wl]; omega), fun _ => ?_⟩
  (conv => whnf)
  (repeat' (first | (refine ⟨_, by first | with_reducible exact kg, ?_⟩; (conv => whnf)) | (refine Or.inl ?_; (conv => whnf); refine ⟨_, by first | with_reducible exact kg, ?_⟩; (conv => whnf)) | (refine Or.inl ?_; (conv => whnf); refine ⟨false, ?_⟩; (conv => whnf); refine ⟨_, by first | with_reducible exact kg, ?_⟩; (conv => whnf)) | (refine ⟨by kernel_rfl, ?_⟩; (conv => whnf)) | (refine ⟨fun _ => ?_, fun h => absurd h (by first | decide | (simp; done) | fail)⟩; (conv => whnf)) | (refine ⟨fun h => absurd h (by first | decide | (simp; done) | fail), fun _ => ?_⟩; (conv => whnf)) | fail))
  refine ⟨Int, 0, eI, rfl, rfl, by omega, by omega, by decide, ?_⟩
  (conv => whnf)
  refine ⟨Int, 0, eI, rfl, rfl, by omega, by omega, by decide, ?_⟩
  (conv => whnf)
  (repeat' (first | (refine ⟨by kernel_rfl, ?_⟩; (conv => whnf)) | fail))
  refine Or.inr ⟨Nat, [80], [75, 77], [], fun i => [i64 i], fun i => [.vec 3 1 0 eI (mixL (List.replicate ideal.length 0) (onV ideal more noises g ideal.length N) i), .vec 3 1 0 eI (mixL (List.replicate ideal.length 0) (offV ideal more noises g ideal.length N) i)], fun _ => [], fun i => ideal.length - i, fun i => i ≤ ideal.length, ?_⟩
  (conv => whnf)
  refine ⟨⟨0, ?_⟩, ?_⟩
  · (conv => whnf)
    refine ⟨⟨Nat.zero_le _, rfl, ?_, rfl⟩, by kernel_rfl, by kernel_rfl⟩
    show [Row.vec 3 1 0 eI (List.replicate ideal.length (0 : Int)), Row.vec 3 1 0 eI (List.replicate ideal.length (0 : Int))] = [Row.vec 3 1 0 eI (mixL (List.replicate ideal.length 0) (onV ideal more noises g ideal.length N) 0), Row.vec 3 1 0 eI (mixL (List.replicate ideal.length 0) (offV ideal more noises g ideal.length N) 0)]
    rw [mixL_zero, mixL_zero]
  · intro i hi
    (conv => whnf)
    refine ⟨fun h => ?_, fun h => ?_⟩
    · have h := of_decide_eq_true h
      have h' : i < ideal.length := by
        have := Int.ofNat_lt.1 h
        simpa using this
      have g1 := b1 i
      have g2 := b2 i
      have g3 := b3 (2 * i)
      have g4 := b3 (2 * i + 1)
      have wd : IntKind.i64.wrap (ideal.getD i 0) = ideal.getD i 0 := w64 _ (by omega) (by omega)
      have wm : IntKind.i64.wrap (more.getD i 0) = more.getD i 0 := w64 _ (by omega) (by omega)
      have wb : IntKind.i64.wrap (ideal.getD i 0 + more.getD i 0) = ideal.getD i 0 + more.getD i 0 := w64 _ (by omega) (by omega)
      have ebr : (if IntKind.i64.wrap (IntKind.i64.wrap (ideal.getD i 0) + IntKind.i64.wrap (more.getD i 0)) < 255 then IntKind.i64.wrap (IntKind.i64.wrap (ideal.getD i 0) + IntKind.i64.wrap (more.getD i 0)) else 255) = brV ideal more i := by rw [wd, wm, wb]; rfl
      have w1 : IntKind.i64.wrap ((ideal.length : Int) - 1) = (ideal.length : Int) - 1 := w64 _ (by omega) (by omega)
      have w2 : IntKind.i64.wrap ((ideal.length : Int) - 1 - (i : Int)) = (ideal.length : Int) - 1 - (i : Int) := w64 _ (by omega) (by omega)
      have hbit : (g.fdiv (2 ^ min (IntKind.i64.wrap (IntKind.i64.wrap ((ideal.length : Int) - 1) - (i : Int))).toNat IntKind.i64.bits)).tmod 2 = (g.fdiv (2 ^ ((ideal.length : Int) - 1 - (i : Int)).toNat)).tmod 2 := by
        rw [w1, w2]
        have : min ((ideal.length : Int) - 1 - (i : Int)).toNat IntKind.i64.bits = ((ideal.length : Int) - 1 - (i : Int)).toNat := by
          have : IntKind.i64.bits = 64 := rfl
          omega
        rw [this]
      have w3 : IntKind.i64.wrap (2 * (i : Int)) = ((2 * i : Nat) : Int) := by rw [w64 _ (by omega) (by omega)]; omega
      have w4 : IntKind.i64.wrap (((2 * i : Nat) : Int) + 1) = ((2 * i + 1 : Nat) : Int) := by rw [w64 _ (by omega) (by omega)]; omega
      have w9 : IntKind.i64.wrap (IntKind.i64.wrap (2 * (i : Int)) + 1) = ((2 * i + 1 : Nat) : Int) := by rw [w3, w4]
      have w5 : IntKind.i64.wrap (2 * N) = 2 * N := w64 _ (by omega) (by omega)
      have w6 : IntKind.i64.wrap (2 * N + 1) = 2 * N + 1 := w64 _ (by omega) (by omega)
      have w7 : IntKind.i64.wrap (noises.getD (2 * i) 0) = noises.getD (2 * i) 0 := w64 _ (by omega) (by omega)
      have w8 : IntKind.i64.wrap (noises.getD (2 * i + 1) 0) = noises.getD (2 * i + 1) 0 := w64 _ (by omega) (by omega)
      have hA : (mixL (List.replicate ideal.length 0) (onV ideal more noises g ideal.length N) i).length = ideal.length := by rw [mixL_length]; simp
      have hB : (mixL (List.replicate ideal.length 0) (offV ideal more noises g ideal.length N) i).length = ideal.length := by rw [mixL_length]; simp
      have sA := mixL_succ (List.replicate ideal.length 0) (onV ideal more noises g ideal.length N) i
      have sB := mixL_succ (List.replicate ideal.length 0) (offV ideal more noises g ideal.length N) i
      have brb : 0 ≤ brV ideal more i ∧ brV ideal more i ≤ 255 := by unfold brV; split <;> omega
      generalize mixL (List.replicate ideal.length 0) (onV ideal more noises g ideal.length N) i = A at *
      generalize mixL (List.replicate ideal.length 0) (offV ideal more noises g ideal.length N) i = B at *
      (conv => whnf)
      (repeat' (first | (refine ⟨by kernel_rfl, ?_⟩; (conv => whnf)) | (refine And.intro (a := _ ∧ _) ⟨by omega, by omega⟩ ?_; (conv => whnf))))
      refine ⟨by rw [w1, w2]; omega, ?_⟩
      (conv => whnf)
      (repeat' (first | (refine ⟨by kernel_rfl, ?_⟩; (conv => whnf)) | (refine And.intro (a := _ ∧ _) ⟨by omega, by omega⟩ ?_; (conv => whnf))))
      by_cases hb : (g.fdiv (2 ^ ((ideal.length : Int) - 1 - (i : Int)).toNat)).tmod 2 = 1
      · refine ⟨fun _ => ?_, fun h => absurd (hbit.trans hb) (of_decide_eq_false h)⟩
        (conv => whnf)
        (repeat' (first | (refine ⟨by kernel_rfl, ?_⟩; (conv => whnf)) | (refine And.intro (a := _ ∧ _) ⟨by omega, by omega⟩ ?_; (conv => whnf))))
        refine ⟨brV ideal more i, congrArg (fun x => [i64 x]) ebr.symm, by (first | omega | (rw [hA]; omega) | (rw [hB]; omega) | (rw [List.length_set, hA]; omega) | (rw [List.length_set, hB]; omega)), ?_⟩
        (conv => whnf)
        (repeat' (first | (refine ⟨by kernel_rfl, ?_⟩; (conv => whnf)) | (refine And.intro (a := _ ∧ _) ⟨by (first | omega | (rw [hA]; omega) | (rw [hB]; omega) | (rw [List.length_set, hA]; omega) | (rw [List.length_set, hB]; omega)), by (first | omega | (rw [hA]; omega) | (rw [hB]; omega) | (rw [List.length_set, hA]; omega) | (rw [List.length_set, hB]; omega))⟩ ?_; (conv => whnf)) | (refine And.intro (a := _ < _) (by (first | omega | (rw [hA]; omega) | (rw [hB]; omega) | (rw [List.length_set, hA]; omega) | (rw [List.length_set, hB]; omega))) ?_; (conv => whnf)) | fail))
        refine ⟨ideal.getD i 0, congrArg (fun x => [i64 x]) wd.symm, by (first | omega | (rw [hA]; omega) | (rw [hB]; omega) | (rw [List.length_set, hA]; omega) | (rw [List.length_set, hB]; omega)), ?_⟩
        (conv => whnf)
        (repeat' (first | (refine ⟨by kernel_rfl, ?_⟩; (conv => whnf)) | (refine And.intro (a := _ ∧ _) ⟨by (first | omega | (rw [hA]; omega) | (rw [hB]; omega) | (rw [List.length_set, hA]; omega) | (rw [List.length_set, hB]; omega)), by (first | omega | (rw [hA]; omega) | (rw [hB]; omega) | (rw [List.length_set, hA]; omega) | (rw [List.length_set, hB]; omega))⟩ ?_; (conv => whnf)) | (refine And.intro (a := _ < _) (by (first | omega | (rw [hA]; omega) | (rw [hB]; omega) | (rw [List.length_set, hA]; omega) | (rw [List.length_set, hB]; omega))) ?_; (conv => whnf)) | fail))
        refine ⟨fun h0 => by rw [w5, w6] at h0; omega, ?_⟩
        (conv => whnf)
        (repeat' (first | (refine ⟨by kernel_rfl, ?_⟩; (conv => whnf)) | (refine And.intro (a := _ ∧ _) ⟨by (first | omega | (rw [hA]; omega) | (rw [hB]; omega) | (rw [List.length_set, hA]; omega) | (rw [List.length_set, hB]; omega)), by (first | omega | (rw [hA]; omega) | (rw [hB]; omega) | (rw [List.length_set, hA]; omega) | (rw [List.length_set, hB]; omega))⟩ ?_; (conv => whnf)) | (refine And.intro (a := _ < _) (by (first | omega | (rw [hA]; omega) | (rw [hB]; omega) | (rw [List.length_set, hA]; omega) | (rw [List.length_set, hB]; omega))) ?_; (conv => whnf)) | fail))
        refine ⟨onV ideal more noises g ideal.length N i, ?_, by (first | omega | (rw [hA]; omega) | (rw [hB]; omega) | (rw [List.length_set, hA]; omega) | (rw [List.length_set, hB]; omega)), ?_⟩
        · have hX : (A.set i (brV ideal more i)).getD i 0 = brV ideal more i := by simp [List.getD, List.getElem?_set, hA, h']
          refine Eq.trans (congrArg (fun x => [i64 x]) (show onV ideal more noises g ideal.length N i = clV (IntKind.i64.wrap (IntKind.i64.wrap ((A.set i (brV ideal more i)).getD i 0 + Int.tmod (IntKind.i64.wrap (noises.getD (IntKind.i64.wrap (2 * (i : Int))).toNat 0)) (IntKind.i64.wrap (IntKind.i64.wrap (2 * N) + 1))) - N)) from ?_)) rfl
          rw [hX, w3, w5, w6]
          rw [show noises.getD ((2 * i : Nat) : Int).toNat 0 = noises.getD (2 * i) 0 from rfl, w7]
          have tm := tmod_near (x := noises.getD (2 * i) 0) (N := N) (by omega) c5
          have bb := brb
          rw [w64 (brV ideal more i + (noises.getD (2 * i) 0).tmod (2 * N + 1)) (by omega) (by omega), w64 _ (by omega) (by omega)]
          unfold onV onZ
          rw [if_pos hb]
        (conv => whnf)
        (repeat' (first | (refine ⟨by kernel_rfl, ?_⟩; (conv => whnf)) | (refine And.intro (a := _ ∧ _) ⟨by (first | omega | (rw [hA]; omega) | (rw [hB]; omega) | (rw [List.length_set, hA]; omega) | (rw [List.length_set, hB]; omega)), by (first | omega | (rw [hA]; omega) | (rw [hB]; omega) | (rw [List.length_set, hA]; omega) | (rw [List.length_set, hB]; omega))⟩ ?_; (conv => whnf)) | (refine And.intro (a := _ < _) (by (first | omega | (rw [hA]; omega) | (rw [hB]; omega) | (rw [List.length_set, hA]; omega) | (rw [List.length_set, hB]; omega))) ?_; (conv => whnf)) | fail))
        refine ⟨fun h0 => by rw [w5, w6] at h0; omega, ?_⟩
        (conv => whnf)
        (repeat' (first | (refine ⟨by kernel_rfl, ?_⟩; (conv => whnf)) | (refine And.intro (a := _ ∧ _) ⟨by (first | omega | (rw [hA]; omega) | (rw [hB]; omega) | (rw [List.length_set, hA]; omega) | (rw [List.length_set, hB]; omega)), by (first | omega | (rw [hA]; omega) | (rw [hB]; omega) | (rw [List.length_set, hA]; omega) | (rw [List.length_set, hB]; omega))⟩ ?_; (conv => whnf)) | (refine And.intro (a := _ < _) (by (first | omega | (rw [hA]; omega) | (rw [hB]; omega) | (rw [List.length_set, hA]; omega) | (rw [List.length_set, hB]; omega))) ?_; (conv => whnf)) | fail))
        refine ⟨offV ideal more noises g ideal.length N i, ?_, by (first | omega | (rw [hA]; omega) | (rw [hB]; omega) | (rw [List.length_set, hA]; omega) | (rw [List.length_set, hB]; omega)), ?_⟩
        · have hX : (B.set i (ideal.getD i 0)).getD i 0 = ideal.getD i 0 := by simp [List.getD, List.getElem?_set, hB, h']
          refine Eq.trans (congrArg (fun x => [i64 x]) (show offV ideal more noises g ideal.length N i = clV (IntKind.i64.wrap (IntKind.i64.wrap ((B.set i (ideal.getD i 0)).getD i 0 + Int.tmod (IntKind.i64.wrap (noises.getD (IntKind.i64.wrap (IntKind.i64.wrap (2 * (i : Int)) + 1)).toNat 0)) (IntKind.i64.wrap (IntKind.i64.wrap (2 * N) + 1))) - N)) from ?_)) rfl
          rw [hX, w3, w4, w5, w6]
          rw [show noises.getD ((2 * i + 1 : Nat) : Int).toNat 0 = noises.getD (2 * i + 1) 0 from rfl, w8]
          have tm := tmod_near (x := noises.getD (2 * i + 1) 0) (N := N) (by omega) c5
          have bb := brb
          rw [w64 (ideal.getD i 0 + (noises.getD (2 * i + 1) 0).tmod (2 * N + 1)) (by omega) (by omega), w64 _ (by omega) (by omega)]
          unfold offV offZ
          rw [if_pos hb]
        (conv => whnf)
        (repeat' (first | (refine ⟨by kernel_rfl, ?_⟩; (conv => whnf)) | fail))
        refine ⟨i + 1, ?_⟩
        (conv => whnf)
        refine ⟨⟨⟨Nat.sub_lt_sub_left (by omega) (Nat.lt_succ_self i), by omega⟩, ?_, ?_, rfl⟩, by kernel_rfl, by kernel_rfl⟩
        · rw [w64 _ (by omega) (by omega)]; rfl
        · show [Row.vec _ 1 0 eI ((A.set i _).set i (onV ideal more noises g ideal.length N i)), Row.vec _ 1 0 eI ((B.set i _).set i (offV ideal more noises g ideal.length N i))] = [Row.vec _ 1 0 eI (mixL (List.replicate ideal.length 0) (onV ideal more noises g ideal.length N) (i + 1)), Row.vec _ 1 0 eI (mixL (List.replicate ideal.length 0) (offV ideal more noises g ideal.length N) (i + 1))]
          rw [List.set_set, List.set_set, sA, sB]
      · refine ⟨fun h => absurd (hbit.symm.trans (of_decide_eq_true h)) hb, fun _ => ?_⟩
        (conv => whnf)
        (repeat' (first | (refine ⟨by kernel_rfl, ?_⟩; (conv => whnf)) | (refine And.intro (a := _ ∧ _) ⟨by omega, by omega⟩ ?_; (conv => whnf))))
        refine ⟨ideal.getD i 0, congrArg (fun x => [i64 x]) wd.symm, by (first | omega | (rw [hA]; omega) | (rw [hB]; omega) | (rw [List.length_set, hA]; omega) | (rw [List.length_set, hB]; omega)), ?_⟩
        (conv => whnf)
        (repeat' (first | (refine ⟨by kernel_rfl, ?_⟩; (conv => whnf)) | (refine And.intro (a := _ ∧ _) ⟨by (first | omega | (rw [hA]; omega) | (rw [hB]; omega) | (rw [List.length_set, hA]; omega) | (rw [List.length_set, hB]; omega)), by (first | omega | (rw [hA]; omega) | (rw [hB]; omega) | (rw [List.length_set, hA]; omega) | (rw [List.length_set, hB]; omega))⟩ ?_; (conv => whnf)) | (refine And.intro (a := _ < _) (by (first | omega | (rw [hA]; omega) | (rw [hB]; omega) | (rw [List.length_set, hA]; omega) | (rw [List.length_set, hB]; omega))) ?_; (conv => whnf)) | fail))
        refine ⟨brV ideal more i, congrArg (fun x => [i64 x]) ebr.symm, by (first | omega | (rw [hA]; omega) | (rw [hB]; omega) | (rw [List.length_set, hA]; omega) | (rw [List.length_set, hB]; omega)), ?_⟩
        (conv => whnf)
        (repeat' (first | (refine ⟨by kernel_rfl, ?_⟩; (conv => whnf)) | (refine And.intro (a := _ ∧ _) ⟨by (first | omega | (rw [hA]; omega) | (rw [hB]; omega) | (rw [List.length_set, hA]; omega) | (rw [List.length_set, hB]; omega)), by (first | omega | (rw [hA]; omega) | (rw [hB]; omega) | (rw [List.length_set, hA]; omega) | (rw [List.length_set, hB]; omega))⟩ ?_; (conv => whnf)) | (refine And.intro (a := _ < _) (by (first | omega | (rw [hA]; omega) | (rw [hB]; omega) | (rw [List.length_set, hA]; omega) | (rw [List.length_set, hB]; omega))) ?_; (conv => whnf)) | fail))
        refine ⟨fun h0 => by rw [w5, w6] at h0; omega, ?_⟩
        (conv => whnf)
        (repeat' (first | (refine ⟨by kernel_rfl, ?_⟩; (conv => whnf)) | (refine And.intro (a := _ ∧ _) ⟨by (first | omega | (rw [hA]; omega) | (rw [hB]; omega) | (rw [List.length_set, hA]; omega) | (rw [List.length_set, hB]; omega)), by (first | omega | (rw [hA]; omega) | (rw [hB]; omega) | (rw [List.length_set, hA]; omega) | (rw [List.length_set, hB]; omega))⟩ ?_; (conv => whnf)) | (refine And.intro (a := _ < _) (by (first | omega | (rw [hA]; omega) | (rw [hB]; omega) | (rw [List.length_set, hA]; omega) | (rw [List.length_set, hB]; omega))) ?_; (conv => whnf)) | fail))
        refine ⟨onV ideal more noises g ideal.length N i, ?_, by (first | omega | (rw [hA]; omega) | (rw [hB]; omega) | (rw [List.length_set, hA]; omega) | (rw [List.length_set, hB]; omega)), ?_⟩
        · have hX : (A.set i (ideal.getD i 0)).getD i 0 = ideal.getD i 0 := by simp [List.getD, List.getElem?_set, hA, h']
          refine Eq.trans (congrArg (fun x => [i64 x]) (show onV ideal more noises g ideal.length N i = clV (IntKind.i64.wrap (IntKind.i64.wrap ((A.set i (ideal.getD i 0)).getD i 0 + Int.tmod (IntKind.i64.wrap (noises.getD (IntKind.i64.wrap (2 * (i : Int))).toNat 0)) (IntKind.i64.wrap (IntKind.i64.wrap (2 * N) + 1))) - N)) from ?_)) rfl
          rw [hX, w3, w5, w6]
          rw [show noises.getD ((2 * i : Nat) : Int).toNat 0 = noises.getD (2 * i) 0 from rfl, w7]
          have tm := tmod_near (x := noises.getD (2 * i) 0) (N := N) (by omega) c5
          have bb := brb
          rw [w64 (ideal.getD i 0 + (noises.getD (2 * i) 0).tmod (2 * N + 1)) (by omega) (by omega), w64 _ (by omega) (by omega)]
          unfold onV onZ
          rw [if_neg hb]
        (conv => whnf)
        (repeat' (first | (refine ⟨by kernel_rfl, ?_⟩; (conv => whnf)) | (refine And.intro (a := _ ∧ _) ⟨by (first | omega | (rw [hA]; omega) | (rw [hB]; omega) | (rw [List.length_set, hA]; omega) | (rw [List.length_set, hB]; omega)), by (first | omega | (rw [hA]; omega) | (rw [hB]; omega) | (rw [List.length_set, hA]; omega) | (rw [List.length_set, hB]; omega))⟩ ?_; (conv => whnf)) | (refine And.intro (a := _ < _) (by (first | omega | (rw [hA]; omega) | (rw [hB]; omega) | (rw [List.length_set, hA]; omega) | (rw [List.length_set, hB]; omega))) ?_; (conv => whnf)) | fail))
        refine ⟨fun h0 => by rw [w5, w6] at h0; omega, ?_⟩
        (conv => whnf)
        (repeat' (first | (refine ⟨by kernel_rfl, ?_⟩; (conv => whnf)) | (refine And.intro (a := _ ∧ _) ⟨by (first | omega | (rw [hA]; omega) | (rw [hB]; omega) | (rw [List.length_set, hA]; omega) | (rw [List.length_set, hB]; omega)), by (first | omega | (rw [hA]; omega) | (rw [hB]; omega) | (rw [List.length_set, hA]; omega) | (rw [List.length_set, hB]; omega))⟩ ?_; (conv => whnf)) | (refine And.intro (a := _ < _) (by (first | omega | (rw [hA]; omega) | (rw [hB]; omega) | (rw [List.length_set, hA]; omega) | (rw [List.length_set, hB]; omega))) ?_; (conv => whnf)) | fail))
        refine ⟨offV ideal more noises g ideal.length N i, ?_, by (first | omega | (rw [hA]; omega) | (rw [hB]; omega) | (rw [List.length_set, hA]; omega) | (rw [List.length_set, hB]; omega)), ?_⟩
        · have hX : (B.set i (brV ideal more i)).getD i 0 = brV ideal more i := by simp [List.getD, List.getElem?_set, hB, h']
          refine Eq.trans (congrArg (fun x => [i64 x]) (show offV ideal more noises g ideal.length N i = clV (IntKind.i64.wrap (IntKind.i64.wrap ((B.set i (brV ideal more i)).getD i 0 + Int.tmod (IntKind.i64.wrap (noises.getD (IntKind.i64.wrap (IntKind.i64.wrap (2 * (i : Int)) + 1)).toNat 0)) (IntKind.i64.wrap (IntKind.i64.wrap (2 * N) + 1))) - N)) from ?_)) rfl
          rw [hX, w3, w4, w5, w6]
          rw [show noises.getD ((2 * i + 1 : Nat) : Int).toNat 0 = noises.getD (2 * i + 1) 0 from rfl, w8]
          have tm := tmod_near (x := noises.getD (2 * i + 1) 0) (N := N) (by omega) c5
          have bb := brb
          rw [w64 (brV ideal more i + (noises.getD (2 * i + 1) 0).tmod (2 * N + 1)) (by omega) (by omega), w64 _ (by omega) (by omega)]
          unfold offV offZ
          rw [if_neg hb]
        (conv => whnf)
        (repeat' (first | (refine ⟨by kernel_rfl, ?_⟩; (conv => whnf)) | fail))
        refine ⟨i + 1, ?_⟩
        (conv => whnf)
        refine ⟨⟨⟨Nat.sub_lt_sub_left (by omega) (Nat.lt_succ_self i), by omega⟩, ?_, ?_, rfl⟩, by kernel_rfl, by kernel_rfl⟩
        · rw [w64 _ (by omega) (by omega)]; rfl
        · show [Row.vec _ 1 0 eI ((A.set i _).set i (onV ideal more noises g ideal.length N i)), Row.vec _ 1 0 eI ((B.set i _).set i (offV ideal more noises g ideal.length N i))] = [Row.vec _ 1 0 eI (mixL (List.replicate ideal.length 0) (onV ideal more noises g ideal.length N) (i + 1)), Row.vec _ 1 0 eI (mixL (List.replicate ideal.length 0) (offV ideal more noises g ideal.length N) (i + 1))]
          rw [List.set_set, List.set_set, sA, sB]
    · have h := of_decide_eq_false h
      obtain rfl : i = ideal.length := by
        have h2 : ¬ i < (List.replicate ideal.length (0 : Int)).length := fun k => h (Int.ofNat_lt.2 k)
        simp at h2
        omega
      have eA := mixL_all (List.replicate ideal.length 0) (onV ideal more noises g ideal.length N)
      have eB := mixL_all (List.replicate ideal.length 0) (offV ideal more noises g ideal.length N)
      rw [List.length_replicate] at eA eB
      rw [eA, eB]
      (conv => whnf)
      refine Or.inl ?_
      (conv => whnf)
      refine ⟨true, ?_⟩
      (conv => whnf)
      refine ⟨_, ks, ?_⟩
      (conv => whnf)
      (repeat' (first | (refine ⟨by kernel_rfl, ?_⟩; (conv => whnf)) | (refine ⟨fun _ => ?_, fun h => absurd h (by first | decide | (simp; done) | fail)⟩; (conv => whnf)) | (refine ⟨fun h => absurd h (by first | decide | (simp; done) | fail), fun _ => ?_⟩; (conv => whnf)) | fail))
      refine Or.inr ⟨Nat × (Bool ⊕ Bool), [175, 22], [], [], fun j => [i64 j.1, (match j.2 with | .inl false => .ff | .inl true => .tt | .inr b => .bool b)], fun _ => [], fun _ => [], fun j => l.length - j.1, fun j => j.1 ≤ l.length ∧ (∀ b, j.2 = .inl b ∨ j.2 = .inr b → b = decide (k ∈ l.take j.1)), ?_⟩
      (conv => whnf)
      refine ⟨⟨(0, .inl false), ?_⟩, ?_⟩
      · (conv => whnf)
        exact ⟨⟨⟨Nat.zero_le _, fun b h => by rcases h with h | h <;> cases h; simp⟩, rfl, rfl, rfl⟩, by kernel_rfl, by kernel_rfl⟩
      · rintro ⟨j, a⟩ ⟨hj, ha⟩
        simp only [] at hj ha
        have nx : j < l.length → (k ∈ l.take (j + 1) ↔ k ∈ l.take j ∨ l.getD j 0 = k) := fun h => by
          rw [List.take_succ_eq_append_getElem h, List.mem_append, List.mem_singleton]
          simp only [List.getD, List.getElem?_eq_getElem h, Option.getD_some]
          exact ⟨fun h => h.imp id Eq.symm, fun h => h.imp id Eq.symm⟩
        have fin : j = l.length → k ∈ l.take j := fun h => by rw [h, List.take_length]; exact hmem
        have wj : j < l.length → IntKind.i64.wrap ((j : Int) + 1) = ((j + 1 : Nat) : Int) := fun h => by rw [w64 _ (by omega) (by omega)]; rfl
        have yes : j < l.length → k ∈ l.take j → ∀ b, (Sum.inl true : Bool ⊕ Bool) = .inl b ∨ (Sum.inl true : Bool ⊕ Bool) = .inr b → b = decide (k ∈ l.take (j + 1)) := fun h1 h2 b h => by
          rcases h with h | h
          · cases h; exact (decide_eq_true ((nx h1).2 (.inl h2))).symm
          · cases h
        have may : j < l.length → ¬ k ∈ l.take j → ∀ b, (Sum.inr (decide (l.getD j 0 = k)) : Bool ⊕ Bool) = .inl b ∨ (Sum.inr (decide (l.getD j 0 = k)) : Bool ⊕ Bool) = .inr b → b = decide (k ∈ l.take (j + 1)) := fun h1 h2 b h => by
          rcases h with h | h
          · cases h
          · cases h
            rw [decide_eq_decide, nx h1]
            exact ⟨.inr, fun h => h.resolve_left h2⟩
        rcases a with (_ | _) | (_ | _)
        all_goals first | (have ha := ha _ (.inl rfl)) | (have ha := ha _ (.inr rfl))
        · have ha : ¬ k ∈ l.take j := of_decide_eq_false ha.symm
          (conv => whnf)
          refine ⟨fun h => ?_, fun h => ?_⟩
          · have h := of_decide_eq_true h
            have h' : j < l.length := Int.ofNat_lt.1 h
            (conv => whnf)
            (repeat' (first | (refine ⟨by kernel_rfl, ?_⟩; (conv => whnf)) | (refine And.intro (a := _ ∧ _) ⟨by omega, by omega⟩ ?_; (conv => whnf))))
            refine ⟨(j + 1, .inr (decide (l.getD j 0 = k))), ?_⟩
            (conv => whnf)
            refine ⟨⟨⟨Nat.sub_lt_sub_left h' (Nat.lt_succ_self j), h', may h' ha⟩, ?_, rfl, rfl⟩, by kernel_rfl, by kernel_rfl⟩
            show [i64 (IntKind.i64.wrap ((j : Int) + 1)), AV.bool (decide (l.getD j 0 = IntKind.i64.wrap k))] = [i64 ((j + 1 : Nat) : Int), AV.bool (decide (l.getD j 0 = k))]
            rw [wk, wj h']
          · have h := of_decide_eq_false h
            exact absurd (fin (by simp only [] at h; omega)) ha
        · have ha : k ∈ l.take j := of_decide_eq_true ha.symm
          (conv => whnf)
          refine ⟨fun h => ?_, fun h => ?_⟩
          · have h := of_decide_eq_true h
            have h' : j < l.length := Int.ofNat_lt.1 h
            (conv => whnf)
            (repeat' (first | (refine ⟨by kernel_rfl, ?_⟩; (conv => whnf)) | (refine And.intro (a := _ ∧ _) ⟨by omega, by omega⟩ ?_; (conv => whnf))))
            refine ⟨(j + 1, .inl true), ?_⟩
            (conv => whnf)
            refine ⟨⟨⟨Nat.sub_lt_sub_left h' (Nat.lt_succ_self j), h', yes h' ha⟩, ?_, rfl, rfl⟩, by kernel_rfl, by kernel_rfl⟩
            rw [show IntKind.i64.wrap _ = _ from wj h']
            first | rfl | set_option pp.maxSteps 300 in trace_state
          · (conv => whnf)
            first | rfl | ((repeat' (first | (refine ⟨by kernel_rfl, ?_⟩; (conv => whnf)) | (refine ⟨fun _ => ?_, fun h => absurd h (by first | decide | (simp; done) | fail)⟩; (conv => whnf)) | (refine ⟨fun h => absurd h (by first | decide | (simp; done) | fail), fun _ => ?_⟩; (conv => whnf)) | fail)); first | rfl | set_option pp.maxSteps 300 in trace_state)
        · have ha : ¬ k ∈ l.take j := of_decide_eq_false ha.symm
          (conv => whnf)
          refine ⟨fun h => ?_, fun h => ?_⟩
          · have h := of_decide_eq_true h
            have h' : j < l.length := Int.ofNat_lt.1 h
            (conv => whnf)
            refine ⟨fun h => absurd h (by decide), fun _ => ?_⟩
            (conv => whnf)
            (repeat' (first | (refine ⟨by kernel_rfl, ?_⟩; (conv => whnf)) | (refine And.intro (a := _ ∧ _) ⟨by omega, by omega⟩ ?_; (conv => whnf))))
            refine ⟨(j + 1, .inr (decide (l.getD j 0 = k))), ?_⟩
            (conv => whnf)
            refine ⟨⟨⟨Nat.sub_lt_sub_left h' (Nat.lt_succ_self j), h', may h' ha⟩, ?_, rfl, rfl⟩, by kernel_rfl, by kernel_rfl⟩
            show [i64 (IntKind.i64.wrap ((j : Int) + 1)), AV.bool (decide (l.getD j 0 = IntKind.i64.wrap k))] = [i64 ((j + 1 : Nat) : Int), AV.bool (decide (l.getD j 0 = k))]
            rw [wk, wj h']
          · have h := of_decide_eq_false h
            exact absurd (fin (by simp only [] at h; omega)) ha
        · have ha : k ∈ l.take j := of_decide_eq_true ha.symm
          (conv => whnf)
          refine ⟨fun h => ?_, fun h => ?_⟩
          · have h := of_decide_eq_true h
            have h' : j < l.length := Int.ofNat_lt.1 h
            (conv => whnf)
            refine ⟨fun _ => ?_, fun h => absurd h (by decide)⟩
            (conv => whnf)
            (repeat' (first | (refine ⟨by kernel_rfl, ?_⟩; (conv => whnf)) | (refine And.intro (a := _ ∧ _) ⟨by omega, by omega⟩ ?_; (conv => whnf))))
            refine ⟨(j + 1, .inl true), ?_⟩
            (conv => whnf)
            refine ⟨⟨⟨Nat.sub_lt_sub_left h' (Nat.lt_succ_self j), h', yes h' ha⟩, ?_, rfl, rfl⟩, by kernel_rfl, by kernel_rfl⟩
            rw [show IntKind.i64.wrap _ = _ from wj h']
            first | rfl | set_option pp.maxSteps 300 in trace_state
          · (conv => whnf)
            first | rfl | ((repeat' (first | (refine ⟨by kernel_rfl, ?_⟩; (conv => whnf)) | (refine ⟨fun _ => ?_, fun h => absurd h (by first | decide | (simp; done) | fail)⟩; (conv => whnf)) | (refine ⟨fun h => absurd h (by first | decide | (simp; done) | fail), fun _ => ?_⟩; (conv => whnf)) | fail)); first | rfl | set_option pp.maxSteps 300 in trace_state)
theorem pc_LensStriped (k : Int) (wf : (Lit.int .u8 k).wf = true) (ideal : List Int) (w1 : ∀ n ∈ ideal, (Lit.int .u8 n).wf = true) (more : List Int) (w2 : ∀ n ∈ more, (Lit.int .u8 n).wf = true) (noises : List Int) (w3 : ∀ n ∈ noises, (Lit.int .u8 n).wf = true) (N : Int) : PC Try.prog 9 [.int .u8 k, u8s ideal, u8s more, u8s noises, i64 N] (.bool true) := by
  have rng : ∀ n : Int, (Lit.int .u8 n).wf = true → 0 ≤ n ∧ n ≤ 255 := fun n h => by
    simp [Lit.wf, IntKind.min, IntKind.max, IntKind.signed, IntKind.bits] at h
    omega
  have byt : ∀ l : List Int, (∀ n ∈ l, (Lit.int .u8 n).wf = true) → bytesB l := fun l h i => by
    by_cases hi : i < l.length
    · simp only [List.getD, List.getElem?_eq_getElem hi, Option.getD_some]
      exact rng _ (h _ (List.getElem_mem hi))
    · have e : l.getD i 0 = 0 := by simp [List.getD, List.getElem?_eq_none (show l.length ≤ i by omega)]
      rw [e]
      omega
  obtain ⟨k0, k1⟩ := rng k wf
  by_cases h : lsB k N ideal more noises
  rotate_left
  · exact lsOut k N ideal more noises k0 k1 h
  obtain ⟨c1, c2, c3, c4, c5, c6, c7⟩ := h
  obtain ⟨m, rfl⟩ : ∃ m : Nat, k = m := ⟨k.toNat, by omega⟩
  have hm2 : m < 2 ^ ideal.length := by
    have : ((m : Nat) : Int) < ((2 ^ ideal.length : Nat) : Int) := by rw [show ((2 ^ ideal.length : Nat) : Int) = (2 : Int) ^ ideal.length by simp]; exact c7
    exact Int.ofNat_lt.1 this
  have law := striped_law (k := m) (n := ideal.length) (N := N) rfl c1 c2 (byt _ w1) (byt _ w2) (byt _ w3) c5 c6 hm2
  have kg := pc_lensGray (IntKind.i64.wrap (m : Int))
  rw [show IntKind.i64.wrap (m : Int) = (m : Int) from w64 _ (by omega) (by omega)] at kg
  rw [show outB 0 255 (m : Int) = false by simp only [outB, Bool.or_eq_false_iff, decide_eq_false_iff_not]; omega] at kg
  rw [← show IntKind.i64.wrap (m : Int) = (m : Int) from w64 _ (by omega) (by omega)] at kg
  have ks := pc_lensStripes _ _ N (by simp; omega) (by simp; omega) law.1
  rw [List.length_map, List.length_range] at ks
  refine lsOk m N ideal more noises _ (grayF m) k0 k1 ⟨c1, c2, c3, c4, c5, c6, c7⟩ (byt _ w1) (byt _ w2) (byt _ w3) law.2 ?_ ?_ ks
  · have := outF_len ((List.range ideal.length).map (onV ideal more noises (grayF m) ideal.length N)) ((List.range ideal.length).map (offV ideal more noises (grayF m) ideal.length N)) N (2 ^ ideal.length)
    have : 2 ^ ideal.length ≤ 2 ^ 8 := Nat.pow_le_pow_right (by omega) c2
    omega
  · have e : IntKind.i64.wrap (m : Int) = (m : Int) := w64 _ (by omega) (by omega)
    rw [e] at kg ⊢
    exact kg
end Go.Proofs.Try.My
