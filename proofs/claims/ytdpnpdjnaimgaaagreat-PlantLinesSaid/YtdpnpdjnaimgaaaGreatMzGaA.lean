/- A helper text: contracts of functions of the program, and plain lemmas. -/
import Derived.Test.YtdpnpdjnaimgaaaGreatEvSix
import Derived.Test.YtdpnpdjnaimgaaaGreatMzGa1
import Derived.Test.YtdpnpdjnaimgaaaGreatMzGpA
import Derived.Test.YtdpnpdjnaimgaaaGreatMzEaA
set_option maxRecDepth 100000
set_option maxHeartbeats 0
set_option linter.unusedVariables false
set_option linter.unusedSimpArgs false
namespace Go.Proofs.Tryz.My
open Go Go.Ev
def wayL (n : Nat) (a d : Int) : List (List AV) := (List.range (stepsN n a d)).map fun (k : Nat) => [i64 (a + d * k)]
theorem wayL_get (n : Nat) (a d : Int) (k : Nat) : (wayL n a d)[k]? = if k < stepsN n a d then some [i64 (a + d * k)] else none := by
  unfold wayL
  rw [List.getElem?_map]
  by_cases h : k < stepsN n a d <;> simp [h]
theorem sq_ways (n : Nat) (a d : Int) (ha : 0 ≤ a) (hn : a < n) (hl : n < 2 ^ 40) (hd : ways1 d) : SQ Tryz.prog 316 [.pt [i64 a] 0, .pt [i64 n] 0, .pt [i64 d] 0] (wayL n a d) := by
  have hs : stepsN n a d ≤ n := by unfold stepsN; rcases hd with rfl | rfl <;> simp <;> omega
  have step : ∀ k : Nat, (k < stepsN n a d ↔ 0 ≤ a + d * k ∧ a + d * k < n) ∧ (a + d * k + d = a + d * ((k + 1 : Nat) : Int)) := by
    intro k
    constructor
    · unfold stepsN
      rcases hd with rfl | rfl <;> simp <;> omega
    · rcases hd with rfl | rfl <;> omega
  have hget := wayL_get n a d
  have hlen : (wayL n a d).length = stepsN n a d := by simp [wayL]
  generalize wayL n a d = xs at *
  generalize stepsN n a d = m at *
  refine sq_of_bodyF hm Tryz.func316 (by kernel_rfl) ⟨by kernel_rfl, fun l => ?_⟩
  conv => whnf
  refine Or.inr ⟨Nat, [5], [22], [], fun k => [i64 (a + d * k)], fun k => [.ctr l xs k false], fun _ => [], fun k => m - k, fun k => k ≤ m, ?_⟩
  (conv => whnf)
  refine ⟨⟨0, ?_⟩, ?_⟩
  · (conv => whnf)
    refine ⟨⟨Nat.zero_le _, ?_, rfl, rfl⟩, by kernel_rfl, by kernel_rfl⟩
    show [i64 a] = [i64 (a + d * ((0 : Nat) : Int))]
    simp
  · intro k hk
    have st := step k
    (conv => whnf)
    refine ⟨fun h => ?_, fun h => ?_⟩
    · have h := of_decide_eq_true h
      (conv => whnf)
      refine ⟨fun h2 => ?_, fun h2 => ?_⟩
      · have h2 := of_decide_eq_true h2
        have hkm := st.1.2 ⟨h, h2⟩
        (conv => whnf)
        refine ⟨⟨rfl, by exact (hget k).trans (by rw [if_pos hkm]; rfl), by kernel_rfl⟩, ?_, ?_⟩
        · (conv => whnf)
          refine ⟨k + 1, ?_⟩
          (conv => whnf)
          refine ⟨⟨⟨Nat.sub_lt_sub_left (by omega) (Nat.lt_succ_self k), by omega⟩, ?_, rfl, rfl⟩, by kernel_rfl, by kernel_rfl⟩
          rw [w64 _ (by rcases hd with rfl | rfl <;> omega) (by rcases hd with rfl | rfl <;> omega), st.2]
        · (conv => whnf)
          intro h; cases h
      · have h2 := of_decide_eq_false h2
        (conv => whnf)
        intro _
        rw [hlen]
        have := mt st.1.1 (fun k => h2 k.2)
        omega
    · have h := of_decide_eq_false h
      (conv => whnf)
      intro _
      rw [hlen]
      have := mt st.1.1 (fun k => h k.1)
      omega
end Go.Proofs.Tryz.My
set_option maxRecDepth 100000
set_option maxHeartbeats 0
set_option linter.unusedVariables false
set_option linter.unusedSimpArgs false
namespace Go.Proofs.Tryz.My
open Go Go.Ev
theorem pc_gasked (p : List Int) (thr a noise : Int) (hl : p.length < 2 ^ 40) : PC Tryz.prog 247 [ints p, i64 thr, i64 a, i64 noise] (i64 (if profB p then (if askE p thr a noise then 0 else 2) else 50)) := by
  have c1 := pc_CheckProfile p hl
  have hw : IntKind.i64.wrap ((p.length : Int) - 1) = (p.length : Int) - 1 := w64 _ (by omega) (by omega)
  cases hp : profB p
  · rw [hp] at c1
    refine pc_of_bodyF hm Tryz.func247 (by kernel_rfl) ?_
    conv => whnf
    (repeat' (first | (refine ansS (fun hh => ?_) (fun hh => ?_) <;> (first | simp only [ansX] at hh | skip) <;> (first | (exfalso; omega) | (exfalso; simp [*] at hh; done) | (exfalso; revert hh; decide) | exact absurd (by assumption) hh | (conv => whnf))) | ((first | refine ⟨by kernel_rfl, ?_⟩ | refine ansB (by omega) (by omega) ?_ | refine ansB (by decide) (by decide) ?_ | refine And.intro (a := _ ≤ _) (by omega) ?_ | refine And.intro (a := _ ≠ _) (by omega) ?_ | ((try (refine Or.inl ?_; (conv => whnf))); (try (refine ⟨false, ?_⟩; (conv => whnf))); refine ⟨_, by exact c1, ?_⟩) | fail); (conv => whnf))))
    all_goals simp
  rw [hp] at c1
  refine pc_of_bodyF hm Tryz.func247 (by kernel_rfl) ?_
  conv => whnf
  (repeat' (first | (refine ansS (fun hh => ?_) (fun hh => ?_) <;> (first | simp only [ansX] at hh | skip) <;> (first | (exfalso; omega) | (exfalso; simp [*] at hh; done) | (exfalso; revert hh; decide) | exact absurd (by assumption) hh | (conv => whnf))) | ((first | refine ⟨by kernel_rfl, ?_⟩ | refine ansB (by omega) (by omega) ?_ | refine ansB (by decide) (by decide) ?_ | refine And.intro (a := _ ≤ _) (by omega) ?_ | refine And.intro (a := _ ≠ _) (by omega) ?_ | ((try (refine Or.inl ?_; (conv => whnf))); (try (refine ⟨false, ?_⟩; (conv => whnf))); refine ⟨_, by first | exact c1 | exact pc_gfrom _ _ _, ?_⟩) | fail); (conv => whnf))))
  all_goals (first | (simp_all [askE, withB]; done) | (simp_all [askE, withB]; intros; omega))
theorem pc_r5asked (p : List Int) (thr a noise : Int) (hl : p.length < 2 ^ 40) : PC Tryz.prog 258 [ints p, i64 thr, i64 a, i64 noise] (i64 (if profB p then (if askE p thr a noise then 0 else 2) else 50)) := by
  have c1 := pc_ValidProfile5 p hl
  have hw : IntKind.i64.wrap ((p.length : Int) - 1) = (p.length : Int) - 1 := w64 _ (by omega) (by omega)
  cases hp : profB p
  · rw [hp] at c1
    refine pc_of_bodyF hm Tryz.func258 (by kernel_rfl) ?_
    conv => whnf
    (repeat' (first | (refine ansS (fun hh => ?_) (fun hh => ?_) <;> (first | simp only [ansX] at hh | skip) <;> (first | (exfalso; omega) | (exfalso; simp [*] at hh; done) | (exfalso; revert hh; decide) | exact absurd (by assumption) hh | (conv => whnf))) | ((first | refine ⟨by kernel_rfl, ?_⟩ | refine ansB (by omega) (by omega) ?_ | refine ansB (by decide) (by decide) ?_ | refine And.intro (a := _ ≤ _) (by omega) ?_ | refine And.intro (a := _ ≠ _) (by omega) ?_ | ((try (refine Or.inl ?_; (conv => whnf))); (try (refine ⟨false, ?_⟩; (conv => whnf))); refine ⟨_, by exact c1, ?_⟩) | fail); (conv => whnf))))
    all_goals simp
  rw [hp] at c1
  refine pc_of_bodyF hm Tryz.func258 (by kernel_rfl) ?_
  conv => whnf
  (repeat' (first | (refine ansS (fun hh => ?_) (fun hh => ?_) <;> (first | simp only [ansX] at hh | skip) <;> (first | (exfalso; omega) | (exfalso; simp [*] at hh; done) | (exfalso; revert hh; decide) | exact absurd (by assumption) hh | (conv => whnf))) | ((first | refine ⟨by kernel_rfl, ?_⟩ | refine ansB (by omega) (by omega) ?_ | refine ansB (by decide) (by decide) ?_ | refine And.intro (a := _ ≤ _) (by omega) ?_ | refine And.intro (a := _ ≠ _) (by omega) ?_ | ((try (refine Or.inl ?_; (conv => whnf))); (try (refine ⟨false, ?_⟩; (conv => whnf))); refine ⟨_, by first | exact c1 | exact pc_within5 _ _ _, ?_⟩) | fail); (conv => whnf))))
  all_goals (first | (simp_all [askE, withB]; done) | (simp_all [askE, withB]; intros; omega))
theorem prof_byte {p : List Int} (h : profB p = true) : byteL p := fun i hi => val_bounds (prof_val h) i hi
theorem ask_known {p : List Int} {thr a noise : Int} (h : askE p thr a noise = true) : 1 ≤ thr ∧ thr ≤ 255 ∧ 0 ≤ a ∧ a < p.length ∧ 0 ≤ noise ∧ noise ≤ 64 := by
  simp only [askE, Bool.and_eq_true, decide_eq_true_eq] at h
  omega
theorem pc_ways (n : Int) (a d : Int) : PC Tryz.prog 286 [i64 n, i64 a, i64 d] (.fn (.func 316) [] [.pt [i64 a] 0, .pt [i64 n] 0, .pt [i64 d] 0]) := by
  refine pc_of_bodyF hm Tryz.func286 (by kernel_rfl) ?_
  conv => whnf
theorem pc_gwhole (n : Int) : PC Tryz.prog 92 [i64 n] (fr (n, 1)) := by
  refine pc_of_bodyF hm Tryz.func92 (by kernel_rfl) ?_
  conv => whnf
  (repeat' (first | (refine ansS (fun hh => ?_) (fun hh => ?_) <;> (first | simp only [ansX] at hh | skip) <;> (first | (exfalso; omega) | (exfalso; simp [*] at hh; done) | (exfalso; revert hh; decide) | exact absurd (by assumption) hh | (conv => whnf))) | ((first | refine ⟨by kernel_rfl, ?_⟩ | refine ansB (by omega) (by omega) ?_ | refine ansB (by decide) (by decide) ?_ | refine And.intro (a := _ ≤ _) (by omega) ?_ | refine And.intro (a := _ ≠ _) (by omega) ?_ | fail); (conv => whnf))))
end Go.Proofs.Tryz.My
set_option maxRecDepth 100000
set_option maxHeartbeats 1000000
set_option linter.unusedVariables false
set_option linter.unusedSimpArgs false
namespace Go.Proofs.Tryz.My
open Go Go.Ev
theorem pc_gbright (p : List Int) (thr a d : Int) (hp : byteL p) (hl : p.length ≤ 64) (ha : 0 ≤ a) (hn : a < p.length) (hd : ways1 d) (t1 : 1 ≤ thr) (t2 : thr ≤ 255) :
    PC Tryz.prog 248 [ints p, i64 thr, i64 a, i64 d] (.tup [fr (brF p thr a d).1, .bool (brF p thr a d).2]) := by
  have sq := sq_ways p.length a d ha hn (by omega) hd
  have hget := wayL_get p.length a d
  have hlen : (wayL p.length a d).length = stepsN p.length a d := by simp [wayL]
  have hflat : ∀ x ∈ wayL p.length a d, flatL x = true ∧ x.length = 1 := by
    intro x hx
    obtain ⟨k, _, rfl⟩ := List.mem_map.1 hx
    exact ⟨by kernel_rfl, rfl⟩
  have hxs : ∀ k x, (wayL p.length a d)[k]? = some x → k < stepsN p.length a d ∧ x = [i64 (a + d * (k : Int))] := by
    intro k x hx
    rw [hget] at hx
    by_cases hks : k < stepsN p.length a d
    · rw [if_pos hks] at hx
      exact ⟨hks, (Option.some.inj hx).symm⟩
    · rw [if_neg hks] at hx; cases hx
  refine pc_of_bodyF hm Tryz.func248 (by kernel_rfl) ?_
  conv => whnf
  (repeat' (first | (refine ansS (fun hh => ?_) (fun hh => ?_) <;> (first | simp only [ansX] at hh | skip) <;> (first | (exfalso; omega) | (exfalso; simp [*] at hh; done) | (exfalso; revert hh; decide) | exact absurd (by assumption) hh | (conv => whnf))) | ((first | refine ⟨by kernel_rfl, ?_⟩ | refine ansB (by omega) (by omega) ?_ | refine ansB (by decide) (by decide) ?_ | refine And.intro (a := _ ≤ _) (by omega) ?_ | refine And.intro (a := _ ≠ _) (by omega) ?_ | ((try (refine Or.inl ?_; (conv => whnf))); (try (refine ⟨false, ?_⟩; (conv => whnf))); refine ⟨_, by exact pc_ways _ _ _, ?_⟩) | fail); (conv => whnf))))
  refine ⟨wayL p.length a d, [], fun _ => [], fun k => k ≤ stepsN p.length a d ∧ ∀ j, j < k → atK p a d j < thr, ⟨sq, hflat⟩, ?_⟩
  refine ⟨by kernel_rfl, ?_⟩
  refine ⟨?_, ?_⟩
  · (conv => whnf)
    exact ⟨⟨⟨Nat.zero_le _, fun j hj => absurd hj (Nat.not_lt_zero j)⟩, rfl, rfl, rfl⟩, by kernel_rfl, by kernel_rfl⟩
  refine ⟨?_, ?_⟩
  · with_reducible refine round_mpF hxs ?_
    intro k hks hk
    have hin := steps_in ha hn hd hks
    (conv => whnf)
    (repeat' (first | (refine ⟨by kernel_rfl, ?_⟩; (conv => whnf)) | (refine And.intro (a := _ ∧ _) ⟨by omega, by omega⟩ ?_; (conv => whnf))))
    refine ⟨fun h => ?_, fun h => ?_⟩
    · have h := of_decide_eq_true h
      (conv => whnf)
      refine ⟨⟨⟨by omega, fun j hj => ?_⟩, rfl⟩, by kernel_rfl⟩
      by_cases e : j = k
      · subst e; exact h
      · exact hk.2 j (by omega)
    · have h := of_decide_eq_false h
      (conv => whnf)
      refine ⟨fun h2 => ?_, fun h2 => ?_⟩
      · have h2 := of_decide_eq_true h2
        obtain rfl : k = 0 := by rcases hd with rfl | rfl <;> omega
        have hb := brF_some (brk_some.2 ⟨hks, Int.not_lt.1 h, hk.2⟩)
        (conv => whnf)
        (first | (refine Or.inl ?_; (conv => whnf); refine ⟨_, pc_gwhole _, ?_⟩) | refine ⟨_, pc_gwhole _, ?_⟩)
        (conv => whnf)
        rw [hb]
        simp [placeF, placeN, makeF_one (show -4611686018427387903 ≤ a by omega) (show a ≤ 4611686018427387903 by omega)]
      · have h2 := of_decide_eq_false h2
        obtain ⟨m, rfl⟩ : ∃ m, k = m + 1 := ⟨k - 1, by rcases hd with rfl | rfl <;> omega⟩
        have hb := brF_some (brk_some.2 ⟨hks, Int.not_lt.1 h, hk.2⟩)
        have hm := steps_in ha hn hd (k := m) (by omega)
        have wd : IntKind.i64.wrap (a + d * ((m + 1 : Nat) : Int) - d) = a + d * (m : Int) := by rw [w64 _ (by rcases hd with rfl | rfl <;> omega) (by rcases hd with rfl | rfl <;> omega)]; rcases hd with rfl | rfl <;> omega
        (conv => whnf)
        rw [wd]
        (repeat' (first | (refine ⟨by kernel_rfl, ?_⟩; (conv => whnf)) | (refine And.intro (a := _ ∧ _) ⟨by omega, by omega⟩ ?_; (conv => whnf))))
        have hv := brk_some.2 ⟨hks, Int.not_lt.1 h, hk.2⟩
        have b1 := atK_byte hp ha hn hd hks
        have b2 := atK_byte hp ha hn hd (k := m) (by omega)
        have b3 := hk.2 m (by omega)
        have b4 : thr ≤ atK p a d (m + 1) := Int.not_lt.1 h
        have hpl : placeF p thr a d (m + 1) = (makeF ((a + d * (m : Int)) * (atK p a d (m + 1) - atK p a d m) + d * (thr - atK p a d m)) (atK p a d (m + 1) - atK p a d m)).1 := rfl
        have w1 : IntKind.i64.wrap (thr - p.getD (a + d * (m : Int)).toNat 0) = thr - atK p a d m := w64 (thr - atK p a d m) (by omega) (by omega)
        have w2 : IntKind.i64.wrap (p.getD (a + d * ((m + 1 : Nat) : Int)).toNat 0 - p.getD (a + d * (m : Int)).toNat 0) = atK p a d (m + 1) - atK p a d m := w64 (atK p a d (m + 1) - atK p a d m) (by omega) (by omega)
        have w3 : IntKind.i64.wrap (d * (thr - atK p a d m)) = d * (thr - atK p a d m) := w64 _ (by rcases hd with rfl | rfl <;> omega) (by rcases hd with rfl | rfl <;> omega)
        have n1 : -255 ≤ d * (thr - atK p a d m) ∧ d * (thr - atK p a d m) ≤ 255 := by rcases hd with rfl | rfl <;> omega
        rw [w1, w2, w3]
        have cm := pc_Make (d * (thr - atK p a d m)) (atK p a d (m + 1) - atK p a d m) (by unfold I64; omega) (by unfold I64; omega)
        have hadd := add_part (w := a + d * (m : Int)) (N := d * (thr - atK p a d m)) (s := atK p a d (m + 1) - atK p a d m) (by omega) (by omega) (by omega) (by omega) (by omega) (by omega)
        have hmk := makeF_small (n := d * (thr - atK p a d m)) (d := atK p a d (m + 1) - atK p a d m) (by omega) (by omega) (by omega) (by omega)
        have ca := pc_Add (a + d * (m : Int), 1) (makeF (d * (thr - atK p a d m)) (atK p a d (m + 1) - atK p a d m)).1
        have hbo : bothF addF (a + d * (m : Int), 1) (makeF (d * (thr - atK p a d m)) (atK p a d (m + 1) - atK p a d m)).1 = makeF ((a + d * (m : Int)) * (atK p a d (m + 1) - atK p a d m) + d * (thr - atK p a d m)) (atK p a d (m + 1) - atK p a d m) := by
          unfold bothF
          rw [valid_one (by omega) (by omega), hmk.1]
          exact hadd
        rw [hbo] at ca
        rw [hb, hpl]
        clear hadd hmk hbo hpl w1 w2 w3 n1 b1 b2 b3 b4 hv
        generalize makeF ((a + d * (m : Int)) * (atK p a d (m + 1) - atK p a d m) + d * (thr - atK p a d m)) (atK p a d (m + 1) - atK p a d m) = R at *
        generalize makeF (d * (thr - atK p a d m)) (atK p a d (m + 1) - atK p a d m) = M at *
        (first | (refine Or.inl ?_; (conv => whnf); refine ⟨_, cm, ?_⟩) | refine ⟨_, cm, ?_⟩)
        (conv => whnf)
        (repeat' (first | (refine ⟨by kernel_rfl, ?_⟩; (conv => whnf)) | (refine And.intro (a := _ ∧ _) ⟨by omega, by omega⟩ ?_; (conv => whnf))))
        (first | (refine Or.inl ?_; (conv => whnf); refine ⟨_, pc_gwhole _, ?_⟩) | refine ⟨_, pc_gwhole _, ?_⟩)
        (conv => whnf)
        (first | (refine Or.inl ?_; (conv => whnf); refine ⟨_, ca, ?_⟩) | refine ⟨_, ca, ?_⟩)
        (conv => whnf)
        (repeat' (first | (refine ⟨by kernel_rfl, ?_⟩; (conv => whnf)) | (refine And.intro (a := _ ∧ _) ⟨by omega, by omega⟩ ?_; (conv => whnf))))
  · with_reducible refine done_mpF ?_
    intro hk
    rw [hlen] at hk
    have hb := brF_none (brk_none.2 hk.2)
    (conv => whnf)
    rw [hb]
end Go.Proofs.Tryz.My
