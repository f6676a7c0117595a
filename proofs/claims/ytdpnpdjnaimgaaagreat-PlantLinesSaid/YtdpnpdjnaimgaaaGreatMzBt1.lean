/- A helper text: contracts of functions of the program, and plain lemmas. -/
import Derived.Test.YtdpnpdjnaimgaaaGreatEvSix
import Derived.Test.YtdpnpdjnaimgaaaGreatMzBkA
set_option maxRecDepth 100000
set_option maxHeartbeats 0
set_option linter.unusedVariables false
set_option linter.unusedSimpArgs false
namespace Go.Proofs.Tryz.My
open Go Go.Ev
theorem set_getD_same {α : Type} {d : α} : ∀ (l : List α) (i : Nat), l.set i (l.getD i d) = l
  | [], _ => rfl
  | a :: l, 0 => rfl
  | a :: l, i + 1 => by
    show a :: l.set i (l.getD i d) = _
    rw [set_getD_same l i]
theorem pc_r10Twin (b : BooksT) (o : Okay b) : PC Tryz.prog 77 [bks b] (bks b) := by
  have hu := o.u
  have hr := o.r
  have hl := o.l
  have ha := o.a
  have hp := o.p
  obtain ⟨k, us, rs, n, lg⟩ := b
  simp only at hu hr hl ha hp
  refine pc_of_bodyF hm Tryz.func77 (by kernel_rfl) ?_
  conv => whnf
  refine ⟨⟨Int, 1, 0, e8, []⟩, us, rfl, ⟨rfl, rfl⟩, rfl, ?_, ?_, fun y _ => ⟨rfl, rfl, rfl⟩, ?_⟩
  · show (0 + us.length) * 1 ≤ _; omega
  · show 0 + us.length ≤ _; omega
  (conv => whnf)
  refine ⟨⟨RecT, 13, rec0, eRec, []⟩, rs, rfl, ⟨rfl, rfl⟩, rfl, ?_, ?_, fun y _ => ⟨rfl, rfl, rfl⟩, ?_⟩
  · show (0 + rs.length) * 120 ≤ _; omega
  · show 0 + rs.length ≤ _; omega
  (conv => whnf)
  refine Or.inr ⟨Nat, [3], [13], [], fun k => [i64 k], fun _ => [.vec 122 13 rec0 eRec rs], fun _ => [], fun k => rs.length - k, fun k => k ≤ rs.length, ?_⟩
  (conv => whnf)
  refine ⟨⟨0, ?_⟩, ?_⟩
  · (conv => whnf)
    exact ⟨⟨Nat.zero_le _, rfl, rfl, rfl⟩, by kernel_rfl, by kernel_rfl⟩
  · intro j hj
    (conv => whnf)
    refine ⟨fun h => ?_, fun h => ?_⟩
    · have h := of_decide_eq_true h
      have hjj : j < rs.length := by omega
      have hx1 := ha j
      (repeat' (first | (refine ansS (fun hh => ?_) (fun hh => ?_) <;> (first | simp only [ansX] at hh | skip) <;> (first | (exfalso; omega) | (exfalso; simp [*] at hh; done) | (exfalso; revert hh; decide) | exact absurd (by assumption) hh | (conv => whnf))) | ((first | refine ⟨by kernel_rfl, ?_⟩ | refine ansB (by omega) (by omega) ?_ | refine ansB (by decide) (by decide) ?_ | refine And.intro (a := _ ≤ _) (by omega) ?_ | refine And.intro (a := _ ≠ _) (by omega) ?_ | fail); (conv => whnf))))
      refine ⟨hjj, ?_⟩
      (conv => whnf)
      rw [show Int.toNat (j : Int) = j from rfl]
      refine ⟨⟨Int, 1, 0, eI, []⟩, (rs.getD j rec0).appr, rfl, ⟨rfl, rfl⟩, rfl, ?_, ?_, fun y _ => ⟨rfl, rfl, rfl⟩, ?_⟩
      · show (0 + (rs.getD j rec0).appr.length) * 8 ≤ _; omega
      · show 0 + (rs.getD j rec0).appr.length ≤ _; omega
      (conv => whnf)
      refine ⟨⟨by omega, by omega⟩, ?_⟩
      (conv => whnf)
      refine ⟨rs.getD j rec0, ⟨rfl, hjj⟩, ?_⟩
      (conv => whnf)
      refine ⟨by kernel_rfl, ?_⟩
      (conv => whnf)
      refine ⟨j + 1, ?_⟩
      (conv => whnf)
      refine ⟨⟨⟨?_, ?_⟩, ?_, ?_, rfl⟩, by kernel_rfl, by kernel_rfl⟩
      · show rs.length - (j + 1) < rs.length - j; omega
      · show j + 1 ≤ rs.length; omega
      · rw [w64 _ (by omega) (by omega)]; rfl
      · rw [show Int.toNat (j : Int) = j from rfl, set_getD_same]
    · have h := of_decide_eq_false h
      (conv => whnf)
      refine ⟨⟨EntT, 6, ent0, eEnt, []⟩, lg, rfl, ⟨rfl, rfl⟩, rfl, ?_, ?_, fun y _ => ⟨rfl, rfl, rfl⟩, ?_⟩
      · show (0 + lg.length) * 56 ≤ _; omega
      · show 0 + lg.length ≤ _; omega
      (conv => whnf)
      refine Or.inr ⟨Nat, [4], [38], [], fun k => [i64 k], fun _ => [.vec 80 6 ent0 eEnt lg], fun _ => [], fun k => lg.length - k, fun k => k ≤ lg.length, ?_⟩
      (conv => whnf)
      refine ⟨⟨0, ?_⟩, ?_⟩
      · (conv => whnf)
        exact ⟨⟨Nat.zero_le _, rfl, rfl, rfl⟩, by kernel_rfl, by kernel_rfl⟩
      · intro j hj
        (conv => whnf)
        refine ⟨fun h => ?_, fun h => ?_⟩
        · have h := of_decide_eq_true h
          have hjj : j < lg.length := by omega
          have hx1 := hp j
          (repeat' (first | (refine ansS (fun hh => ?_) (fun hh => ?_) <;> (first | simp only [ansX] at hh | skip) <;> (first | (exfalso; omega) | (exfalso; simp [*] at hh; done) | (exfalso; revert hh; decide) | exact absurd (by assumption) hh | (conv => whnf))) | ((first | refine ⟨by kernel_rfl, ?_⟩ | refine ansB (by omega) (by omega) ?_ | refine ansB (by decide) (by decide) ?_ | refine And.intro (a := _ ≤ _) (by omega) ?_ | refine And.intro (a := _ ≠ _) (by omega) ?_ | fail); (conv => whnf))))
          refine ⟨hjj, ?_⟩
          (conv => whnf)
          rw [show Int.toNat (j : Int) = j from rfl]
          refine ⟨⟨Int, 1, 0, eI, []⟩, (lg.getD j ent0).profile, rfl, ⟨rfl, rfl⟩, rfl, ?_, ?_, fun y _ => ⟨rfl, rfl, rfl⟩, ?_⟩
          · show (0 + (lg.getD j ent0).profile.length) * 8 ≤ _; omega
          · show 0 + (lg.getD j ent0).profile.length ≤ _; omega
          (conv => whnf)
          refine ⟨⟨by omega, by omega⟩, ?_⟩
          (conv => whnf)
          refine ⟨lg.getD j ent0, ⟨rfl, hjj⟩, ?_⟩
          (conv => whnf)
          refine ⟨by kernel_rfl, ?_⟩
          (conv => whnf)
          refine ⟨j + 1, ?_⟩
          (conv => whnf)
          refine ⟨⟨⟨?_, ?_⟩, ?_, ?_, rfl⟩, by kernel_rfl, by kernel_rfl⟩
          · show lg.length - (j + 1) < lg.length - j; omega
          · show j + 1 ≤ lg.length; omega
          · rw [w64 _ (by omega) (by omega)]; rfl
          · rw [show Int.toNat (j : Int) = j from rfl, set_getD_same]
        · have h := of_decide_eq_false h
          (conv => whnf)
          rfl
end Go.Proofs.Tryz.My
