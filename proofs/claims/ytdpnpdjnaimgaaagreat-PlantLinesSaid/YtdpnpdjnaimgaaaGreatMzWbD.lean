/- A helper text: contracts of functions of the program, and plain lemmas. -/
import Derived.Test.YtdpnpdjnaimgaaaGreatEvSix
import Derived.Test.YtdpnpdjnaimgaaaGreatMzWbB
set_option maxRecDepth 100000
set_option maxHeartbeats 0
set_option linter.unusedVariables false
set_option linter.unusedSimpArgs false
namespace Go.Proofs.Tryz.My
open Go Go.Ev
theorem pc_CheckTrack9 (t : TrackT) (hl : t.parts.length < 2 ^ 40) (hI : I64 t.belt.step) : PC Tryz.prog 70 [trk t] (i64 (trkE t)) := by
  have c1 := pc_ValidBelt t.belt hI
  unfold trkE
  by_cases hb : beltB t.belt = true
  · rw [if_pos hb]
    rw [hb] at c1
    have bl := belt_iff.1 hb
    have c3 := pc_Ends t.belt hb t.belt.gate bl.2.2.1.1 bl.2.2.1.2
    have wr := win_range hb bl.2.2.1.1 bl.2.2.1.2
    by_cases hs : sizT t = true
    · have sz := sizT_iff.1 hs
      have fin : ∀ i, i < t.parts.length → okPt t i = false → (if trkB t = true then (0 : Int) else 8) = 8 := fun i hi h => if_neg fun q => by
        unfold trkB at q
        rw [Bool.and_eq_true, all_rangeN] at q
        rw [q.2 i hi] at h; cases h
      have ok : (∀ i, i < t.parts.length → okPt t i = true) → (if trkB t = true then (0 : Int) else 8) = 0 := fun h => if_pos (by
        unfold trkB
        rw [hs, Bool.true_and, all_rangeN]; exact h)
      generalize (if trkB t = true then (0 : Int) else 8) = res at *
      refine pc_of_bodyF hm Tryz.func70 (by kernel_rfl) ?_
      conv => whnf
      (repeat' (first | (refine ansS (fun hh => ?_) (fun hh => ?_) <;> (first | simp only [ansX] at hh | skip) <;> (first | (exfalso; omega) | (exfalso; simp [*] at hh; done) | (exfalso; revert hh; decide) | exact absurd (by assumption) hh | (conv => whnf))) | ((first | refine ⟨by kernel_rfl, ?_⟩ | refine ansB (by omega) (by omega) ?_ | refine ansB (by decide) (by decide) ?_ | refine And.intro (a := _ ≤ _) (by omega) ?_ | refine And.intro (a := _ ≠ _) (by omega) ?_ | ((try (refine Or.inl ?_; (conv => whnf))); (try (refine ⟨false, ?_⟩; (conv => whnf))); refine ⟨_, by first | exact c1 | exact c3 | exact pc_r9within _ _ _, ?_⟩) | fail); (conv => whnf))))
      clear c1 c3
      refine Or.inr ⟨Nat, [5], [], [], fun i => [i64 i], fun _ => [], fun _ => [], fun i => t.parts.length - i, fun i => i ≤ t.parts.length ∧ ∀ j, j < i → okPt t j = true, ?_⟩
      (conv => whnf)
      refine ⟨⟨0, ?_⟩, ?_⟩
      · (conv => whnf)
        exact ⟨⟨⟨Nat.zero_le _, fun j hj => absurd hj (Nat.not_lt_zero j)⟩, rfl, rfl, rfl⟩, by kernel_rfl, by kernel_rfl⟩
      rintro k ⟨hk, hok⟩
      by_cases hkk : k < t.parts.length
      · have hi := okPt_iff (t := t) (k := k)
        have hp := prev_low hok
        have all := fin k hkk
        have next : okPt t k = true → ∀ j, j < k + 1 → okPt t j = true := fun e j hj => by
          by_cases z : j = k
          · subst z; exact e
          · exact hok j (by omega)
        have pv : 0 < k → t.parts.getD (Int.toNat ((k : Int) - 1)) seen0 = prevS t.parts k := fun h => by
          obtain ⟨m, rfl⟩ : ∃ m, k = m + 1 := ⟨k - 1, by omega⟩
          rw [prevS_succ, show ((m + 1 : Nat) : Int) - 1 = (m : Int) by omega]; rfl
        have p0 : k = 0 → prevS t.parts k = ⟨-1, -1, 0, false⟩ := fun h => by subst h; rfl
        have wk : IntKind.i64.wrap ((k : Int) - 1) = (k : Int) - 1 := w64 _ (by omega) (by omega)
        have wn : IntKind.i64.wrap (t.next - 1) = t.next - 1 := w64 _ (by omega) (by omega)
        have e0 : t.parts.getD (Int.toNat (k : Int)) seen0 = t.parts.getD k seen0 := rfl
        (conv => whnf)
        refine ⟨fun h => ?_, fun h => absurd (of_decide_eq_false h) (by omega)⟩
        (conv => whnf)
        refine ⟨⟨by omega, by omega⟩, ?_⟩
        (conv => whnf)
        rw [e0]
        generalize hx : t.parts.getD k seen0 = x at hi ⊢
        obtain ⟨xi, xc, xv, xh⟩ := x
        have w1 : xc ≤ t.count ∧ 0 ≤ xc → IntKind.i64.wrap (xc + winB t.belt t.belt.gate) = xc + winB t.belt t.belt.gate := fun h => w64 _ (by omega) (by omega)
        have w2 : xc ≤ t.count ∧ 0 ≤ xc → IntKind.i64.wrap (xc + winA t.belt t.belt.gate) = xc + winA t.belt t.belt.gate := fun h => w64 _ (by omega) (by omega)
        simp only at hi
        by_cases k0 : k = 0
        · have pz := p0 k0
          rw [pz] at hi
          simp only at hi
          subst k0
          clear pz p0 pv hp
          by_cases ho : okPt t 0 = true
          · have f := hi.1 ho
            have nx := next ho
            clear hi all next hok ho hb hs hx h fin ok
            have w1 := w1 (by omega)
            have w2 := w2 (by omega)
            cases xh <;>
            · try (have f2 := f.2.2.2.2.2.2 rfl)
              (repeat' (first | (refine ansS (fun hh => ?_) (fun hh => ?_) <;> (first | simp only [ansX] at hh | skip) <;> (first | (exfalso; omega) | (exfalso; simp [*] at hh; done) | (exfalso; revert hh; decide) | exact absurd (by assumption) hh | (conv => whnf))) | ((first | refine ⟨by kernel_rfl, ?_⟩ | refine ansB (by omega) (by omega) ?_ | refine ansB (by decide) (by decide) ?_ | refine And.intro (a := _ ≤ _) (by omega) ?_ | refine And.intro (a := _ ≠ _) (by omega) ?_ | ((try (refine Or.inl ?_; (conv => whnf))); (try (refine ⟨false, ?_⟩; (conv => whnf))); refine ⟨_, by exact pc_r9within _ _ _, ?_⟩) | fail); (conv => whnf))))
              all_goals first
                | (refine ⟨0 + 1, ?_⟩
                   (conv => whnf)
                   refine ⟨⟨⟨?_, ?_, nx⟩, ?_, rfl, rfl⟩, by kernel_rfl, by kernel_rfl⟩
                   · show t.parts.length - (0 + 1) < t.parts.length - 0; omega
                   · omega
                   · rw [w64 _ (by omega) (by omega)]; rfl)
                | set_option pp.maxSteps 300 in trace_state
          · have ho2 : okPt t 0 = false := by simpa using ho
            rw [all ho2]
            have f := mt hi.2 ho
            clear hi all next hok ho ho2 hb hs hx h fin ok
            by_cases hr : xc ≤ t.count ∧ 0 ≤ xc
            · have w1 := w1 hr
              have w2 := w2 hr
              cases xh <;>
              · (repeat' (first | (refine ansS (fun hh => ?_) (fun hh => ?_) <;> (first | simp only [ansX] at hh | skip) <;> (first | (exfalso; omega) | (exfalso; simp [*] at hh; done) | (exfalso; revert hh; decide) | exact absurd (by assumption) hh | (conv => whnf))) | ((first | refine ⟨by kernel_rfl, ?_⟩ | refine ansB (by omega) (by omega) ?_ | refine ansB (by decide) (by decide) ?_ | refine And.intro (a := _ ≤ _) (by omega) ?_ | refine And.intro (a := _ ≠ _) (by omega) ?_ | ((try (refine Or.inl ?_; (conv => whnf))); (try (refine ⟨false, ?_⟩; (conv => whnf))); refine ⟨_, by exact pc_r9within _ _ _, ?_⟩) | fail); (conv => whnf))))
                all_goals first | rfl | (exfalso; apply f; refine ⟨?_, ?_, ?_, ?_, ?_, ?_, fun h => ?_⟩ <;> first | omega | cases h) | set_option pp.maxSteps 300 in trace_state
            · (repeat' (first | (refine ansS (fun hh => ?_) (fun hh => ?_) <;> (first | simp only [ansX] at hh | skip) <;> (first | (exfalso; omega) | (exfalso; simp [*] at hh; done) | (exfalso; revert hh; decide) | exact absurd (by assumption) hh | (conv => whnf))) | ((first | refine ⟨by kernel_rfl, ?_⟩ | refine ansB (by omega) (by omega) ?_ | refine ansB (by decide) (by decide) ?_ | refine And.intro (a := _ ≤ _) (by omega) ?_ | refine And.intro (a := _ ≠ _) (by omega) ?_ | ((try (refine Or.inl ?_; (conv => whnf))); (try (refine ⟨false, ?_⟩; (conv => whnf))); refine ⟨_, by exact pc_r9within _ _ _, ?_⟩) | fail); (conv => whnf))))
              all_goals (first | rfl | set_option pp.maxSteps 300 in trace_state)
        · have pw := pv (by omega)
          rw [← pw, ← wk] at hi hp
          clear pv p0 pw
          have hp := hp.2.2 (by omega)
          by_cases ho : okPt t k = true
          · have f := hi.1 ho
            have nx := next ho
            clear hi all next hok ho hb hs hx h fin ok
            have w1 := w1 (by omega)
            have w2 := w2 (by omega)
            cases xh <;>
            · try (have f2 := f.2.2.2.2.2.2 rfl)
              (repeat' (first | (refine ansS (fun hh => ?_) (fun hh => ?_) <;> (first | simp only [ansX] at hh | skip) <;> (first | (exfalso; omega) | (exfalso; simp [*] at hh; done) | (exfalso; revert hh; decide) | exact absurd (by assumption) hh | (conv => whnf))) | ((first | refine ⟨by kernel_rfl, ?_⟩ | refine ansB (by omega) (by omega) ?_ | refine ansB (by decide) (by decide) ?_ | refine And.intro (a := _ ≤ _) (by omega) ?_ | refine And.intro (a := _ ≠ _) (by omega) ?_ | ((try (refine Or.inl ?_; (conv => whnf))); (try (refine ⟨false, ?_⟩; (conv => whnf))); refine ⟨_, by exact pc_r9within _ _ _, ?_⟩) | fail); (conv => whnf))))
              all_goals first
                | (refine ⟨k + 1, ?_⟩
                   (conv => whnf)
                   refine ⟨⟨⟨?_, ?_, nx⟩, ?_, rfl, rfl⟩, by kernel_rfl, by kernel_rfl⟩
                   · show t.parts.length - (k + 1) < t.parts.length - k; omega
                   · omega
                   · rw [w64 _ (by omega) (by omega)]; rfl)
                | set_option pp.maxSteps 300 in trace_state
          · have ho2 : okPt t k = false := by simpa using ho
            rw [all ho2]
            have f := mt hi.2 ho
            clear hi all next hok ho ho2 hb hs hx h fin ok
            by_cases hr : xc ≤ t.count ∧ 0 ≤ xc
            · have w1 := w1 hr
              have w2 := w2 hr
              cases xh <;>
              · (repeat' (first | (refine ansS (fun hh => ?_) (fun hh => ?_) <;> (first | simp only [ansX] at hh | skip) <;> (first | (exfalso; omega) | (exfalso; simp [*] at hh; done) | (exfalso; revert hh; decide) | exact absurd (by assumption) hh | (conv => whnf))) | ((first | refine ⟨by kernel_rfl, ?_⟩ | refine ansB (by omega) (by omega) ?_ | refine ansB (by decide) (by decide) ?_ | refine And.intro (a := _ ≤ _) (by omega) ?_ | refine And.intro (a := _ ≠ _) (by omega) ?_ | ((try (refine Or.inl ?_; (conv => whnf))); (try (refine ⟨false, ?_⟩; (conv => whnf))); refine ⟨_, by exact pc_r9within _ _ _, ?_⟩) | fail); (conv => whnf))))
                all_goals first | rfl | (exfalso; apply f; refine ⟨?_, ?_, ?_, ?_, ?_, ?_, fun h => ?_⟩ <;> first | omega | cases h) | set_option pp.maxSteps 300 in trace_state
            · (repeat' (first | (refine ansS (fun hh => ?_) (fun hh => ?_) <;> (first | simp only [ansX] at hh | skip) <;> (first | (exfalso; omega) | (exfalso; simp [*] at hh; done) | (exfalso; revert hh; decide) | exact absurd (by assumption) hh | (conv => whnf))) | ((first | refine ⟨by kernel_rfl, ?_⟩ | refine ansB (by omega) (by omega) ?_ | refine ansB (by decide) (by decide) ?_ | refine And.intro (a := _ ≤ _) (by omega) ?_ | refine And.intro (a := _ ≠ _) (by omega) ?_ | ((try (refine Or.inl ?_; (conv => whnf))); (try (refine ⟨false, ?_⟩; (conv => whnf))); refine ⟨_, by exact pc_r9within _ _ _, ?_⟩) | fail); (conv => whnf))))
              all_goals (first | rfl | set_option pp.maxSteps 300 in trace_state)
      · have ek : k = t.parts.length := by omega
        rw [ok fun i hi => hok i (by omega)]
        (conv => whnf)
        refine ⟨fun h => absurd (of_decide_eq_true h) (by omega), fun h => ?_⟩
        (conv => whnf)
        all_goals rfl
    · have hn : ¬trkB t = true := fun h => by
        unfold trkB at h
        rw [Bool.and_eq_true] at h
        exact hs h.1
      rw [if_neg hn]
      have sz := mt sizT_iff.2 hs
      refine pc_of_bodyF hm Tryz.func70 (by kernel_rfl) ?_
      conv => whnf
      (repeat' (first | (refine ansS (fun hh => ?_) (fun hh => ?_) <;> (first | simp only [ansX] at hh | skip) <;> (first | (exfalso; omega) | (exfalso; simp [*] at hh; done) | (exfalso; revert hh; decide) | exact absurd (by assumption) hh | (conv => whnf))) | ((first | refine ⟨by kernel_rfl, ?_⟩ | refine ansB (by omega) (by omega) ?_ | refine ansB (by decide) (by decide) ?_ | refine And.intro (a := _ ≤ _) (by omega) ?_ | refine And.intro (a := _ ≠ _) (by omega) ?_ | ((try (refine Or.inl ?_; (conv => whnf))); (try (refine ⟨false, ?_⟩; (conv => whnf))); refine ⟨_, by first | exact c1 | exact c3 | exact pc_r9within _ _ _, ?_⟩) | fail); (conv => whnf))))
      all_goals (first | rfl | (exfalso; omega))
  · have hb2 : beltB t.belt = false := by simpa using hb
    rw [if_neg hb]
    rw [hb2] at c1
    refine pc_of_bodyF hm Tryz.func70 (by kernel_rfl) ?_
    conv => whnf
    (repeat' (first | (refine ansS (fun hh => ?_) (fun hh => ?_) <;> (first | simp only [ansX] at hh | skip) <;> (first | (exfalso; omega) | (exfalso; simp [*] at hh; done) | (exfalso; revert hh; decide) | exact absurd (by assumption) hh | (conv => whnf))) | ((first | refine ⟨by kernel_rfl, ?_⟩ | refine ansB (by omega) (by omega) ?_ | refine ansB (by decide) (by decide) ?_ | refine And.intro (a := _ ≤ _) (by omega) ?_ | refine And.intro (a := _ ≠ _) (by omega) ?_ | ((try (refine Or.inl ?_; (conv => whnf))); (try (refine ⟨false, ?_⟩; (conv => whnf))); refine ⟨_, by exact c1, ?_⟩) | fail); (conv => whnf))))
end Go.Proofs.Tryz.My
set_option maxRecDepth 100000
set_option maxHeartbeats 0
set_option linter.unusedVariables false
set_option linter.unusedSimpArgs false
namespace Go.Proofs.Tryz.My
open Go Go.Ev
theorem pc_fits (w : WorldT) (k : Nat) (rm : Room w (w.track.parts.getD k seen0).cnt) : PC Tryz.prog 73 [wld w, .agg (eThing (w.things.getD k thing0)), .agg (eSeen (w.track.parts.getD k seen0))] (.bool (okT w k)) := by
  have iff := okT_iff (w := w) (k := k)
  generalize okT w k = q at *
  generalize w.things.getD k thing0 = x at *
  generalize w.track.parts.getD k seen0 = s at *
  obtain ⟨r1, r2, r3, r4, r5, r6⟩ := rm
  refine pc_of_bodyF hm Tryz.func73 (by kernel_rfl) ?_
  conv => whnf
  (repeat' (first | (refine ansS (fun hh => ?_) (fun hh => ?_) <;> (first | simp only [ansX] at hh | skip) <;> (first | (exfalso; omega) | (exfalso; simp [*] at hh; done) | (exfalso; revert hh; decide) | exact absurd (by assumption) hh | (conv => whnf))) | ((first | refine ⟨by kernel_rfl, ?_⟩ | refine ansB (by omega) (by omega) ?_ | refine ansB (by decide) (by decide) ?_ | refine And.intro (a := _ ≤ _) (by omega) ?_ | refine And.intro (a := _ ≠ _) (by omega) ?_ | ((try (refine Or.inl ?_; (conv => whnf))); (try (refine ⟨false, ?_⟩; (conv => whnf))); refine ⟨_, by exact pc_within112 _ _ _, ?_⟩) | fail); (conv => whnf))))
  all_goals first
    | (refine congrArg AV.bool (Eq.symm ?_); rw [Bool.eq_false_iff]; intro z; have f := iff.1 z; omega)
    | (refine congrArg AV.bool ?_; rw [Bool.eq_iff_iff, iff]; simp only [Bool.and_eq_true, decide_eq_true_eq]; omega)
    | set_option pp.maxSteps 300 in trace_state
theorem pc_Check11 (w : WorldT) (o : OkayW w) (hI : IL4 w.line) (hT : I64 w.track.belt.step) (hG : ∀ i, IG (w.books.recipes.getD i rec0).gauge) : PC Tryz.prog 22 [wld w] (i64 (wldE w)) := by
  have c1 := pc_CheckLine11 w.line hI
  by_cases hl : lineE w.line = 0
  rotate_left
  · have e : wldE w = lineE w.line := by unfold wldE; rw [if_neg hl]
    rw [e]
    generalize lineE w.line = x at *
    refine pc_of_bodyF hm Tryz.func22 (by kernel_rfl) ?_
    conv => whnf
    (repeat' (first | (refine ansS (fun hh => ?_) (fun hh => ?_) <;> (first | simp only [ansX] at hh | skip) <;> (first | (exfalso; omega) | (exfalso; simp [*] at hh; done) | (exfalso; revert hh; decide) | exact absurd (by assumption) hh | (conv => whnf))) | ((first | refine ⟨by kernel_rfl, ?_⟩ | refine ansB (by omega) (by omega) ?_ | refine ansB (by decide) (by decide) ?_ | refine And.intro (a := _ ≤ _) (by omega) ?_ | refine And.intro (a := _ ≠ _) (by omega) ?_ | ((try (refine Or.inl ?_; (conv => whnf))); (try (refine ⟨false, ?_⟩; (conv => whnf))); refine ⟨_, by exact c1, ?_⟩) | fail); (conv => whnf))))
    all_goals (first | rfl | set_option pp.maxSteps 300 in trace_state)
  rw [hl] at c1
  rw [wldE_of hl]
  have lz := lineE_zero hl
  have bl := belt_iff.1 lz.1
  have c2 := pc_ValidDrift w.drift
  have c3 := pc_CheckTrack9 w.track (lt40 o.t) hT
  have c4 := pc_Valid w.books o.b hG
  have ht := o.h
  have hp := o.t
  by_cases hw : ownW w = true ∧ trkB w.track = true ∧ chkB w.books = true
  · obtain ⟨h1, h2, h3⟩ := hw
    have ow := ownW_iff.1 h1
    obtain ⟨sb, kp, ln, dr⟩ := ow
    have eb := sameBelt_eq sb
    obtain ⟨s1, s2, s3, s4⟩ := sb
    rw [dr] at c2
    have te : trkE w.track = 0 := trkE_zero.2 ⟨by rw [eb]; exact lz.1, h2⟩
    rw [te] at c3
    rw [h3] at c4
    have tg := trk_good.1 te
    have nx := chk_nx h3
    have fin : ∀ i, i < w.things.length → okT w i = false → (if wldB w = true then (0 : Int) else 8) = 8 := fun i hi h => if_neg fun q => by
      rw [(wld_parts.1 q).2 i hi] at h; cases h
    have ok : (∀ i, i < w.things.length → okT w i = true) → (if wldB w = true then (0 : Int) else 8) = 0 := fun h => if_pos (wld_parts.2 ⟨⟨h1, h2, h3⟩, h⟩)
    generalize (if wldB w = true then (0 : Int) else 8) = res at *
    refine pc_of_bodyF hm Tryz.func22 (by kernel_rfl) ?_
    conv => whnf
    (repeat' (first | (refine ansS (fun hh => ?_) (fun hh => ?_) <;> (first | simp only [ansX] at hh | skip) <;> (first | (exfalso; omega) | (exfalso; simp [*] at hh; done) | (exfalso; revert hh; decide) | exact absurd (by assumption) hh | (conv => whnf))) | ((first | refine ⟨by kernel_rfl, ?_⟩ | refine ansB (by omega) (by omega) ?_ | refine ansB (by decide) (by decide) ?_ | refine And.intro (a := _ ≤ _) (by omega) ?_ | refine And.intro (a := _ ≠ _) (by omega) ?_ | ((try (refine Or.inl ?_; (conv => whnf))); (try (refine ⟨false, ?_⟩; (conv => whnf))); refine ⟨_, by first | exact c1 | exact c2 | exact c3 | exact c4, ?_⟩) | fail); (conv => whnf))))
    all_goals (try (exfalso; simp_all; done))
    clear c1 c2 c3 c4 h1 h2 h3
    refine Or.inr ⟨Nat, [4], [], [], fun k => [i64 k], fun _ => [], fun _ => [], fun k => w.things.length - k, fun k => k ≤ w.things.length ∧ ∀ i, i < k → okT w i = true, ?_⟩
    (conv => whnf)
    refine ⟨⟨0, ?_⟩, ?_⟩
    · (conv => whnf)
      exact ⟨⟨⟨Nat.zero_le _, fun i hi => absurd hi (Nat.not_lt_zero i)⟩, rfl, rfl, rfl⟩, by kernel_rfl, by kernel_rfl⟩
    rintro k ⟨hk, hok⟩
    by_cases hkk : k < w.things.length
    · have hkp : k < w.track.parts.length := by omega
      have sn := tg.sn _ (mem_getD (d := seen0) hkp)
      have rm := room_of lz.1 tg.ct nx sn.2.1.1 sn.2.1.2.1
      have cf := pc_fits w k rm
      have bad := fin k hkk
      have nxt : okT w k = true → ∀ j, j < k + 1 → okT w j = true := fun e j hj => by
        by_cases z : j = k
        · subst z; exact e
        · exact hok j (by omega)
      (conv => whnf)
      refine ⟨fun h => ?_, fun h => absurd (of_decide_eq_false h) (by omega)⟩
      (conv => whnf)
      iterate 3 (first | (refine ⟨⟨by omega, by omega⟩, ?_⟩; (conv => whnf)) | (refine ⟨by kernel_rfl, ?_⟩; (conv => whnf)) | skip)
      by_cases ho : okT w k = true
      · have nx2 := nxt ho
        rw [ho] at cf
        (repeat' (first | (refine ansS (fun hh => ?_) (fun hh => ?_) <;> (first | simp only [ansX] at hh | skip) <;> (first | (exfalso; omega) | (exfalso; simp [*] at hh; done) | (exfalso; revert hh; decide) | exact absurd (by assumption) hh | (conv => whnf))) | ((first | refine ⟨by kernel_rfl, ?_⟩ | refine ansB (by omega) (by omega) ?_ | refine ansB (by decide) (by decide) ?_ | refine And.intro (a := _ ≤ _) (by omega) ?_ | refine And.intro (a := _ ≠ _) (by omega) ?_ | ((try (refine Or.inl ?_; (conv => whnf))); (try (refine ⟨false, ?_⟩; (conv => whnf))); refine ⟨_, by exact cf, ?_⟩) | fail); (conv => whnf))))
        all_goals first
          | (refine ⟨k + 1, ?_⟩
             (conv => whnf)
             refine ⟨⟨⟨?_, ?_, nx2⟩, ?_, rfl, rfl⟩, by kernel_rfl, by kernel_rfl⟩
             · show w.things.length - (k + 1) < w.things.length - k; omega
             · omega
             · rw [w64 _ (by omega) (by omega)]; rfl)
          | set_option pp.maxSteps 300 in trace_state
      · have ho2 : okT w k = false := by simpa using ho
        rw [ho2] at cf
        rw [bad ho2]
        (repeat' (first | (refine ansS (fun hh => ?_) (fun hh => ?_) <;> (first | simp only [ansX] at hh | skip) <;> (first | (exfalso; omega) | (exfalso; simp [*] at hh; done) | (exfalso; revert hh; decide) | exact absurd (by assumption) hh | (conv => whnf))) | ((first | refine ⟨by kernel_rfl, ?_⟩ | refine ansB (by omega) (by omega) ?_ | refine ansB (by decide) (by decide) ?_ | refine And.intro (a := _ ≤ _) (by omega) ?_ | refine And.intro (a := _ ≠ _) (by omega) ?_ | ((try (refine Or.inl ?_; (conv => whnf))); (try (refine ⟨false, ?_⟩; (conv => whnf))); refine ⟨_, by exact cf, ?_⟩) | fail); (conv => whnf))))
        all_goals (first | rfl | set_option pp.maxSteps 300 in trace_state)
    · have ek : k = w.things.length := by omega
      rw [ok fun i hi => hok i (by omega)]
      (conv => whnf)
      refine ⟨fun h => absurd (of_decide_eq_true h) (by omega), fun h => ?_⟩
      (conv => whnf)
      all_goals rfl
  · have nb : ¬wldB w = true := fun q => hw (wld_parts.1 q).1
    rw [if_neg nb]
    clear nb
    rw [ownW_iff] at hw
    unfold sameBelt at hw
    by_cases hbt : beltB w.track.belt = true
    · by_cases h2 : trkB w.track = true
      · have te : trkE w.track = 0 := trkE_zero.2 ⟨hbt, h2⟩
        rw [te] at c3
        refine pc_of_bodyF hm Tryz.func22 (by kernel_rfl) ?_
        conv => whnf
        (repeat' (first | (refine ansS (fun hh => ?_) (fun hh => ?_) <;> (first | simp only [ansX] at hh | skip) <;> (first | (exfalso; omega) | (exfalso; simp [*] at hh; done) | (exfalso; revert hh; decide) | exact absurd (by assumption) hh | (conv => whnf))) | ((first | refine ⟨by kernel_rfl, ?_⟩ | refine ansB (by omega) (by omega) ?_ | refine ansB (by decide) (by decide) ?_ | refine And.intro (a := _ ≤ _) (by omega) ?_ | refine And.intro (a := _ ≠ _) (by omega) ?_ | ((try (refine Or.inl ?_; (conv => whnf))); (try (refine ⟨false, ?_⟩; (conv => whnf))); refine ⟨_, by first | exact c1 | exact c2 | exact c3 | exact c4, ?_⟩) | fail); (conv => whnf))))
        all_goals first | rfl | (exfalso; simp_all; done) | set_option pp.maxSteps 300 in trace_state
      · have te : trkE w.track = 8 := by unfold trkE; rw [if_pos hbt, if_neg h2]
        rw [te] at c3
        refine pc_of_bodyF hm Tryz.func22 (by kernel_rfl) ?_
        conv => whnf
        (repeat' (first | (refine ansS (fun hh => ?_) (fun hh => ?_) <;> (first | simp only [ansX] at hh | skip) <;> (first | (exfalso; omega) | (exfalso; simp [*] at hh; done) | (exfalso; revert hh; decide) | exact absurd (by assumption) hh | (conv => whnf))) | ((first | refine ⟨by kernel_rfl, ?_⟩ | refine ansB (by omega) (by omega) ?_ | refine ansB (by decide) (by decide) ?_ | refine And.intro (a := _ ≤ _) (by omega) ?_ | refine And.intro (a := _ ≠ _) (by omega) ?_ | ((try (refine Or.inl ?_; (conv => whnf))); (try (refine ⟨false, ?_⟩; (conv => whnf))); refine ⟨_, by first | exact c1 | exact c2 | exact c3 | exact c4, ?_⟩) | fail); (conv => whnf))))
        all_goals first | rfl | (exfalso; simp_all; done) | set_option pp.maxSteps 300 in trace_state
    · have te : trkE w.track = 90 := by unfold trkE; rw [if_neg hbt]
      rw [te] at c3
      refine pc_of_bodyF hm Tryz.func22 (by kernel_rfl) ?_
      conv => whnf
      (repeat' (first | (refine ansS (fun hh => ?_) (fun hh => ?_) <;> (first | simp only [ansX] at hh | skip) <;> (first | (exfalso; omega) | (exfalso; simp [*] at hh; done) | (exfalso; revert hh; decide) | exact absurd (by assumption) hh | (conv => whnf))) | ((first | refine ⟨by kernel_rfl, ?_⟩ | refine ansB (by omega) (by omega) ?_ | refine ansB (by decide) (by decide) ?_ | refine And.intro (a := _ ≤ _) (by omega) ?_ | refine And.intro (a := _ ≠ _) (by omega) ?_ | ((try (refine Or.inl ?_; (conv => whnf))); (try (refine ⟨false, ?_⟩; (conv => whnf))); refine ⟨_, by first | exact c1 | exact c2 | exact c3 | exact c4, ?_⟩) | fail); (conv => whnf))))
      all_goals first | rfl | (exfalso; simp_all; done) | set_option pp.maxSteps 300 in trace_state
theorem pc_Same11 (a b : WorldT) (o : OkayW a) (o' : OkayW b) : PC Tryz.prog 20 [wld a, wld b] (.bool (sameW a b)) := by
  have c1 := pc_Same9 a.track b.track (lt40 o.t)
  have c3 := pc_r10Same a.books b.books o.b o'.b
  have ht := o.h
  have no : ¬(sameLine a.line b.line ∧ sameTk a.track b.track = true ∧ sameB a.books b.books = true ∧ sameD a.drift b.drift = true ∧ eqF sameTh thing0 a.things b.things = true) → sameW a b = false := fun q =>
    Bool.eq_false_iff.2 fun e => q (sameW_iff.1 e)
  by_cases hb : sameLine a.line b.line ∧ sameTk a.track b.track = true ∧ sameB a.books b.books = true ∧ sameD a.drift b.drift = true
  · have es : sameW a b = eqF sameTh thing0 a.things b.things := by
      rw [Bool.eq_iff_iff, sameW_iff]
      exact ⟨fun q => q.2.2.2.2, fun q => ⟨hb.1, hb.2.1, hb.2.2.1, hb.2.2.2, q⟩⟩
    rw [es]
    obtain ⟨⟨⟨b1, b2, b3, b4⟩, b5, b6, b7, b8, b9, b10⟩, b11, b12, b13⟩ := hb
    have b13 := sameD_iff.1 b13
    rw [b11] at c1
    rw [b12] at c3
    clear es no
    refine pc_of_bodyF hm Tryz.func20 (by kernel_rfl) ?_
    conv => whnf
    (repeat' (first | (refine ansS (fun hh => ?_) (fun hh => ?_) <;> (first | simp only [ansX] at hh | skip) <;> (first | (exfalso; omega) | (exfalso; simp [*] at hh; done) | (exfalso; revert hh; decide) | exact absurd (by assumption) hh | (conv => whnf))) | ((first | refine ⟨by kernel_rfl, ?_⟩ | refine ansB (by omega) (by omega) ?_ | refine ansB (by decide) (by decide) ?_ | refine And.intro (a := _ ≤ _) (by omega) ?_ | refine And.intro (a := _ ≠ _) (by omega) ?_ | ((try (refine Or.inl ?_; (conv => whnf))); (try (refine ⟨false, ?_⟩; (conv => whnf))); refine ⟨_, by first | exact c1 | exact c3, ?_⟩) | fail); (conv => whnf))))
    all_goals (try (exfalso; simp_all; done))
    · exact congrArg AV.bool (eqF_len (by omega))
    have h0 : (a.things.length : Int) = b.things.length := by omega
    refine Or.inr ⟨Nat, [5], [], [], fun k => [i64 k], fun _ => [], fun _ => [], fun k => a.things.length - k, fun k => k ≤ a.things.length ∧ ∀ i, i < k → sameTh (a.things.getD i thing0) (b.things.getD i thing0) = true, ?_⟩
    (conv => whnf)
    refine ⟨⟨0, ?_⟩, ?_⟩
    · (conv => whnf)
      exact ⟨⟨⟨Nat.zero_le _, fun i hi => absurd hi (Nat.not_lt_zero i)⟩, rfl, rfl, rfl⟩, by kernel_rfl, by kernel_rfl⟩
    · intro k hk
      (conv => whnf)
      refine ⟨fun h => ?_, fun h => ?_⟩
      · have h := of_decide_eq_true h
        have hkk : k < a.things.length := by omega
        (conv => whnf)
        iterate 3 (first | (refine ⟨by kernel_rfl, ?_⟩; (conv => whnf)) | (refine ⟨⟨by omega, by omega⟩, ?_⟩; (conv => whnf)))
        iterate 2 (first | (refine ⟨by kernel_rfl, ?_⟩; (conv => whnf)) | skip)
        have e0 : a.things.getD (Int.toNat (k : Int)) thing0 = a.things.getD k thing0 := rfl
        have e1 : b.things.getD (Int.toNat (k : Int)) thing0 = b.things.getD k thing0 := rfl
        rw [e0, e1]
        refine ansS (fun hh => ?_) (fun hh => ?_)
        · (conv => whnf)
          exact congrArg AV.bool (eqF_bad (p := sameTh) (d := thing0) hkk (by simp [sameTh] at hh ⊢; grind))
        · refine ⟨k + 1, ?_⟩
          (conv => whnf)
          refine ⟨⟨⟨?_, ?_, ?_⟩, ?_, rfl, rfl⟩, by kernel_rfl, by kernel_rfl⟩
          · show a.things.length - (k + 1) < a.things.length - k; omega
          · omega
          · intro i hi
            by_cases e : i = k
            · subst e; simp [sameTh] at hh ⊢; grind
            · exact hk.2 i (by omega)
          · rw [w64 _ (by omega) (by omega)]; rfl
      · have h := of_decide_eq_false h
        (conv => whnf)
        exact congrArg AV.bool (eqF_ok h0 fun i hi => hk.2 i (by omega))
  · have es : sameW a b = false := no fun q => hb ⟨q.1, q.2.1, q.2.2.1, q.2.2.2.1⟩
    rw [es]
    rw [sameD_iff] at hb
    unfold sameLine sameBelt at hb
    clear es no
    refine pc_of_bodyF hm Tryz.func20 (by kernel_rfl) ?_
    conv => whnf
    (repeat' (first | (refine ansS (fun hh => ?_) (fun hh => ?_) <;> (first | simp only [ansX] at hh | skip) <;> (first | (exfalso; omega) | (exfalso; simp [*] at hh; done) | (exfalso; revert hh; decide) | exact absurd (by assumption) hh | (conv => whnf))) | ((first | refine ⟨by kernel_rfl, ?_⟩ | refine ansB (by omega) (by omega) ?_ | refine ansB (by decide) (by decide) ?_ | refine And.intro (a := _ ≤ _) (by omega) ?_ | refine And.intro (a := _ ≠ _) (by omega) ?_ | ((try (refine Or.inl ?_; (conv => whnf))); (try (refine ⟨false, ?_⟩; (conv => whnf))); refine ⟨_, by first | exact c1 | exact c3, ?_⟩) | fail); (conv => whnf))))
    all_goals first | rfl | (exfalso; simp_all; done) | set_option pp.maxSteps 300 in trace_state
theorem pc_Twin9 (t : TrackT) (hl : t.parts.length < 2 ^ 20) : PC Tryz.prog 76 [trk t] (trk t) := by
  obtain ⟨b, c, n, l⟩ := t
  simp only at hl
  refine pc_of_bodyF hm Tryz.func76 (by kernel_rfl) ?_
  conv => whnf
  refine ⟨⟨SeenT, 4, seen0, eSeen, []⟩, l, rfl, ⟨rfl, rfl⟩, rfl, ?_, ?_, fun y _ => ⟨rfl, rfl, rfl⟩, ?_⟩
  · show (0 + l.length) * 24 ≤ _; omega
  · show 0 + l.length ≤ _; omega
  (conv => whnf)
  all_goals (first | rfl | set_option pp.maxSteps 300 in trace_state)
theorem pc_Twin11 (w : WorldT) (o : OkayW w) : PC Tryz.prog 24 [wld w] (wld w) := by
  have c1 := pc_Twin9 w.track o.t
  have c2 := pc_r10Twin w.books o.b
  have hl := o.h
  obtain ⟨ln, t, b, d, l⟩ := w
  simp only at hl c1 c2
  refine pc_of_bodyF hm Tryz.func24 (by kernel_rfl) ?_
  conv => whnf
  (repeat' (first | (refine ansS (fun hh => ?_) (fun hh => ?_) <;> (first | simp only [ansX] at hh | skip) <;> (first | (exfalso; omega) | (exfalso; simp [*] at hh; done) | (exfalso; revert hh; decide) | exact absurd (by assumption) hh | (conv => whnf))) | ((first | refine ⟨by kernel_rfl, ?_⟩ | refine ansB (by omega) (by omega) ?_ | refine ansB (by decide) (by decide) ?_ | refine And.intro (a := _ ≤ _) (by omega) ?_ | refine And.intro (a := _ ≠ _) (by omega) ?_ | ((try (refine Or.inl ?_; (conv => whnf))); (try (refine ⟨false, ?_⟩; (conv => whnf))); refine ⟨_, by first | exact c1 | exact c2, ?_⟩) | fail); (conv => whnf))))
  refine ⟨⟨ThingT, 7, thing0, eThing, []⟩, l, rfl, ⟨rfl, rfl⟩, rfl, ?_, ?_, fun y _ => ⟨rfl, rfl, rfl⟩, ?_⟩
  · show (0 + l.length) * 56 ≤ _; omega
  · show 0 + l.length ≤ _; omega
  (conv => whnf)
  all_goals (first | rfl | set_option pp.maxSteps 300 in trace_state)
def smallW (w : WorldT) : Bool := smallB w.books && (decide (w.track.parts.length ≤ 50) && decide (w.things.length ≤ 50))
theorem pc_Great11 (w : WorldT) : PC Tryz.prog 15 [wld w] (.bool (!smallW w)) := by
  have c := pc_Great w.books
  unfold smallW
  cases h : smallB w.books
  · rw [h] at c
    refine pc_of_bodyF hm Tryz.func15 (by kernel_rfl) ?_
    conv => whnf
    (repeat' (first | (refine ansS (fun hh => ?_) (fun hh => ?_) <;> (first | simp only [ansX] at hh | skip) <;> (first | (exfalso; omega) | (exfalso; simp [*] at hh; done) | (exfalso; revert hh; decide) | exact absurd (by assumption) hh | (conv => whnf))) | ((first | refine ⟨by kernel_rfl, ?_⟩ | refine ansB (by omega) (by omega) ?_ | refine ansB (by decide) (by decide) ?_ | refine And.intro (a := _ ≤ _) (by omega) ?_ | refine And.intro (a := _ ≠ _) (by omega) ?_ | ((try (refine Or.inl ?_; (conv => whnf))); (try (refine ⟨false, ?_⟩; (conv => whnf))); refine ⟨_, by exact c, ?_⟩) | fail); (conv => whnf))))
    all_goals (first | rfl | set_option pp.maxSteps 300 in trace_state)
  · rw [h] at c
    refine pc_of_bodyF hm Tryz.func15 (by kernel_rfl) ?_
    conv => whnf
    (repeat' (first | (refine ansS (fun hh => ?_) (fun hh => ?_) <;> (first | simp only [ansX] at hh | skip) <;> (first | (exfalso; omega) | (exfalso; simp [*] at hh; done) | (exfalso; revert hh; decide) | exact absurd (by assumption) hh | (conv => whnf))) | ((first | refine ⟨by kernel_rfl, ?_⟩ | refine ansB (by omega) (by omega) ?_ | refine ansB (by decide) (by decide) ?_ | refine And.intro (a := _ ≤ _) (by omega) ?_ | refine And.intro (a := _ ≠ _) (by omega) ?_ | ((try (refine Or.inl ?_; (conv => whnf))); (try (refine ⟨false, ?_⟩; (conv => whnf))); refine ⟨_, by exact c, ?_⟩) | fail); (conv => whnf))))
    all_goals first
      | (refine congrArg AV.bool (Bool.eq_iff_iff.2 ?_); simp only [Bool.true_and, Bool.not_eq_true', Bool.and_eq_false_iff, decide_eq_true_eq, decide_eq_false_iff_not, iff_true, true_iff]; omega)
      | set_option pp.maxSteps 300 in trace_state
end Go.Proofs.Tryz.My
