/- A helper text: contracts of functions of the program, and plain lemmas. -/
import Derived.Test.YtnoahgjfeablgaaGreatMzBn8
import Derived.Test.YtnoahgjfeablgaaGreatMzBsA
set_option maxRecDepth 100000
set_option maxHeartbeats 0
set_option linter.unusedVariables false
set_option linter.unusedSimpArgs false
namespace Go.Proofs.Tryz.My
open Go Go.Ev
theorem make_ne (n d : Int) : ¬(makeF n d).2 = 9 := by
  unfold makeF madeF
  split
  · decide
  · split
    · show ¬(0 : Int) = 9; decide
    · show ¬(4 : Int) = 9; decide
theorem endsG_ne {op : Int × Int → Int × Int → (Int × Int) × Int} (h : ∀ a b, ¬(op a b).2 = 9) : ∀ (l : List SpT) (s : SpT), ¬(endsG op s l).2 = 9
  | [], s => by show ¬(0 : Int) = 9; decide
  | p :: l, s => by
    unfold endsG
    split
    · exact h _ _
    · exact endsG_ne h l _
theorem endsF_ne {op : Int × Int → Int × Int → (Int × Int) × Int} (h : ∀ a b, ¬(op a b).2 = 9) : ∀ l : List SpT, ¬(endsF op l).2 = 9
  | [] => by show ¬(0 : Int) = 9; decide
  | p :: l => by
    show ¬(if (op p.1 p.2).2 ≠ 0 then (zS, (op p.1 p.2).2) else endsG op ((op p.1 p.2).1, (op p.1 p.2).1) l).2 = 9
    split
    · exact h _ _
    · exact endsG_ne h l _
theorem mea_ne {g : GauT} {p : List Int} : ¬(meaF g p).2.2 = 9 := by
  unfold meaF
  by_cases hg : gauB g = true
  · rw [if_pos hg]
    obtain ⟨⟨t1, t2⟩, ⟨n1, n2⟩, _⟩ := gauB_known hg
    have hm : ¬(mulS (widE p (gThr g) (gNoi g)).1 (gSc g)).2 = 9 := by
      unfold mulS
      split
      · exact endsF_ne (fun a b => make_ne _ _) _
      · show ¬(8 : Int) = 9; decide
    generalize mulS (widE p (gThr g) (gNoi g)).1 (gSc g) = m at hm
    unfold meaG
    split
    · show ¬(0 : Int) = 9; decide
    · split
      · split
        · show ¬(0 : Int) = 9; decide
        · exact hm
      · rename_i z1 z2
        rcases wid_err (p := p) t1 t2 n1 n2 with ⟨_, q⟩ | ⟨_, q | q⟩
        · rw [q]; show ¬(50 : Int) = 9; decide
        · rw [q] at z1; exact absurd rfl z1
        · exact absurd q z2
  · rw [if_neg hg]
    show ¬(8 : Int) = 9; decide
theorem rcd_full {b : BooksT} {part : Int} {profile : List Int} (h : rcdE b part profile = 9) (hn : b.next < 1099511627776) : ∀ k, k < b.log.length → (b.log.getD k ent0).disputed = true := by
  have hf : ¬b.log.any isFree = true := by
    unfold rcdE at h
    by_cases h1 : chkB b = true
    · rw [if_pos h1] at h
      by_cases h2 : 0 ≤ part ∧ part ≤ 1099511627776
      · rw [if_neg (fun q => q h2)] at h
        by_cases h3 : b.recipes.any isAct = true
        · rw [if_neg (fun q => q h3)] at h
          by_cases h4 : (meaF (rcdG b) profile).2.2 = 0
          · rw [if_neg (fun q => q h4)] at h
            by_cases h5 : ((b.log.length : Int) = b.keep ∧ ¬b.log.any isFree = true) ∨ b.next = 1099511627776
            · rcases h5 with q | q
              · exact q.2
              · omega
            · rw [if_neg h5] at h; cases h
          · rw [if_pos h4] at h; exact absurd h mea_ne
        · rw [if_pos h3] at h; cases h
      · rw [if_pos h2] at h; cases h
    · rw [if_neg h1] at h; cases h
  intro k hk
  have := any_none hf k hk
  simpa [isFree] using this
theorem pc_SameE (s : EntT) (hs : s.profile.length < 2 ^ 40) : PC Tryz.prog 33 [ent s, ent s] (.bool true) := by
  have c := pc_SameEntry s s hs hs
  rwa [sameE_refl] at c
end Go.Proofs.Tryz.My
