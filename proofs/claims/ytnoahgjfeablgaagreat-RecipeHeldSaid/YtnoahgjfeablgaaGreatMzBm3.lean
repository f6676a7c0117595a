/- A helper text: contracts of functions of the program, and plain lemmas. -/
import Derived.Test.YtnoahgjfeablgaaGreatMzBpA
import Derived.Test.YtnoahgjfeablgaaGreatMzBt1
set_option maxRecDepth 100000
set_option maxHeartbeats 0
set_option linter.unusedVariables false
set_option linter.unusedSimpArgs false
namespace Go.Proofs.Tryz.My
open Go Go.Ev
theorem ix_map (q : Int) (l : List EntT) : l.findIdx (isSeq q) = (l.map EntT.seq).findIdx (fun s => decide (s = q)) ∧ l.any (isSeq q) = (l.map EntT.seq).any (fun s => decide (s = q)) := by
  rw [List.findIdx_map, List.any_map]
  exact ⟨rfl, rfl⟩
theorem map_setD (l : List EntT) (i : Nat) (is : Bool) : (l.set i (setD (l.getD i ent0) is)).map EntT.seq = l.map EntT.seq := by
  rw [List.map_set]
  have e : (setD (l.getD i ent0) is).seq = (l.map EntT.seq).getD i 0 := by
    show (l.getD i ent0).seq = _
    simp only [List.getD, List.getElem?_map]
    cases l[i]? <;> rfl
  rw [e, set_getD_same]
theorem mrk_ix (b : BooksT) (seq q : Int) (is : Bool) : mrkI (mrkB b seq is) q = mrkI b q ∧ (mrkB b seq is).log.any (isSeq q) = b.log.any (isSeq q) := by
  have h1 := ix_map q (mrkB b seq is).log
  have h2 := ix_map q b.log
  have e : (mrkB b seq is).log.map EntT.seq = b.log.map EntT.seq := map_setD _ _ _
  rw [e] at h1
  exact ⟨h1.1.trans h2.1.symm, h1.2.trans h2.2.symm⟩
theorem fld_set {β : Type} (F : EntT → β) (hF : ∀ x is, F (setD x is) = F x) (l : List EntT) (i k : Nat) (is : Bool) : F ((l.set i (setD (l.getD i ent0) is)).getD k ent0) = F (l.getD k ent0) := by
  by_cases e : i = k
  · subst e
    by_cases hi : i < l.length
    · rw [List.getD, List.getElem?_set_self hi, Option.getD_some, hF]
    · rw [List.set_eq_of_length_le (by omega)]
  · rw [List.getD, List.getElem?_set_ne e]; rfl
theorem chk_mrk (b : BooksT) (seq : Int) (is : Bool) : chkB (mrkB b seq is) = chkB b := by
  have hl : (mrkB b seq is).log.length = b.log.length := List.length_set
  have hp : ∀ k, prevE (mrkB b seq is).log k = prevE b.log k := fun k => by
    unfold prevE
    split
    · rfl
    · exact fld_set EntT.seq (fun _ _ => rfl) _ _ _ _
  have he : ∀ k, entB (mrkB b seq is) k = entB b k := fun k => by
    have f1 : ((mrkB b seq is).log.getD k ent0).seq = (b.log.getD k ent0).seq := fld_set EntT.seq (fun _ _ => rfl) _ _ _ _
    have f2 : ((mrkB b seq is).log.getD k ent0).recipe = (b.log.getD k ent0).recipe := fld_set EntT.recipe (fun _ _ => rfl) _ _ _ _
    have f3 : ((mrkB b seq is).log.getD k ent0).part = (b.log.getD k ent0).part := fld_set EntT.part (fun _ _ => rfl) _ _ _ _
    have f4 : ((mrkB b seq is).log.getD k ent0).profile = (b.log.getD k ent0).profile := fld_set EntT.profile (fun _ _ => rfl) _ _ _ _
    have f5 : ((mrkB b seq is).log.getD k ent0).verdict = (b.log.getD k ent0).verdict := fld_set EntT.verdict (fun _ _ => rfl) _ _ _ _
    unfold entB
    rw [f1, f2, f3, f4, f5, hp]
    rfl
  unfold chkB sizedB loggedB
  rw [hl, funext he]
  rfl
end Go.Proofs.Tryz.My
