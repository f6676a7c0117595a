/- A helper text: contracts of functions of the program, and plain lemmas. -/
import Derived.Test.YtnoahgjfeablgaaGreatMzBpA
import Derived.Test.YtnoahgjfeablgaaGreatMzBt1
set_option maxRecDepth 100000
set_option maxHeartbeats 0
set_option linter.unusedVariables false
set_option linter.unusedSimpArgs false
namespace Go.Proofs.Tryz.My
open Go Go.Ev
theorem ix_map (q : Int) (l : List EntT) : l.findIdx (isSeq q) = (l.map EntT.seq).findIdx (fun s => decide (s = q)) ∧ l.any (isSeq q) = (l.map EntT.seq).any (fun s => decide (s = q)) := by
  rw [List.findIdx_map, List.any_map]
  exact ⟨rfl, rfl⟩
theorem map_setD (l : List EntT) (i : Nat) (is : Bool) : (l.set i (setD (l.getD i ent0) is)).map EntT.seq = l.map EntT.seq := by
  rw [List.map_set]
  have e : (setD (l.getD i ent0) is).seq = (l.map EntT.seq).getD i 0 := by
    show (l.getD i ent0).seq = _
    simp only [List.getD, List.getElem?_map]
    cases l[i]? <;> rfl
  rw [e, set_getD_same]
theorem mrk_ix (b : BooksT) (seq q : Int) (is : Bool) : mrkI (mrkB b seq is) q = mrkI b q ∧ (mrkB b seq is).log.any (isSeq q) = b.log.any (isSeq q) := by
  have h1 := ix_map q (mrkB b seq is).log
  have h2 := ix_map q b.log
  have e : (mrkB b seq is).log.map EntT.seq = b.log.map EntT.seq := map_setD _ _ _
  rw [e] at h1
  exact ⟨h1.1.trans h2.1.symm, h1.2.trans h2.2.symm⟩
theorem fld_set {β : Type} (F : EntT → β) (hF : ∀ x is, F (setD x is) = F x) (l : List EntT) (i k : Nat) (is : Bool) : F ((l.set i (setD (l.getD i ent0) is)).getD k ent0) = F (l.getD k ent0) := by
  by_cases e : i = k
  · subst e
    by_cases hi : i < l.length
    · rw [List.getD, List.getElem?_set_self hi, Option.getD_some, hF]
    · rw [List.set_eq_of_length_le (by omega)]
  · rw [List.getD, List.getElem?_set_ne e]; rfl
theorem chk_mrk (b : BooksT) (seq : Int) (is : Bool) : chkB (mrkB b seq is) = chkB b := by
  have hl : (mrkB b seq is).log.length = b.log.length := List.length_set
  have hp : ∀ k, prevE (mrkB b seq is).log k = prevE b.log k := fun k => by
    unfold prevE
    split
    · rfl
    · exact fld_set EntT.seq (fun _ _ => rfl) _ _ _ _
  have he : ∀ k, entB (mrkB b seq is) k = entB b k := fun k => by
    have f1 : ((mrkB b seq is).log.getD k ent0).seq = (b.log.getD k ent0).seq := fld_set EntT.seq (fun _ _ => rfl) _ _ _ _
    have f2 : ((mrkB b seq is).log.getD k ent0).recipe = (b.log.getD k ent0).recipe := fld_set EntT.recipe (fun _ _ => rfl) _ _ _ _
    have f3 : ((mrkB b seq is).log.getD k ent0).part = (b.log.getD k ent0).part := fld_set EntT.part (fun _ _ => rfl) _ _ _ _
    have f4 : ((mrkB b seq is).log.getD k ent0).profile = (b.log.getD k ent0).profile := fld_set EntT.profile (fun _ _ => rfl) _ _ _ _
    have f5 : ((mrkB b seq is).log.getD k ent0).verdict = (b.log.getD k ent0).verdict := fld_set EntT.verdict (fun _ _ => rfl) _ _ _ _
    unfold entB
    rw [f1, f2, f3, f4, f5, hp]
    rfl
  unfold chkB sizedB loggedB
  rw [hl, funext he]
  rfl
theorem mrk_back (b : BooksT) (seq : Int) (h : b.log.any (isSeq seq) = true) (hd : (b.log.getD (mrkI b seq) ent0).disputed = false) : mrkB (mrkB b seq true) seq false = b := by
  have hi : mrkI b seq < b.log.length := fi_lt h
  obtain ⟨k, us, rs, n, lg⟩ := b
  have e : ((lg.set (mrkI ⟨k, us, rs, n, lg⟩ seq) (setD (lg.getD (mrkI ⟨k, us, rs, n, lg⟩ seq) ent0) true))).getD (mrkI ⟨k, us, rs, n, lg⟩ seq) ent0 = setD (lg.getD (mrkI ⟨k, us, rs, n, lg⟩ seq) ent0) true := by
    rw [List.getD, List.getElem?_set_self hi]; rfl
  show (⟨k, us, rs, n, (lg.set _ _).set (mrkI (mrkB ⟨k, us, rs, n, lg⟩ seq true) seq) (setD ((lg.set _ _).getD (mrkI (mrkB ⟨k, us, rs, n, lg⟩ seq true) seq) ent0) false)⟩ : BooksT) = _
  rw [(mrk_ix ⟨k, us, rs, n, lg⟩ seq seq true).1]
  have hx : setD (setD (lg.getD (mrkI ⟨k, us, rs, n, lg⟩ seq) ent0) true) false = lg.getD (mrkI ⟨k, us, rs, n, lg⟩ seq) ent0 := by
    have hd : (lg.getD (mrkI ⟨k, us, rs, n, lg⟩ seq) ent0).disputed = false := hd
    generalize lg.getD (mrkI ⟨k, us, rs, n, lg⟩ seq) ent0 = x at hd
    obtain ⟨x1, x2, x3, x4, x5, x6⟩ := x
    have hd : x6 = false := hd
    subst hd
    rfl
  have : (lg.set (mrkI ⟨k, us, rs, n, lg⟩ seq) (setD (lg.getD (mrkI ⟨k, us, rs, n, lg⟩ seq) ent0) true)).set (mrkI ⟨k, us, rs, n, lg⟩ seq) (setD ((lg.set (mrkI ⟨k, us, rs, n, lg⟩ seq) (setD (lg.getD (mrkI ⟨k, us, rs, n, lg⟩ seq) ent0) true)).getD (mrkI ⟨k, us, rs, n, lg⟩ seq) ent0) false) = lg := by
    rw [e, List.set_set, hx, set_getD_same]
  exact congrArg (fun z => (⟨k, us, rs, n, z⟩ : BooksT)) this
theorem mrk_ne {b : BooksT} {seq next : Int} (h : b.log.any (isSeq seq) = true) (h2 : b.log.any (isSeq next) = true) (hne : ¬next = seq) : mrkI b seq ≠ mrkI b next := fun e => by
  have a : isSeq seq (b.log.getD (mrkI b seq) ent0) = true := fi_is h
  have c : isSeq next (b.log.getD (mrkI b next) ent0) = true := fi_is h2
  rw [e] at a
  have a := of_decide_eq_true a
  have c := of_decide_eq_true c
  exact hne (c.symm.trans a)
theorem mrk_other {b : BooksT} {seq next : Int} {is : Bool} (hne : mrkI b seq ≠ mrkI b next) : (mrkB b seq is).log.getD (mrkI b next) ent0 = b.log.getD (mrkI b next) ent0 := by
  show (b.log.set _ _).getD _ _ = _
  rw [List.getD, List.getElem?_set_ne hne]; rfl
theorem mrk_comm {b : BooksT} {seq next : Int} (hne : mrkI b seq ≠ mrkI b next) : mrkB (mrkB b seq true) next true = mrkB (mrkB b next true) seq true := by
  have a1 := (mrk_ix b seq next true).1
  have a2 := (mrk_ix b next seq true).1
  have o1 := mrk_other (is := true) hne
  have o2 := mrk_other (is := true) hne.symm
  have e : ∀ c : BooksT, ∀ q : Int, mrkB c q true = ⟨c.keep, c.users, c.recipes, c.next, c.log.set (mrkI c q) (setD (c.log.getD (mrkI c q) ent0) true)⟩ := fun _ _ => rfl
  rw [e (mrkB b seq true) next, e (mrkB b next true) seq, a1, a2, o1, o2]
  show (⟨b.keep, b.users, b.recipes, b.next, (b.log.set _ _).set _ _⟩ : BooksT) = ⟨b.keep, b.users, b.recipes, b.next, (b.log.set _ _).set _ _⟩
  rw [List.set_comm _ _ hne]
theorem dis_after {b : BooksT} {user other seq next : Int} (h1 : disE b user seq = 0) (h2 : disE b other next = 0) (hne : ¬next = seq) : disE (mrkB b seq true) other next = 0 := by
  obtain ⟨a1, a2, a3, a4, a5⟩ := mrkE_zero h1
  obtain ⟨c1, c2, c3, c4, c5⟩ := mrkE_zero h2
  have hn := mrk_ne a2 c2 hne
  unfold disE mrkE
  rw [chk_mrk, (mrk_ix b seq next true).1, (mrk_ix b seq next true).2, mrk_other hn]
  rw [if_pos c1, if_neg (fun q => q ⟨c2, c3⟩)]
  rw [if_neg (show ¬mayB [1, 2, 3] (mrkB b seq true).users other = false from fun q => by
    have q : mayB [1, 2, 3] b.users other = false := q
    rw [c4] at q; cases q), if_neg c5]
theorem okM {b : BooksT} (o : Okay b) {seq : Int} {is : Bool} : Okay (mrkB b seq is) := by
  refine ⟨o.u, o.r, ?_, o.a, fun i => ?_⟩
  · show (b.log.set _ _).length < _
    rw [List.length_set]; exact o.l
  · have f : ((mrkB b seq is).log.getD i ent0).profile = (b.log.getD i ent0).profile := fld_set EntT.profile (fun _ _ => rfl) _ _ _ _
    rw [f]; exact o.p i
end Go.Proofs.Tryz.My
