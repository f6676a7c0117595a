/- RecipeChanges of layer 10: approvals, activation, retiring and the active recipe, as the document says; the books stay. -/
import Derived.Test.YtnoahgjfeablgaaGreatMzBsA
import Derived.Test.YtnoahgjfeablgaaGreatMzBq4
import Derived.Test.YtnoahgjfeablgaaGreatMzBqA
import Derived.Test.YtnoahgjfeablgaaGreatMzBt1
import Derived.Test.YtnoahgjfeablgaaGreatEvSix
import Derived.Test.YtnoahgjfeablgaaGreatMzBoA
import Derived.Test.YtnoahgjfeablgaaGreatMzBqB
import Derived.Test.YtnoahgjfeablgaaGreatMzBqC
import Derived.Test.YtnoahgjfeablgaaGreatMzBqD
import Derived.Test.YtnoahgjfeablgaaGreatMzBkA
import Derived.Test.YtnoahgjfeablgaaGreatMzGdD
import Derived.Test.YtnoahgjfeablgaaGreatEvTen
import Derived.Test.YtnoahgjfeablgaaGreatRows
import Derived.WalkKit
import Derived.ProofKit
import Derived.OpenShut
import Derived.ChangeOld
import Derived.Below
import Derived.Test.YtnoahgjfeablgaaGreatMzIniA
set_option maxRecDepth 100000
set_option maxHeartbeats 0
set_option linter.unusedVariables false
set_option linter.unusedSimpArgs false
namespace Go.Proofs.Tryz.My
open Go Go.Ev
def IB (b : BooksT) : Prop := ∀ i, IG (b.recipes.getD i rec0).gauge
theorem okay_of {b : BooksT} (h : smallB b = true) : Okay b := by
  obtain ⟨h1, h2, h3, h4, h5⟩ := small_known h
  exact ⟨by omega, by omega, by omega, fun i => by have := h4 i; omega, fun i => by have := h5 i; omega⟩
end Go.Proofs.Tryz.My
set_option maxRecDepth 100000
set_option maxHeartbeats 0
set_option linter.unusedVariables false
set_option linter.unusedSimpArgs false
namespace Go.Proofs.Tryz.My
open Go Go.Ev
theorem pc_spoil0 : PC Tryz.prog 22 [newB 0] (.tup []) := by
  refine pc_of_bodyF hm Tryz.func22 (by kernel_rfl) ?_
  conv => whnf
  refine Or.inl ⟨1, ?_⟩
  (conv => whnf)
  (repeat' ((first | refine ansT ?_ | refine ansF ?_ | refine ansD (by first | (simp [*]; done) | omega) ?_ | refine ansN (by first | (simp [*]; done) | omega) ?_ | refine ⟨by kernel_rfl, ?_⟩ | refine ansB (by decide) (by first | decide | (simp; done) | (simp only [List.length_cons, List.length_nil]; decide)) ?_ | fail); (conv => whnf)))
  refine Or.inl ⟨1, ?_⟩
  (conv => whnf)
  (repeat' ((first | refine ansT ?_ | refine ansF ?_ | refine ansD (by first | (simp [*]; done) | omega) ?_ | refine ansN (by first | (simp [*]; done) | omega) ?_ | refine ⟨by kernel_rfl, ?_⟩ | refine ansB (by decide) (by first | decide | (simp; done) | (simp only [List.length_cons, List.length_nil]; decide)) ?_ | fail); (conv => whnf)))
  refine Or.inl ⟨1, ?_⟩
  (conv => whnf)
  (repeat' ((first | refine ansT ?_ | refine ansF ?_ | refine ansD (by first | (simp [*]; done) | omega) ?_ | refine ansN (by first | (simp [*]; done) | omega) ?_ | refine ⟨by kernel_rfl, ?_⟩ | refine ansB (by decide) (by first | decide | (simp; done) | (simp only [List.length_cons, List.length_nil]; decide)) ?_ | fail); (conv => whnf)))
  all_goals (first | rfl | set_option pp.maxSteps 300 in trace_state)
theorem pc_SameT (b : BooksT) (o : Okay b) : PC Tryz.prog 21 [bks b, bks b] (.bool true) := by
  have c := pc_r10Same b b o o
  rwa [sameB_refl] at c
end Go.Proofs.Tryz.My
set_option maxRecDepth 100000
set_option maxHeartbeats 0
set_option linter.unusedVariables false
set_option linter.unusedSimpArgs false
namespace Go.Proofs.Tryz.My
open Go Go.Ev
theorem getD_set_or {α : Type} {d y : α} {l : List α} {i j : Nat} : (l.set i y).getD j d = y ∨ (l.set i y).getD j d = l.getD j d := by
  by_cases h : i = j
  · subst h
    by_cases hi : i < l.length
    · left; exact getD_set_at hi
    · right; rw [List.set_eq_of_length_le (by omega)]
  · right; rw [List.getD, List.getElem?_set_ne h]; rfl
end Go.Proofs.Tryz.My
set_option maxRecDepth 100000
set_option maxHeartbeats 0
set_option linter.unusedVariables false
set_option linter.unusedSimpArgs false
namespace Go.Proofs.Tryz.My
open Go Go.Ev
theorem okay_set {b : BooksT} (o : Okay b) {i : Nat} {y : RecT} (hy : y.appr.length < 2 ^ 20) : Okay (setR b i y) := by
  refine ⟨o.u, ?_, o.l, fun j => ?_, o.p⟩
  · show (b.recipes.set _ _).length < _
    rw [List.length_set]; exact o.r
  · show ((b.recipes.set _ _).getD j rec0).appr.length < _
    rcases getD_set_or (d := rec0) (l := b.recipes) (i := i) (j := j) (y := y) with e | e <;> rw [e]
    · exact hy
    · exact o.a _
theorem okay_apv {b : BooksT} (o : Okay b) {user number : Int} (h : apvE b user number = 0) : Okay (apvB b user number) := by
  obtain ⟨hc, hn, hb, h2⟩ := apvE_zero h
  have s := chk_small hc
  have hlt : number.toNat < b.recipes.length := by have := hn.2; omega
  have hx := incr_len (chk_rec hc hlt).1
  refine okay_set o ?_
  show (insI _ _).length < _
  rw [insI_len]
  omega
theorem okay_ret {b : BooksT} (o : Okay b) {i : Nat} : Okay (retB b i) := okay_set o (i := i) (y := setSt (b.recipes.getD i rec0) 4) (o.a i)
theorem okay_calm {b : BooksT} (o : Okay b) : Okay (calmB b) := by
  unfold calmB
  split
  · exact okay_ret o
  · exact o
theorem okay_actv {b : BooksT} (o : Okay b) {number : Int} : Okay (actvB b number) := okay_set (okay_calm o) (i := number.toNat) (y := setSt ((calmB b).recipes.getD number.toNat rec0) 3) ((okay_calm o).a _)
theorem pc_RC111 (b : BooksT) (hb : IB b) (user number : Int) (hs : smallB b = true) (ha : apvE b user number = 0) (hv : actvE b user number = 0) (hr : retE b user = 0) : PC Tryz.prog 4 [bks b, i64 user, i64 number] (.bool true) := by
  have gr := pc_Great b
  have o := okay_of hs
  rw [hs] at gr
  have tw := pc_r10Twin b o
  have sb := pc_SameT b o
  have s0 := pc_SameNew 0
  have p1 := pc_Active b o
  have p2 := pc_r10Active b o hb
  have oa := okay_apv o ha
  have sa := pc_SameT _ oa
  have a2 := pc_r10ApproveOk b o hb user number ha
  have ov := okay_actv (number := number) o
  have sv := pc_SameT _ ov
  have v2 := pc_r10ActivateOk b o hb user number hv
  have orr := okay_ret (i := firstA b.recipes) o
  have sr := pc_SameT _ orr
  have r2 := pc_r10RetireOk b o hb user hr
  refine pc_of_bodyF hm Tryz.func4 (by kernel_rfl) ?_
  conv => whnf
  (repeat' ((first | refine ansT ?_ | refine ansF ?_ | ((try (refine Or.inl ?_; (conv => whnf))); (try (refine ⟨false, ?_⟩; (conv => whnf))); refine ⟨_, by first | exact gr | exact tw, ?_⟩) | refine ansD (by first | (simp [*]; done) | omega) ?_ | refine ansN (by first | (simp [*]; done) | omega) ?_ | refine ⟨by kernel_rfl, ?_⟩ | refine ansB (by decide) (by first | decide | (simp; done) | (simp only [List.length_cons, List.length_nil]; decide)) ?_ | fail); (conv => whnf)))
  (refine Or.inr ⟨[ ], [ 34, 35, 32 ], by kernel_rfl, ?_⟩; (conv => whnf); refine ⟨[ ], _, _, _, _, ⟨ pw_ApproveOk b o user number ha, rfl, rfl, by kernel_rfl⟩, ?_⟩)
  (conv => whnf)
  (repeat' ((first | refine ansT ?_ | refine ansF ?_ | ((try (refine Or.inl ?_; (conv => whnf))); (try (refine ⟨false, ?_⟩; (conv => whnf))); refine ⟨_, by exact a2, ?_⟩) | refine ansD (by first | (simp [*]; done) | omega) ?_ | refine ansN (by first | (simp [*]; done) | omega) ?_ | refine ⟨by kernel_rfl, ?_⟩ | refine ansB (by decide) (by first | decide | (simp; done) | (simp only [List.length_cons, List.length_nil]; decide)) ?_ | fail); (conv => whnf)))
  (refine Or.inr ⟨[ ], [ 48, 49, 46 ], by kernel_rfl, ?_⟩; (conv => whnf); refine ⟨[ ], _, _, _, _, ⟨ pw_ActivateOk b o user number hv, rfl, rfl, by kernel_rfl⟩, ?_⟩)
  (conv => whnf)
  (repeat' ((first | refine ansT ?_ | refine ansF ?_ | ((try (refine Or.inl ?_; (conv => whnf))); (try (refine ⟨false, ?_⟩; (conv => whnf))); refine ⟨_, by exact v2, ?_⟩) | refine ansD (by first | (simp [*]; done) | omega) ?_ | refine ansN (by first | (simp [*]; done) | omega) ?_ | refine ⟨by kernel_rfl, ?_⟩ | refine ansB (by decide) (by first | decide | (simp; done) | (simp only [List.length_cons, List.length_nil]; decide)) ?_ | fail); (conv => whnf)))
  (refine Or.inr ⟨[ ], [ 61, 62, 59 ], by kernel_rfl, ?_⟩; (conv => whnf); refine ⟨[ ], _, _, _, _, ⟨ pw_RetireOk b o user hr, rfl, rfl, by kernel_rfl⟩, ?_⟩)
  (conv => whnf)
  (repeat' ((first | refine ansT ?_ | refine ansF ?_ | ((try (refine Or.inl ?_; (conv => whnf))); (try (refine ⟨false, ?_⟩; (conv => whnf))); refine ⟨_, by exact r2, ?_⟩) | refine ansD (by first | (simp [*]; done) | omega) ?_ | refine ansN (by first | (simp [*]; done) | omega) ?_ | refine ⟨by kernel_rfl, ?_⟩ | refine ansB (by decide) (by first | decide | (simp; done) | (simp only [List.length_cons, List.length_nil]; decide)) ?_ | fail); (conv => whnf)))
  (repeat' ((first | refine ansT ?_ | refine ansF ?_ | ((try (refine Or.inl ?_; (conv => whnf))); (try (refine ⟨false, ?_⟩; (conv => whnf))); refine ⟨_, by first | exact p1 | exact p2, ?_⟩) | refine ansD (by first | (simp [*]; done) | omega) ?_ | refine ansN (by first | (simp [*]; done) | omega) ?_ | refine ⟨by kernel_rfl, ?_⟩ | refine ansB (by decide) (by first | decide | (simp; done) | (simp only [List.length_cons, List.length_nil]; decide)) ?_ | fail); (conv => whnf)))
  (repeat' (first | (refine ansS (fun hh => ?_) (fun hh => ?_) <;> (first | simp only [ansX] at hh | skip) <;> (first | (exfalso; omega) | (exfalso; simp [*] at hh; done) | (exfalso; revert hh; decide) | exact absurd (by assumption) hh | (conv => whnf))) | ((first | refine ⟨by kernel_rfl, ?_⟩ | refine ansB (by omega) (by omega) ?_ | refine ansB (by decide) (by decide) ?_ | refine And.intro (a := _ ≤ _) (by omega) ?_ | refine And.intro (a := _ ≠ _) (by omega) ?_ | ((try (refine Or.inl ?_; (conv => whnf))); (try (refine ⟨false, ?_⟩; (conv => whnf))); refine ⟨_, by first | exact sa | exact sv | exact sr, ?_⟩) | fail); (conv => whnf))))
  (refine Or.inr ⟨[ ], [ ], by kernel_rfl, ?_⟩; (conv => whnf); refine ⟨[ 34, 35, 32 ], _, _, _, _, ⟨ pw_spoil _ oa, rfl, rfl, by kernel_rfl⟩, ?_⟩)
  (conv => whnf)
  (refine Or.inr ⟨[ ], [ ], by kernel_rfl, ?_⟩; (conv => whnf); refine ⟨[ 48, 49, 46 ], _, _, _, _, ⟨ pw_spoil _ ov, rfl, rfl, by kernel_rfl⟩, ?_⟩)
  (conv => whnf)
  (refine Or.inr ⟨[ ], [ ], by kernel_rfl, ?_⟩; (conv => whnf); refine ⟨[ 61, 62, 59 ], _, _, _, _, ⟨ pw_spoil _ orr, rfl, rfl, by kernel_rfl⟩, ?_⟩)
  (conv => whnf)
  (repeat' (first | (refine ansS (fun hh => ?_) (fun hh => ?_) <;> (first | simp only [ansX] at hh | skip) <;> (first | (exfalso; omega) | (exfalso; simp [*] at hh; done) | (exfalso; revert hh; decide) | exact absurd (by assumption) hh | (conv => whnf))) | ((first | refine ⟨by kernel_rfl, ?_⟩ | refine ansB (by omega) (by omega) ?_ | refine ansB (by decide) (by decide) ?_ | refine And.intro (a := _ ≤ _) (by omega) ?_ | refine And.intro (a := _ ≠ _) (by omega) ?_ | ((try (refine Or.inl ?_; (conv => whnf))); (try (refine ⟨false, ?_⟩; (conv => whnf))); refine ⟨_, by exact sb, ?_⟩) | fail); (conv => whnf))))
  all_goals (first | rfl | set_option pp.maxSteps 300 in trace_state)
theorem pc_RC110 (b : BooksT) (hb : IB b) (user number : Int) (hs : smallB b = true) (ha : apvE b user number = 0) (hv : actvE b user number = 0) (hr : ¬retE b user = 0) : PC Tryz.prog 4 [bks b, i64 user, i64 number] (.bool true) := by
  have gr := pc_Great b
  have o := okay_of hs
  rw [hs] at gr
  have tw := pc_r10Twin b o
  have sb := pc_SameT b o
  have s0 := pc_SameNew 0
  have p1 := pc_Active b o
  have p2 := pc_r10Active b o hb
  have oa := okay_apv o ha
  have sa := pc_SameT _ oa
  have a2 := pc_r10ApproveOk b o hb user number ha
  have ov := okay_actv (number := number) o
  have sv := pc_SameT _ ov
  have v2 := pc_r10ActivateOk b o hb user number hv
  have r1 := pc_RetireBad b o user hr
  have r2 := pc_r10RetireBad b o hb user hr
  refine pc_of_bodyF hm Tryz.func4 (by kernel_rfl) ?_
  conv => whnf
  (repeat' ((first | refine ansT ?_ | refine ansF ?_ | ((try (refine Or.inl ?_; (conv => whnf))); (try (refine ⟨false, ?_⟩; (conv => whnf))); refine ⟨_, by first | exact gr | exact tw, ?_⟩) | refine ansD (by first | (simp [*]; done) | omega) ?_ | refine ansN (by first | (simp [*]; done) | omega) ?_ | refine ⟨by kernel_rfl, ?_⟩ | refine ansB (by decide) (by first | decide | (simp; done) | (simp only [List.length_cons, List.length_nil]; decide)) ?_ | fail); (conv => whnf)))
  (refine Or.inr ⟨[ ], [ 34, 35, 32 ], by kernel_rfl, ?_⟩; (conv => whnf); refine ⟨[ ], _, _, _, _, ⟨ pw_ApproveOk b o user number ha, rfl, rfl, by kernel_rfl⟩, ?_⟩)
  (conv => whnf)
  (repeat' ((first | refine ansT ?_ | refine ansF ?_ | ((try (refine Or.inl ?_; (conv => whnf))); (try (refine ⟨false, ?_⟩; (conv => whnf))); refine ⟨_, by exact a2, ?_⟩) | refine ansD (by first | (simp [*]; done) | omega) ?_ | refine ansN (by first | (simp [*]; done) | omega) ?_ | refine ⟨by kernel_rfl, ?_⟩ | refine ansB (by decide) (by first | decide | (simp; done) | (simp only [List.length_cons, List.length_nil]; decide)) ?_ | fail); (conv => whnf)))
  (refine Or.inr ⟨[ ], [ 48, 49, 46 ], by kernel_rfl, ?_⟩; (conv => whnf); refine ⟨[ ], _, _, _, _, ⟨ pw_ActivateOk b o user number hv, rfl, rfl, by kernel_rfl⟩, ?_⟩)
  (conv => whnf)
  (repeat' ((first | refine ansT ?_ | refine ansF ?_ | ((try (refine Or.inl ?_; (conv => whnf))); (try (refine ⟨false, ?_⟩; (conv => whnf))); refine ⟨_, by exact v2, ?_⟩) | refine ansD (by first | (simp [*]; done) | omega) ?_ | refine ansN (by first | (simp [*]; done) | omega) ?_ | refine ⟨by kernel_rfl, ?_⟩ | refine ansB (by decide) (by first | decide | (simp; done) | (simp only [List.length_cons, List.length_nil]; decide)) ?_ | fail); (conv => whnf)))
  (repeat' ((first | refine ansT ?_ | refine ansF ?_ | ((try (refine Or.inl ?_; (conv => whnf))); (try (refine ⟨false, ?_⟩; (conv => whnf))); refine ⟨_, by exact r1, ?_⟩) | refine ansD (by first | (simp [*]; done) | omega) ?_ | refine ansN (by first | (simp [*]; done) | omega) ?_ | refine ⟨by kernel_rfl, ?_⟩ | refine ansB (by decide) (by first | decide | (simp; done) | (simp only [List.length_cons, List.length_nil]; decide)) ?_ | fail); (conv => whnf)))
  (repeat' ((first | refine ansT ?_ | refine ansF ?_ | ((try (refine Or.inl ?_; (conv => whnf))); (try (refine ⟨false, ?_⟩; (conv => whnf))); refine ⟨_, by exact r2, ?_⟩) | refine ansD (by first | (simp [*]; done) | omega) ?_ | refine ansN (by first | (simp [*]; done) | omega) ?_ | refine ⟨by kernel_rfl, ?_⟩ | refine ansB (by decide) (by first | decide | (simp; done) | (simp only [List.length_cons, List.length_nil]; decide)) ?_ | fail); (conv => whnf)))
  (repeat' ((first | refine ansT ?_ | refine ansF ?_ | ((try (refine Or.inl ?_; (conv => whnf))); (try (refine ⟨false, ?_⟩; (conv => whnf))); refine ⟨_, by first | exact p1 | exact p2, ?_⟩) | refine ansD (by first | (simp [*]; done) | omega) ?_ | refine ansN (by first | (simp [*]; done) | omega) ?_ | refine ⟨by kernel_rfl, ?_⟩ | refine ansB (by decide) (by first | decide | (simp; done) | (simp only [List.length_cons, List.length_nil]; decide)) ?_ | fail); (conv => whnf)))
  (repeat' (first | (refine ansS (fun hh => ?_) (fun hh => ?_) <;> (first | simp only [ansX] at hh | skip) <;> (first | (exfalso; omega) | (exfalso; simp [*] at hh; done) | (exfalso; revert hh; decide) | exact absurd (by assumption) hh | (conv => whnf))) | ((first | refine ⟨by kernel_rfl, ?_⟩ | refine ansB (by omega) (by omega) ?_ | refine ansB (by decide) (by decide) ?_ | refine And.intro (a := _ ≤ _) (by omega) ?_ | refine And.intro (a := _ ≠ _) (by omega) ?_ | ((try (refine Or.inl ?_; (conv => whnf))); (try (refine ⟨false, ?_⟩; (conv => whnf))); refine ⟨_, by first | exact sa | exact sv | exact s0, ?_⟩) | fail); (conv => whnf))))
  (refine Or.inr ⟨[ ], [ ], by kernel_rfl, ?_⟩; (conv => whnf); refine ⟨[ 34, 35, 32 ], _, _, _, _, ⟨ pw_spoil _ oa, rfl, rfl, by kernel_rfl⟩, ?_⟩)
  (conv => whnf)
  (refine Or.inr ⟨[ ], [ ], by kernel_rfl, ?_⟩; (conv => whnf); refine ⟨[ 48, 49, 46 ], _, _, _, _, ⟨ pw_spoil _ ov, rfl, rfl, by kernel_rfl⟩, ?_⟩)
  (conv => whnf)
  (repeat' ((first | refine ansT ?_ | refine ansF ?_ | ((try (refine Or.inl ?_; (conv => whnf))); (try (refine ⟨false, ?_⟩; (conv => whnf))); refine ⟨_, by exact pc_spoil0, ?_⟩) | refine ansD (by first | (simp [*]; done) | omega) ?_ | refine ansN (by first | (simp [*]; done) | omega) ?_ | refine ⟨by kernel_rfl, ?_⟩ | refine ansB (by decide) (by first | decide | (simp; done) | (simp only [List.length_cons, List.length_nil]; decide)) ?_ | fail); (conv => whnf)))
  (repeat' (first | (refine ansS (fun hh => ?_) (fun hh => ?_) <;> (first | simp only [ansX] at hh | skip) <;> (first | (exfalso; omega) | (exfalso; simp [*] at hh; done) | (exfalso; revert hh; decide) | exact absurd (by assumption) hh | (conv => whnf))) | ((first | refine ⟨by kernel_rfl, ?_⟩ | refine ansB (by omega) (by omega) ?_ | refine ansB (by decide) (by decide) ?_ | refine And.intro (a := _ ≤ _) (by omega) ?_ | refine And.intro (a := _ ≠ _) (by omega) ?_ | ((try (refine Or.inl ?_; (conv => whnf))); (try (refine ⟨false, ?_⟩; (conv => whnf))); refine ⟨_, by exact sb, ?_⟩) | fail); (conv => whnf))))
  all_goals (first | rfl | set_option pp.maxSteps 300 in trace_state)
theorem pc_RC101 (b : BooksT) (hb : IB b) (user number : Int) (hs : smallB b = true) (ha : apvE b user number = 0) (hv : ¬actvE b user number = 0) (hr : retE b user = 0) : PC Tryz.prog 4 [bks b, i64 user, i64 number] (.bool true) := by
  have gr := pc_Great b
  have o := okay_of hs
  rw [hs] at gr
  have tw := pc_r10Twin b o
  have sb := pc_SameT b o
  have s0 := pc_SameNew 0
  have p1 := pc_Active b o
  have p2 := pc_r10Active b o hb
  have oa := okay_apv o ha
  have sa := pc_SameT _ oa
  have a2 := pc_r10ApproveOk b o hb user number ha
  have v1 := pc_ActivateBad b o user number hv
  have v2 := pc_r10ActivateBad b o hb user number hv
  have orr := okay_ret (i := firstA b.recipes) o
  have sr := pc_SameT _ orr
  have r2 := pc_r10RetireOk b o hb user hr
  refine pc_of_bodyF hm Tryz.func4 (by kernel_rfl) ?_
  conv => whnf
  (repeat' ((first | refine ansT ?_ | refine ansF ?_ | ((try (refine Or.inl ?_; (conv => whnf))); (try (refine ⟨false, ?_⟩; (conv => whnf))); refine ⟨_, by first | exact gr | exact tw, ?_⟩) | refine ansD (by first | (simp [*]; done) | omega) ?_ | refine ansN (by first | (simp [*]; done) | omega) ?_ | refine ⟨by kernel_rfl, ?_⟩ | refine ansB (by decide) (by first | decide | (simp; done) | (simp only [List.length_cons, List.length_nil]; decide)) ?_ | fail); (conv => whnf)))
  (refine Or.inr ⟨[ ], [ 34, 35, 32 ], by kernel_rfl, ?_⟩; (conv => whnf); refine ⟨[ ], _, _, _, _, ⟨ pw_ApproveOk b o user number ha, rfl, rfl, by kernel_rfl⟩, ?_⟩)
  (conv => whnf)
  (repeat' ((first | refine ansT ?_ | refine ansF ?_ | ((try (refine Or.inl ?_; (conv => whnf))); (try (refine ⟨false, ?_⟩; (conv => whnf))); refine ⟨_, by exact a2, ?_⟩) | refine ansD (by first | (simp [*]; done) | omega) ?_ | refine ansN (by first | (simp [*]; done) | omega) ?_ | refine ⟨by kernel_rfl, ?_⟩ | refine ansB (by decide) (by first | decide | (simp; done) | (simp only [List.length_cons, List.length_nil]; decide)) ?_ | fail); (conv => whnf)))
  (repeat' ((first | refine ansT ?_ | refine ansF ?_ | ((try (refine Or.inl ?_; (conv => whnf))); (try (refine ⟨false, ?_⟩; (conv => whnf))); refine ⟨_, by exact v1, ?_⟩) | refine ansD (by first | (simp [*]; done) | omega) ?_ | refine ansN (by first | (simp [*]; done) | omega) ?_ | refine ⟨by kernel_rfl, ?_⟩ | refine ansB (by decide) (by first | decide | (simp; done) | (simp only [List.length_cons, List.length_nil]; decide)) ?_ | fail); (conv => whnf)))
  (repeat' ((first | refine ansT ?_ | refine ansF ?_ | ((try (refine Or.inl ?_; (conv => whnf))); (try (refine ⟨false, ?_⟩; (conv => whnf))); refine ⟨_, by exact v2, ?_⟩) | refine ansD (by first | (simp [*]; done) | omega) ?_ | refine ansN (by first | (simp [*]; done) | omega) ?_ | refine ⟨by kernel_rfl, ?_⟩ | refine ansB (by decide) (by first | decide | (simp; done) | (simp only [List.length_cons, List.length_nil]; decide)) ?_ | fail); (conv => whnf)))
  (refine Or.inr ⟨[ ], [ 61, 62, 59 ], by kernel_rfl, ?_⟩; (conv => whnf); refine ⟨[ ], _, _, _, _, ⟨ pw_RetireOk b o user hr, rfl, rfl, by kernel_rfl⟩, ?_⟩)
  (conv => whnf)
  (repeat' ((first | refine ansT ?_ | refine ansF ?_ | ((try (refine Or.inl ?_; (conv => whnf))); (try (refine ⟨false, ?_⟩; (conv => whnf))); refine ⟨_, by exact r2, ?_⟩) | refine ansD (by first | (simp [*]; done) | omega) ?_ | refine ansN (by first | (simp [*]; done) | omega) ?_ | refine ⟨by kernel_rfl, ?_⟩ | refine ansB (by decide) (by first | decide | (simp; done) | (simp only [List.length_cons, List.length_nil]; decide)) ?_ | fail); (conv => whnf)))
  (repeat' ((first | refine ansT ?_ | refine ansF ?_ | ((try (refine Or.inl ?_; (conv => whnf))); (try (refine ⟨false, ?_⟩; (conv => whnf))); refine ⟨_, by first | exact p1 | exact p2, ?_⟩) | refine ansD (by first | (simp [*]; done) | omega) ?_ | refine ansN (by first | (simp [*]; done) | omega) ?_ | refine ⟨by kernel_rfl, ?_⟩ | refine ansB (by decide) (by first | decide | (simp; done) | (simp only [List.length_cons, List.length_nil]; decide)) ?_ | fail); (conv => whnf)))
  (repeat' (first | (refine ansS (fun hh => ?_) (fun hh => ?_) <;> (first | simp only [ansX] at hh | skip) <;> (first | (exfalso; omega) | (exfalso; simp [*] at hh; done) | (exfalso; revert hh; decide) | exact absurd (by assumption) hh | (conv => whnf))) | ((first | refine ⟨by kernel_rfl, ?_⟩ | refine ansB (by omega) (by omega) ?_ | refine ansB (by decide) (by decide) ?_ | refine And.intro (a := _ ≤ _) (by omega) ?_ | refine And.intro (a := _ ≠ _) (by omega) ?_ | ((try (refine Or.inl ?_; (conv => whnf))); (try (refine ⟨false, ?_⟩; (conv => whnf))); refine ⟨_, by first | exact sa | exact s0 | exact sr, ?_⟩) | fail); (conv => whnf))))
  (refine Or.inr ⟨[ ], [ ], by kernel_rfl, ?_⟩; (conv => whnf); refine ⟨[ 34, 35, 32 ], _, _, _, _, ⟨ pw_spoil _ oa, rfl, rfl, by kernel_rfl⟩, ?_⟩)
  (conv => whnf)
  (repeat' ((first | refine ansT ?_ | refine ansF ?_ | ((try (refine Or.inl ?_; (conv => whnf))); (try (refine ⟨false, ?_⟩; (conv => whnf))); refine ⟨_, by exact pc_spoil0, ?_⟩) | refine ansD (by first | (simp [*]; done) | omega) ?_ | refine ansN (by first | (simp [*]; done) | omega) ?_ | refine ⟨by kernel_rfl, ?_⟩ | refine ansB (by decide) (by first | decide | (simp; done) | (simp only [List.length_cons, List.length_nil]; decide)) ?_ | fail); (conv => whnf)))
  (refine Or.inr ⟨[ ], [ ], by kernel_rfl, ?_⟩; (conv => whnf); refine ⟨[ 61, 62, 59 ], _, _, _, _, ⟨ pw_spoil _ orr, rfl, rfl, by kernel_rfl⟩, ?_⟩)
  (conv => whnf)
  (repeat' (first | (refine ansS (fun hh => ?_) (fun hh => ?_) <;> (first | simp only [ansX] at hh | skip) <;> (first | (exfalso; omega) | (exfalso; simp [*] at hh; done) | (exfalso; revert hh; decide) | exact absurd (by assumption) hh | (conv => whnf))) | ((first | refine ⟨by kernel_rfl, ?_⟩ | refine ansB (by omega) (by omega) ?_ | refine ansB (by decide) (by decide) ?_ | refine And.intro (a := _ ≤ _) (by omega) ?_ | refine And.intro (a := _ ≠ _) (by omega) ?_ | ((try (refine Or.inl ?_; (conv => whnf))); (try (refine ⟨false, ?_⟩; (conv => whnf))); refine ⟨_, by exact sb, ?_⟩) | fail); (conv => whnf))))
  all_goals (first | rfl | set_option pp.maxSteps 300 in trace_state)
theorem pc_RC100 (b : BooksT) (hb : IB b) (user number : Int) (hs : smallB b = true) (ha : apvE b user number = 0) (hv : ¬actvE b user number = 0) (hr : ¬retE b user = 0) : PC Tryz.prog 4 [bks b, i64 user, i64 number] (.bool true) := by
  have gr := pc_Great b
  have o := okay_of hs
  rw [hs] at gr
  have tw := pc_r10Twin b o
  have sb := pc_SameT b o
  have s0 := pc_SameNew 0
  have p1 := pc_Active b o
  have p2 := pc_r10Active b o hb
  have oa := okay_apv o ha
  have sa := pc_SameT _ oa
  have a2 := pc_r10ApproveOk b o hb user number ha
  have v1 := pc_ActivateBad b o user number hv
  have v2 := pc_r10ActivateBad b o hb user number hv
  have r1 := pc_RetireBad b o user hr
  have r2 := pc_r10RetireBad b o hb user hr
  refine pc_of_bodyF hm Tryz.func4 (by kernel_rfl) ?_
  conv => whnf
  (repeat' ((first | refine ansT ?_ | refine ansF ?_ | ((try (refine Or.inl ?_; (conv => whnf))); (try (refine ⟨false, ?_⟩; (conv => whnf))); refine ⟨_, by first | exact gr | exact tw, ?_⟩) | refine ansD (by first | (simp [*]; done) | omega) ?_ | refine ansN (by first | (simp [*]; done) | omega) ?_ | refine ⟨by kernel_rfl, ?_⟩ | refine ansB (by decide) (by first | decide | (simp; done) | (simp only [List.length_cons, List.length_nil]; decide)) ?_ | fail); (conv => whnf)))
  (refine Or.inr ⟨[ ], [ 34, 35, 32 ], by kernel_rfl, ?_⟩; (conv => whnf); refine ⟨[ ], _, _, _, _, ⟨ pw_ApproveOk b o user number ha, rfl, rfl, by kernel_rfl⟩, ?_⟩)
  (conv => whnf)
  (repeat' ((first | refine ansT ?_ | refine ansF ?_ | ((try (refine Or.inl ?_; (conv => whnf))); (try (refine ⟨false, ?_⟩; (conv => whnf))); refine ⟨_, by exact a2, ?_⟩) | refine ansD (by first | (simp [*]; done) | omega) ?_ | refine ansN (by first | (simp [*]; done) | omega) ?_ | refine ⟨by kernel_rfl, ?_⟩ | refine ansB (by decide) (by first | decide | (simp; done) | (simp only [List.length_cons, List.length_nil]; decide)) ?_ | fail); (conv => whnf)))
  (repeat' ((first | refine ansT ?_ | refine ansF ?_ | ((try (refine Or.inl ?_; (conv => whnf))); (try (refine ⟨false, ?_⟩; (conv => whnf))); refine ⟨_, by exact v1, ?_⟩) | refine ansD (by first | (simp [*]; done) | omega) ?_ | refine ansN (by first | (simp [*]; done) | omega) ?_ | refine ⟨by kernel_rfl, ?_⟩ | refine ansB (by decide) (by first | decide | (simp; done) | (simp only [List.length_cons, List.length_nil]; decide)) ?_ | fail); (conv => whnf)))
  (repeat' ((first | refine ansT ?_ | refine ansF ?_ | ((try (refine Or.inl ?_; (conv => whnf))); (try (refine ⟨false, ?_⟩; (conv => whnf))); refine ⟨_, by exact v2, ?_⟩) | refine ansD (by first | (simp [*]; done) | omega) ?_ | refine ansN (by first | (simp [*]; done) | omega) ?_ | refine ⟨by kernel_rfl, ?_⟩ | refine ansB (by decide) (by first | decide | (simp; done) | (simp only [List.length_cons, List.length_nil]; decide)) ?_ | fail); (conv => whnf)))
  (repeat' ((first | refine ansT ?_ | refine ansF ?_ | ((try (refine Or.inl ?_; (conv => whnf))); (try (refine ⟨false, ?_⟩; (conv => whnf))); refine ⟨_, by exact r1, ?_⟩) | refine ansD (by first | (simp [*]; done) | omega) ?_ | refine ansN (by first | (simp [*]; done) | omega) ?_ | refine ⟨by kernel_rfl, ?_⟩ | refine ansB (by decide) (by first | decide | (simp; done) | (simp only [List.length_cons, List.length_nil]; decide)) ?_ | fail); (conv => whnf)))
  (repeat' ((first | refine ansT ?_ | refine ansF ?_ | ((try (refine Or.inl ?_; (conv => whnf))); (try (refine ⟨false, ?_⟩; (conv => whnf))); refine ⟨_, by exact r2, ?_⟩) | refine ansD (by first | (simp [*]; done) | omega) ?_ | refine ansN (by first | (simp [*]; done) | omega) ?_ | refine ⟨by kernel_rfl, ?_⟩ | refine ansB (by decide) (by first | decide | (simp; done) | (simp only [List.length_cons, List.length_nil]; decide)) ?_ | fail); (conv => whnf)))
  (repeat' ((first | refine ansT ?_ | refine ansF ?_ | ((try (refine Or.inl ?_; (conv => whnf))); (try (refine ⟨false, ?_⟩; (conv => whnf))); refine ⟨_, by first | exact p1 | exact p2, ?_⟩) | refine ansD (by first | (simp [*]; done) | omega) ?_ | refine ansN (by first | (simp [*]; done) | omega) ?_ | refine ⟨by kernel_rfl, ?_⟩ | refine ansB (by decide) (by first | decide | (simp; done) | (simp only [List.length_cons, List.length_nil]; decide)) ?_ | fail); (conv => whnf)))
  (repeat' (first | (refine ansS (fun hh => ?_) (fun hh => ?_) <;> (first | simp only [ansX] at hh | skip) <;> (first | (exfalso; omega) | (exfalso; simp [*] at hh; done) | (exfalso; revert hh; decide) | exact absurd (by assumption) hh | (conv => whnf))) | ((first | refine ⟨by kernel_rfl, ?_⟩ | refine ansB (by omega) (by omega) ?_ | refine ansB (by decide) (by decide) ?_ | refine And.intro (a := _ ≤ _) (by omega) ?_ | refine And.intro (a := _ ≠ _) (by omega) ?_ | ((try (refine Or.inl ?_; (conv => whnf))); (try (refine ⟨false, ?_⟩; (conv => whnf))); refine ⟨_, by first | exact sa | exact s0 | exact s0, ?_⟩) | fail); (conv => whnf))))
  (refine Or.inr ⟨[ ], [ ], by kernel_rfl, ?_⟩; (conv => whnf); refine ⟨[ 34, 35, 32 ], _, _, _, _, ⟨ pw_spoil _ oa, rfl, rfl, by kernel_rfl⟩, ?_⟩)
  (conv => whnf)
  (repeat' ((first | refine ansT ?_ | refine ansF ?_ | ((try (refine Or.inl ?_; (conv => whnf))); (try (refine ⟨false, ?_⟩; (conv => whnf))); refine ⟨_, by exact pc_spoil0, ?_⟩) | refine ansD (by first | (simp [*]; done) | omega) ?_ | refine ansN (by first | (simp [*]; done) | omega) ?_ | refine ⟨by kernel_rfl, ?_⟩ | refine ansB (by decide) (by first | decide | (simp; done) | (simp only [List.length_cons, List.length_nil]; decide)) ?_ | fail); (conv => whnf)))
  (repeat' ((first | refine ansT ?_ | refine ansF ?_ | ((try (refine Or.inl ?_; (conv => whnf))); (try (refine ⟨false, ?_⟩; (conv => whnf))); refine ⟨_, by exact pc_spoil0, ?_⟩) | refine ansD (by first | (simp [*]; done) | omega) ?_ | refine ansN (by first | (simp [*]; done) | omega) ?_ | refine ⟨by kernel_rfl, ?_⟩ | refine ansB (by decide) (by first | decide | (simp; done) | (simp only [List.length_cons, List.length_nil]; decide)) ?_ | fail); (conv => whnf)))
  (repeat' (first | (refine ansS (fun hh => ?_) (fun hh => ?_) <;> (first | simp only [ansX] at hh | skip) <;> (first | (exfalso; omega) | (exfalso; simp [*] at hh; done) | (exfalso; revert hh; decide) | exact absurd (by assumption) hh | (conv => whnf))) | ((first | refine ⟨by kernel_rfl, ?_⟩ | refine ansB (by omega) (by omega) ?_ | refine ansB (by decide) (by decide) ?_ | refine And.intro (a := _ ≤ _) (by omega) ?_ | refine And.intro (a := _ ≠ _) (by omega) ?_ | ((try (refine Or.inl ?_; (conv => whnf))); (try (refine ⟨false, ?_⟩; (conv => whnf))); refine ⟨_, by exact sb, ?_⟩) | fail); (conv => whnf))))
  all_goals (first | rfl | set_option pp.maxSteps 300 in trace_state)
theorem pc_RC011 (b : BooksT) (hb : IB b) (user number : Int) (hs : smallB b = true) (ha : ¬apvE b user number = 0) (hv : actvE b user number = 0) (hr : retE b user = 0) : PC Tryz.prog 4 [bks b, i64 user, i64 number] (.bool true) := by
  have gr := pc_Great b
  have o := okay_of hs
  rw [hs] at gr
  have tw := pc_r10Twin b o
  have sb := pc_SameT b o
  have s0 := pc_SameNew 0
  have p1 := pc_Active b o
  have p2 := pc_r10Active b o hb
  have a1 := pc_ApproveBad b o user number ha
  have a2 := pc_r10ApproveBad b o hb user number ha
  have ov := okay_actv (number := number) o
  have sv := pc_SameT _ ov
  have v2 := pc_r10ActivateOk b o hb user number hv
  have orr := okay_ret (i := firstA b.recipes) o
  have sr := pc_SameT _ orr
  have r2 := pc_r10RetireOk b o hb user hr
  refine pc_of_bodyF hm Tryz.func4 (by kernel_rfl) ?_
  conv => whnf
  (repeat' ((first | refine ansT ?_ | refine ansF ?_ | ((try (refine Or.inl ?_; (conv => whnf))); (try (refine ⟨false, ?_⟩; (conv => whnf))); refine ⟨_, by first | exact gr | exact tw, ?_⟩) | refine ansD (by first | (simp [*]; done) | omega) ?_ | refine ansN (by first | (simp [*]; done) | omega) ?_ | refine ⟨by kernel_rfl, ?_⟩ | refine ansB (by decide) (by first | decide | (simp; done) | (simp only [List.length_cons, List.length_nil]; decide)) ?_ | fail); (conv => whnf)))
  (repeat' ((first | refine ansT ?_ | refine ansF ?_ | ((try (refine Or.inl ?_; (conv => whnf))); (try (refine ⟨false, ?_⟩; (conv => whnf))); refine ⟨_, by exact a1, ?_⟩) | refine ansD (by first | (simp [*]; done) | omega) ?_ | refine ansN (by first | (simp [*]; done) | omega) ?_ | refine ⟨by kernel_rfl, ?_⟩ | refine ansB (by decide) (by first | decide | (simp; done) | (simp only [List.length_cons, List.length_nil]; decide)) ?_ | fail); (conv => whnf)))
  (repeat' ((first | refine ansT ?_ | refine ansF ?_ | ((try (refine Or.inl ?_; (conv => whnf))); (try (refine ⟨false, ?_⟩; (conv => whnf))); refine ⟨_, by exact a2, ?_⟩) | refine ansD (by first | (simp [*]; done) | omega) ?_ | refine ansN (by first | (simp [*]; done) | omega) ?_ | refine ⟨by kernel_rfl, ?_⟩ | refine ansB (by decide) (by first | decide | (simp; done) | (simp only [List.length_cons, List.length_nil]; decide)) ?_ | fail); (conv => whnf)))
  (refine Or.inr ⟨[ ], [ 48, 49, 46 ], by kernel_rfl, ?_⟩; (conv => whnf); refine ⟨[ ], _, _, _, _, ⟨ pw_ActivateOk b o user number hv, rfl, rfl, by kernel_rfl⟩, ?_⟩)
  (conv => whnf)
  (repeat' ((first | refine ansT ?_ | refine ansF ?_ | ((try (refine Or.inl ?_; (conv => whnf))); (try (refine ⟨false, ?_⟩; (conv => whnf))); refine ⟨_, by exact v2, ?_⟩) | refine ansD (by first | (simp [*]; done) | omega) ?_ | refine ansN (by first | (simp [*]; done) | omega) ?_ | refine ⟨by kernel_rfl, ?_⟩ | refine ansB (by decide) (by first | decide | (simp; done) | (simp only [List.length_cons, List.length_nil]; decide)) ?_ | fail); (conv => whnf)))
  (refine Or.inr ⟨[ ], [ 61, 62, 59 ], by kernel_rfl, ?_⟩; (conv => whnf); refine ⟨[ ], _, _, _, _, ⟨ pw_RetireOk b o user hr, rfl, rfl, by kernel_rfl⟩, ?_⟩)
  (conv => whnf)
  (repeat' ((first | refine ansT ?_ | refine ansF ?_ | ((try (refine Or.inl ?_; (conv => whnf))); (try (refine ⟨false, ?_⟩; (conv => whnf))); refine ⟨_, by exact r2, ?_⟩) | refine ansD (by first | (simp [*]; done) | omega) ?_ | refine ansN (by first | (simp [*]; done) | omega) ?_ | refine ⟨by kernel_rfl, ?_⟩ | refine ansB (by decide) (by first | decide | (simp; done) | (simp only [List.length_cons, List.length_nil]; decide)) ?_ | fail); (conv => whnf)))
  (repeat' ((first | refine ansT ?_ | refine ansF ?_ | ((try (refine Or.inl ?_; (conv => whnf))); (try (refine ⟨false, ?_⟩; (conv => whnf))); refine ⟨_, by first | exact p1 | exact p2, ?_⟩) | refine ansD (by first | (simp [*]; done) | omega) ?_ | refine ansN (by first | (simp [*]; done) | omega) ?_ | refine ⟨by kernel_rfl, ?_⟩ | refine ansB (by decide) (by first | decide | (simp; done) | (simp only [List.length_cons, List.length_nil]; decide)) ?_ | fail); (conv => whnf)))
  (repeat' (first | (refine ansS (fun hh => ?_) (fun hh => ?_) <;> (first | simp only [ansX] at hh | skip) <;> (first | (exfalso; omega) | (exfalso; simp [*] at hh; done) | (exfalso; revert hh; decide) | exact absurd (by assumption) hh | (conv => whnf))) | ((first | refine ⟨by kernel_rfl, ?_⟩ | refine ansB (by omega) (by omega) ?_ | refine ansB (by decide) (by decide) ?_ | refine And.intro (a := _ ≤ _) (by omega) ?_ | refine And.intro (a := _ ≠ _) (by omega) ?_ | ((try (refine Or.inl ?_; (conv => whnf))); (try (refine ⟨false, ?_⟩; (conv => whnf))); refine ⟨_, by first | exact s0 | exact sv | exact sr, ?_⟩) | fail); (conv => whnf))))
  (repeat' ((first | refine ansT ?_ | refine ansF ?_ | ((try (refine Or.inl ?_; (conv => whnf))); (try (refine ⟨false, ?_⟩; (conv => whnf))); refine ⟨_, by exact pc_spoil0, ?_⟩) | refine ansD (by first | (simp [*]; done) | omega) ?_ | refine ansN (by first | (simp [*]; done) | omega) ?_ | refine ⟨by kernel_rfl, ?_⟩ | refine ansB (by decide) (by first | decide | (simp; done) | (simp only [List.length_cons, List.length_nil]; decide)) ?_ | fail); (conv => whnf)))
  (refine Or.inr ⟨[ ], [ ], by kernel_rfl, ?_⟩; (conv => whnf); refine ⟨[ 48, 49, 46 ], _, _, _, _, ⟨ pw_spoil _ ov, rfl, rfl, by kernel_rfl⟩, ?_⟩)
  (conv => whnf)
  (refine Or.inr ⟨[ ], [ ], by kernel_rfl, ?_⟩; (conv => whnf); refine ⟨[ 61, 62, 59 ], _, _, _, _, ⟨ pw_spoil _ orr, rfl, rfl, by kernel_rfl⟩, ?_⟩)
  (conv => whnf)
  (repeat' (first | (refine ansS (fun hh => ?_) (fun hh => ?_) <;> (first | simp only [ansX] at hh | skip) <;> (first | (exfalso; omega) | (exfalso; simp [*] at hh; done) | (exfalso; revert hh; decide) | exact absurd (by assumption) hh | (conv => whnf))) | ((first | refine ⟨by kernel_rfl, ?_⟩ | refine ansB (by omega) (by omega) ?_ | refine ansB (by decide) (by decide) ?_ | refine And.intro (a := _ ≤ _) (by omega) ?_ | refine And.intro (a := _ ≠ _) (by omega) ?_ | ((try (refine Or.inl ?_; (conv => whnf))); (try (refine ⟨false, ?_⟩; (conv => whnf))); refine ⟨_, by exact sb, ?_⟩) | fail); (conv => whnf))))
  all_goals (first | rfl | set_option pp.maxSteps 300 in trace_state)
theorem pc_RC010 (b : BooksT) (hb : IB b) (user number : Int) (hs : smallB b = true) (ha : ¬apvE b user number = 0) (hv : actvE b user number = 0) (hr : ¬retE b user = 0) : PC Tryz.prog 4 [bks b, i64 user, i64 number] (.bool true) := by
  have gr := pc_Great b
  have o := okay_of hs
  rw [hs] at gr
  have tw := pc_r10Twin b o
  have sb := pc_SameT b o
  have s0 := pc_SameNew 0
  have p1 := pc_Active b o
  have p2 := pc_r10Active b o hb
  have a1 := pc_ApproveBad b o user number ha
  have a2 := pc_r10ApproveBad b o hb user number ha
  have ov := okay_actv (number := number) o
  have sv := pc_SameT _ ov
  have v2 := pc_r10ActivateOk b o hb user number hv
  have r1 := pc_RetireBad b o user hr
  have r2 := pc_r10RetireBad b o hb user hr
  refine pc_of_bodyF hm Tryz.func4 (by kernel_rfl) ?_
  conv => whnf
  (repeat' ((first | refine ansT ?_ | refine ansF ?_ | ((try (refine Or.inl ?_; (conv => whnf))); (try (refine ⟨false, ?_⟩; (conv => whnf))); refine ⟨_, by first | exact gr | exact tw, ?_⟩) | refine ansD (by first | (simp [*]; done) | omega) ?_ | refine ansN (by first | (simp [*]; done) | omega) ?_ | refine ⟨by kernel_rfl, ?_⟩ | refine ansB (by decide) (by first | decide | (simp; done) | (simp only [List.length_cons, List.length_nil]; decide)) ?_ | fail); (conv => whnf)))
  (repeat' ((first | refine ansT ?_ | refine ansF ?_ | ((try (refine Or.inl ?_; (conv => whnf))); (try (refine ⟨false, ?_⟩; (conv => whnf))); refine ⟨_, by exact a1, ?_⟩) | refine ansD (by first | (simp [*]; done) | omega) ?_ | refine ansN (by first | (simp [*]; done) | omega) ?_ | refine ⟨by kernel_rfl, ?_⟩ | refine ansB (by decide) (by first | decide | (simp; done) | (simp only [List.length_cons, List.length_nil]; decide)) ?_ | fail); (conv => whnf)))
  (repeat' ((first | refine ansT ?_ | refine ansF ?_ | ((try (refine Or.inl ?_; (conv => whnf))); (try (refine ⟨false, ?_⟩; (conv => whnf))); refine ⟨_, by exact a2, ?_⟩) | refine ansD (by first | (simp [*]; done) | omega) ?_ | refine ansN (by first | (simp [*]; done) | omega) ?_ | refine ⟨by kernel_rfl, ?_⟩ | refine ansB (by decide) (by first | decide | (simp; done) | (simp only [List.length_cons, List.length_nil]; decide)) ?_ | fail); (conv => whnf)))
  (refine Or.inr ⟨[ ], [ 48, 49, 46 ], by kernel_rfl, ?_⟩; (conv => whnf); refine ⟨[ ], _, _, _, _, ⟨ pw_ActivateOk b o user number hv, rfl, rfl, by kernel_rfl⟩, ?_⟩)
  (conv => whnf)
  (repeat' ((first | refine ansT ?_ | refine ansF ?_ | ((try (refine Or.inl ?_; (conv => whnf))); (try (refine ⟨false, ?_⟩; (conv => whnf))); refine ⟨_, by exact v2, ?_⟩) | refine ansD (by first | (simp [*]; done) | omega) ?_ | refine ansN (by first | (simp [*]; done) | omega) ?_ | refine ⟨by kernel_rfl, ?_⟩ | refine ansB (by decide) (by first | decide | (simp; done) | (simp only [List.length_cons, List.length_nil]; decide)) ?_ | fail); (conv => whnf)))
  (repeat' ((first | refine ansT ?_ | refine ansF ?_ | ((try (refine Or.inl ?_; (conv => whnf))); (try (refine ⟨false, ?_⟩; (conv => whnf))); refine ⟨_, by exact r1, ?_⟩) | refine ansD (by first | (simp [*]; done) | omega) ?_ | refine ansN (by first | (simp [*]; done) | omega) ?_ | refine ⟨by kernel_rfl, ?_⟩ | refine ansB (by decide) (by first | decide | (simp; done) | (simp only [List.length_cons, List.length_nil]; decide)) ?_ | fail); (conv => whnf)))
  (repeat' ((first | refine ansT ?_ | refine ansF ?_ | ((try (refine Or.inl ?_; (conv => whnf))); (try (refine ⟨false, ?_⟩; (conv => whnf))); refine ⟨_, by exact r2, ?_⟩) | refine ansD (by first | (simp [*]; done) | omega) ?_ | refine ansN (by first | (simp [*]; done) | omega) ?_ | refine ⟨by kernel_rfl, ?_⟩ | refine ansB (by decide) (by first | decide | (simp; done) | (simp only [List.length_cons, List.length_nil]; decide)) ?_ | fail); (conv => whnf)))
  (repeat' ((first | refine ansT ?_ | refine ansF ?_ | ((try (refine Or.inl ?_; (conv => whnf))); (try (refine ⟨false, ?_⟩; (conv => whnf))); refine ⟨_, by first | exact p1 | exact p2, ?_⟩) | refine ansD (by first | (simp [*]; done) | omega) ?_ | refine ansN (by first | (simp [*]; done) | omega) ?_ | refine ⟨by kernel_rfl, ?_⟩ | refine ansB (by decide) (by first | decide | (simp; done) | (simp only [List.length_cons, List.length_nil]; decide)) ?_ | fail); (conv => whnf)))
  (repeat' (first | (refine ansS (fun hh => ?_) (fun hh => ?_) <;> (first | simp only [ansX] at hh | skip) <;> (first | (exfalso; omega) | (exfalso; simp [*] at hh; done) | (exfalso; revert hh; decide) | exact absurd (by assumption) hh | (conv => whnf))) | ((first | refine ⟨by kernel_rfl, ?_⟩ | refine ansB (by omega) (by omega) ?_ | refine ansB (by decide) (by decide) ?_ | refine And.intro (a := _ ≤ _) (by omega) ?_ | refine And.intro (a := _ ≠ _) (by omega) ?_ | ((try (refine Or.inl ?_; (conv => whnf))); (try (refine ⟨false, ?_⟩; (conv => whnf))); refine ⟨_, by first | exact s0 | exact sv | exact s0, ?_⟩) | fail); (conv => whnf))))
  (repeat' ((first | refine ansT ?_ | refine ansF ?_ | ((try (refine Or.inl ?_; (conv => whnf))); (try (refine ⟨false, ?_⟩; (conv => whnf))); refine ⟨_, by exact pc_spoil0, ?_⟩) | refine ansD (by first | (simp [*]; done) | omega) ?_ | refine ansN (by first | (simp [*]; done) | omega) ?_ | refine ⟨by kernel_rfl, ?_⟩ | refine ansB (by decide) (by first | decide | (simp; done) | (simp only [List.length_cons, List.length_nil]; decide)) ?_ | fail); (conv => whnf)))
  (refine Or.inr ⟨[ ], [ ], by kernel_rfl, ?_⟩; (conv => whnf); refine ⟨[ 48, 49, 46 ], _, _, _, _, ⟨ pw_spoil _ ov, rfl, rfl, by kernel_rfl⟩, ?_⟩)
  (conv => whnf)
  (repeat' ((first | refine ansT ?_ | refine ansF ?_ | ((try (refine Or.inl ?_; (conv => whnf))); (try (refine ⟨false, ?_⟩; (conv => whnf))); refine ⟨_, by exact pc_spoil0, ?_⟩) | refine ansD (by first | (simp [*]; done) | omega) ?_ | refine ansN (by first | (simp [*]; done) | omega) ?_ | refine ⟨by kernel_rfl, ?_⟩ | refine ansB (by decide) (by first | decide | (simp; done) | (simp only [List.length_cons, List.length_nil]; decide)) ?_ | fail); (conv => whnf)))
  (repeat' (first | (refine ansS (fun hh => ?_) (fun hh => ?_) <;> (first | simp only [ansX] at hh | skip) <;> (first | (exfalso; omega) | (exfalso; simp [*] at hh; done) | (exfalso; revert hh; decide) | exact absurd (by assumption) hh | (conv => whnf))) | ((first | refine ⟨by kernel_rfl, ?_⟩ | refine ansB (by omega) (by omega) ?_ | refine ansB (by decide) (by decide) ?_ | refine And.intro (a := _ ≤ _) (by omega) ?_ | refine And.intro (a := _ ≠ _) (by omega) ?_ | ((try (refine Or.inl ?_; (conv => whnf))); (try (refine ⟨false, ?_⟩; (conv => whnf))); refine ⟨_, by exact sb, ?_⟩) | fail); (conv => whnf))))
  all_goals (first | rfl | set_option pp.maxSteps 300 in trace_state)
theorem pc_RC001 (b : BooksT) (hb : IB b) (user number : Int) (hs : smallB b = true) (ha : ¬apvE b user number = 0) (hv : ¬actvE b user number = 0) (hr : retE b user = 0) : PC Tryz.prog 4 [bks b, i64 user, i64 number] (.bool true) := by
  have gr := pc_Great b
  have o := okay_of hs
  rw [hs] at gr
  have tw := pc_r10Twin b o
  have sb := pc_SameT b o
  have s0 := pc_SameNew 0
  have p1 := pc_Active b o
  have p2 := pc_r10Active b o hb
  have a1 := pc_ApproveBad b o user number ha
  have a2 := pc_r10ApproveBad b o hb user number ha
  have v1 := pc_ActivateBad b o user number hv
  have v2 := pc_r10ActivateBad b o hb user number hv
  have orr := okay_ret (i := firstA b.recipes) o
  have sr := pc_SameT _ orr
  have r2 := pc_r10RetireOk b o hb user hr
  refine pc_of_bodyF hm Tryz.func4 (by kernel_rfl) ?_
  conv => whnf
  (repeat' ((first | refine ansT ?_ | refine ansF ?_ | ((try (refine Or.inl ?_; (conv => whnf))); (try (refine ⟨false, ?_⟩; (conv => whnf))); refine ⟨_, by first | exact gr | exact tw, ?_⟩) | refine ansD (by first | (simp [*]; done) | omega) ?_ | refine ansN (by first | (simp [*]; done) | omega) ?_ | refine ⟨by kernel_rfl, ?_⟩ | refine ansB (by decide) (by first | decide | (simp; done) | (simp only [List.length_cons, List.length_nil]; decide)) ?_ | fail); (conv => whnf)))
  (repeat' ((first | refine ansT ?_ | refine ansF ?_ | ((try (refine Or.inl ?_; (conv => whnf))); (try (refine ⟨false, ?_⟩; (conv => whnf))); refine ⟨_, by exact a1, ?_⟩) | refine ansD (by first | (simp [*]; done) | omega) ?_ | refine ansN (by first | (simp [*]; done) | omega) ?_ | refine ⟨by kernel_rfl, ?_⟩ | refine ansB (by decide) (by first | decide | (simp; done) | (simp only [List.length_cons, List.length_nil]; decide)) ?_ | fail); (conv => whnf)))
  (repeat' ((first | refine ansT ?_ | refine ansF ?_ | ((try (refine Or.inl ?_; (conv => whnf))); (try (refine ⟨false, ?_⟩; (conv => whnf))); refine ⟨_, by exact a2, ?_⟩) | refine ansD (by first | (simp [*]; done) | omega) ?_ | refine ansN (by first | (simp [*]; done) | omega) ?_ | refine ⟨by kernel_rfl, ?_⟩ | refine ansB (by decide) (by first | decide | (simp; done) | (simp only [List.length_cons, List.length_nil]; decide)) ?_ | fail); (conv => whnf)))
  (repeat' ((first | refine ansT ?_ | refine ansF ?_ | ((try (refine Or.inl ?_; (conv => whnf))); (try (refine ⟨false, ?_⟩; (conv => whnf))); refine ⟨_, by exact v1, ?_⟩) | refine ansD (by first | (simp [*]; done) | omega) ?_ | refine ansN (by first | (simp [*]; done) | omega) ?_ | refine ⟨by kernel_rfl, ?_⟩ | refine ansB (by decide) (by first | decide | (simp; done) | (simp only [List.length_cons, List.length_nil]; decide)) ?_ | fail); (conv => whnf)))
  (repeat' ((first | refine ansT ?_ | refine ansF ?_ | ((try (refine Or.inl ?_; (conv => whnf))); (try (refine ⟨false, ?_⟩; (conv => whnf))); refine ⟨_, by exact v2, ?_⟩) | refine ansD (by first | (simp [*]; done) | omega) ?_ | refine ansN (by first | (simp [*]; done) | omega) ?_ | refine ⟨by kernel_rfl, ?_⟩ | refine ansB (by decide) (by first | decide | (simp; done) | (simp only [List.length_cons, List.length_nil]; decide)) ?_ | fail); (conv => whnf)))
  (refine Or.inr ⟨[ ], [ 61, 62, 59 ], by kernel_rfl, ?_⟩; (conv => whnf); refine ⟨[ ], _, _, _, _, ⟨ pw_RetireOk b o user hr, rfl, rfl, by kernel_rfl⟩, ?_⟩)
  (conv => whnf)
  (repeat' ((first | refine ansT ?_ | refine ansF ?_ | ((try (refine Or.inl ?_; (conv => whnf))); (try (refine ⟨false, ?_⟩; (conv => whnf))); refine ⟨_, by exact r2, ?_⟩) | refine ansD (by first | (simp [*]; done) | omega) ?_ | refine ansN (by first | (simp [*]; done) | omega) ?_ | refine ⟨by kernel_rfl, ?_⟩ | refine ansB (by decide) (by first | decide | (simp; done) | (simp only [List.length_cons, List.length_nil]; decide)) ?_ | fail); (conv => whnf)))
  (repeat' ((first | refine ansT ?_ | refine ansF ?_ | ((try (refine Or.inl ?_; (conv => whnf))); (try (refine ⟨false, ?_⟩; (conv => whnf))); refine ⟨_, by first | exact p1 | exact p2, ?_⟩) | refine ansD (by first | (simp [*]; done) | omega) ?_ | refine ansN (by first | (simp [*]; done) | omega) ?_ | refine ⟨by kernel_rfl, ?_⟩ | refine ansB (by decide) (by first | decide | (simp; done) | (simp only [List.length_cons, List.length_nil]; decide)) ?_ | fail); (conv => whnf)))
  (repeat' (first | (refine ansS (fun hh => ?_) (fun hh => ?_) <;> (first | simp only [ansX] at hh | skip) <;> (first | (exfalso; omega) | (exfalso; simp [*] at hh; done) | (exfalso; revert hh; decide) | exact absurd (by assumption) hh | (conv => whnf))) | ((first | refine ⟨by kernel_rfl, ?_⟩ | refine ansB (by omega) (by omega) ?_ | refine ansB (by decide) (by decide) ?_ | refine And.intro (a := _ ≤ _) (by omega) ?_ | refine And.intro (a := _ ≠ _) (by omega) ?_ | ((try (refine Or.inl ?_; (conv => whnf))); (try (refine ⟨false, ?_⟩; (conv => whnf))); refine ⟨_, by first | exact s0 | exact s0 | exact sr, ?_⟩) | fail); (conv => whnf))))
  (repeat' ((first | refine ansT ?_ | refine ansF ?_ | ((try (refine Or.inl ?_; (conv => whnf))); (try (refine ⟨false, ?_⟩; (conv => whnf))); refine ⟨_, by exact pc_spoil0, ?_⟩) | refine ansD (by first | (simp [*]; done) | omega) ?_ | refine ansN (by first | (simp [*]; done) | omega) ?_ | refine ⟨by kernel_rfl, ?_⟩ | refine ansB (by decide) (by first | decide | (simp; done) | (simp only [List.length_cons, List.length_nil]; decide)) ?_ | fail); (conv => whnf)))
  (repeat' ((first | refine ansT ?_ | refine ansF ?_ | ((try (refine Or.inl ?_; (conv => whnf))); (try (refine ⟨false, ?_⟩; (conv => whnf))); refine ⟨_, by exact pc_spoil0, ?_⟩) | refine ansD (by first | (simp [*]; done) | omega) ?_ | refine ansN (by first | (simp [*]; done) | omega) ?_ | refine ⟨by kernel_rfl, ?_⟩ | refine ansB (by decide) (by first | decide | (simp; done) | (simp only [List.length_cons, List.length_nil]; decide)) ?_ | fail); (conv => whnf)))
  (refine Or.inr ⟨[ ], [ ], by kernel_rfl, ?_⟩; (conv => whnf); refine ⟨[ 61, 62, 59 ], _, _, _, _, ⟨ pw_spoil _ orr, rfl, rfl, by kernel_rfl⟩, ?_⟩)
  (conv => whnf)
  (repeat' (first | (refine ansS (fun hh => ?_) (fun hh => ?_) <;> (first | simp only [ansX] at hh | skip) <;> (first | (exfalso; omega) | (exfalso; simp [*] at hh; done) | (exfalso; revert hh; decide) | exact absurd (by assumption) hh | (conv => whnf))) | ((first | refine ⟨by kernel_rfl, ?_⟩ | refine ansB (by omega) (by omega) ?_ | refine ansB (by decide) (by decide) ?_ | refine And.intro (a := _ ≤ _) (by omega) ?_ | refine And.intro (a := _ ≠ _) (by omega) ?_ | ((try (refine Or.inl ?_; (conv => whnf))); (try (refine ⟨false, ?_⟩; (conv => whnf))); refine ⟨_, by exact sb, ?_⟩) | fail); (conv => whnf))))
  all_goals (first | rfl | set_option pp.maxSteps 300 in trace_state)
theorem pc_RC000 (b : BooksT) (hb : IB b) (user number : Int) (hs : smallB b = true) (ha : ¬apvE b user number = 0) (hv : ¬actvE b user number = 0) (hr : ¬retE b user = 0) : PC Tryz.prog 4 [bks b, i64 user, i64 number] (.bool true) := by
  have gr := pc_Great b
  have o := okay_of hs
  rw [hs] at gr
  have tw := pc_r10Twin b o
  have sb := pc_SameT b o
  have s0 := pc_SameNew 0
  have p1 := pc_Active b o
  have p2 := pc_r10Active b o hb
  have a1 := pc_ApproveBad b o user number ha
  have a2 := pc_r10ApproveBad b o hb user number ha
  have v1 := pc_ActivateBad b o user number hv
  have v2 := pc_r10ActivateBad b o hb user number hv
  have r1 := pc_RetireBad b o user hr
  have r2 := pc_r10RetireBad b o hb user hr
  refine pc_of_bodyF hm Tryz.func4 (by kernel_rfl) ?_
  conv => whnf
  (repeat' ((first | refine ansT ?_ | refine ansF ?_ | ((try (refine Or.inl ?_; (conv => whnf))); (try (refine ⟨false, ?_⟩; (conv => whnf))); refine ⟨_, by first | exact gr | exact tw, ?_⟩) | refine ansD (by first | (simp [*]; done) | omega) ?_ | refine ansN (by first | (simp [*]; done) | omega) ?_ | refine ⟨by kernel_rfl, ?_⟩ | refine ansB (by decide) (by first | decide | (simp; done) | (simp only [List.length_cons, List.length_nil]; decide)) ?_ | fail); (conv => whnf)))
  (repeat' ((first | refine ansT ?_ | refine ansF ?_ | ((try (refine Or.inl ?_; (conv => whnf))); (try (refine ⟨false, ?_⟩; (conv => whnf))); refine ⟨_, by exact a1, ?_⟩) | refine ansD (by first | (simp [*]; done) | omega) ?_ | refine ansN (by first | (simp [*]; done) | omega) ?_ | refine ⟨by kernel_rfl, ?_⟩ | refine ansB (by decide) (by first | decide | (simp; done) | (simp only [List.length_cons, List.length_nil]; decide)) ?_ | fail); (conv => whnf)))
  (repeat' ((first | refine ansT ?_ | refine ansF ?_ | ((try (refine Or.inl ?_; (conv => whnf))); (try (refine ⟨false, ?_⟩; (conv => whnf))); refine ⟨_, by exact a2, ?_⟩) | refine ansD (by first | (simp [*]; done) | omega) ?_ | refine ansN (by first | (simp [*]; done) | omega) ?_ | refine ⟨by kernel_rfl, ?_⟩ | refine ansB (by decide) (by first | decide | (simp; done) | (simp only [List.length_cons, List.length_nil]; decide)) ?_ | fail); (conv => whnf)))
  (repeat' ((first | refine ansT ?_ | refine ansF ?_ | ((try (refine Or.inl ?_; (conv => whnf))); (try (refine ⟨false, ?_⟩; (conv => whnf))); refine ⟨_, by exact v1, ?_⟩) | refine ansD (by first | (simp [*]; done) | omega) ?_ | refine ansN (by first | (simp [*]; done) | omega) ?_ | refine ⟨by kernel_rfl, ?_⟩ | refine ansB (by decide) (by first | decide | (simp; done) | (simp only [List.length_cons, List.length_nil]; decide)) ?_ | fail); (conv => whnf)))
  (repeat' ((first | refine ansT ?_ | refine ansF ?_ | ((try (refine Or.inl ?_; (conv => whnf))); (try (refine ⟨false, ?_⟩; (conv => whnf))); refine ⟨_, by exact v2, ?_⟩) | refine ansD (by first | (simp [*]; done) | omega) ?_ | refine ansN (by first | (simp [*]; done) | omega) ?_ | refine ⟨by kernel_rfl, ?_⟩ | refine ansB (by decide) (by first | decide | (simp; done) | (simp only [List.length_cons, List.length_nil]; decide)) ?_ | fail); (conv => whnf)))
  (repeat' ((first | refine ansT ?_ | refine ansF ?_ | ((try (refine Or.inl ?_; (conv => whnf))); (try (refine ⟨false, ?_⟩; (conv => whnf))); refine ⟨_, by exact r1, ?_⟩) | refine ansD (by first | (simp [*]; done) | omega) ?_ | refine ansN (by first | (simp [*]; done) | omega) ?_ | refine ⟨by kernel_rfl, ?_⟩ | refine ansB (by decide) (by first | decide | (simp; done) | (simp only [List.length_cons, List.length_nil]; decide)) ?_ | fail); (conv => whnf)))
  (repeat' ((first | refine ansT ?_ | refine ansF ?_ | ((try (refine Or.inl ?_; (conv => whnf))); (try (refine ⟨false, ?_⟩; (conv => whnf))); refine ⟨_, by exact r2, ?_⟩) | refine ansD (by first | (simp [*]; done) | omega) ?_ | refine ansN (by first | (simp [*]; done) | omega) ?_ | refine ⟨by kernel_rfl, ?_⟩ | refine ansB (by decide) (by first | decide | (simp; done) | (simp only [List.length_cons, List.length_nil]; decide)) ?_ | fail); (conv => whnf)))
  (repeat' ((first | refine ansT ?_ | refine ansF ?_ | ((try (refine Or.inl ?_; (conv => whnf))); (try (refine ⟨false, ?_⟩; (conv => whnf))); refine ⟨_, by first | exact p1 | exact p2, ?_⟩) | refine ansD (by first | (simp [*]; done) | omega) ?_ | refine ansN (by first | (simp [*]; done) | omega) ?_ | refine ⟨by kernel_rfl, ?_⟩ | refine ansB (by decide) (by first | decide | (simp; done) | (simp only [List.length_cons, List.length_nil]; decide)) ?_ | fail); (conv => whnf)))
  (repeat' (first | (refine ansS (fun hh => ?_) (fun hh => ?_) <;> (first | simp only [ansX] at hh | skip) <;> (first | (exfalso; omega) | (exfalso; simp [*] at hh; done) | (exfalso; revert hh; decide) | exact absurd (by assumption) hh | (conv => whnf))) | ((first | refine ⟨by kernel_rfl, ?_⟩ | refine ansB (by omega) (by omega) ?_ | refine ansB (by decide) (by decide) ?_ | refine And.intro (a := _ ≤ _) (by omega) ?_ | refine And.intro (a := _ ≠ _) (by omega) ?_ | ((try (refine Or.inl ?_; (conv => whnf))); (try (refine ⟨false, ?_⟩; (conv => whnf))); refine ⟨_, by first | exact s0 | exact s0 | exact s0, ?_⟩) | fail); (conv => whnf))))
  (repeat' ((first | refine ansT ?_ | refine ansF ?_ | ((try (refine Or.inl ?_; (conv => whnf))); (try (refine ⟨false, ?_⟩; (conv => whnf))); refine ⟨_, by exact pc_spoil0, ?_⟩) | refine ansD (by first | (simp [*]; done) | omega) ?_ | refine ansN (by first | (simp [*]; done) | omega) ?_ | refine ⟨by kernel_rfl, ?_⟩ | refine ansB (by decide) (by first | decide | (simp; done) | (simp only [List.length_cons, List.length_nil]; decide)) ?_ | fail); (conv => whnf)))
  (repeat' ((first | refine ansT ?_ | refine ansF ?_ | ((try (refine Or.inl ?_; (conv => whnf))); (try (refine ⟨false, ?_⟩; (conv => whnf))); refine ⟨_, by exact pc_spoil0, ?_⟩) | refine ansD (by first | (simp [*]; done) | omega) ?_ | refine ansN (by first | (simp [*]; done) | omega) ?_ | refine ⟨by kernel_rfl, ?_⟩ | refine ansB (by decide) (by first | decide | (simp; done) | (simp only [List.length_cons, List.length_nil]; decide)) ?_ | fail); (conv => whnf)))
  (repeat' ((first | refine ansT ?_ | refine ansF ?_ | ((try (refine Or.inl ?_; (conv => whnf))); (try (refine ⟨false, ?_⟩; (conv => whnf))); refine ⟨_, by exact pc_spoil0, ?_⟩) | refine ansD (by first | (simp [*]; done) | omega) ?_ | refine ansN (by first | (simp [*]; done) | omega) ?_ | refine ⟨by kernel_rfl, ?_⟩ | refine ansB (by decide) (by first | decide | (simp; done) | (simp only [List.length_cons, List.length_nil]; decide)) ?_ | fail); (conv => whnf)))
  (repeat' (first | (refine ansS (fun hh => ?_) (fun hh => ?_) <;> (first | simp only [ansX] at hh | skip) <;> (first | (exfalso; omega) | (exfalso; simp [*] at hh; done) | (exfalso; revert hh; decide) | exact absurd (by assumption) hh | (conv => whnf))) | ((first | refine ⟨by kernel_rfl, ?_⟩ | refine ansB (by omega) (by omega) ?_ | refine ansB (by decide) (by decide) ?_ | refine And.intro (a := _ ≤ _) (by omega) ?_ | refine And.intro (a := _ ≠ _) (by omega) ?_ | ((try (refine Or.inl ?_; (conv => whnf))); (try (refine ⟨false, ?_⟩; (conv => whnf))); refine ⟨_, by exact sb, ?_⟩) | fail); (conv => whnf))))
  all_goals (first | rfl | set_option pp.maxSteps 300 in trace_state)
theorem pc_RecipeChanges (b : BooksT) (hb : IB b) (user number : Int) : PC Tryz.prog 4 [bks b, i64 user, i64 number] (.bool true) := by
  by_cases hs : smallB b = true
  · by_cases ha : apvE b user number = 0
    · by_cases hv : actvE b user number = 0
      · by_cases hr : retE b user = 0
        · exact pc_RC111 b hb user number hs ha hv hr
        · exact pc_RC110 b hb user number hs ha hv hr
      · by_cases hr : retE b user = 0
        · exact pc_RC101 b hb user number hs ha hv hr
        · exact pc_RC100 b hb user number hs ha hv hr
    · by_cases hv : actvE b user number = 0
      · by_cases hr : retE b user = 0
        · exact pc_RC011 b hb user number hs ha hv hr
        · exact pc_RC010 b hb user number hs ha hv hr
      · by_cases hr : retE b user = 0
        · exact pc_RC001 b hb user number hs ha hv hr
        · exact pc_RC000 b hb user number hs ha hv hr
  · have gr := pc_Great b
    have hs : smallB b = false := by simpa using hs
    rw [hs] at gr
    refine pc_of_bodyF hm Tryz.func4 (by kernel_rfl) ?_
    conv => whnf
    (repeat' ((first | refine ansT ?_ | refine ansF ?_ | ((try (refine Or.inl ?_; (conv => whnf))); (try (refine ⟨false, ?_⟩; (conv => whnf))); refine ⟨_, by exact gr, ?_⟩) | refine ansD (by first | (simp [*]; done) | omega) ?_ | refine ansN (by first | (simp [*]; done) | omega) ?_ | refine ⟨by kernel_rfl, ?_⟩ | refine ansB (by decide) (by first | decide | (simp; done) | (simp only [List.length_cons, List.length_nil]; decide)) ?_ | fail); (conv => whnf)))
    first | rfl | set_option pp.maxSteps 300 in trace_state
end Go.Proofs.Tryz.My
set_option maxRecDepth 100000
set_option maxHeartbeats 0
set_option linter.unusedVariables false
set_option linter.unusedSimpArgs false
namespace Go.Proofs.YtnoahgjfeablgaaGreat.BooksIn
open Go Go.Ev Go.Proofs.Tryz.My
open Go.ChangeShapes Go.WideShapes Go.ChangeAt Go.RowKit
def IB (b : BooksT) : Prop := ∀ i, IG (b.recipes.getD i rec0).gauge
theorem dFrac : Dec Tryz.prog 28 eF (fun y : Int × Int => I64 y.1 ∧ I64 y.2) :=
  dec_two Tryz.underlying28 rfl rfl rfl (by kernel_rfl) (by kernel_rfl) (dec_int Tryz.underlying3 (by kernel_rfl)) (dec_int Tryz.underlying3 (by kernel_rfl)) (fun _ => by kernel_rfl)
theorem dSpan : Dec Tryz.prog 30 eS (fun y : SpT => (I64 y.1.1 ∧ I64 y.1.2) ∧ (I64 y.2.1 ∧ I64 y.2.2)) :=
  dec_two Tryz.underlying30 rfl rfl rfl (by kernel_rfl) (by kernel_rfl) dFrac dFrac (fun _ => by kernel_rfl)
theorem dGauge : Dec Tryz.prog 32 eG (fun y : GauT => ((((I64 y.1.1.1.1 ∧ I64 y.1.1.1.2) ∧ ((I64 y.1.1.2.1.1 ∧ I64 y.1.1.2.1.2) ∧ (I64 y.1.1.2.2.1 ∧ I64 y.1.1.2.2.2))) ∧ (I64 y.1.2.1 ∧ I64 y.1.2.2)) ∧ (I64 y.2.1 ∧ I64 y.2.2))) :=
  dec_all Tryz.underlying32 rfl (by kernel_rfl)
    (dec_more (k := 4) Tryz.underlying32 rfl (by kernel_rfl) (dec_more (k := 3) Tryz.underlying32 rfl (by kernel_rfl) (dec_more (k := 2) Tryz.underlying32 rfl (by kernel_rfl) (dec_more (k := 1) Tryz.underlying32 rfl (by kernel_rfl)
      (dec_one Tryz.underlying32 rfl (by kernel_rfl) (dec_int Tryz.underlying3 (by kernel_rfl))) (dec_int Tryz.underlying3 (by kernel_rfl)) (fun _ => by kernel_rfl)) dSpan (fun _ => by kernel_rfl)) dFrac (fun _ => by kernel_rfl)) dFrac (fun _ => by kernel_rfl))
theorem dInt : DecM Tryz.prog 3 (fun n : Int => [i64 n]) I64 := Dec.mem (dec_int Tryz.underlying3 (by kernel_rfl))
theorem dInts : DecM Tryz.prog 56 (fun l : List Int => [ints l]) (fun _ => True) := by
  have h0 : DecM Tryz.prog 56 (fun l : List Int => [.sl (Tryz.prog.cellsOf 3) 0 (fun n : Int => [i64 n]) l]) (fun l => (∀ n ∈ l, I64 n) ∧ l.length ≤ maxLen) := decM_slice (d := (0 : Int)) Tryz.underlying56 (by kernel_rfl) (of_decide_eq_true (by kernel_rfl)) dInt
  have e : Tryz.prog.cellsOf 3 = 1 := by kernel_rfl
  rw [e] at h0
  intro H enc w base spare held fuel cs x ht
  exact DecM.weak h0 (fun _ _ => trivial) ht
theorem dU8 : DecM Tryz.prog 5 (fun n : Int => [u8 n]) (fun n => (Lit.int .u8 n).wf = true) := Dec.mem (dec_num Tryz.underlying5 (by kernel_rfl))
theorem dU8s : DecM Tryz.prog 22 (fun l : List Int => [u8l l]) (fun _ => True) := by
  have h0 : DecM Tryz.prog 22 (fun l : List Int => [.sl (Tryz.prog.cellsOf 5) 0 (fun n : Int => [u8 n]) l]) (fun l => (∀ n ∈ l, (Lit.int .u8 n).wf = true) ∧ l.length ≤ maxLen) := decM_slice (d := (0 : Int)) Tryz.underlying22 (by kernel_rfl) (of_decide_eq_true (by kernel_rfl)) dU8
  have e : Tryz.prog.cellsOf 5 = 1 := by kernel_rfl
  rw [e] at h0
  intro H enc w base spare held fuel cs x ht
  exact DecM.weak h0 (fun _ _ => trivial) ht
theorem dGaugeM : DecM Tryz.prog 32 eG (fun y : GauT => ((((I64 y.1.1.1.1 ∧ I64 y.1.1.1.2) ∧ ((I64 y.1.1.2.1.1 ∧ I64 y.1.1.2.1.2) ∧ (I64 y.1.1.2.2.1 ∧ I64 y.1.1.2.2.2))) ∧ (I64 y.1.2.1 ∧ I64 y.1.2.2)) ∧ (I64 y.2.1 ∧ I64 y.2.2))) := Dec.mem dGauge
theorem dRec0 : DecM Tryz.prog 76 (fun y : ((Int × GauT) × List Int) × Int => ((([i64 y.1.1.1] ++ eG y.1.1.2) ++ [ints y.1.2]) ++ [u8 y.2])) (fun y => ((I64 y.1.1.1 ∧ ((((I64 y.1.1.2.1.1.1.1 ∧ I64 y.1.1.2.1.1.1.2) ∧ ((I64 y.1.1.2.1.1.2.1.1 ∧ I64 y.1.1.2.1.1.2.1.2) ∧ (I64 y.1.1.2.1.1.2.2.1 ∧ I64 y.1.1.2.1.1.2.2.2))) ∧ (I64 y.1.1.2.1.2.1 ∧ I64 y.1.1.2.1.2.2)) ∧ (I64 y.1.1.2.2.1 ∧ I64 y.1.1.2.2.2))) ∧ True) ∧ (Lit.int .u8 y.2).wf = true) :=
  decM_all Tryz.underlying76 rfl (by kernel_rfl)
    (decM_more (k := 3) Tryz.underlying76 rfl (by kernel_rfl) (decM_more (k := 2) Tryz.underlying76 rfl (by kernel_rfl) (decM_more (k := 1) Tryz.underlying76 rfl (by kernel_rfl)
      (decM_one Tryz.underlying76 rfl (by kernel_rfl) dInt) dGaugeM (fun _ => by kernel_rfl)) dInts (fun _ => by kernel_rfl)) dU8 (fun _ => by kernel_rfl))
theorem dRec : DecM Tryz.prog 76 eRec (fun x => IG x.gauge) := by
  refine DecM.weak (DecM.map (en' := eRec) dRec0 (fun y => (⟨y.1.1.1, y.1.1.2, y.1.2, y.2⟩ : RecT)) (fun _ => rfl)) fun x h => by
    obtain ⟨y, rfl, ⟨⟨_, ⟨⟨a, b⟩, c⟩⟩, _⟩, _⟩ := h
    exact ⟨a.1.1, a.1.2, ⟨a.2.1.1, a.2.1.2, a.2.2.1, a.2.2.2⟩, ⟨b.1, b.2, c.1, c.2⟩⟩
theorem dRecs : DecM Tryz.prog 23 (fun l : List RecT => [recs l]) (fun l => ∀ x ∈ l, IG x.gauge) := by
  have h0 : DecM Tryz.prog 23 (fun l : List RecT => [.sl (Tryz.prog.cellsOf 76) rec0 eRec l]) (fun l => (∀ n ∈ l, IG n.gauge) ∧ l.length ≤ maxLen) := decM_slice (d := rec0) Tryz.underlying23 (by kernel_rfl) (of_decide_eq_true (by kernel_rfl)) dRec
  have e : Tryz.prog.cellsOf 76 = 13 := by kernel_rfl
  rw [e] at h0
  intro H enc w base spare held fuel cs x ht
  exact DecM.weak h0 (fun _ h => h.1) ht
theorem dBool : DecM Tryz.prog 4 (fun b : Bool => [.bool b]) (fun _ => True) := decM_bool Tryz.underlying4 (by kernel_rfl)
theorem dEnt0 : DecM Tryz.prog 58 (fun y : ((((Int × Int) × Int) × List Int) × Int) × Bool => ((((([i64 y.1.1.1.1.1] ++ [i64 y.1.1.1.1.2]) ++ [i64 y.1.1.1.2]) ++ [ints y.1.1.2]) ++ [u8 y.1.2]) ++ [.bool y.2])) (fun y => ((((I64 y.1.1.1.1.1 ∧ I64 y.1.1.1.1.2) ∧ I64 y.1.1.1.2) ∧ True) ∧ (Lit.int .u8 y.1.2).wf = true) ∧ True) :=
  decM_all Tryz.underlying58 rfl (by kernel_rfl)
    (decM_more (k := 5) Tryz.underlying58 rfl (by kernel_rfl) (decM_more (k := 4) Tryz.underlying58 rfl (by kernel_rfl) (decM_more (k := 3) Tryz.underlying58 rfl (by kernel_rfl) (decM_more (k := 2) Tryz.underlying58 rfl (by kernel_rfl) (decM_more (k := 1) Tryz.underlying58 rfl (by kernel_rfl)
      (decM_one Tryz.underlying58 rfl (by kernel_rfl) dInt) dInt (fun _ => by kernel_rfl)) dInt (fun _ => by kernel_rfl)) dInts (fun _ => by kernel_rfl)) dU8 (fun _ => by kernel_rfl)) dBool (fun _ => by kernel_rfl))
theorem dEnt : DecM Tryz.prog 58 eEnt (fun _ => True) := by
  refine DecM.weak (DecM.map (en' := eEnt) dEnt0 (fun y => (⟨y.1.1.1.1.1, y.1.1.1.1.2, y.1.1.1.2, y.1.1.2, y.1.2, y.2⟩ : EntT)) (fun _ => rfl)) fun _ _ => trivial
theorem dEnts : DecM Tryz.prog 24 (fun l : List EntT => [ents l]) (fun _ => True) := by
  have h0 : DecM Tryz.prog 24 (fun l : List EntT => [.sl (Tryz.prog.cellsOf 58) ent0 eEnt l]) (fun l => (∀ n ∈ l, True) ∧ l.length ≤ maxLen) := decM_slice (d := ent0) Tryz.underlying24 (by kernel_rfl) (of_decide_eq_true (by kernel_rfl)) dEnt
  have e : Tryz.prog.cellsOf 58 = 6 := by kernel_rfl
  rw [e] at h0
  intro H enc w base spare held fuel cs x ht
  exact DecM.weak h0 (fun _ _ => trivial) ht
theorem dBooks0 : DecM Tryz.prog 26 (fun y : (((Int × List Int) × List RecT) × Int) × List EntT => (((([i64 y.1.1.1.1] ++ [u8l y.1.1.1.2]) ++ [recs y.1.1.2]) ++ [i64 y.1.2]) ++ [ents y.2])) (fun y => (((I64 y.1.1.1.1 ∧ True) ∧ ∀ x ∈ y.1.1.2, IG x.gauge) ∧ I64 y.1.2) ∧ True) :=
  decM_all Tryz.underlying26 rfl (by kernel_rfl)
    (decM_more (k := 4) Tryz.underlying26 rfl (by kernel_rfl) (decM_more (k := 3) Tryz.underlying26 rfl (by kernel_rfl) (decM_more (k := 2) Tryz.underlying26 rfl (by kernel_rfl) (decM_more (k := 1) Tryz.underlying26 rfl (by kernel_rfl)
      (decM_one Tryz.underlying26 rfl (by kernel_rfl) dInt) dU8s (fun _ => by kernel_rfl)) dRecs (fun _ => by kernel_rfl)) dInt (fun _ => by kernel_rfl)) dEnts (fun _ => by kernel_rfl))
theorem ig0 : IG rec0.gauge := by
  have h : I64 (0 : Int) := by first | (unfold I64; decide) | decide | exact ⟨by decide, by decide⟩
  exact ⟨h, h, ⟨h, h, h, h⟩, ⟨h, h, h, h⟩⟩
theorem dBooks : DecM Tryz.prog 26 eB IB := by
  refine DecM.weak (DecM.map (en' := eB) dBooks0 (fun y => (⟨y.1.1.1.1, y.1.1.1.2, y.1.1.2, y.1.2, y.2⟩ : BooksT)) (fun _ => rfl)) fun x h => by
    obtain ⟨y, rfl, ⟨⟨_, h⟩, _⟩, _⟩ := h
    intro i
    by_cases hi : i < y.1.1.2.length
    · have e : y.1.1.2.getD i rec0 = y.1.1.2[i] := by simp [List.getD, hi]
      show IG (y.1.1.2.getD i rec0).gauge
      rw [e]
      exact h _ (List.getElem_mem hi)
    · have e : y.1.1.2.getD i rec0 = rec0 := by rw [List.getD, List.getElem?_eq_none (by omega)]; rfl
      show IG (y.1.1.2.getD i rec0).gauge
      rw [e]
      exact ig0
end Go.Proofs.YtnoahgjfeablgaaGreat.BooksIn
set_option maxRecDepth 100000
set_option maxHeartbeats 0
set_option linter.unusedVariables false
set_option linter.unusedSimpArgs false
namespace Go.Proofs.YtnoahgjfeablgaaGreat.RecipeChangesDone
open Go Go.Ev Go.Proofs.Tryz.My Go.Proofs.YtnoahgjfeablgaaGreat.BooksIn
open Go.ChangeShapes Go.WideShapes Go.ChangeAt Go.RowKit
theorem own : ownKnob Tryz.prog.godebug = none := by kernel_rfl
theorem laidOut : laidOutB Tryz.prog = true := by kernel_rfl
theorem walk (w : World) (b : BooksT) (hb : BooksIn.IB b) (v0 : Value) (h0 : RepI (fun b => b < w.heap.size) w (.agg (eB b)) v0) (n1 n2 : Int) :
    Calls Tryz.prog 4 #[v0, .int .i64 n1, .int .i64 n2] w fun e w' => e = .returned (.bool true) ∧ Below w.heap.size w w' := by
  refine PC.callsTrue (pc_RecipeChanges b hb n1 n2) Tryz.func4 (by kernel_rfl) rfl rfl fun i hi => ?_
  match i, hi with
  | 0, _ => exact h0
  | 1, _ => exact .int _ _
  | 2, _ => exact .int _ _
theorem lifted (os : Os) (started : os.Started) (H : Type) (enc : TypeId × Value → H) :
    ReturnsInHanded {} Tryz.checked os 4 .any (Rows.recipeChangesSpec.pre6 enc Tryz.prog Tryz.f4 Rows.recipeChangesRow.domain false) (Rows.recipeChangesSpec.post enc Tryz.prog Tryz.f4 false true false false) := by
  refine returnsInHanded_of_change (C := Tryz.checked) own started (by kernel_rfl) Tryz.func4
    (ChangeSpec.witness6 (enc := enc) (C := Tryz.checked) false ⟨#[], #[.agg #[.int .i64 0, .slice none 0 0, .slice none 0 0, .int .i64 0, .slice none 0 0], .int .i64 0, .int .i64 0], []⟩ 8 (by kernel_rfl) (by kernel_rfl) (by kernel_rfl) (by kernel_rfl)) ?_
  intro W base args ds gs before hval0 hW hcnd _
  have hval : ∀ (j : Nat) t v, Tryz.f4.params[j]? = some t → args[j]? = some v → Value.okWide Tryz.prog W .any base t v := hval0
  have hW' := hW
  obtain ⟨p, q, hA0, hV, rfl, hfz, hnd⟩ := hW
  have hA : DataW.TrodAll enc Tryz.prog W 0 (fun _ => true) true Tryz.f4.params.toList args.toList ds p := hA0
  rw [Tryz.params4] at hA hval
  obtain ⟨v0, vs0, d0, ds0, p0, q0, hargs, rfl, rfl, h0, r0⟩ := trodAll_cons hA
  obtain ⟨v1, vs1, d1, ds1, p1, q1, rfl, rfl, rfl, h1, r1⟩ := trodAll_cons r0
  obtain ⟨v2, vs2, d2, ds2, p2, q2, rfl, rfl, rfl, h2, r2⟩ := trodAll_cons r1
  obtain ⟨rfl, rfl, rfl⟩ := trodAll_nil r2
  obtain rfl : args = #[v0, v1, v2] := by cases args; simp_all
  obtain ⟨rfl, rfl⟩ := trodVars_none hV
  have k0 := h0
  have lt0 : ∀ x ∈ p0, x.block < W.heap.size := by obtain ⟨m, hm⟩ := k0; exact DataW.trod_lt m _ _ _ hm
  obtain ⟨b, hb, i0⟩ := repI_structM Tryz.underlying26 dBooks (fun _ => by kernel_rfl) (hval 0 26 v0 rfl rfl) h0
  obtain ⟨a1, rfl, rfl, rfl, w1⟩ := open_int Tryz.underlying3 (hval 1 3 v1 rfl rfl) h1
  obtain ⟨a2, rfl, rfl, rfl, w2⟩ := open_int Tryz.underlying3 (hval 2 3 v2 rfl rfl) h2
  clear hA0 hval0
  refine (walk W b hb v0 i0 a1 a2).mono fun e W' ⟨he, bel⟩ => ?_
  subst he
  exact ⟨_, rfl, _, _, _, [], _, [], hW', trodAll_mk1 (shut_bool Tryz.underlying4 _), (trodAll_cons_mk (Below.trod laidOut (by kernel_rfl) (of_decide_eq_true (by kernel_rfl)) k0 bel lt0) (trodAll_cons_mk (shut_int Tryz.underlying3 w1) (trodAll_cons_mk (shut_int Tryz.underlying3 w2) trodAll_mk0))), rfl, bel.frame _, fun h => by cases h⟩
theorem closed : joinedFacts Tryz.pinned.checked.prog 4 Tryz.f4 Rows.recipeChangesSpec Rows.recipeChangesRow = true :=
  (restOf Tryz.pinned.checked.prog 4 Tryz.f4 Rows.recipeChangesSpec Rows.recipeChangesRow make_eq mayEnter_eq liftsFinal_eq).2 (by kernel_rfl)
theorem over : Rows.recipeChangesRow.holds Tryz.pinned (OpenSpec.ofChange Rows.recipeChangesSpec) :=
  OpenClaim.holds_of_wide 4 Tryz.f4 rfl rfl rfl rfl rfl rfl rfl ⟨rfl, rfl, rfl, rfl, rfl⟩ rfl rfl rfl rfl rfl (by kernel_rfl) Tryz.func4 closed
    (of_decide_eq_true (by kernel_rfl)) (by unfold Func.isWrapper; first | (rw [if_pos (by decide +kernel)]; kernel_rfl) | (rw [if_neg (by decide +kernel)]; exact ⟨rfl, rfl⟩))
    (fun os started H enc _ => lifted os started H enc)
theorem proved : Rows.RecipeChangesSaid := over
#print axioms proved
end Go.Proofs.YtnoahgjfeablgaaGreat.RecipeChangesDone
