/- RecipeUsers of layer 10: one more user, one more recipe, as the document says; the books stay. -/
import Derived.Test.YtnoahgjfeablgaaGreatMzBsA
import Derived.Test.YtnoahgjfeablgaaGreatMzBq4
import Derived.Test.YtnoahgjfeablgaaGreatMzBqA
import Derived.Test.YtnoahgjfeablgaaGreatMzBt1
import Derived.Test.YtnoahgjfeablgaaGreatEvSix
import Derived.Test.YtnoahgjfeablgaaGreatMzBoA
import Derived.Test.YtnoahgjfeablgaaGreatMzBqB
import Derived.Test.YtnoahgjfeablgaaGreatMzBkA
import Derived.Test.YtnoahgjfeablgaaGreatMzGd3
import Derived.Test.YtnoahgjfeablgaaGreatEvZ
import Derived.Test.YtnoahgjfeablgaaGreatEvZa
import Derived.Test.YtnoahgjfeablgaaGreatEvZd
import Derived.Test.YtnoahgjfeablgaaGreatRows
import Derived.WalkKit
import Derived.ProofKit
import Derived.OpenShut
import Derived.ChangeOld
import Derived.Below
import Derived.Test.YtnoahgjfeablgaaGreatMzIniA
set_option maxRecDepth 100000
set_option maxHeartbeats 0
set_option linter.unusedVariables false
set_option linter.unusedSimpArgs false
namespace Go.Proofs.Tryz.My
open Go Go.Ev
def IB (b : BooksT) : Prop := ∀ i, IG (b.recipes.getD i rec0).gauge
theorem okay_of {b : BooksT} (h : smallB b = true) : Okay b := by
  obtain ⟨h1, h2, h3, h4, h5⟩ := small_known h
  exact ⟨by omega, by omega, by omega, fun i => by have := h4 i; omega, fun i => by have := h5 i; omega⟩
end Go.Proofs.Tryz.My
set_option maxRecDepth 100000
set_option maxHeartbeats 0
set_option linter.unusedVariables false
set_option linter.unusedSimpArgs false
namespace Go.Proofs.Tryz.My
open Go Go.Ev
theorem pc_spoil0 : PC Tryz.prog 22 [newB 0] (.tup []) := by
  refine pc_of_bodyF hm Tryz.func22 (by kernel_rfl) ?_
  conv => whnf
  refine Or.inl ⟨1, ?_⟩
  (conv => whnf)
  (repeat' (first | (refine And.intro (a := true = true → _) (b := true = false → _) (fun _ => ?_) (fun h => Bool.noConfusion h); (conv => whnf)) | (refine And.intro (a := false = true → _) (b := false = false → _) (fun h => Bool.noConfusion h) (fun _ => ?_); (conv => whnf)) | (refine And.intro (a := decide _ = true → _) (b := decide _ = false → _) (fun _ => ?_) (fun h => absurd (of_decide_eq_false h) (by first | (simp [*]; done) | omega)); (conv => whnf)) | (refine And.intro (a := decide _ = true → _) (b := decide _ = false → _) (fun h => absurd (of_decide_eq_true h) (by first | (simp [*]; done) | omega)) (fun _ => ?_); (conv => whnf)) | (refine ⟨by kernel_rfl, ?_⟩; (conv => whnf)) | (refine And.intro (a := _ ∧ _) ⟨by decide, by first | decide | (simp; done) | (simp only [List.length_cons, List.length_nil]; decide)⟩ ?_; (conv => whnf))))
  refine Or.inl ⟨1, ?_⟩
  (conv => whnf)
  (repeat' (first | (refine And.intro (a := true = true → _) (b := true = false → _) (fun _ => ?_) (fun h => Bool.noConfusion h); (conv => whnf)) | (refine And.intro (a := false = true → _) (b := false = false → _) (fun h => Bool.noConfusion h) (fun _ => ?_); (conv => whnf)) | (refine And.intro (a := decide _ = true → _) (b := decide _ = false → _) (fun _ => ?_) (fun h => absurd (of_decide_eq_false h) (by first | (simp [*]; done) | omega)); (conv => whnf)) | (refine And.intro (a := decide _ = true → _) (b := decide _ = false → _) (fun h => absurd (of_decide_eq_true h) (by first | (simp [*]; done) | omega)) (fun _ => ?_); (conv => whnf)) | (refine ⟨by kernel_rfl, ?_⟩; (conv => whnf)) | (refine And.intro (a := _ ∧ _) ⟨by decide, by first | decide | (simp; done) | (simp only [List.length_cons, List.length_nil]; decide)⟩ ?_; (conv => whnf))))
  refine Or.inl ⟨1, ?_⟩
  (conv => whnf)
  (repeat' (first | (refine And.intro (a := true = true → _) (b := true = false → _) (fun _ => ?_) (fun h => Bool.noConfusion h); (conv => whnf)) | (refine And.intro (a := false = true → _) (b := false = false → _) (fun h => Bool.noConfusion h) (fun _ => ?_); (conv => whnf)) | (refine And.intro (a := decide _ = true → _) (b := decide _ = false → _) (fun _ => ?_) (fun h => absurd (of_decide_eq_false h) (by first | (simp [*]; done) | omega)); (conv => whnf)) | (refine And.intro (a := decide _ = true → _) (b := decide _ = false → _) (fun h => absurd (of_decide_eq_true h) (by first | (simp [*]; done) | omega)) (fun _ => ?_); (conv => whnf)) | (refine ⟨by kernel_rfl, ?_⟩; (conv => whnf)) | (refine And.intro (a := _ ∧ _) ⟨by decide, by first | decide | (simp; done) | (simp only [List.length_cons, List.length_nil]; decide)⟩ ?_; (conv => whnf))))
  all_goals (first | rfl | set_option pp.maxSteps 300 in trace_state)
theorem okay_add {b : BooksT} (o : Okay b) {role : Int} (h : chkB b = true) : Okay (addU b role) := by
  have s := chk_small h
  refine ⟨?_, o.r, o.l, o.a, o.p⟩
  show (b.users ++ [role]).length < _
  simp
  omega
theorem okay_drf {b : BooksT} (o : Okay b) {user : Int} {g : GauT} (h : chkB b = true) : Okay (drfB b user g) := by
  have s := chk_small h
  refine ⟨o.u, ?_, o.l, fun i => ?_, o.p⟩
  · show (b.recipes ++ [newRec user g]).length < _
    simp
    omega
  · show ((b.recipes ++ [newRec user g]).getD i rec0).appr.length < _
    by_cases hi : i < b.recipes.length
    · have e : (b.recipes ++ [newRec user g]).getD i rec0 = b.recipes.getD i rec0 := by simp [List.getD, List.getElem?_append, hi]
      rw [e]; exact o.a i
    · by_cases he : i = b.recipes.length
      · have e : (b.recipes ++ [newRec user g]).getD i rec0 = newRec user g := by simp [List.getD, List.getElem?_append, he]
        rw [e]; show 0 < _; decide
      · have e : (b.recipes ++ [newRec user g]).getD i rec0 = rec0 := by rw [List.getD, List.getElem?_eq_none (by simp; omega)]; rfl
        rw [e]; show 0 < _; decide
theorem addE_chk {b : BooksT} {role : Int} (h : addE b role = 0) : chkB b = true := by
  unfold addE at h
  split at h
  · assumption
  · cases h
theorem drfE_chk {b : BooksT} {user : Int} {g : GauT} (h : drfE b user g = 0) : chkB b = true := by
  unfold drfE at h
  split at h
  · assumption
  · cases h
theorem pc_SameT (b : BooksT) (o : Okay b) : PC Tryz.prog 21 [bks b, bks b] (.bool true) := by
  have c := pc_r10Same b b o o
  rwa [sameB_refl] at c
theorem pc_RecipeUsers (b : BooksT) (hb : IB b) (role user : Int) (g : GauT) (hG : IG g) : PC Tryz.prog 3 [bks b, u8 role, i64 user, gau g] (.bool true) := by
  have gr := pc_Great b
  by_cases hs : smallB b = true
  · have o := okay_of hs
    rw [hs] at gr
    have tw := pc_r10Twin b o
    have sb := pc_SameT b o
    have s0 := pc_SameNew 0
    by_cases ha : addE b role = 0
    · have a2 := pc_r10AddUserOk b o hb role ha
      have oa := okay_add (role := role) o (addE_chk ha)
      have sa := pc_SameT _ oa
      by_cases hd : drfE b user g = 0
      · have d2 := pc_r10DraftOk b o hb user g hG hd
        have od := okay_drf (user := user) (g := g) o (drfE_chk hd)
        have sd := pc_SameT _ od
        refine pc_of_bodyF hm Tryz.func3 (by kernel_rfl) ?_
        conv => whnf
        (repeat' (first | (refine And.intro (a := true = true → _) (b := true = false → _) (fun _ => ?_) (fun h => Bool.noConfusion h); (conv => whnf)) | (refine And.intro (a := false = true → _) (b := false = false → _) (fun h => Bool.noConfusion h) (fun _ => ?_); (conv => whnf)) | (refine ⟨_, by first | exact gr | exact tw, ?_⟩; (conv => whnf)) | (refine Or.inl ?_; (conv => whnf); refine ⟨_, by first | exact gr | exact tw, ?_⟩; (conv => whnf)) | (refine Or.inl ?_; (conv => whnf); refine ⟨false, ?_⟩; (conv => whnf); refine ⟨_, by first | exact gr | exact tw, ?_⟩; (conv => whnf)) | (refine And.intro (a := decide _ = true → _) (b := decide _ = false → _) (fun _ => ?_) (fun h => absurd (of_decide_eq_false h) (by first | (simp [*]; done) | omega)); (conv => whnf)) | (refine And.intro (a := decide _ = true → _) (b := decide _ = false → _) (fun h => absurd (of_decide_eq_true h) (by first | (simp [*]; done) | omega)) (fun _ => ?_); (conv => whnf)) | (refine ⟨by kernel_rfl, ?_⟩; (conv => whnf)) | (refine And.intro (a := _ ∧ _) ⟨by decide, by first | decide | (simp; done) | (simp only [List.length_cons, List.length_nil]; decide)⟩ ?_; (conv => whnf))))
        (refine Or.inr ⟨[ ], [ 30, 28, 29 ], by kernel_rfl, ?_⟩; (conv => whnf); refine ⟨[ ], _, _, _, _, ⟨ pw_AddUserOk b o role ha, rfl, rfl, by kernel_rfl⟩, ?_⟩)
        (conv => whnf)
        (repeat' (first | (refine And.intro (a := true = true → _) (b := true = false → _) (fun _ => ?_) (fun h => Bool.noConfusion h); (conv => whnf)) | (refine And.intro (a := false = true → _) (b := false = false → _) (fun h => Bool.noConfusion h) (fun _ => ?_); (conv => whnf)) | (refine ⟨_, by first | exact a2, ?_⟩; (conv => whnf)) | (refine Or.inl ?_; (conv => whnf); refine ⟨_, by first | exact a2, ?_⟩; (conv => whnf)) | (refine Or.inl ?_; (conv => whnf); refine ⟨false, ?_⟩; (conv => whnf); refine ⟨_, by first | exact a2, ?_⟩; (conv => whnf)) | (refine And.intro (a := decide _ = true → _) (b := decide _ = false → _) (fun _ => ?_) (fun h => absurd (of_decide_eq_false h) (by first | (simp [*]; done) | omega)); (conv => whnf)) | (refine And.intro (a := decide _ = true → _) (b := decide _ = false → _) (fun h => absurd (of_decide_eq_true h) (by first | (simp [*]; done) | omega)) (fun _ => ?_); (conv => whnf)) | (refine ⟨by kernel_rfl, ?_⟩; (conv => whnf)) | (refine And.intro (a := _ ∧ _) ⟨by decide, by first | decide | (simp; done) | (simp only [List.length_cons, List.length_nil]; decide)⟩ ?_; (conv => whnf))))
        (refine Or.inr ⟨[ ], [ 45, 42, 43 ], by kernel_rfl, ?_⟩; (conv => whnf); refine ⟨[ ], _, _, _, _, ⟨ pw_DraftOk b o user g hd, rfl, rfl, by kernel_rfl⟩, ?_⟩)
        (conv => whnf)
        (repeat' (first | (refine And.intro (a := true = true → _) (b := true = false → _) (fun _ => ?_) (fun h => Bool.noConfusion h); (conv => whnf)) | (refine And.intro (a := false = true → _) (b := false = false → _) (fun h => Bool.noConfusion h) (fun _ => ?_); (conv => whnf)) | (refine ⟨_, by first | exact d2, ?_⟩; (conv => whnf)) | (refine Or.inl ?_; (conv => whnf); refine ⟨_, by first | exact d2, ?_⟩; (conv => whnf)) | (refine Or.inl ?_; (conv => whnf); refine ⟨false, ?_⟩; (conv => whnf); refine ⟨_, by first | exact d2, ?_⟩; (conv => whnf)) | (refine And.intro (a := decide _ = true → _) (b := decide _ = false → _) (fun _ => ?_) (fun h => absurd (of_decide_eq_false h) (by first | (simp [*]; done) | omega)); (conv => whnf)) | (refine And.intro (a := decide _ = true → _) (b := decide _ = false → _) (fun h => absurd (of_decide_eq_true h) (by first | (simp [*]; done) | omega)) (fun _ => ?_); (conv => whnf)) | (refine ⟨by kernel_rfl, ?_⟩; (conv => whnf)) | (refine And.intro (a := _ ∧ _) ⟨by decide, by first | decide | (simp; done) | (simp only [List.length_cons, List.length_nil]; decide)⟩ ?_; (conv => whnf))))
        (repeat' (first | (refine And.intro (a := _ = true → _) (b := _ = false → _) (fun hh => ?_) (fun hh => ?_) <;> (first | simp only [decide_eq_true_eq, decide_eq_false_iff_not, Bool.or_eq_true, Bool.and_eq_true, Bool.or_eq_false_iff, Bool.and_eq_false_iff, Bool.not_eq_true', Bool.not_eq_false', ge_iff_le, gt_iff_lt] at hh | skip) <;> (first | (exfalso; omega) | (exfalso; simp [*] at hh; done) | (exfalso; revert hh; decide) | exact absurd (by assumption) hh | (conv => whnf))) | (refine ⟨by kernel_rfl, ?_⟩; (conv => whnf)) | (refine And.intro (a := _ ∧ _) ⟨by omega, by omega⟩ ?_; (conv => whnf)) | (refine And.intro (a := _ ∧ _) ⟨by decide, by decide⟩ ?_; (conv => whnf)) | (refine And.intro (a := _ ≤ _) (by omega) ?_; (conv => whnf)) | (refine And.intro (a := _ ≠ _) (by omega) ?_; (conv => whnf)) | (refine Or.inl ?_; (conv => whnf); first | (refine ⟨_, by first | exact sa | exact sd, ?_⟩; (conv => whnf)) | (refine ⟨false, ?_⟩; (conv => whnf); refine ⟨_, by first | exact sa | exact sd, ?_⟩; (conv => whnf))) | (refine ⟨_, by first | exact sa | exact sd, ?_⟩; (conv => whnf))))
        (refine Or.inr ⟨[ ], [ ], by kernel_rfl, ?_⟩; (conv => whnf); refine ⟨[ 30, 28, 29 ], _, _, _, _, ⟨ pw_spoil _ oa, rfl, rfl, by kernel_rfl⟩, ?_⟩)
        (conv => whnf)
        (refine Or.inr ⟨[ ], [ ], by kernel_rfl, ?_⟩; (conv => whnf); refine ⟨[ 45, 42, 43 ], _, _, _, _, ⟨ pw_spoil _ od, rfl, rfl, by kernel_rfl⟩, ?_⟩)
        (conv => whnf)
        (repeat' (first | (refine And.intro (a := _ = true → _) (b := _ = false → _) (fun hh => ?_) (fun hh => ?_) <;> (first | simp only [decide_eq_true_eq, decide_eq_false_iff_not, Bool.or_eq_true, Bool.and_eq_true, Bool.or_eq_false_iff, Bool.and_eq_false_iff, Bool.not_eq_true', Bool.not_eq_false', ge_iff_le, gt_iff_lt] at hh | skip) <;> (first | (exfalso; omega) | (exfalso; simp [*] at hh; done) | (exfalso; revert hh; decide) | exact absurd (by assumption) hh | (conv => whnf))) | (refine ⟨by kernel_rfl, ?_⟩; (conv => whnf)) | (refine And.intro (a := _ ∧ _) ⟨by omega, by omega⟩ ?_; (conv => whnf)) | (refine And.intro (a := _ ∧ _) ⟨by decide, by decide⟩ ?_; (conv => whnf)) | (refine And.intro (a := _ ≤ _) (by omega) ?_; (conv => whnf)) | (refine And.intro (a := _ ≠ _) (by omega) ?_; (conv => whnf)) | (refine Or.inl ?_; (conv => whnf); first | (refine ⟨_, by first | exact sb, ?_⟩; (conv => whnf)) | (refine ⟨false, ?_⟩; (conv => whnf); refine ⟨_, by first | exact sb, ?_⟩; (conv => whnf))) | (refine ⟨_, by first | exact sb, ?_⟩; (conv => whnf))))
        all_goals (first | rfl | set_option pp.maxSteps 300 in trace_state)
      · have d1 := pc_DraftBad b o user g hd
        have d2 := pc_r10DraftBad b o hb user g hG hd
        refine pc_of_bodyF hm Tryz.func3 (by kernel_rfl) ?_
        conv => whnf
        (repeat' (first | (refine And.intro (a := true = true → _) (b := true = false → _) (fun _ => ?_) (fun h => Bool.noConfusion h); (conv => whnf)) | (refine And.intro (a := false = true → _) (b := false = false → _) (fun h => Bool.noConfusion h) (fun _ => ?_); (conv => whnf)) | (refine ⟨_, by first | exact gr | exact tw, ?_⟩; (conv => whnf)) | (refine Or.inl ?_; (conv => whnf); refine ⟨_, by first | exact gr | exact tw, ?_⟩; (conv => whnf)) | (refine Or.inl ?_; (conv => whnf); refine ⟨false, ?_⟩; (conv => whnf); refine ⟨_, by first | exact gr | exact tw, ?_⟩; (conv => whnf)) | (refine And.intro (a := decide _ = true → _) (b := decide _ = false → _) (fun _ => ?_) (fun h => absurd (of_decide_eq_false h) (by first | (simp [*]; done) | omega)); (conv => whnf)) | (refine And.intro (a := decide _ = true → _) (b := decide _ = false → _) (fun h => absurd (of_decide_eq_true h) (by first | (simp [*]; done) | omega)) (fun _ => ?_); (conv => whnf)) | (refine ⟨by kernel_rfl, ?_⟩; (conv => whnf)) | (refine And.intro (a := _ ∧ _) ⟨by decide, by first | decide | (simp; done) | (simp only [List.length_cons, List.length_nil]; decide)⟩ ?_; (conv => whnf))))
        (refine Or.inr ⟨[ ], [ 30, 28, 29 ], by kernel_rfl, ?_⟩; (conv => whnf); refine ⟨[ ], _, _, _, _, ⟨ pw_AddUserOk b o role ha, rfl, rfl, by kernel_rfl⟩, ?_⟩)
        (conv => whnf)
        (repeat' (first | (refine And.intro (a := true = true → _) (b := true = false → _) (fun _ => ?_) (fun h => Bool.noConfusion h); (conv => whnf)) | (refine And.intro (a := false = true → _) (b := false = false → _) (fun h => Bool.noConfusion h) (fun _ => ?_); (conv => whnf)) | (refine ⟨_, by first | exact a2, ?_⟩; (conv => whnf)) | (refine Or.inl ?_; (conv => whnf); refine ⟨_, by first | exact a2, ?_⟩; (conv => whnf)) | (refine Or.inl ?_; (conv => whnf); refine ⟨false, ?_⟩; (conv => whnf); refine ⟨_, by first | exact a2, ?_⟩; (conv => whnf)) | (refine And.intro (a := decide _ = true → _) (b := decide _ = false → _) (fun _ => ?_) (fun h => absurd (of_decide_eq_false h) (by first | (simp [*]; done) | omega)); (conv => whnf)) | (refine And.intro (a := decide _ = true → _) (b := decide _ = false → _) (fun h => absurd (of_decide_eq_true h) (by first | (simp [*]; done) | omega)) (fun _ => ?_); (conv => whnf)) | (refine ⟨by kernel_rfl, ?_⟩; (conv => whnf)) | (refine And.intro (a := _ ∧ _) ⟨by decide, by first | decide | (simp; done) | (simp only [List.length_cons, List.length_nil]; decide)⟩ ?_; (conv => whnf))))
        (repeat' (first | (refine And.intro (a := true = true → _) (b := true = false → _) (fun _ => ?_) (fun h => Bool.noConfusion h); (conv => whnf)) | (refine And.intro (a := false = true → _) (b := false = false → _) (fun h => Bool.noConfusion h) (fun _ => ?_); (conv => whnf)) | (refine ⟨_, by first | exact d1, ?_⟩; (conv => whnf)) | (refine Or.inl ?_; (conv => whnf); refine ⟨_, by first | exact d1, ?_⟩; (conv => whnf)) | (refine Or.inl ?_; (conv => whnf); refine ⟨false, ?_⟩; (conv => whnf); refine ⟨_, by first | exact d1, ?_⟩; (conv => whnf)) | (refine And.intro (a := decide _ = true → _) (b := decide _ = false → _) (fun _ => ?_) (fun h => absurd (of_decide_eq_false h) (by first | (simp [*]; done) | omega)); (conv => whnf)) | (refine And.intro (a := decide _ = true → _) (b := decide _ = false → _) (fun h => absurd (of_decide_eq_true h) (by first | (simp [*]; done) | omega)) (fun _ => ?_); (conv => whnf)) | (refine ⟨by kernel_rfl, ?_⟩; (conv => whnf)) | (refine And.intro (a := _ ∧ _) ⟨by decide, by first | decide | (simp; done) | (simp only [List.length_cons, List.length_nil]; decide)⟩ ?_; (conv => whnf))))
        (repeat' (first | (refine And.intro (a := true = true → _) (b := true = false → _) (fun _ => ?_) (fun h => Bool.noConfusion h); (conv => whnf)) | (refine And.intro (a := false = true → _) (b := false = false → _) (fun h => Bool.noConfusion h) (fun _ => ?_); (conv => whnf)) | (refine ⟨_, by first | exact d2, ?_⟩; (conv => whnf)) | (refine Or.inl ?_; (conv => whnf); refine ⟨_, by first | exact d2, ?_⟩; (conv => whnf)) | (refine Or.inl ?_; (conv => whnf); refine ⟨false, ?_⟩; (conv => whnf); refine ⟨_, by first | exact d2, ?_⟩; (conv => whnf)) | (refine And.intro (a := decide _ = true → _) (b := decide _ = false → _) (fun _ => ?_) (fun h => absurd (of_decide_eq_false h) (by first | (simp [*]; done) | omega)); (conv => whnf)) | (refine And.intro (a := decide _ = true → _) (b := decide _ = false → _) (fun h => absurd (of_decide_eq_true h) (by first | (simp [*]; done) | omega)) (fun _ => ?_); (conv => whnf)) | (refine ⟨by kernel_rfl, ?_⟩; (conv => whnf)) | (refine And.intro (a := _ ∧ _) ⟨by decide, by first | decide | (simp; done) | (simp only [List.length_cons, List.length_nil]; decide)⟩ ?_; (conv => whnf))))
        (repeat' (first | (refine And.intro (a := _ = true → _) (b := _ = false → _) (fun hh => ?_) (fun hh => ?_) <;> (first | simp only [decide_eq_true_eq, decide_eq_false_iff_not, Bool.or_eq_true, Bool.and_eq_true, Bool.or_eq_false_iff, Bool.and_eq_false_iff, Bool.not_eq_true', Bool.not_eq_false', ge_iff_le, gt_iff_lt] at hh | skip) <;> (first | (exfalso; omega) | (exfalso; simp [*] at hh; done) | (exfalso; revert hh; decide) | exact absurd (by assumption) hh | (conv => whnf))) | (refine ⟨by kernel_rfl, ?_⟩; (conv => whnf)) | (refine And.intro (a := _ ∧ _) ⟨by omega, by omega⟩ ?_; (conv => whnf)) | (refine And.intro (a := _ ∧ _) ⟨by decide, by decide⟩ ?_; (conv => whnf)) | (refine And.intro (a := _ ≤ _) (by omega) ?_; (conv => whnf)) | (refine And.intro (a := _ ≠ _) (by omega) ?_; (conv => whnf)) | (refine Or.inl ?_; (conv => whnf); first | (refine ⟨_, by first | exact sa | exact s0, ?_⟩; (conv => whnf)) | (refine ⟨false, ?_⟩; (conv => whnf); refine ⟨_, by first | exact sa | exact s0, ?_⟩; (conv => whnf))) | (refine ⟨_, by first | exact sa | exact s0, ?_⟩; (conv => whnf))))
        (refine Or.inr ⟨[ ], [ ], by kernel_rfl, ?_⟩; (conv => whnf); refine ⟨[ 30, 28, 29 ], _, _, _, _, ⟨ pw_spoil _ oa, rfl, rfl, by kernel_rfl⟩, ?_⟩)
        (conv => whnf)
        (repeat' (first | (refine And.intro (a := true = true → _) (b := true = false → _) (fun _ => ?_) (fun h => Bool.noConfusion h); (conv => whnf)) | (refine And.intro (a := false = true → _) (b := false = false → _) (fun h => Bool.noConfusion h) (fun _ => ?_); (conv => whnf)) | (refine ⟨_, by first | exact pc_spoil0, ?_⟩; (conv => whnf)) | (refine Or.inl ?_; (conv => whnf); refine ⟨_, by first | exact pc_spoil0, ?_⟩; (conv => whnf)) | (refine Or.inl ?_; (conv => whnf); refine ⟨false, ?_⟩; (conv => whnf); refine ⟨_, by first | exact pc_spoil0, ?_⟩; (conv => whnf)) | (refine And.intro (a := decide _ = true → _) (b := decide _ = false → _) (fun _ => ?_) (fun h => absurd (of_decide_eq_false h) (by first | (simp [*]; done) | omega)); (conv => whnf)) | (refine And.intro (a := decide _ = true → _) (b := decide _ = false → _) (fun h => absurd (of_decide_eq_true h) (by first | (simp [*]; done) | omega)) (fun _ => ?_); (conv => whnf)) | (refine ⟨by kernel_rfl, ?_⟩; (conv => whnf)) | (refine And.intro (a := _ ∧ _) ⟨by decide, by first | decide | (simp; done) | (simp only [List.length_cons, List.length_nil]; decide)⟩ ?_; (conv => whnf))))
        (repeat' (first | (refine And.intro (a := _ = true → _) (b := _ = false → _) (fun hh => ?_) (fun hh => ?_) <;> (first | simp only [decide_eq_true_eq, decide_eq_false_iff_not, Bool.or_eq_true, Bool.and_eq_true, Bool.or_eq_false_iff, Bool.and_eq_false_iff, Bool.not_eq_true', Bool.not_eq_false', ge_iff_le, gt_iff_lt] at hh | skip) <;> (first | (exfalso; omega) | (exfalso; simp [*] at hh; done) | (exfalso; revert hh; decide) | exact absurd (by assumption) hh | (conv => whnf))) | (refine ⟨by kernel_rfl, ?_⟩; (conv => whnf)) | (refine And.intro (a := _ ∧ _) ⟨by omega, by omega⟩ ?_; (conv => whnf)) | (refine And.intro (a := _ ∧ _) ⟨by decide, by decide⟩ ?_; (conv => whnf)) | (refine And.intro (a := _ ≤ _) (by omega) ?_; (conv => whnf)) | (refine And.intro (a := _ ≠ _) (by omega) ?_; (conv => whnf)) | (refine Or.inl ?_; (conv => whnf); first | (refine ⟨_, by first | exact sb, ?_⟩; (conv => whnf)) | (refine ⟨false, ?_⟩; (conv => whnf); refine ⟨_, by first | exact sb, ?_⟩; (conv => whnf))) | (refine ⟨_, by first | exact sb, ?_⟩; (conv => whnf))))
        all_goals (first | rfl | set_option pp.maxSteps 300 in trace_state)
    · have a1 := pc_AddUserBad b o role ha
      have a2 := pc_r10AddUserBad b o hb role ha
      by_cases hd : drfE b user g = 0
      · have d2 := pc_r10DraftOk b o hb user g hG hd
        have od := okay_drf (user := user) (g := g) o (drfE_chk hd)
        have sd := pc_SameT _ od
        refine pc_of_bodyF hm Tryz.func3 (by kernel_rfl) ?_
        conv => whnf
        (repeat' (first | (refine And.intro (a := true = true → _) (b := true = false → _) (fun _ => ?_) (fun h => Bool.noConfusion h); (conv => whnf)) | (refine And.intro (a := false = true → _) (b := false = false → _) (fun h => Bool.noConfusion h) (fun _ => ?_); (conv => whnf)) | (refine ⟨_, by first | exact gr | exact tw, ?_⟩; (conv => whnf)) | (refine Or.inl ?_; (conv => whnf); refine ⟨_, by first | exact gr | exact tw, ?_⟩; (conv => whnf)) | (refine Or.inl ?_; (conv => whnf); refine ⟨false, ?_⟩; (conv => whnf); refine ⟨_, by first | exact gr | exact tw, ?_⟩; (conv => whnf)) | (refine And.intro (a := decide _ = true → _) (b := decide _ = false → _) (fun _ => ?_) (fun h => absurd (of_decide_eq_false h) (by first | (simp [*]; done) | omega)); (conv => whnf)) | (refine And.intro (a := decide _ = true → _) (b := decide _ = false → _) (fun h => absurd (of_decide_eq_true h) (by first | (simp [*]; done) | omega)) (fun _ => ?_); (conv => whnf)) | (refine ⟨by kernel_rfl, ?_⟩; (conv => whnf)) | (refine And.intro (a := _ ∧ _) ⟨by decide, by first | decide | (simp; done) | (simp only [List.length_cons, List.length_nil]; decide)⟩ ?_; (conv => whnf))))
        (repeat' (first | (refine And.intro (a := true = true → _) (b := true = false → _) (fun _ => ?_) (fun h => Bool.noConfusion h); (conv => whnf)) | (refine And.intro (a := false = true → _) (b := false = false → _) (fun h => Bool.noConfusion h) (fun _ => ?_); (conv => whnf)) | (refine ⟨_, by first | exact a1, ?_⟩; (conv => whnf)) | (refine Or.inl ?_; (conv => whnf); refine ⟨_, by first | exact a1, ?_⟩; (conv => whnf)) | (refine Or.inl ?_; (conv => whnf); refine ⟨false, ?_⟩; (conv => whnf); refine ⟨_, by first | exact a1, ?_⟩; (conv => whnf)) | (refine And.intro (a := decide _ = true → _) (b := decide _ = false → _) (fun _ => ?_) (fun h => absurd (of_decide_eq_false h) (by first | (simp [*]; done) | omega)); (conv => whnf)) | (refine And.intro (a := decide _ = true → _) (b := decide _ = false → _) (fun h => absurd (of_decide_eq_true h) (by first | (simp [*]; done) | omega)) (fun _ => ?_); (conv => whnf)) | (refine ⟨by kernel_rfl, ?_⟩; (conv => whnf)) | (refine And.intro (a := _ ∧ _) ⟨by decide, by first | decide | (simp; done) | (simp only [List.length_cons, List.length_nil]; decide)⟩ ?_; (conv => whnf))))
        (repeat' (first | (refine And.intro (a := true = true → _) (b := true = false → _) (fun _ => ?_) (fun h => Bool.noConfusion h); (conv => whnf)) | (refine And.intro (a := false = true → _) (b := false = false → _) (fun h => Bool.noConfusion h) (fun _ => ?_); (conv => whnf)) | (refine ⟨_, by first | exact a2, ?_⟩; (conv => whnf)) | (refine Or.inl ?_; (conv => whnf); refine ⟨_, by first | exact a2, ?_⟩; (conv => whnf)) | (refine Or.inl ?_; (conv => whnf); refine ⟨false, ?_⟩; (conv => whnf); refine ⟨_, by first | exact a2, ?_⟩; (conv => whnf)) | (refine And.intro (a := decide _ = true → _) (b := decide _ = false → _) (fun _ => ?_) (fun h => absurd (of_decide_eq_false h) (by first | (simp [*]; done) | omega)); (conv => whnf)) | (refine And.intro (a := decide _ = true → _) (b := decide _ = false → _) (fun h => absurd (of_decide_eq_true h) (by first | (simp [*]; done) | omega)) (fun _ => ?_); (conv => whnf)) | (refine ⟨by kernel_rfl, ?_⟩; (conv => whnf)) | (refine And.intro (a := _ ∧ _) ⟨by decide, by first | decide | (simp; done) | (simp only [List.length_cons, List.length_nil]; decide)⟩ ?_; (conv => whnf))))
        (refine Or.inr ⟨[ ], [ 45, 42, 43 ], by kernel_rfl, ?_⟩; (conv => whnf); refine ⟨[ ], _, _, _, _, ⟨ pw_DraftOk b o user g hd, rfl, rfl, by kernel_rfl⟩, ?_⟩)
        (conv => whnf)
        (repeat' (first | (refine And.intro (a := true = true → _) (b := true = false → _) (fun _ => ?_) (fun h => Bool.noConfusion h); (conv => whnf)) | (refine And.intro (a := false = true → _) (b := false = false → _) (fun h => Bool.noConfusion h) (fun _ => ?_); (conv => whnf)) | (refine ⟨_, by first | exact d2, ?_⟩; (conv => whnf)) | (refine Or.inl ?_; (conv => whnf); refine ⟨_, by first | exact d2, ?_⟩; (conv => whnf)) | (refine Or.inl ?_; (conv => whnf); refine ⟨false, ?_⟩; (conv => whnf); refine ⟨_, by first | exact d2, ?_⟩; (conv => whnf)) | (refine And.intro (a := decide _ = true → _) (b := decide _ = false → _) (fun _ => ?_) (fun h => absurd (of_decide_eq_false h) (by first | (simp [*]; done) | omega)); (conv => whnf)) | (refine And.intro (a := decide _ = true → _) (b := decide _ = false → _) (fun h => absurd (of_decide_eq_true h) (by first | (simp [*]; done) | omega)) (fun _ => ?_); (conv => whnf)) | (refine ⟨by kernel_rfl, ?_⟩; (conv => whnf)) | (refine And.intro (a := _ ∧ _) ⟨by decide, by first | decide | (simp; done) | (simp only [List.length_cons, List.length_nil]; decide)⟩ ?_; (conv => whnf))))
        (repeat' (first | (refine And.intro (a := _ = true → _) (b := _ = false → _) (fun hh => ?_) (fun hh => ?_) <;> (first | simp only [decide_eq_true_eq, decide_eq_false_iff_not, Bool.or_eq_true, Bool.and_eq_true, Bool.or_eq_false_iff, Bool.and_eq_false_iff, Bool.not_eq_true', Bool.not_eq_false', ge_iff_le, gt_iff_lt] at hh | skip) <;> (first | (exfalso; omega) | (exfalso; simp [*] at hh; done) | (exfalso; revert hh; decide) | exact absurd (by assumption) hh | (conv => whnf))) | (refine ⟨by kernel_rfl, ?_⟩; (conv => whnf)) | (refine And.intro (a := _ ∧ _) ⟨by omega, by omega⟩ ?_; (conv => whnf)) | (refine And.intro (a := _ ∧ _) ⟨by decide, by decide⟩ ?_; (conv => whnf)) | (refine And.intro (a := _ ≤ _) (by omega) ?_; (conv => whnf)) | (refine And.intro (a := _ ≠ _) (by omega) ?_; (conv => whnf)) | (refine Or.inl ?_; (conv => whnf); first | (refine ⟨_, by first | exact s0 | exact sd, ?_⟩; (conv => whnf)) | (refine ⟨false, ?_⟩; (conv => whnf); refine ⟨_, by first | exact s0 | exact sd, ?_⟩; (conv => whnf))) | (refine ⟨_, by first | exact s0 | exact sd, ?_⟩; (conv => whnf))))
        (repeat' (first | (refine And.intro (a := true = true → _) (b := true = false → _) (fun _ => ?_) (fun h => Bool.noConfusion h); (conv => whnf)) | (refine And.intro (a := false = true → _) (b := false = false → _) (fun h => Bool.noConfusion h) (fun _ => ?_); (conv => whnf)) | (refine ⟨_, by first | exact pc_spoil0, ?_⟩; (conv => whnf)) | (refine Or.inl ?_; (conv => whnf); refine ⟨_, by first | exact pc_spoil0, ?_⟩; (conv => whnf)) | (refine Or.inl ?_; (conv => whnf); refine ⟨false, ?_⟩; (conv => whnf); refine ⟨_, by first | exact pc_spoil0, ?_⟩; (conv => whnf)) | (refine And.intro (a := decide _ = true → _) (b := decide _ = false → _) (fun _ => ?_) (fun h => absurd (of_decide_eq_false h) (by first | (simp [*]; done) | omega)); (conv => whnf)) | (refine And.intro (a := decide _ = true → _) (b := decide _ = false → _) (fun h => absurd (of_decide_eq_true h) (by first | (simp [*]; done) | omega)) (fun _ => ?_); (conv => whnf)) | (refine ⟨by kernel_rfl, ?_⟩; (conv => whnf)) | (refine And.intro (a := _ ∧ _) ⟨by decide, by first | decide | (simp; done) | (simp only [List.length_cons, List.length_nil]; decide)⟩ ?_; (conv => whnf))))
        (refine Or.inr ⟨[ ], [ ], by kernel_rfl, ?_⟩; (conv => whnf); refine ⟨[ 45, 42, 43 ], _, _, _, _, ⟨ pw_spoil _ od, rfl, rfl, by kernel_rfl⟩, ?_⟩)
        (conv => whnf)
        (repeat' (first | (refine And.intro (a := _ = true → _) (b := _ = false → _) (fun hh => ?_) (fun hh => ?_) <;> (first | simp only [decide_eq_true_eq, decide_eq_false_iff_not, Bool.or_eq_true, Bool.and_eq_true, Bool.or_eq_false_iff, Bool.and_eq_false_iff, Bool.not_eq_true', Bool.not_eq_false', ge_iff_le, gt_iff_lt] at hh | skip) <;> (first | (exfalso; omega) | (exfalso; simp [*] at hh; done) | (exfalso; revert hh; decide) | exact absurd (by assumption) hh | (conv => whnf))) | (refine ⟨by kernel_rfl, ?_⟩; (conv => whnf)) | (refine And.intro (a := _ ∧ _) ⟨by omega, by omega⟩ ?_; (conv => whnf)) | (refine And.intro (a := _ ∧ _) ⟨by decide, by decide⟩ ?_; (conv => whnf)) | (refine And.intro (a := _ ≤ _) (by omega) ?_; (conv => whnf)) | (refine And.intro (a := _ ≠ _) (by omega) ?_; (conv => whnf)) | (refine Or.inl ?_; (conv => whnf); first | (refine ⟨_, by first | exact sb, ?_⟩; (conv => whnf)) | (refine ⟨false, ?_⟩; (conv => whnf); refine ⟨_, by first | exact sb, ?_⟩; (conv => whnf))) | (refine ⟨_, by first | exact sb, ?_⟩; (conv => whnf))))
        all_goals (first | rfl | set_option pp.maxSteps 300 in trace_state)
      · have d1 := pc_DraftBad b o user g hd
        have d2 := pc_r10DraftBad b o hb user g hG hd
        refine pc_of_bodyF hm Tryz.func3 (by kernel_rfl) ?_
        conv => whnf
        (repeat' (first | (refine And.intro (a := true = true → _) (b := true = false → _) (fun _ => ?_) (fun h => Bool.noConfusion h); (conv => whnf)) | (refine And.intro (a := false = true → _) (b := false = false → _) (fun h => Bool.noConfusion h) (fun _ => ?_); (conv => whnf)) | (refine ⟨_, by first | exact gr | exact tw, ?_⟩; (conv => whnf)) | (refine Or.inl ?_; (conv => whnf); refine ⟨_, by first | exact gr | exact tw, ?_⟩; (conv => whnf)) | (refine Or.inl ?_; (conv => whnf); refine ⟨false, ?_⟩; (conv => whnf); refine ⟨_, by first | exact gr | exact tw, ?_⟩; (conv => whnf)) | (refine And.intro (a := decide _ = true → _) (b := decide _ = false → _) (fun _ => ?_) (fun h => absurd (of_decide_eq_false h) (by first | (simp [*]; done) | omega)); (conv => whnf)) | (refine And.intro (a := decide _ = true → _) (b := decide _ = false → _) (fun h => absurd (of_decide_eq_true h) (by first | (simp [*]; done) | omega)) (fun _ => ?_); (conv => whnf)) | (refine ⟨by kernel_rfl, ?_⟩; (conv => whnf)) | (refine And.intro (a := _ ∧ _) ⟨by decide, by first | decide | (simp; done) | (simp only [List.length_cons, List.length_nil]; decide)⟩ ?_; (conv => whnf))))
        (repeat' (first | (refine And.intro (a := true = true → _) (b := true = false → _) (fun _ => ?_) (fun h => Bool.noConfusion h); (conv => whnf)) | (refine And.intro (a := false = true → _) (b := false = false → _) (fun h => Bool.noConfusion h) (fun _ => ?_); (conv => whnf)) | (refine ⟨_, by first | exact a1, ?_⟩; (conv => whnf)) | (refine Or.inl ?_; (conv => whnf); refine ⟨_, by first | exact a1, ?_⟩; (conv => whnf)) | (refine Or.inl ?_; (conv => whnf); refine ⟨false, ?_⟩; (conv => whnf); refine ⟨_, by first | exact a1, ?_⟩; (conv => whnf)) | (refine And.intro (a := decide _ = true → _) (b := decide _ = false → _) (fun _ => ?_) (fun h => absurd (of_decide_eq_false h) (by first | (simp [*]; done) | omega)); (conv => whnf)) | (refine And.intro (a := decide _ = true → _) (b := decide _ = false → _) (fun h => absurd (of_decide_eq_true h) (by first | (simp [*]; done) | omega)) (fun _ => ?_); (conv => whnf)) | (refine ⟨by kernel_rfl, ?_⟩; (conv => whnf)) | (refine And.intro (a := _ ∧ _) ⟨by decide, by first | decide | (simp; done) | (simp only [List.length_cons, List.length_nil]; decide)⟩ ?_; (conv => whnf))))
        (repeat' (first | (refine And.intro (a := true = true → _) (b := true = false → _) (fun _ => ?_) (fun h => Bool.noConfusion h); (conv => whnf)) | (refine And.intro (a := false = true → _) (b := false = false → _) (fun h => Bool.noConfusion h) (fun _ => ?_); (conv => whnf)) | (refine ⟨_, by first | exact a2, ?_⟩; (conv => whnf)) | (refine Or.inl ?_; (conv => whnf); refine ⟨_, by first | exact a2, ?_⟩; (conv => whnf)) | (refine Or.inl ?_; (conv => whnf); refine ⟨false, ?_⟩; (conv => whnf); refine ⟨_, by first | exact a2, ?_⟩; (conv => whnf)) | (refine And.intro (a := decide _ = true → _) (b := decide _ = false → _) (fun _ => ?_) (fun h => absurd (of_decide_eq_false h) (by first | (simp [*]; done) | omega)); (conv => whnf)) | (refine And.intro (a := decide _ = true → _) (b := decide _ = false → _) (fun h => absurd (of_decide_eq_true h) (by first | (simp [*]; done) | omega)) (fun _ => ?_); (conv => whnf)) | (refine ⟨by kernel_rfl, ?_⟩; (conv => whnf)) | (refine And.intro (a := _ ∧ _) ⟨by decide, by first | decide | (simp; done) | (simp only [List.length_cons, List.length_nil]; decide)⟩ ?_; (conv => whnf))))
        (repeat' (first | (refine And.intro (a := true = true → _) (b := true = false → _) (fun _ => ?_) (fun h => Bool.noConfusion h); (conv => whnf)) | (refine And.intro (a := false = true → _) (b := false = false → _) (fun h => Bool.noConfusion h) (fun _ => ?_); (conv => whnf)) | (refine ⟨_, by first | exact d1, ?_⟩; (conv => whnf)) | (refine Or.inl ?_; (conv => whnf); refine ⟨_, by first | exact d1, ?_⟩; (conv => whnf)) | (refine Or.inl ?_; (conv => whnf); refine ⟨false, ?_⟩; (conv => whnf); refine ⟨_, by first | exact d1, ?_⟩; (conv => whnf)) | (refine And.intro (a := decide _ = true → _) (b := decide _ = false → _) (fun _ => ?_) (fun h => absurd (of_decide_eq_false h) (by first | (simp [*]; done) | omega)); (conv => whnf)) | (refine And.intro (a := decide _ = true → _) (b := decide _ = false → _) (fun h => absurd (of_decide_eq_true h) (by first | (simp [*]; done) | omega)) (fun _ => ?_); (conv => whnf)) | (refine ⟨by kernel_rfl, ?_⟩; (conv => whnf)) | (refine And.intro (a := _ ∧ _) ⟨by decide, by first | decide | (simp; done) | (simp only [List.length_cons, List.length_nil]; decide)⟩ ?_; (conv => whnf))))
        (repeat' (first | (refine And.intro (a := true = true → _) (b := true = false → _) (fun _ => ?_) (fun h => Bool.noConfusion h); (conv => whnf)) | (refine And.intro (a := false = true → _) (b := false = false → _) (fun h => Bool.noConfusion h) (fun _ => ?_); (conv => whnf)) | (refine ⟨_, by first | exact d2, ?_⟩; (conv => whnf)) | (refine Or.inl ?_; (conv => whnf); refine ⟨_, by first | exact d2, ?_⟩; (conv => whnf)) | (refine Or.inl ?_; (conv => whnf); refine ⟨false, ?_⟩; (conv => whnf); refine ⟨_, by first | exact d2, ?_⟩; (conv => whnf)) | (refine And.intro (a := decide _ = true → _) (b := decide _ = false → _) (fun _ => ?_) (fun h => absurd (of_decide_eq_false h) (by first | (simp [*]; done) | omega)); (conv => whnf)) | (refine And.intro (a := decide _ = true → _) (b := decide _ = false → _) (fun h => absurd (of_decide_eq_true h) (by first | (simp [*]; done) | omega)) (fun _ => ?_); (conv => whnf)) | (refine ⟨by kernel_rfl, ?_⟩; (conv => whnf)) | (refine And.intro (a := _ ∧ _) ⟨by decide, by first | decide | (simp; done) | (simp only [List.length_cons, List.length_nil]; decide)⟩ ?_; (conv => whnf))))
        (repeat' (first | (refine And.intro (a := _ = true → _) (b := _ = false → _) (fun hh => ?_) (fun hh => ?_) <;> (first | simp only [decide_eq_true_eq, decide_eq_false_iff_not, Bool.or_eq_true, Bool.and_eq_true, Bool.or_eq_false_iff, Bool.and_eq_false_iff, Bool.not_eq_true', Bool.not_eq_false', ge_iff_le, gt_iff_lt] at hh | skip) <;> (first | (exfalso; omega) | (exfalso; simp [*] at hh; done) | (exfalso; revert hh; decide) | exact absurd (by assumption) hh | (conv => whnf))) | (refine ⟨by kernel_rfl, ?_⟩; (conv => whnf)) | (refine And.intro (a := _ ∧ _) ⟨by omega, by omega⟩ ?_; (conv => whnf)) | (refine And.intro (a := _ ∧ _) ⟨by decide, by decide⟩ ?_; (conv => whnf)) | (refine And.intro (a := _ ≤ _) (by omega) ?_; (conv => whnf)) | (refine And.intro (a := _ ≠ _) (by omega) ?_; (conv => whnf)) | (refine Or.inl ?_; (conv => whnf); first | (refine ⟨_, by first | exact s0 | exact s0, ?_⟩; (conv => whnf)) | (refine ⟨false, ?_⟩; (conv => whnf); refine ⟨_, by first | exact s0 | exact s0, ?_⟩; (conv => whnf))) | (refine ⟨_, by first | exact s0 | exact s0, ?_⟩; (conv => whnf))))
        (repeat' (first | (refine And.intro (a := true = true → _) (b := true = false → _) (fun _ => ?_) (fun h => Bool.noConfusion h); (conv => whnf)) | (refine And.intro (a := false = true → _) (b := false = false → _) (fun h => Bool.noConfusion h) (fun _ => ?_); (conv => whnf)) | (refine ⟨_, by first | exact pc_spoil0, ?_⟩; (conv => whnf)) | (refine Or.inl ?_; (conv => whnf); refine ⟨_, by first | exact pc_spoil0, ?_⟩; (conv => whnf)) | (refine Or.inl ?_; (conv => whnf); refine ⟨false, ?_⟩; (conv => whnf); refine ⟨_, by first | exact pc_spoil0, ?_⟩; (conv => whnf)) | (refine And.intro (a := decide _ = true → _) (b := decide _ = false → _) (fun _ => ?_) (fun h => absurd (of_decide_eq_false h) (by first | (simp [*]; done) | omega)); (conv => whnf)) | (refine And.intro (a := decide _ = true → _) (b := decide _ = false → _) (fun h => absurd (of_decide_eq_true h) (by first | (simp [*]; done) | omega)) (fun _ => ?_); (conv => whnf)) | (refine ⟨by kernel_rfl, ?_⟩; (conv => whnf)) | (refine And.intro (a := _ ∧ _) ⟨by decide, by first | decide | (simp; done) | (simp only [List.length_cons, List.length_nil]; decide)⟩ ?_; (conv => whnf))))
        (repeat' (first | (refine And.intro (a := true = true → _) (b := true = false → _) (fun _ => ?_) (fun h => Bool.noConfusion h); (conv => whnf)) | (refine And.intro (a := false = true → _) (b := false = false → _) (fun h => Bool.noConfusion h) (fun _ => ?_); (conv => whnf)) | (refine ⟨_, by first | exact pc_spoil0, ?_⟩; (conv => whnf)) | (refine Or.inl ?_; (conv => whnf); refine ⟨_, by first | exact pc_spoil0, ?_⟩; (conv => whnf)) | (refine Or.inl ?_; (conv => whnf); refine ⟨false, ?_⟩; (conv => whnf); refine ⟨_, by first | exact pc_spoil0, ?_⟩; (conv => whnf)) | (refine And.intro (a := decide _ = true → _) (b := decide _ = false → _) (fun _ => ?_) (fun h => absurd (of_decide_eq_false h) (by first | (simp [*]; done) | omega)); (conv => whnf)) | (refine And.intro (a := decide _ = true → _) (b := decide _ = false → _) (fun h => absurd (of_decide_eq_true h) (by first | (simp [*]; done) | omega)) (fun _ => ?_); (conv => whnf)) | (refine ⟨by kernel_rfl, ?_⟩; (conv => whnf)) | (refine And.intro (a := _ ∧ _) ⟨by decide, by first | decide | (simp; done) | (simp only [List.length_cons, List.length_nil]; decide)⟩ ?_; (conv => whnf))))
        (repeat' (first | (refine And.intro (a := _ = true → _) (b := _ = false → _) (fun hh => ?_) (fun hh => ?_) <;> (first | simp only [decide_eq_true_eq, decide_eq_false_iff_not, Bool.or_eq_true, Bool.and_eq_true, Bool.or_eq_false_iff, Bool.and_eq_false_iff, Bool.not_eq_true', Bool.not_eq_false', ge_iff_le, gt_iff_lt] at hh | skip) <;> (first | (exfalso; omega) | (exfalso; simp [*] at hh; done) | (exfalso; revert hh; decide) | exact absurd (by assumption) hh | (conv => whnf))) | (refine ⟨by kernel_rfl, ?_⟩; (conv => whnf)) | (refine And.intro (a := _ ∧ _) ⟨by omega, by omega⟩ ?_; (conv => whnf)) | (refine And.intro (a := _ ∧ _) ⟨by decide, by decide⟩ ?_; (conv => whnf)) | (refine And.intro (a := _ ≤ _) (by omega) ?_; (conv => whnf)) | (refine And.intro (a := _ ≠ _) (by omega) ?_; (conv => whnf)) | (refine Or.inl ?_; (conv => whnf); first | (refine ⟨_, by first | exact sb, ?_⟩; (conv => whnf)) | (refine ⟨false, ?_⟩; (conv => whnf); refine ⟨_, by first | exact sb, ?_⟩; (conv => whnf))) | (refine ⟨_, by first | exact sb, ?_⟩; (conv => whnf))))
        all_goals (first | rfl | set_option pp.maxSteps 300 in trace_state)
  · have hs : smallB b = false := by simpa using hs
    rw [hs] at gr
    refine pc_of_bodyF hm Tryz.func3 (by kernel_rfl) ?_
    conv => whnf
    (repeat' (first | (refine And.intro (a := true = true → _) (b := true = false → _) (fun _ => ?_) (fun h => Bool.noConfusion h); (conv => whnf)) | (refine And.intro (a := false = true → _) (b := false = false → _) (fun h => Bool.noConfusion h) (fun _ => ?_); (conv => whnf)) | (refine ⟨_, by first | exact gr, ?_⟩; (conv => whnf)) | (refine Or.inl ?_; (conv => whnf); refine ⟨_, by first | exact gr, ?_⟩; (conv => whnf)) | (refine Or.inl ?_; (conv => whnf); refine ⟨false, ?_⟩; (conv => whnf); refine ⟨_, by first | exact gr, ?_⟩; (conv => whnf)) | (refine And.intro (a := decide _ = true → _) (b := decide _ = false → _) (fun _ => ?_) (fun h => absurd (of_decide_eq_false h) (by first | (simp [*]; done) | omega)); (conv => whnf)) | (refine And.intro (a := decide _ = true → _) (b := decide _ = false → _) (fun h => absurd (of_decide_eq_true h) (by first | (simp [*]; done) | omega)) (fun _ => ?_); (conv => whnf)) | (refine ⟨by kernel_rfl, ?_⟩; (conv => whnf)) | (refine And.intro (a := _ ∧ _) ⟨by decide, by first | decide | (simp; done) | (simp only [List.length_cons, List.length_nil]; decide)⟩ ?_; (conv => whnf))))
    first | rfl | set_option pp.maxSteps 300 in trace_state
end Go.Proofs.Tryz.My
set_option maxRecDepth 100000
set_option maxHeartbeats 0
set_option linter.unusedVariables false
set_option linter.unusedSimpArgs false
namespace Go.Proofs.YtnoahgjfeablgaaGreat.BooksIn
open Go Go.Ev Go.Proofs.Tryz.My
open Go.ChangeShapes Go.WideShapes Go.ChangeAt Go.RowKit
def IB (b : BooksT) : Prop := ∀ i, IG (b.recipes.getD i rec0).gauge
theorem dFrac : Dec Tryz.prog 28 eF (fun y : Int × Int => I64 y.1 ∧ I64 y.2) :=
  dec_two Tryz.underlying28 rfl rfl rfl (by kernel_rfl) (by kernel_rfl) (dec_int Tryz.underlying3 (by kernel_rfl)) (dec_int Tryz.underlying3 (by kernel_rfl)) (fun _ => by kernel_rfl)
theorem dSpan : Dec Tryz.prog 30 eS (fun y : SpT => (I64 y.1.1 ∧ I64 y.1.2) ∧ (I64 y.2.1 ∧ I64 y.2.2)) :=
  dec_two Tryz.underlying30 rfl rfl rfl (by kernel_rfl) (by kernel_rfl) dFrac dFrac (fun _ => by kernel_rfl)
theorem dGauge : Dec Tryz.prog 32 eG (fun y : GauT => ((((I64 y.1.1.1.1 ∧ I64 y.1.1.1.2) ∧ ((I64 y.1.1.2.1.1 ∧ I64 y.1.1.2.1.2) ∧ (I64 y.1.1.2.2.1 ∧ I64 y.1.1.2.2.2))) ∧ (I64 y.1.2.1 ∧ I64 y.1.2.2)) ∧ (I64 y.2.1 ∧ I64 y.2.2))) :=
  dec_all Tryz.underlying32 rfl (by kernel_rfl)
    (dec_more (k := 4) Tryz.underlying32 rfl (by kernel_rfl) (dec_more (k := 3) Tryz.underlying32 rfl (by kernel_rfl) (dec_more (k := 2) Tryz.underlying32 rfl (by kernel_rfl) (dec_more (k := 1) Tryz.underlying32 rfl (by kernel_rfl)
      (dec_one Tryz.underlying32 rfl (by kernel_rfl) (dec_int Tryz.underlying3 (by kernel_rfl))) (dec_int Tryz.underlying3 (by kernel_rfl)) (fun _ => by kernel_rfl)) dSpan (fun _ => by kernel_rfl)) dFrac (fun _ => by kernel_rfl)) dFrac (fun _ => by kernel_rfl))
theorem dInt : DecM Tryz.prog 3 (fun n : Int => [i64 n]) I64 := Dec.mem (dec_int Tryz.underlying3 (by kernel_rfl))
theorem dInts : DecM Tryz.prog 56 (fun l : List Int => [ints l]) (fun _ => True) := by
  have h0 : DecM Tryz.prog 56 (fun l : List Int => [.sl (Tryz.prog.cellsOf 3) 0 (fun n : Int => [i64 n]) l]) (fun l => (∀ n ∈ l, I64 n) ∧ l.length ≤ maxLen) := decM_slice (d := (0 : Int)) Tryz.underlying56 (by kernel_rfl) (of_decide_eq_true (by kernel_rfl)) dInt
  have e : Tryz.prog.cellsOf 3 = 1 := by kernel_rfl
  rw [e] at h0
  intro H enc w base spare held fuel cs x ht
  exact DecM.weak h0 (fun _ _ => trivial) ht
theorem dU8 : DecM Tryz.prog 5 (fun n : Int => [u8 n]) (fun n => (Lit.int .u8 n).wf = true) := Dec.mem (dec_num Tryz.underlying5 (by kernel_rfl))
theorem dU8s : DecM Tryz.prog 22 (fun l : List Int => [u8l l]) (fun _ => True) := by
  have h0 : DecM Tryz.prog 22 (fun l : List Int => [.sl (Tryz.prog.cellsOf 5) 0 (fun n : Int => [u8 n]) l]) (fun l => (∀ n ∈ l, (Lit.int .u8 n).wf = true) ∧ l.length ≤ maxLen) := decM_slice (d := (0 : Int)) Tryz.underlying22 (by kernel_rfl) (of_decide_eq_true (by kernel_rfl)) dU8
  have e : Tryz.prog.cellsOf 5 = 1 := by kernel_rfl
  rw [e] at h0
  intro H enc w base spare held fuel cs x ht
  exact DecM.weak h0 (fun _ _ => trivial) ht
theorem dGaugeM : DecM Tryz.prog 32 eG (fun y : GauT => ((((I64 y.1.1.1.1 ∧ I64 y.1.1.1.2) ∧ ((I64 y.1.1.2.1.1 ∧ I64 y.1.1.2.1.2) ∧ (I64 y.1.1.2.2.1 ∧ I64 y.1.1.2.2.2))) ∧ (I64 y.1.2.1 ∧ I64 y.1.2.2)) ∧ (I64 y.2.1 ∧ I64 y.2.2))) := Dec.mem dGauge
theorem dRec0 : DecM Tryz.prog 76 (fun y : ((Int × GauT) × List Int) × Int => ((([i64 y.1.1.1] ++ eG y.1.1.2) ++ [ints y.1.2]) ++ [u8 y.2])) (fun y => ((I64 y.1.1.1 ∧ ((((I64 y.1.1.2.1.1.1.1 ∧ I64 y.1.1.2.1.1.1.2) ∧ ((I64 y.1.1.2.1.1.2.1.1 ∧ I64 y.1.1.2.1.1.2.1.2) ∧ (I64 y.1.1.2.1.1.2.2.1 ∧ I64 y.1.1.2.1.1.2.2.2))) ∧ (I64 y.1.1.2.1.2.1 ∧ I64 y.1.1.2.1.2.2)) ∧ (I64 y.1.1.2.2.1 ∧ I64 y.1.1.2.2.2))) ∧ True) ∧ (Lit.int .u8 y.2).wf = true) :=
  decM_all Tryz.underlying76 rfl (by kernel_rfl)
    (decM_more (k := 3) Tryz.underlying76 rfl (by kernel_rfl) (decM_more (k := 2) Tryz.underlying76 rfl (by kernel_rfl) (decM_more (k := 1) Tryz.underlying76 rfl (by kernel_rfl)
      (decM_one Tryz.underlying76 rfl (by kernel_rfl) dInt) dGaugeM (fun _ => by kernel_rfl)) dInts (fun _ => by kernel_rfl)) dU8 (fun _ => by kernel_rfl))
theorem dRec : DecM Tryz.prog 76 eRec (fun x => IG x.gauge) := by
  refine DecM.weak (DecM.map (en' := eRec) dRec0 (fun y => (⟨y.1.1.1, y.1.1.2, y.1.2, y.2⟩ : RecT)) (fun _ => rfl)) fun x h => by
    obtain ⟨y, rfl, ⟨⟨_, ⟨⟨a, b⟩, c⟩⟩, _⟩, _⟩ := h
    exact ⟨a.1.1, a.1.2, ⟨a.2.1.1, a.2.1.2, a.2.2.1, a.2.2.2⟩, ⟨b.1, b.2, c.1, c.2⟩⟩
theorem dRecs : DecM Tryz.prog 23 (fun l : List RecT => [recs l]) (fun l => ∀ x ∈ l, IG x.gauge) := by
  have h0 : DecM Tryz.prog 23 (fun l : List RecT => [.sl (Tryz.prog.cellsOf 76) rec0 eRec l]) (fun l => (∀ n ∈ l, IG n.gauge) ∧ l.length ≤ maxLen) := decM_slice (d := rec0) Tryz.underlying23 (by kernel_rfl) (of_decide_eq_true (by kernel_rfl)) dRec
  have e : Tryz.prog.cellsOf 76 = 13 := by kernel_rfl
  rw [e] at h0
  intro H enc w base spare held fuel cs x ht
  exact DecM.weak h0 (fun _ h => h.1) ht
theorem dBool : DecM Tryz.prog 4 (fun b : Bool => [.bool b]) (fun _ => True) := decM_bool Tryz.underlying4 (by kernel_rfl)
theorem dEnt0 : DecM Tryz.prog 58 (fun y : ((((Int × Int) × Int) × List Int) × Int) × Bool => ((((([i64 y.1.1.1.1.1] ++ [i64 y.1.1.1.1.2]) ++ [i64 y.1.1.1.2]) ++ [ints y.1.1.2]) ++ [u8 y.1.2]) ++ [.bool y.2])) (fun y => ((((I64 y.1.1.1.1.1 ∧ I64 y.1.1.1.1.2) ∧ I64 y.1.1.1.2) ∧ True) ∧ (Lit.int .u8 y.1.2).wf = true) ∧ True) :=
  decM_all Tryz.underlying58 rfl (by kernel_rfl)
    (decM_more (k := 5) Tryz.underlying58 rfl (by kernel_rfl) (decM_more (k := 4) Tryz.underlying58 rfl (by kernel_rfl) (decM_more (k := 3) Tryz.underlying58 rfl (by kernel_rfl) (decM_more (k := 2) Tryz.underlying58 rfl (by kernel_rfl) (decM_more (k := 1) Tryz.underlying58 rfl (by kernel_rfl)
      (decM_one Tryz.underlying58 rfl (by kernel_rfl) dInt) dInt (fun _ => by kernel_rfl)) dInt (fun _ => by kernel_rfl)) dInts (fun _ => by kernel_rfl)) dU8 (fun _ => by kernel_rfl)) dBool (fun _ => by kernel_rfl))
theorem dEnt : DecM Tryz.prog 58 eEnt (fun _ => True) := by
  refine DecM.weak (DecM.map (en' := eEnt) dEnt0 (fun y => (⟨y.1.1.1.1.1, y.1.1.1.1.2, y.1.1.1.2, y.1.1.2, y.1.2, y.2⟩ : EntT)) (fun _ => rfl)) fun _ _ => trivial
theorem dEnts : DecM Tryz.prog 24 (fun l : List EntT => [ents l]) (fun _ => True) := by
  have h0 : DecM Tryz.prog 24 (fun l : List EntT => [.sl (Tryz.prog.cellsOf 58) ent0 eEnt l]) (fun l => (∀ n ∈ l, True) ∧ l.length ≤ maxLen) := decM_slice (d := ent0) Tryz.underlying24 (by kernel_rfl) (of_decide_eq_true (by kernel_rfl)) dEnt
  have e : Tryz.prog.cellsOf 58 = 6 := by kernel_rfl
  rw [e] at h0
  intro H enc w base spare held fuel cs x ht
  exact DecM.weak h0 (fun _ _ => trivial) ht
theorem dBooks0 : DecM Tryz.prog 26 (fun y : (((Int × List Int) × List RecT) × Int) × List EntT => (((([i64 y.1.1.1.1] ++ [u8l y.1.1.1.2]) ++ [recs y.1.1.2]) ++ [i64 y.1.2]) ++ [ents y.2])) (fun y => (((I64 y.1.1.1.1 ∧ True) ∧ ∀ x ∈ y.1.1.2, IG x.gauge) ∧ I64 y.1.2) ∧ True) :=
  decM_all Tryz.underlying26 rfl (by kernel_rfl)
    (decM_more (k := 4) Tryz.underlying26 rfl (by kernel_rfl) (decM_more (k := 3) Tryz.underlying26 rfl (by kernel_rfl) (decM_more (k := 2) Tryz.underlying26 rfl (by kernel_rfl) (decM_more (k := 1) Tryz.underlying26 rfl (by kernel_rfl)
      (decM_one Tryz.underlying26 rfl (by kernel_rfl) dInt) dU8s (fun _ => by kernel_rfl)) dRecs (fun _ => by kernel_rfl)) dInt (fun _ => by kernel_rfl)) dEnts (fun _ => by kernel_rfl))
theorem ig0 : IG rec0.gauge := by
  have h : I64 (0 : Int) := by first | (unfold I64; decide) | decide | exact ⟨by decide, by decide⟩
  exact ⟨h, h, ⟨h, h, h, h⟩, ⟨h, h, h, h⟩⟩
theorem dBooks : DecM Tryz.prog 26 eB IB := by
  refine DecM.weak (DecM.map (en' := eB) dBooks0 (fun y => (⟨y.1.1.1.1, y.1.1.1.2, y.1.1.2, y.1.2, y.2⟩ : BooksT)) (fun _ => rfl)) fun x h => by
    obtain ⟨y, rfl, ⟨⟨_, h⟩, _⟩, _⟩ := h
    intro i
    by_cases hi : i < y.1.1.2.length
    · have e : y.1.1.2.getD i rec0 = y.1.1.2[i] := by simp [List.getD, hi]
      show IG (y.1.1.2.getD i rec0).gauge
      rw [e]
      exact h _ (List.getElem_mem hi)
    · have e : y.1.1.2.getD i rec0 = rec0 := by rw [List.getD, List.getElem?_eq_none (by omega)]; rfl
      show IG (y.1.1.2.getD i rec0).gauge
      rw [e]
      exact ig0
end Go.Proofs.YtnoahgjfeablgaaGreat.BooksIn
set_option maxRecDepth 100000
set_option maxHeartbeats 0
set_option linter.unusedVariables false
set_option linter.unusedSimpArgs false
namespace Go.Proofs.YtnoahgjfeablgaaGreat.RecipeUsersDone
open Go Go.Ev Go.Proofs.Tryz.My Go.Proofs.YtnoahgjfeablgaaGreat.BooksIn
open Go.ChangeShapes Go.WideShapes Go.ChangeAt Go.RowKit
theorem own : ownKnob Tryz.prog.godebug = none := by kernel_rfl
theorem laidOut : laidOutB Tryz.prog = true := by kernel_rfl
theorem walk (w : World) (b : BooksT) (hb : BooksIn.IB b) (v0 : Value) (h0 : RepI (fun b => b < w.heap.size) w (.agg (eB b)) v0) (role n : Int) (g : GauT) (f3 : ((((I64 g.1.1.1.1 ∧ I64 g.1.1.1.2) ∧ ((I64 g.1.1.2.1.1 ∧ I64 g.1.1.2.1.2) ∧ (I64 g.1.1.2.2.1 ∧ I64 g.1.1.2.2.2))) ∧ (I64 g.1.2.1 ∧ I64 g.1.2.2)) ∧ (I64 g.2.1 ∧ I64 g.2.2))) (v3 : Value) (h3 : RepI (fun b => b < w.heap.size) w (.agg (eG g)) v3) :
    Calls Tryz.prog 3 #[v0, .int .u8 role, .int .i64 n, v3] w fun e w' => e = .returned (.bool true) ∧ Below w.heap.size w w' := by
  refine PC.callsTrue (pc_RecipeUsers b hb role n g ⟨f3.1.1.1.1, f3.1.1.1.2, ⟨f3.1.1.2.1.1, f3.1.1.2.1.2, f3.1.1.2.2.1, f3.1.1.2.2.2⟩, f3.1.2.1, f3.1.2.2, f3.2.1, f3.2.2⟩) Tryz.func3 (by kernel_rfl) rfl rfl fun i hi => ?_
  match i, hi with
  | 0, _ => exact h0
  | 1, _ => exact .int _ _
  | 2, _ => exact .int _ _
  | 3, _ => exact h3
theorem lifted (os : Os) (started : os.Started) (H : Type) (enc : TypeId × Value → H) :
    ReturnsInHanded {} Tryz.checked os 3 .any (Rows.recipeUsersSpec.pre6 enc Tryz.prog Tryz.f3 Rows.recipeUsersRow.domain false) (Rows.recipeUsersSpec.post enc Tryz.prog Tryz.f3 false true false false) := by
  refine returnsInHanded_of_change (C := Tryz.checked) own started (by kernel_rfl) Tryz.func3
    (ChangeSpec.witness6 (enc := enc) (C := Tryz.checked) false ⟨#[], #[.agg #[.int .i64 0, .slice none 0 0, .slice none 0 0, .int .i64 0, .slice none 0 0], .int .u8 0, .int .i64 0, .agg #[.int .i64 0, .int .i64 0, .int .i64 0, .int .i64 0, .int .i64 0, .int .i64 0, .int .i64 0, .int .i64 0, .int .i64 0, .int .i64 0]], []⟩ 8 (by kernel_rfl) (by kernel_rfl) (by kernel_rfl) (by kernel_rfl)) ?_
  intro W base args ds gs before hval0 hW hcnd _
  have hval : ∀ (j : Nat) t v, Tryz.f3.params[j]? = some t → args[j]? = some v → Value.okWide Tryz.prog W .any base t v := hval0
  have hW' := hW
  obtain ⟨p, q, hA0, hV, rfl, hfz, hnd⟩ := hW
  have hA : DataW.TrodAll enc Tryz.prog W 0 (fun _ => true) true Tryz.f3.params.toList args.toList ds p := hA0
  rw [Tryz.params3] at hA hval
  obtain ⟨v0, vs0, d0, ds0, p0, q0, hargs, rfl, rfl, h0, r0⟩ := trodAll_cons hA
  obtain ⟨v1, vs1, d1, ds1, p1, q1, rfl, rfl, rfl, h1, r1⟩ := trodAll_cons r0
  obtain ⟨v2, vs2, d2, ds2, p2, q2, rfl, rfl, rfl, h2, r2⟩ := trodAll_cons r1
  obtain ⟨v3, vs3, d3, ds3, p3, q3, rfl, rfl, rfl, h3, r3⟩ := trodAll_cons r2
  obtain ⟨rfl, rfl, rfl⟩ := trodAll_nil r3
  obtain rfl : args = #[v0, v1, v2, v3] := by cases args; simp_all
  obtain ⟨rfl, rfl⟩ := trodVars_none hV
  have k0 := h0
  have lt0 : ∀ x ∈ p0, x.block < W.heap.size := by obtain ⟨m, hm⟩ := k0; exact DataW.trod_lt m _ _ _ hm
  obtain ⟨b, hb, i0⟩ := repI_structM Tryz.underlying26 dBooks (fun _ => by kernel_rfl) (hval 0 26 v0 rfl rfl) h0
  obtain ⟨a1, rfl, rfl, rfl, w1⟩ := open_int Tryz.underlying5 (hval 1 5 v1 rfl rfl) h1
  obtain ⟨a2, rfl, rfl, rfl, w2⟩ := open_int Tryz.underlying3 (hval 2 3 v2 rfl rfl) h2
  have k3 := h3
  have lt3 : ∀ x ∈ p3, x.block < W.heap.size := by obtain ⟨m, hm⟩ := k3; exact DataW.trod_lt m _ _ _ hm
  obtain ⟨a3, fa3, ra3⟩ := repI_struct Tryz.underlying32 dGauge (fun _ => by kernel_rfl) (hval 3 32 v3 rfl rfl) h3
  clear hA0 hval0
  refine (walk W b hb v0 i0 a1 a2 a3 fa3 _ (ra3 _ _)).mono fun e W' ⟨he, bel⟩ => ?_
  subst he
  exact ⟨_, rfl, _, _, _, [], _, [], hW', trodAll_mk1 (shut_bool Tryz.underlying4 _), (trodAll_cons_mk (Below.trod laidOut (by kernel_rfl) (of_decide_eq_true (by kernel_rfl)) k0 bel lt0) (trodAll_cons_mk (shut_int Tryz.underlying5 w1) (trodAll_cons_mk (shut_int Tryz.underlying3 w2) (trodAll_cons_mk (Below.trod laidOut (by kernel_rfl) (of_decide_eq_true (by kernel_rfl)) k3 bel lt3) trodAll_mk0)))), rfl, bel.frame _, fun h => by cases h⟩
theorem closed : joinedFacts Tryz.pinned.checked.prog 3 Tryz.f3 Rows.recipeUsersSpec Rows.recipeUsersRow = true :=
  (restOf Tryz.pinned.checked.prog 3 Tryz.f3 Rows.recipeUsersSpec Rows.recipeUsersRow make_eq mayEnter_eq liftsFinal_eq).2 (by kernel_rfl)
theorem over : Rows.recipeUsersRow.holds Tryz.pinned (OpenSpec.ofChange Rows.recipeUsersSpec) :=
  OpenClaim.holds_of_wide 3 Tryz.f3 rfl rfl rfl rfl rfl rfl rfl ⟨rfl, rfl, rfl, rfl, rfl⟩ rfl rfl rfl rfl rfl (by kernel_rfl) Tryz.func3 closed
    (of_decide_eq_true (by kernel_rfl)) (by unfold Func.isWrapper; first | (rw [if_pos (by decide +kernel)]; kernel_rfl) | (rw [if_neg (by decide +kernel)]; exact ⟨rfl, rfl⟩))
    (fun os started H enc _ => lifted os started H enc)
theorem proved : Rows.RecipeUsersSaid := over
#print axioms proved
end Go.Proofs.YtnoahgjfeablgaaGreat.RecipeUsersDone
