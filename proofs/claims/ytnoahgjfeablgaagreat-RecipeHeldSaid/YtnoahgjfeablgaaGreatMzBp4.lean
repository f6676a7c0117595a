/- A helper text: contracts of functions of the program, and plain lemmas. -/
import Derived.Test.YtnoahgjfeablgaaGreatEvSix
import Derived.Test.YtnoahgjfeablgaaGreatMzBpA
import Derived.Test.YtnoahgjfeablgaaGreatMzBoA
import Derived.Test.YtnoahgjfeablgaaGreatEvZe
set_option maxRecDepth 100000
set_option maxHeartbeats 0
set_option linter.unusedVariables false
set_option linter.unusedSimpArgs false
namespace Go.Proofs.Tryz.My
open Go Go.Ev
def renI : Go.Shelf.Ren := ⟨fun n => match n with | 21 => 63 | 27 => 108 | 28 => 109 | 35 => 129 | 39 => 149 | n => n, fun t => match t with | 22 => 56 | t => t, fun n => n⟩
theorem laidI : Go.Proofs.Lays2.n21 Tryz.prog renI where
  mixed := hm
  f21 := by kernel_rfl
  f27 := by kernel_rfl
  f28 := by kernel_rfl
  f35 := by kernel_rfl
  f39 := by kernel_rfl
  t0 := by kernel_rfl
  a0 := fun w => by kernel_rfl
  z0 := fun w => by kernel_rfl
  v0 := fun w => by kernel_rfl
  t3 := by kernel_rfl
  a3 := fun w => by kernel_rfl
  z3 := fun w => by kernel_rfl
  v3 := fun w => by kernel_rfl
  t4 := by kernel_rfl
  a4 := fun w => by kernel_rfl
  z4 := fun w => by kernel_rfl
  v4 := fun w => by kernel_rfl
  t22 := by kernel_rfl
  a22 := fun w => by kernel_rfl
  z22 := fun w => by kernel_rfl
  v22 := fun w => by kernel_rfl
  i3 := by kernel_rfl
theorem pw_Ins (zs : List Int) (u : Int) (k : Nat) (hk : k ≤ zs.length) (hl : zs.length < 1073741824) : PW Tryz.prog 63 [.own 0, i64 k, .own 1] [.vec 3 1 0 eI zs, .lit 3 1 [[i64 u]]] (.own 2) [.none, .none, .vec 3 1 0 eI (zs.take k ++ u :: zs.drop k)] :=
  pw_insert laidI Tryz.func63 (by kernel_rfl) rfl zs u k hk hl 3
def insI (l : List Int) (u : Int) : List Int := l.take (posI l u) ++ u :: l.drop (posI l u)
theorem insI_len (l : List Int) (u : Int) : (insI l u).length = l.length + 1 := by
  have := posI_le l u
  unfold insI
  simp
  omega
def badA (b : BooksT) (user : Int) (x : RecT) : Bool := x.appr.contains user || (decide (user = x.author) || !mayB [2, 3] b.users user)
def apvR (us : List Int) (x : RecT) (user : Int) : RecT := ⟨x.author, x.gauge, insI x.appr user, if enoughB us (insI x.appr user) = true then 2 else x.state⟩
def setR (b : BooksT) (i : Nat) (y : RecT) : BooksT := ⟨b.keep, b.users, b.recipes.set i y, b.next, b.log⟩
def apvB (b : BooksT) (user number : Int) : BooksT := setR b number.toNat (apvR b.users (b.recipes.getD number.toNat rec0) user)
def apvE (b : BooksT) (user number : Int) : Int :=
  if chkB b = true ∧ named b user number then (if badA b user (b.recipes.getD number.toNat rec0) = true then 100 else if (b.recipes.getD number.toNat rec0).state > 2 then 101 else 0) else (if chkB b then 6 else 8)
theorem apvE_zero {b : BooksT} {user number : Int} (h : apvE b user number = 0) : chkB b = true ∧ named b user number ∧ badA b user (b.recipes.getD number.toNat rec0) = false ∧ ¬(b.recipes.getD number.toNat rec0).state > 2 := by
  unfold apvE at h
  by_cases h1 : chkB b = true ∧ named b user number
  · rw [if_pos h1] at h
    by_cases h2 : badA b user (b.recipes.getD number.toNat rec0) = true
    · rw [if_pos h2] at h; cases h
    · rw [if_neg h2] at h
      by_cases h3 : (b.recipes.getD number.toNat rec0).state > 2
      · rw [if_pos h3] at h; cases h
      · exact ⟨h1.1, h1.2, by simpa using h2, h3⟩
  · rw [if_neg h1] at h
    split at h <;> cases h
theorem badA_no {b : BooksT} {user : Int} {x : RecT} (h : badA b user x = false) : x.appr.contains user = false ∧ ¬user = x.author ∧ mayB [2, 3] b.users user = true := by
  unfold badA at h
  simp only [Bool.or_eq_false_iff, decide_eq_false_iff_not, Bool.not_eq_false'] at h
  exact ⟨h.1, h.2.1, h.2.2⟩
theorem chk_rec {b : BooksT} (h : chkB b = true) {i : Nat} (hi : i < b.recipes.length) : apprB b.users (b.recipes.getD i rec0) = true ∧ stateB b.users (b.recipes.getD i rec0) = true := by
  simp only [chkB, approvedB, Bool.and_eq_true] at h
  have h := (all_getD (p := recB b.users) (d := rec0)).1 h.1.2.1 i hi
  unfold recB at h
  rw [Bool.and_eq_true] at h
  exact h
theorem pw_mayT (b : BooksT) (a c : Int) : PW Tryz.prog 56 [.ptr 0 0 0 0, .own 4] (dskR b ++ [.lit 5 1 [[u8 a], [u8 c]]]) (.fn (.func 101) [] [.ptr 5 0 0 0, .ptr 6 0 0 0]) (dskR b ++ [.lit 5 1 [[u8 a], [u8 c]], .cells 99 [.ptr 0 0 0 0], .cells 22 [.own 4]]) := by
  refine pw_of_bodyFN hm Tryz.func56 (by kernel_rfl) ⟨by kernel_rfl, ?_⟩
  conv => whnf
  refine ⟨[2, 3], by kernel_rfl, ?_⟩
  (conv => whnf)
  exact ⟨rfl, rfl⟩
theorem pw_ApproveOk (b : BooksT) (o : Okay b) (user number : Int) (h : apvE b user number = 0) : PW Tryz.prog 23 [bks b, i64 user, i64 number] [] (.tup [ownB (apvB b user number), i64 0]) (ownR (apvB b user number)) := by
  obtain ⟨hc, hn, hb, h2⟩ := apvE_zero h
  clear h
  obtain ⟨hb1, hb2, hb3⟩ := badA_no hb
  have s := chk_small hc
  have hlt : number.toNat < b.recipes.length := by have := hn.2; omega
  have hi : 0 ≤ number ∧ number < (b.recipes.length : Int) := by have := hn.2; omega
  have hx := o.a number.toNat
  have c1 := fun u => pc_may2c b.keep b.next u b.users b.recipes b.log 2 3 (lt40 o.u)
  have c2 := pc_BinS (b.recipes.getD number.toNat rec0).appr (inc_of (chk_rec hc hlt).1) (by omega) user
  rw [hb1] at c2
  have hx1 := incr_len (chk_rec hc hlt).1
  obtain ⟨R, hR⟩ : ∃ R : RecT, R = ⟨(b.recipes.getD number.toNat rec0).author, (b.recipes.getD number.toNat rec0).gauge, insI (b.recipes.getD number.toNat rec0).appr user, (b.recipes.getD number.toNat rec0).state⟩ := ⟨_, rfl⟩
  have hlR : number.toNat < (b.recipes.set number.toNat R).length := by rw [List.length_set]; exact hlt
  have hgR : (b.recipes.set number.toNat R).getD number.toNat rec0 = R := getD_set_at hlt
  have hRa : R.appr = insI (b.recipes.getD number.toNat rec0).appr user := by rw [hR]
  have c4 := pc_enough b.keep b.next b.users (b.recipes.set number.toNat R) b.log (lt40 o.u) ((b.recipes.set number.toNat R).getD number.toNat rec0).appr (by rw [hgR, hRa, insI_len]; omega)
  have hE : enoughB b.users ((b.recipes.set number.toNat R).getD number.toNat rec0).appr = enoughB b.users (insI (b.recipes.getD number.toNat rec0).appr user) := by rw [hgR, hRa]
  rw [hE] at c4
  refine pw_of_bodyF hm Tryz.func23 (by kernel_rfl) ⟨by kernel_rfl, ?_⟩
  conv => whnf
  (refine Or.inr ⟨[ ], [ 21, 18, 19, 20 ], by kernel_rfl, ?_⟩; (conv => whnf); refine ⟨[ ], _, _, _, _, ⟨ pw_namedOk b o hc user number hn, rfl, rfl, by kernel_rfl⟩, ?_⟩)
  (conv => whnf)
  (repeat' ((first | refine ansT ?_ | refine ansF ?_ | refine ansD (by first | (simp [*]; done) | omega) ?_ | refine ansN (by first | (simp [*]; done) | omega) ?_ | refine ⟨by kernel_rfl, ?_⟩ | refine ansB (by decide) (by first | decide | (simp; done) | (simp only [List.length_cons, List.length_nil]; decide)) ?_ | fail); (conv => whnf)))
  (repeat' (first | (refine ansS (fun hh => ?_) (fun hh => ?_) <;> (first | simp only [ansX] at hh | skip) <;> (first | (exfalso; omega) | (exfalso; simp [*] at hh; done) | (exfalso; revert hh; decide) | exact absurd (by assumption) hh | (conv => whnf))) | ((first | refine ⟨by kernel_rfl, ?_⟩ | refine ansB (by omega) (by omega) ?_ | refine ansB (by decide) (by decide) ?_ | refine And.intro (a := _ ≤ _) (by omega) ?_ | refine And.intro (a := _ ≠ _) (by omega) ?_ | ((try (refine Or.inl ?_; (conv => whnf))); (try (refine ⟨false, ?_⟩; (conv => whnf))); refine ⟨_, by first | exact c2 | exact c1 _, ?_⟩) | fail); (conv => whnf))))
  refine ⟨hlt, ?_⟩
  (conv => whnf)
  refine Or.inl ?_
  (conv => whnf)
  (repeat' (first | (refine ansS (fun hh => ?_) (fun hh => ?_) <;> (first | simp only [ansX] at hh | skip) <;> (first | (exfalso; omega) | (exfalso; simp [*] at hh; done) | (exfalso; revert hh; decide) | exact absurd (by assumption) hh | (conv => whnf))) | ((first | refine ⟨by kernel_rfl, ?_⟩ | refine ansB (by omega) (by omega) ?_ | refine ansB (by decide) (by decide) ?_ | refine And.intro (a := _ ≤ _) (by omega) ?_ | refine And.intro (a := _ ≠ _) (by omega) ?_ | ((try (refine Or.inl ?_; (conv => whnf))); (try (refine ⟨false, ?_⟩; (conv => whnf))); refine ⟨_, by first | exact c2 | exact c1 _, ?_⟩) | fail); (conv => whnf))))
  refine ⟨hlt, ?_⟩
  (conv => whnf)
  (repeat' (first | (refine ansS (fun hh => ?_) (fun hh => ?_) <;> (first | simp only [ansX] at hh | skip) <;> (first | (exfalso; omega) | (exfalso; simp [*] at hh; done) | (exfalso; revert hh; decide) | exact absurd (by assumption) hh | (conv => whnf))) | ((first | refine ⟨by kernel_rfl, ?_⟩ | refine ansB (by omega) (by omega) ?_ | refine ansB (by decide) (by decide) ?_ | refine And.intro (a := _ ≤ _) (by omega) ?_ | refine And.intro (a := _ ≠ _) (by omega) ?_ | ((try (refine Or.inl ?_; (conv => whnf))); (try (refine ⟨false, ?_⟩; (conv => whnf))); refine ⟨_, by first | exact c2 | exact c1 _, ?_⟩) | fail); (conv => whnf))))
  (refine Or.inr ⟨[ ], [ 50, 48 ], by kernel_rfl, ?_⟩; (conv => whnf); refine ⟨[ 21, 18, 19, 20, 46 ], _, _, _, _, ⟨ pw_mayT b 2 3, rfl, rfl, by kernel_rfl⟩, ?_⟩)
  (conv => whnf)
  (repeat' (first | (refine ansS (fun hh => ?_) (fun hh => ?_) <;> (first | simp only [ansX] at hh | skip) <;> (first | (exfalso; omega) | (exfalso; simp [*] at hh; done) | (exfalso; revert hh; decide) | exact absurd (by assumption) hh | (conv => whnf))) | ((first | refine ⟨by kernel_rfl, ?_⟩ | refine ansB (by omega) (by omega) ?_ | refine ansB (by decide) (by decide) ?_ | refine And.intro (a := _ ≤ _) (by omega) ?_ | refine And.intro (a := _ ≠ _) (by omega) ?_ | ((try (refine Or.inl ?_; (conv => whnf))); (try (refine ⟨false, ?_⟩; (conv => whnf))); refine ⟨_, by exact c1 _, ?_⟩) | fail); (conv => whnf))))
  refine ⟨hlt, ?_⟩
  (conv => whnf)
  (repeat' (first | (refine ansS (fun hh => ?_) (fun hh => ?_) <;> (first | simp only [ansX] at hh | skip) <;> (first | (exfalso; omega) | (exfalso; simp [*] at hh; done) | (exfalso; revert hh; decide) | exact absurd (by assumption) hh | (conv => whnf))) | ((first | refine ⟨by kernel_rfl, ?_⟩ | refine ansB (by omega) (by omega) ?_ | refine ansB (by decide) (by decide) ?_ | refine And.intro (a := _ ≤ _) (by omega) ?_ | refine And.intro (a := _ ≠ _) (by omega) ?_ | fail); (conv => whnf))))
  refine ⟨hlt, ?_⟩
  (conv => whnf)
  refine Or.inr ⟨19, number.toNat, 63, [64], by kernel_rfl, ?_⟩
  (conv => whnf)
  refine ⟨⟨hlt, rfl⟩, ?_⟩
  (conv => whnf)
  refine ⟨[], [62], by kernel_rfl, ?_⟩
  (conv => whnf)
  refine ⟨[63, 67], _, _, _, _, ⟨pw_Ins (b.recipes.getD number.toNat rec0).appr user (posI (b.recipes.getD number.toNat rec0).appr user) (posI_le _ _) (by omega), rfl, rfl, by kernel_rfl⟩, ?_⟩
  (conv => whnf)
  refine ⟨insI (b.recipes.getD number.toNat rec0).appr user, R, ⟨rfl, hRa, by rw [hR]; rfl, hlt, rfl⟩, ?_⟩
  (conv => whnf)
  refine ⟨hlR, ?_⟩
  (conv => whnf)
  refine Or.inl ?_
  (conv => whnf)
  by_cases he : enoughB b.users (insI (b.recipes.getD number.toNat rec0).appr user) = true
  · have hB : apvB b user number = ⟨b.keep, b.users, (b.recipes.set number.toNat R).set number.toNat (setSt ((b.recipes.set number.toNat R).getD number.toNat rec0) 2), b.next, b.log⟩ := by
      unfold apvB setR apvR
      rw [if_pos he, List.set_set, hgR, hR]
      rfl
    rw [hB]
    rw [he] at c4
    (repeat' ((first | refine ansT ?_ | refine ansF ?_ | ((try (refine Or.inl ?_; (conv => whnf))); (try (refine ⟨false, ?_⟩; (conv => whnf))); refine ⟨_, by exact c4, ?_⟩) | refine ansD (by first | (simp [*]; done) | omega) ?_ | refine ansN (by first | (simp [*]; done) | omega) ?_ | refine ⟨by kernel_rfl, ?_⟩ | refine ansB (by decide) (by first | decide | (simp; done) | (simp only [List.length_cons, List.length_nil]; decide)) ?_ | fail); (conv => whnf)))
    (repeat' (first | (refine ansS (fun hh => ?_) (fun hh => ?_) <;> (first | simp only [ansX] at hh | skip) <;> (first | (exfalso; omega) | (exfalso; simp [*] at hh; done) | (exfalso; revert hh; decide) | exact absurd (by assumption) hh | (conv => whnf))) | ((first | refine ⟨by kernel_rfl, ?_⟩ | refine ansB (by omega) (by omega) ?_ | refine ansB (by decide) (by decide) ?_ | refine And.intro (a := _ ≤ _) (by omega) ?_ | refine And.intro (a := _ ≠ _) (by omega) ?_ | fail); (conv => whnf))))
    refine ⟨setSt ((b.recipes.set number.toNat R).getD number.toNat rec0) 2, ⟨rfl, rfl, hlR⟩, ?_⟩
    (conv => whnf)
    refine ⟨[18, 19, 20], by kernel_rfl, ?_⟩
    (conv => whnf)
    exact ⟨rfl, rfl⟩
  · have hB : apvB b user number = ⟨b.keep, b.users, b.recipes.set number.toNat R, b.next, b.log⟩ := by
      unfold apvB setR apvR
      rw [if_neg he, hR]
    rw [hB]
    have he2 : enoughB b.users (insI (b.recipes.getD number.toNat rec0).appr user) = false := by simpa using he
    rw [he2] at c4
    (repeat' ((first | refine ansT ?_ | refine ansF ?_ | ((try (refine Or.inl ?_; (conv => whnf))); (try (refine ⟨false, ?_⟩; (conv => whnf))); refine ⟨_, by exact c4, ?_⟩) | refine ansD (by first | (simp [*]; done) | omega) ?_ | refine ansN (by first | (simp [*]; done) | omega) ?_ | refine ⟨by kernel_rfl, ?_⟩ | refine ansB (by decide) (by first | decide | (simp; done) | (simp only [List.length_cons, List.length_nil]; decide)) ?_ | fail); (conv => whnf)))
    (repeat' (first | (refine ansS (fun hh => ?_) (fun hh => ?_) <;> (first | simp only [ansX] at hh | skip) <;> (first | (exfalso; omega) | (exfalso; simp [*] at hh; done) | (exfalso; revert hh; decide) | exact absurd (by assumption) hh | (conv => whnf))) | ((first | refine ⟨by kernel_rfl, ?_⟩ | refine ansB (by omega) (by omega) ?_ | refine ansB (by decide) (by decide) ?_ | refine And.intro (a := _ ≤ _) (by omega) ?_ | refine And.intro (a := _ ≠ _) (by omega) ?_ | fail); (conv => whnf))))
    refine ⟨[18, 19, 20], by kernel_rfl, ?_⟩
    (conv => whnf)
    exact ⟨rfl, rfl⟩
theorem pc_ApproveBad (b : BooksT) (o : Okay b) (user number : Int) (h : ¬apvE b user number = 0) : PC Tryz.prog 23 [bks b, i64 user, i64 number] (.tup [newB 0, i64 (apvE b user number)]) := by
  by_cases h1 : chkB b = true ∧ named b user number
  · unfold apvE at h ⊢
    rw [if_pos h1] at h ⊢
    obtain ⟨hc, hn⟩ := h1
    have s := chk_small hc
    have hlt : number.toNat < b.recipes.length := by have := hn.2; omega
    have hi : 0 ≤ number ∧ number < (b.recipes.length : Int) := by have := hn.2; omega
    have hx := o.a number.toNat
    have c1 := fun u => pc_may2c b.keep b.next u b.users b.recipes b.log 2 3 (lt40 o.u)
    have c2 := pc_BinS (b.recipes.getD number.toNat rec0).appr (inc_of (chk_rec hc hlt).1) (by omega) user
    by_cases hb : badA b user (b.recipes.getD number.toNat rec0) = true
    · rw [if_pos hb]
      unfold badA at hb
      by_cases q1 : (b.recipes.getD number.toNat rec0).appr.contains user = true
      · rw [q1] at c2
        clear hb q1
        refine pc_of_bodyF hm Tryz.func23 (by kernel_rfl) ?_
        conv => whnf
        (refine Or.inr ⟨[ ], [ 21, 18, 19, 20 ], by kernel_rfl, ?_⟩; (conv => whnf); refine ⟨[ ], _, _, _, _, ⟨ pw_namedOk b o hc user number hn, rfl, rfl, by kernel_rfl⟩, ?_⟩)
        (conv => whnf)
        (repeat' ((first | refine ansT ?_ | refine ansF ?_ | refine ansD (by first | (simp [*]; done) | omega) ?_ | refine ansN (by first | (simp [*]; done) | omega) ?_ | refine ⟨by kernel_rfl, ?_⟩ | refine ansB (by decide) (by first | decide | (simp; done) | (simp only [List.length_cons, List.length_nil]; decide)) ?_ | fail); (conv => whnf)))
        (repeat' (first | (refine ansS (fun hh => ?_) (fun hh => ?_) <;> (first | simp only [ansX] at hh | skip) <;> (first | (exfalso; omega) | (exfalso; simp [*] at hh; done) | (exfalso; revert hh; decide) | exact absurd (by assumption) hh | (conv => whnf))) | ((first | refine ⟨by kernel_rfl, ?_⟩ | refine ansB (by omega) (by omega) ?_ | refine ansB (by decide) (by decide) ?_ | refine And.intro (a := _ ≤ _) (by omega) ?_ | refine And.intro (a := _ ≠ _) (by omega) ?_ | fail); (conv => whnf))))
        refine ⟨hlt, ?_⟩
        (conv => whnf)
        refine Or.inl ?_
        (conv => whnf)
        (repeat' (first | (refine ansS (fun hh => ?_) (fun hh => ?_) <;> (first | simp only [ansX] at hh | skip) <;> (first | (exfalso; omega) | (exfalso; simp [*] at hh; done) | (exfalso; revert hh; decide) | exact absurd (by assumption) hh | (conv => whnf))) | ((first | refine ⟨by kernel_rfl, ?_⟩ | refine ansB (by omega) (by omega) ?_ | refine ansB (by decide) (by decide) ?_ | refine And.intro (a := _ ≤ _) (by omega) ?_ | refine And.intro (a := _ ≠ _) (by omega) ?_ | ((try (refine Or.inl ?_; (conv => whnf))); (try (refine ⟨false, ?_⟩; (conv => whnf))); refine ⟨_, by exact c2, ?_⟩) | fail); (conv => whnf))))
        all_goals (first | rfl | set_option pp.maxSteps 300 in trace_state)
      · have q1 : (b.recipes.getD number.toNat rec0).appr.contains user = false := by simpa using q1
        rw [q1] at c2 hb
        rw [Bool.false_or] at hb
        by_cases q2 : user = (b.recipes.getD number.toNat rec0).author
        · clear hb q1
          refine pc_of_bodyF hm Tryz.func23 (by kernel_rfl) ?_
          conv => whnf
          (refine Or.inr ⟨[ ], [ 21, 18, 19, 20 ], by kernel_rfl, ?_⟩; (conv => whnf); refine ⟨[ ], _, _, _, _, ⟨ pw_namedOk b o hc user number hn, rfl, rfl, by kernel_rfl⟩, ?_⟩)
          (conv => whnf)
          (repeat' ((first | refine ansT ?_ | refine ansF ?_ | refine ansD (by first | (simp [*]; done) | omega) ?_ | refine ansN (by first | (simp [*]; done) | omega) ?_ | refine ⟨by kernel_rfl, ?_⟩ | refine ansB (by decide) (by first | decide | (simp; done) | (simp only [List.length_cons, List.length_nil]; decide)) ?_ | fail); (conv => whnf)))
          (repeat' (first | (refine ansS (fun hh => ?_) (fun hh => ?_) <;> (first | simp only [ansX] at hh | skip) <;> (first | (exfalso; omega) | (exfalso; simp [*] at hh; done) | (exfalso; revert hh; decide) | exact absurd (by assumption) hh | (conv => whnf))) | ((first | refine ⟨by kernel_rfl, ?_⟩ | refine ansB (by omega) (by omega) ?_ | refine ansB (by decide) (by decide) ?_ | refine And.intro (a := _ ≤ _) (by omega) ?_ | refine And.intro (a := _ ≠ _) (by omega) ?_ | fail); (conv => whnf))))
          refine ⟨hlt, ?_⟩
          (conv => whnf)
          refine Or.inl ?_
          (conv => whnf)
          (repeat' (first | (refine ansS (fun hh => ?_) (fun hh => ?_) <;> (first | simp only [ansX] at hh | skip) <;> (first | (exfalso; omega) | (exfalso; simp [*] at hh; done) | (exfalso; revert hh; decide) | exact absurd (by assumption) hh | (conv => whnf))) | ((first | refine ⟨by kernel_rfl, ?_⟩ | refine ansB (by omega) (by omega) ?_ | refine ansB (by decide) (by decide) ?_ | refine And.intro (a := _ ≤ _) (by omega) ?_ | refine And.intro (a := _ ≠ _) (by omega) ?_ | ((try (refine Or.inl ?_; (conv => whnf))); (try (refine ⟨false, ?_⟩; (conv => whnf))); refine ⟨_, by exact c2, ?_⟩) | fail); (conv => whnf))))
          refine ⟨hlt, ?_⟩
          (conv => whnf)
          (repeat' (first | (refine ansS (fun hh => ?_) (fun hh => ?_) <;> (first | simp only [ansX] at hh | skip) <;> (first | (exfalso; omega) | (exfalso; simp [*] at hh; done) | (exfalso; revert hh; decide) | exact absurd (by assumption) hh | (conv => whnf))) | ((first | refine ⟨by kernel_rfl, ?_⟩ | refine ansB (by omega) (by omega) ?_ | refine ansB (by decide) (by decide) ?_ | refine And.intro (a := _ ≤ _) (by omega) ?_ | refine And.intro (a := _ ≠ _) (by omega) ?_ | fail); (conv => whnf))))
          all_goals (first | rfl | set_option pp.maxSteps 300 in trace_state)
        · have q3 : mayB [2, 3] b.users user = false := by
            rw [decide_eq_false q2, Bool.false_or, Bool.not_eq_true'] at hb
            exact hb
          clear hb q1
          refine pc_of_bodyF hm Tryz.func23 (by kernel_rfl) ?_
          conv => whnf
          (refine Or.inr ⟨[ ], [ 21, 18, 19, 20 ], by kernel_rfl, ?_⟩; (conv => whnf); refine ⟨[ ], _, _, _, _, ⟨ pw_namedOk b o hc user number hn, rfl, rfl, by kernel_rfl⟩, ?_⟩)
          (conv => whnf)
          (repeat' ((first | refine ansT ?_ | refine ansF ?_ | refine ansD (by first | (simp [*]; done) | omega) ?_ | refine ansN (by first | (simp [*]; done) | omega) ?_ | refine ⟨by kernel_rfl, ?_⟩ | refine ansB (by decide) (by first | decide | (simp; done) | (simp only [List.length_cons, List.length_nil]; decide)) ?_ | fail); (conv => whnf)))
          (repeat' (first | (refine ansS (fun hh => ?_) (fun hh => ?_) <;> (first | simp only [ansX] at hh | skip) <;> (first | (exfalso; omega) | (exfalso; simp [*] at hh; done) | (exfalso; revert hh; decide) | exact absurd (by assumption) hh | (conv => whnf))) | ((first | refine ⟨by kernel_rfl, ?_⟩ | refine ansB (by omega) (by omega) ?_ | refine ansB (by decide) (by decide) ?_ | refine And.intro (a := _ ≤ _) (by omega) ?_ | refine And.intro (a := _ ≠ _) (by omega) ?_ | fail); (conv => whnf))))
          refine ⟨hlt, ?_⟩
          (conv => whnf)
          refine Or.inl ?_
          (conv => whnf)
          (repeat' (first | (refine ansS (fun hh => ?_) (fun hh => ?_) <;> (first | simp only [ansX] at hh | skip) <;> (first | (exfalso; omega) | (exfalso; simp [*] at hh; done) | (exfalso; revert hh; decide) | exact absurd (by assumption) hh | (conv => whnf))) | ((first | refine ⟨by kernel_rfl, ?_⟩ | refine ansB (by omega) (by omega) ?_ | refine ansB (by decide) (by decide) ?_ | refine And.intro (a := _ ≤ _) (by omega) ?_ | refine And.intro (a := _ ≠ _) (by omega) ?_ | ((try (refine Or.inl ?_; (conv => whnf))); (try (refine ⟨false, ?_⟩; (conv => whnf))); refine ⟨_, by exact c2, ?_⟩) | fail); (conv => whnf))))
          refine ⟨hlt, ?_⟩
          (conv => whnf)
          (repeat' (first | (refine ansS (fun hh => ?_) (fun hh => ?_) <;> (first | simp only [ansX] at hh | skip) <;> (first | (exfalso; omega) | (exfalso; simp [*] at hh; done) | (exfalso; revert hh; decide) | exact absurd (by assumption) hh | (conv => whnf))) | ((first | refine ⟨by kernel_rfl, ?_⟩ | refine ansB (by omega) (by omega) ?_ | refine ansB (by decide) (by decide) ?_ | refine And.intro (a := _ ≤ _) (by omega) ?_ | refine And.intro (a := _ ≠ _) (by omega) ?_ | fail); (conv => whnf))))
          (refine Or.inr ⟨[ ], [ 50, 48 ], by kernel_rfl, ?_⟩; (conv => whnf); refine ⟨[ 21, 18, 19, 20, 46 ], _, _, _, _, ⟨ pw_mayT b 2 3, rfl, rfl, by kernel_rfl⟩, ?_⟩)
          (conv => whnf)
          (repeat' (first | (refine ansS (fun hh => ?_) (fun hh => ?_) <;> (first | simp only [ansX] at hh | skip) <;> (first | (exfalso; omega) | (exfalso; simp [*] at hh; done) | (exfalso; revert hh; decide) | exact absurd (by assumption) hh | (conv => whnf))) | ((first | refine ⟨by kernel_rfl, ?_⟩ | refine ansB (by omega) (by omega) ?_ | refine ansB (by decide) (by decide) ?_ | refine And.intro (a := _ ≤ _) (by omega) ?_ | refine And.intro (a := _ ≠ _) (by omega) ?_ | ((try (refine Or.inl ?_; (conv => whnf))); (try (refine ⟨false, ?_⟩; (conv => whnf))); refine ⟨_, by exact c1 _, ?_⟩) | fail); (conv => whnf))))
          all_goals (first | rfl | set_option pp.maxSteps 300 in trace_state)
    · have hb2 : badA b user (b.recipes.getD number.toNat rec0) = false := by simpa using hb
      rw [if_neg hb] at h ⊢
      obtain ⟨hb1, hb2, hb3⟩ := badA_no hb2
      rw [hb1] at c2
      have h2 : (b.recipes.getD number.toNat rec0).state > 2 := Decidable.byContradiction fun q => h (if_neg q)
      rw [if_pos h2]
      clear h hb hb1
      refine pc_of_bodyF hm Tryz.func23 (by kernel_rfl) ?_
      conv => whnf
      (refine Or.inr ⟨[ ], [ 21, 18, 19, 20 ], by kernel_rfl, ?_⟩; (conv => whnf); refine ⟨[ ], _, _, _, _, ⟨ pw_namedOk b o hc user number hn, rfl, rfl, by kernel_rfl⟩, ?_⟩)
      (conv => whnf)
      (repeat' ((first | refine ansT ?_ | refine ansF ?_ | refine ansD (by first | (simp [*]; done) | omega) ?_ | refine ansN (by first | (simp [*]; done) | omega) ?_ | refine ⟨by kernel_rfl, ?_⟩ | refine ansB (by decide) (by first | decide | (simp; done) | (simp only [List.length_cons, List.length_nil]; decide)) ?_ | fail); (conv => whnf)))
      (repeat' (first | (refine ansS (fun hh => ?_) (fun hh => ?_) <;> (first | simp only [ansX] at hh | skip) <;> (first | (exfalso; omega) | (exfalso; simp [*] at hh; done) | (exfalso; revert hh; decide) | exact absurd (by assumption) hh | (conv => whnf))) | ((first | refine ⟨by kernel_rfl, ?_⟩ | refine ansB (by omega) (by omega) ?_ | refine ansB (by decide) (by decide) ?_ | refine And.intro (a := _ ≤ _) (by omega) ?_ | refine And.intro (a := _ ≠ _) (by omega) ?_ | fail); (conv => whnf))))
      refine ⟨hlt, ?_⟩
      (conv => whnf)
      refine Or.inl ?_
      (conv => whnf)
      (repeat' (first | (refine ansS (fun hh => ?_) (fun hh => ?_) <;> (first | simp only [ansX] at hh | skip) <;> (first | (exfalso; omega) | (exfalso; simp [*] at hh; done) | (exfalso; revert hh; decide) | exact absurd (by assumption) hh | (conv => whnf))) | ((first | refine ⟨by kernel_rfl, ?_⟩ | refine ansB (by omega) (by omega) ?_ | refine ansB (by decide) (by decide) ?_ | refine And.intro (a := _ ≤ _) (by omega) ?_ | refine And.intro (a := _ ≠ _) (by omega) ?_ | ((try (refine Or.inl ?_; (conv => whnf))); (try (refine ⟨false, ?_⟩; (conv => whnf))); refine ⟨_, by exact c2, ?_⟩) | fail); (conv => whnf))))
      refine ⟨hlt, ?_⟩
      (conv => whnf)
      (repeat' (first | (refine ansS (fun hh => ?_) (fun hh => ?_) <;> (first | simp only [ansX] at hh | skip) <;> (first | (exfalso; omega) | (exfalso; simp [*] at hh; done) | (exfalso; revert hh; decide) | exact absurd (by assumption) hh | (conv => whnf))) | ((first | refine ⟨by kernel_rfl, ?_⟩ | refine ansB (by omega) (by omega) ?_ | refine ansB (by decide) (by decide) ?_ | refine And.intro (a := _ ≤ _) (by omega) ?_ | refine And.intro (a := _ ≠ _) (by omega) ?_ | fail); (conv => whnf))))
      (refine Or.inr ⟨[ ], [ 50, 48 ], by kernel_rfl, ?_⟩; (conv => whnf); refine ⟨[ 21, 18, 19, 20, 46 ], _, _, _, _, ⟨ pw_mayT b 2 3, rfl, rfl, by kernel_rfl⟩, ?_⟩)
      (conv => whnf)
      (repeat' (first | (refine ansS (fun hh => ?_) (fun hh => ?_) <;> (first | simp only [ansX] at hh | skip) <;> (first | (exfalso; omega) | (exfalso; simp [*] at hh; done) | (exfalso; revert hh; decide) | exact absurd (by assumption) hh | (conv => whnf))) | ((first | refine ⟨by kernel_rfl, ?_⟩ | refine ansB (by omega) (by omega) ?_ | refine ansB (by decide) (by decide) ?_ | refine And.intro (a := _ ≤ _) (by omega) ?_ | refine And.intro (a := _ ≠ _) (by omega) ?_ | ((try (refine Or.inl ?_; (conv => whnf))); (try (refine ⟨false, ?_⟩; (conv => whnf))); refine ⟨_, by exact c1 _, ?_⟩) | fail); (conv => whnf))))
      refine ⟨hlt, ?_⟩
      (conv => whnf)
      (repeat' (first | (refine ansS (fun hh => ?_) (fun hh => ?_) <;> (first | simp only [ansX] at hh | skip) <;> (first | (exfalso; omega) | (exfalso; simp [*] at hh; done) | (exfalso; revert hh; decide) | exact absurd (by assumption) hh | (conv => whnf))) | ((first | refine ⟨by kernel_rfl, ?_⟩ | refine ansB (by omega) (by omega) ?_ | refine ansB (by decide) (by decide) ?_ | refine And.intro (a := _ ≤ _) (by omega) ?_ | refine And.intro (a := _ ≠ _) (by omega) ?_ | fail); (conv => whnf))))
      all_goals (first | rfl | set_option pp.maxSteps 300 in trace_state)
  · have c := pc_namedBad b o user number h1
    unfold apvE
    rw [if_neg h1]
    by_cases hc : chkB b = true
    · rw [if_pos hc] at c ⊢
      refine pc_of_bodyF hm Tryz.func23 (by kernel_rfl) ?_
      conv => whnf
      (repeat' ((first | refine ansT ?_ | refine ansF ?_ | ((try (refine Or.inl ?_; (conv => whnf))); (try (refine ⟨false, ?_⟩; (conv => whnf))); refine ⟨_, by exact c, ?_⟩) | refine ansD (by first | (simp [*]; done) | omega) ?_ | refine ansN (by first | (simp [*]; done) | omega) ?_ | refine ⟨by kernel_rfl, ?_⟩ | refine ansB (by decide) (by first | decide | (simp; done) | (simp only [List.length_cons, List.length_nil]; decide)) ?_ | fail); (conv => whnf)))
      all_goals (first | rfl | set_option pp.maxSteps 300 in trace_state)
    · rw [if_neg hc] at c ⊢
      refine pc_of_bodyF hm Tryz.func23 (by kernel_rfl) ?_
      conv => whnf
      (repeat' ((first | refine ansT ?_ | refine ansF ?_ | ((try (refine Or.inl ?_; (conv => whnf))); (try (refine ⟨false, ?_⟩; (conv => whnf))); refine ⟨_, by exact c, ?_⟩) | refine ansD (by first | (simp [*]; done) | omega) ?_ | refine ansN (by first | (simp [*]; done) | omega) ?_ | refine ⟨by kernel_rfl, ?_⟩ | refine ansB (by decide) (by first | decide | (simp; done) | (simp only [List.length_cons, List.length_nil]; decide)) ?_ | fail); (conv => whnf)))
      all_goals (first | rfl | set_option pp.maxSteps 300 in trace_state)
end Go.Proofs.Tryz.My
