/- A helper text: contracts of functions of the program, and plain lemmas. -/
import Derived.Test.YtnoahgjfeablgaaGreatEvSix
import Derived.Test.YtnoahgjfeablgaaGreatMzBp8
set_option maxRecDepth 100000
set_option maxHeartbeats 0
set_option linter.unusedVariables false
set_option linter.unusedSimpArgs false
namespace Go.Proofs.Tryz.My
open Go Go.Ev
structure ActT where
  kind : Int
  user : Int
  number : Int
  role : Int
  gauge : GauT
  profile : List Int
def eAct (a : ActT) : List AV := [u8 a.kind, i64 a.user, i64 a.number, u8 a.role, i64 (gThr a.gauge), i64 (gNoi a.gauge), i64 (gSc a.gauge).1.1, i64 (gSc a.gauge).1.2, i64 (gSc a.gauge).2.1, i64 (gSc a.gauge).2.2, i64 a.gauge.1.2.1, i64 a.gauge.1.2.2, i64 a.gauge.2.1, i64 a.gauge.2.2, ints a.profile]
abbrev act (a : ActT) : AV := .agg (eAct a)
def knd (a : ActT) : Int := a.kind.tmod 8
def doE (b : BooksT) (a : ActT) : Int :=
  if knd a = 0 then addE b a.role else if knd a = 1 then drfE b a.user a.gauge else if knd a = 2 then apvE b a.user a.number else if knd a = 3 then actvE b a.user a.number else if knd a = 4 then retE b a.user else if knd a = 5 then rcdE b a.number a.profile else if knd a = 6 then disE b a.user a.number else setE b a.user a.number
def doB (b : BooksT) (a : ActT) : BooksT :=
  if knd a = 0 then addU b a.role else if knd a = 1 then drfB b a.user a.gauge else if knd a = 2 then apvB b a.user a.number else if knd a = 3 then actvB b a.number else if knd a = 4 then retB b (firstA b.recipes) else if knd a = 5 then rcdB b a.number a.profile else if knd a = 6 then mrkB b a.number true else mrkB b a.number false
theorem pc_actOk (b : BooksT) (o : Okay b) (a : ActT) (hp : a.profile.length < 2 ^ 20) (h : doE b a = 0) : PC Tryz.prog 48 [bks b, act a] (.tup [bks (doB b a), i64 0]) := by
  unfold doE at h
  unfold doB
  by_cases k0 : knd a = 0
  · rw [if_pos k0] at h ⊢
    have c := pc_AddUserOk b o a.role h
    clear h
    unfold knd at *
    refine pc_of_bodyF hm Tryz.func48 (by kernel_rfl) ?_
    conv => whnf
    (repeat' ((first | refine ansT ?_ | refine ansF ?_ | ((try (refine Or.inl ?_; (conv => whnf))); (try (refine ⟨false, ?_⟩; (conv => whnf))); refine ⟨_, by exact c, ?_⟩) | refine ansD (by first | (simp [*]; done) | omega) ?_ | refine ansN (by first | (simp [*]; done) | omega) ?_ | refine ⟨by kernel_rfl, ?_⟩ | refine ansB (by decide) (by first | decide | (simp; done) | (simp only [List.length_cons, List.length_nil]; decide)) ?_ | fail); (conv => whnf)))
    all_goals (first | rfl | set_option pp.maxSteps 300 in trace_state)
  rw [if_neg k0] at h ⊢
  by_cases k1 : knd a = 1
  · rw [if_pos k1] at h ⊢
    have c := pc_DraftOk b o a.user a.gauge h
    clear h
    unfold knd at *
    refine pc_of_bodyF hm Tryz.func48 (by kernel_rfl) ?_
    conv => whnf
    (repeat' ((first | refine ansT ?_ | refine ansF ?_ | ((try (refine Or.inl ?_; (conv => whnf))); (try (refine ⟨false, ?_⟩; (conv => whnf))); refine ⟨_, by exact c, ?_⟩) | refine ansD (by first | (simp [*]; done) | omega) ?_ | refine ansN (by first | (simp [*]; done) | omega) ?_ | refine ⟨by kernel_rfl, ?_⟩ | refine ansB (by decide) (by first | decide | (simp; done) | (simp only [List.length_cons, List.length_nil]; decide)) ?_ | fail); (conv => whnf)))
    all_goals (first | rfl | set_option pp.maxSteps 300 in trace_state)
  rw [if_neg k1] at h ⊢
  by_cases k2 : knd a = 2
  · rw [if_pos k2] at h ⊢
    have c := pc_ApproveOk b o a.user a.number h
    clear h
    unfold knd at *
    refine pc_of_bodyF hm Tryz.func48 (by kernel_rfl) ?_
    conv => whnf
    (repeat' ((first | refine ansT ?_ | refine ansF ?_ | ((try (refine Or.inl ?_; (conv => whnf))); (try (refine ⟨false, ?_⟩; (conv => whnf))); refine ⟨_, by exact c, ?_⟩) | refine ansD (by first | (simp [*]; done) | omega) ?_ | refine ansN (by first | (simp [*]; done) | omega) ?_ | refine ⟨by kernel_rfl, ?_⟩ | refine ansB (by decide) (by first | decide | (simp; done) | (simp only [List.length_cons, List.length_nil]; decide)) ?_ | fail); (conv => whnf)))
    all_goals (first | rfl | set_option pp.maxSteps 300 in trace_state)
  rw [if_neg k2] at h ⊢
  by_cases k3 : knd a = 3
  · rw [if_pos k3] at h ⊢
    have c := pc_ActivateOk b o a.user a.number h
    clear h
    unfold knd at *
    refine pc_of_bodyF hm Tryz.func48 (by kernel_rfl) ?_
    conv => whnf
    (repeat' ((first | refine ansT ?_ | refine ansF ?_ | ((try (refine Or.inl ?_; (conv => whnf))); (try (refine ⟨false, ?_⟩; (conv => whnf))); refine ⟨_, by exact c, ?_⟩) | refine ansD (by first | (simp [*]; done) | omega) ?_ | refine ansN (by first | (simp [*]; done) | omega) ?_ | refine ⟨by kernel_rfl, ?_⟩ | refine ansB (by decide) (by first | decide | (simp; done) | (simp only [List.length_cons, List.length_nil]; decide)) ?_ | fail); (conv => whnf)))
    all_goals (first | rfl | set_option pp.maxSteps 300 in trace_state)
  rw [if_neg k3] at h ⊢
  by_cases k4 : knd a = 4
  · rw [if_pos k4] at h ⊢
    have c := pc_RetireOk b o a.user h
    clear h
    unfold knd at *
    refine pc_of_bodyF hm Tryz.func48 (by kernel_rfl) ?_
    conv => whnf
    (repeat' ((first | refine ansT ?_ | refine ansF ?_ | ((try (refine Or.inl ?_; (conv => whnf))); (try (refine ⟨false, ?_⟩; (conv => whnf))); refine ⟨_, by exact c, ?_⟩) | refine ansD (by first | (simp [*]; done) | omega) ?_ | refine ansN (by first | (simp [*]; done) | omega) ?_ | refine ⟨by kernel_rfl, ?_⟩ | refine ansB (by decide) (by first | decide | (simp; done) | (simp only [List.length_cons, List.length_nil]; decide)) ?_ | fail); (conv => whnf)))
    all_goals (first | rfl | set_option pp.maxSteps 300 in trace_state)
  rw [if_neg k4] at h ⊢
  by_cases k5 : knd a = 5
  · rw [if_pos k5] at h ⊢
    have c := pc_RecordOk b o a.number a.profile hp h
    clear h
    unfold knd at *
    refine pc_of_bodyF hm Tryz.func48 (by kernel_rfl) ?_
    conv => whnf
    (repeat' ((first | refine ansT ?_ | refine ansF ?_ | ((try (refine Or.inl ?_; (conv => whnf))); (try (refine ⟨false, ?_⟩; (conv => whnf))); refine ⟨_, by exact c, ?_⟩) | refine ansD (by first | (simp [*]; done) | omega) ?_ | refine ansN (by first | (simp [*]; done) | omega) ?_ | refine ⟨by kernel_rfl, ?_⟩ | refine ansB (by decide) (by first | decide | (simp; done) | (simp only [List.length_cons, List.length_nil]; decide)) ?_ | fail); (conv => whnf)))
    all_goals (first | rfl | set_option pp.maxSteps 300 in trace_state)
  rw [if_neg k5] at h ⊢
  by_cases k6 : knd a = 6
  · rw [if_pos k6] at h ⊢
    have c := pc_DisputeOk b o a.user a.number h
    clear h
    unfold knd at *
    refine pc_of_bodyF hm Tryz.func48 (by kernel_rfl) ?_
    conv => whnf
    (repeat' ((first | refine ansT ?_ | refine ansF ?_ | ((try (refine Or.inl ?_; (conv => whnf))); (try (refine ⟨false, ?_⟩; (conv => whnf))); refine ⟨_, by exact c, ?_⟩) | refine ansD (by first | (simp [*]; done) | omega) ?_ | refine ansN (by first | (simp [*]; done) | omega) ?_ | refine ⟨by kernel_rfl, ?_⟩ | refine ansB (by decide) (by first | decide | (simp; done) | (simp only [List.length_cons, List.length_nil]; decide)) ?_ | fail); (conv => whnf)))
    all_goals (first | rfl | set_option pp.maxSteps 300 in trace_state)
  rw [if_neg k6] at h ⊢
  have c := pc_SettleOk b o a.user a.number h
  clear h
  unfold knd at *
  refine pc_of_bodyF hm Tryz.func48 (by kernel_rfl) ?_
  conv => whnf
  (repeat' ((first | refine ansT ?_ | refine ansF ?_ | ((try (refine Or.inl ?_; (conv => whnf))); (try (refine ⟨false, ?_⟩; (conv => whnf))); refine ⟨_, by exact c, ?_⟩) | refine ansD (by first | (simp [*]; done) | omega) ?_ | refine ansN (by first | (simp [*]; done) | omega) ?_ | refine ⟨by kernel_rfl, ?_⟩ | refine ansB (by decide) (by first | decide | (simp; done) | (simp only [List.length_cons, List.length_nil]; decide)) ?_ | fail); (conv => whnf)))
  all_goals (first | rfl | set_option pp.maxSteps 300 in trace_state)
theorem pc_actBad (b : BooksT) (o : Okay b) (a : ActT) (hp : a.profile.length < 2 ^ 20) (h : ¬doE b a = 0) : PC Tryz.prog 48 [bks b, act a] (.tup [newB 0, i64 (doE b a)]) := by
  unfold doE at h ⊢
  by_cases k0 : knd a = 0
  · rw [if_pos k0] at h ⊢
    have c := pc_AddUserBad b o a.role h
    clear h
    unfold knd at *
    refine pc_of_bodyF hm Tryz.func48 (by kernel_rfl) ?_
    conv => whnf
    (repeat' ((first | refine ansT ?_ | refine ansF ?_ | ((try (refine Or.inl ?_; (conv => whnf))); (try (refine ⟨false, ?_⟩; (conv => whnf))); refine ⟨_, by exact c, ?_⟩) | refine ansD (by first | (simp [*]; done) | omega) ?_ | refine ansN (by first | (simp [*]; done) | omega) ?_ | refine ⟨by kernel_rfl, ?_⟩ | refine ansB (by decide) (by first | decide | (simp; done) | (simp only [List.length_cons, List.length_nil]; decide)) ?_ | fail); (conv => whnf)))
    all_goals (first | rfl | set_option pp.maxSteps 300 in trace_state)
  rw [if_neg k0] at h ⊢
  by_cases k1 : knd a = 1
  · rw [if_pos k1] at h ⊢
    have c := pc_DraftBad b o a.user a.gauge h
    clear h
    unfold knd at *
    refine pc_of_bodyF hm Tryz.func48 (by kernel_rfl) ?_
    conv => whnf
    (repeat' ((first | refine ansT ?_ | refine ansF ?_ | ((try (refine Or.inl ?_; (conv => whnf))); (try (refine ⟨false, ?_⟩; (conv => whnf))); refine ⟨_, by exact c, ?_⟩) | refine ansD (by first | (simp [*]; done) | omega) ?_ | refine ansN (by first | (simp [*]; done) | omega) ?_ | refine ⟨by kernel_rfl, ?_⟩ | refine ansB (by decide) (by first | decide | (simp; done) | (simp only [List.length_cons, List.length_nil]; decide)) ?_ | fail); (conv => whnf)))
    all_goals (first | rfl | set_option pp.maxSteps 300 in trace_state)
  rw [if_neg k1] at h ⊢
  by_cases k2 : knd a = 2
  · rw [if_pos k2] at h ⊢
    have c := pc_ApproveBad b o a.user a.number h
    clear h
    unfold knd at *
    refine pc_of_bodyF hm Tryz.func48 (by kernel_rfl) ?_
    conv => whnf
    (repeat' ((first | refine ansT ?_ | refine ansF ?_ | ((try (refine Or.inl ?_; (conv => whnf))); (try (refine ⟨false, ?_⟩; (conv => whnf))); refine ⟨_, by exact c, ?_⟩) | refine ansD (by first | (simp [*]; done) | omega) ?_ | refine ansN (by first | (simp [*]; done) | omega) ?_ | refine ⟨by kernel_rfl, ?_⟩ | refine ansB (by decide) (by first | decide | (simp; done) | (simp only [List.length_cons, List.length_nil]; decide)) ?_ | fail); (conv => whnf)))
    all_goals (first | rfl | set_option pp.maxSteps 300 in trace_state)
  rw [if_neg k2] at h ⊢
  by_cases k3 : knd a = 3
  · rw [if_pos k3] at h ⊢
    have c := pc_ActivateBad b o a.user a.number h
    clear h
    unfold knd at *
    refine pc_of_bodyF hm Tryz.func48 (by kernel_rfl) ?_
    conv => whnf
    (repeat' ((first | refine ansT ?_ | refine ansF ?_ | ((try (refine Or.inl ?_; (conv => whnf))); (try (refine ⟨false, ?_⟩; (conv => whnf))); refine ⟨_, by exact c, ?_⟩) | refine ansD (by first | (simp [*]; done) | omega) ?_ | refine ansN (by first | (simp [*]; done) | omega) ?_ | refine ⟨by kernel_rfl, ?_⟩ | refine ansB (by decide) (by first | decide | (simp; done) | (simp only [List.length_cons, List.length_nil]; decide)) ?_ | fail); (conv => whnf)))
    all_goals (first | rfl | set_option pp.maxSteps 300 in trace_state)
  rw [if_neg k3] at h ⊢
  by_cases k4 : knd a = 4
  · rw [if_pos k4] at h ⊢
    have c := pc_RetireBad b o a.user h
    clear h
    unfold knd at *
    refine pc_of_bodyF hm Tryz.func48 (by kernel_rfl) ?_
    conv => whnf
    (repeat' ((first | refine ansT ?_ | refine ansF ?_ | ((try (refine Or.inl ?_; (conv => whnf))); (try (refine ⟨false, ?_⟩; (conv => whnf))); refine ⟨_, by exact c, ?_⟩) | refine ansD (by first | (simp [*]; done) | omega) ?_ | refine ansN (by first | (simp [*]; done) | omega) ?_ | refine ⟨by kernel_rfl, ?_⟩ | refine ansB (by decide) (by first | decide | (simp; done) | (simp only [List.length_cons, List.length_nil]; decide)) ?_ | fail); (conv => whnf)))
    all_goals (first | rfl | set_option pp.maxSteps 300 in trace_state)
  rw [if_neg k4] at h ⊢
  by_cases k5 : knd a = 5
  · rw [if_pos k5] at h ⊢
    have c := pc_RecordBad b o a.number a.profile hp h
    clear h
    unfold knd at *
    refine pc_of_bodyF hm Tryz.func48 (by kernel_rfl) ?_
    conv => whnf
    (repeat' ((first | refine ansT ?_ | refine ansF ?_ | ((try (refine Or.inl ?_; (conv => whnf))); (try (refine ⟨false, ?_⟩; (conv => whnf))); refine ⟨_, by exact c, ?_⟩) | refine ansD (by first | (simp [*]; done) | omega) ?_ | refine ansN (by first | (simp [*]; done) | omega) ?_ | refine ⟨by kernel_rfl, ?_⟩ | refine ansB (by decide) (by first | decide | (simp; done) | (simp only [List.length_cons, List.length_nil]; decide)) ?_ | fail); (conv => whnf)))
    all_goals (first | rfl | set_option pp.maxSteps 300 in trace_state)
  rw [if_neg k5] at h ⊢
  by_cases k6 : knd a = 6
  · rw [if_pos k6] at h ⊢
    have c := pc_DisputeBad b o a.user a.number h
    clear h
    unfold knd at *
    refine pc_of_bodyF hm Tryz.func48 (by kernel_rfl) ?_
    conv => whnf
    (repeat' ((first | refine ansT ?_ | refine ansF ?_ | ((try (refine Or.inl ?_; (conv => whnf))); (try (refine ⟨false, ?_⟩; (conv => whnf))); refine ⟨_, by exact c, ?_⟩) | refine ansD (by first | (simp [*]; done) | omega) ?_ | refine ansN (by first | (simp [*]; done) | omega) ?_ | refine ⟨by kernel_rfl, ?_⟩ | refine ansB (by decide) (by first | decide | (simp; done) | (simp only [List.length_cons, List.length_nil]; decide)) ?_ | fail); (conv => whnf)))
    all_goals (first | rfl | set_option pp.maxSteps 300 in trace_state)
  rw [if_neg k6] at h ⊢
  have c := pc_SettleBad b o a.user a.number h
  clear h
  unfold knd at *
  refine pc_of_bodyF hm Tryz.func48 (by kernel_rfl) ?_
  conv => whnf
  (repeat' ((first | refine ansT ?_ | refine ansF ?_ | ((try (refine Or.inl ?_; (conv => whnf))); (try (refine ⟨false, ?_⟩; (conv => whnf))); refine ⟨_, by exact c, ?_⟩) | refine ansD (by first | (simp [*]; done) | omega) ?_ | refine ansN (by first | (simp [*]; done) | omega) ?_ | refine ⟨by kernel_rfl, ?_⟩ | refine ansB (by decide) (by first | decide | (simp; done) | (simp only [List.length_cons, List.length_nil]; decide)) ?_ | fail); (conv => whnf)))
  all_goals (first | rfl | set_option pp.maxSteps 300 in trace_state)
end Go.Proofs.Tryz.My
