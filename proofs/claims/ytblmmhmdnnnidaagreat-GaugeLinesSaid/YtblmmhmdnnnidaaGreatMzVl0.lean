/- A helper text: contracts of functions of the program, and plain lemmas. -/
import Derived.Test.YtblmmhmdnnnidaaGreatMzVw0
import Derived.Test.YtblmmhmdnnnidaaGreatMzFl
set_option maxRecDepth 100000
set_option maxHeartbeats 0
set_option linter.unusedVariables false
set_option linter.unusedSimpArgs false
namespace Go.Proofs.Tryz.My
open Go Go.Ev

theorem down_up {n d : Int} (hd : 0 < d) (h1 : n < 0) (h2 : Int.tmod n d ≠ 0) : n / d = Int.tdiv n d - 1 := by
  refine floor_up hd ?_
  obtain ⟨m, rfl⟩ : ∃ m, n = -m := ⟨-n, by omega⟩
  rw [Int.neg_tmod] at h2
  have e := Int.mul_tdiv_add_tmod m d
  have k := Int.tmod_nonneg d (show 0 ≤ m by omega)
  rw [Int.neg_tdiv, Int.neg_mul]
  rw [Int.mul_comm] at e
  generalize Int.tdiv m d * d = x at *
  omega
theorem down_eq {n d : Int} (hd : 0 < d) (h : ¬ (n < 0 ∧ Int.tmod n d ≠ 0)) : n / d = Int.tdiv n d := by
  refine floor_eq hd fun k => h ?_
  have e := Int.mul_tdiv_add_tmod n d
  rw [Int.mul_comm] at e
  refine ⟨Int.not_le.1 fun hn => ?_, fun h0 => ?_⟩
  · have := Int.tmod_nonneg d hn
    omega
  · omega
theorem ceil_bound {a : Int × Int} (h : validB a = true) : -4611686018427387903 ≤ -a.1 / a.2 ∧ -a.1 / a.2 ≤ 4611686018427387903 := by
  obtain ⟨v1, v2, v3, v4, _⟩ := (validB_iff a).1 h
  have k1 := Int.ediv_mul_le (-a.1) (b := a.2) (by omega)
  have k2 := Int.lt_ediv_add_one_mul_self (-a.1) (b := a.2) (by omega)
  generalize -a.1 / a.2 = q at *
  constructor
  · refine Int.not_lt.1 fun hq => ?_
    have := Int.mul_le_mul_of_nonneg_right (show q + 1 ≤ -4611686018427387903 by omega) (show 0 ≤ a.2 by omega)
    omega
  · refine Int.not_lt.1 fun hq => ?_
    have := Int.mul_le_mul_of_nonneg_right (show 4611686018427387903 + 1 ≤ q by omega) (show 0 ≤ a.2 by omega)
    omega
theorem edge_ends {p : List Int} {thr noise : Int} (h : (edgF p thr 0 noise 1).2 = 0) (hl : p.length ≤ 16) :
    (mulF (edgF p thr 0 noise 1).1.1 (16, 1)).2 = 0 ∧ (mulF (edgF p thr 0 noise 1).1.2 (16, 1)).2 = 0 ∧ validB (edgF p thr 0 noise 1).1.1 = true ∧ validB (edgF p thr 0 noise 1).1.2 = true ∧ validB (mulF (edgF p thr 0 noise 1).1.1 (16, 1)).1 = true ∧ validB (mulF (edgF p thr 0 noise 1).1.2 (16, 1)).1 = true ∧
      (mulS (edgF p thr 0 noise 1).1 s16).1 = ((mulF (edgF p thr 0 noise 1).1.1 (16, 1)).1, (mulF (edgF p thr 0 noise 1).1.2 (16, 1)).1) := by
  obtain ⟨hp, hk, _, sb, k, j, bk, bj, e, q1, q2⟩ := edg_known (.inl rfl) h
  obtain ⟨t1, t2, _, a2, n1, n2⟩ := ask_known hk
  have lk := prof_len hp
  obtain ⟨v1, _, _, x1, d1, f1, g1, g2, g3, g4⟩ := place_range (movL_byte p (-noise)) (by rw [movL_length]; omega) (by rw [movL_length]; omega) t1 t2 bk
  obtain ⟨v2, _, _, x2, d2, f2, k1, k2, k3, k4⟩ := place_range (movL_byte p noise) (by rw [movL_length]; omega) (by rw [movL_length]; omega) t1 t2 bj
  rw [if_neg (by decide)] at e
  generalize placeF (movL p (-noise)) thr 0 1 k = b at *
  generalize placeF (movL p noise) thr 0 1 j = a at *
  generalize edgF p thr 0 noise 1 = E at *
  obtain ⟨S, E2⟩ := E
  simp only [] at e sb
  subst e
  obtain ⟨w1, wv1, wq1⟩ := mul16 v1 f1 g1 g2 g3 g4
  obtain ⟨w2, wv2, wq2⟩ := mul16 v2 f2 k1 k2 k3 k4
  have s1 : spanB s16 = true := by decide
  have e2 : mulS (a, b) s16 = fourF (mulF a (16, 1)) (mulF a (16, 1)) (mulF b (16, 1)) (mulF b (16, 1)) := mulS_eq sb s1
  obtain ⟨_, _, o⟩ := spanB_qv.1 sb
  simp only [] at o
  have le : qv (mulF a (16, 1)).1 ≤ qv (mulF b (16, 1)).1 := by rw [wq1, wq2]; grind
  have L : lesF (mulF a (16, 1)).1 (mulF b (16, 1)).1 = (mulF a (16, 1)).1 := by
    obtain ⟨l1, l2, l3⟩ := lesF_qv wv2 wv1
    rcases l3 with l | l
    · exact l
    · rw [l] at l1 ⊢
      exact (qv_eq wv1 wv2).1 (Rat.le_antisymm l1 le)
  have G : greF (mulF a (16, 1)).1 (mulF b (16, 1)).1 = (mulF b (16, 1)).1 := by
    obtain ⟨l1, l2, l3⟩ := greF_qv wv2 wv1
    rcases l3 with l | l
    · rw [l] at l2 ⊢
      exact (qv_eq wv2 wv1).1 (Rat.le_antisymm le l2)
    · exact l
  have LB : lesF (mulF a (16, 1)).1 (mulF a (16, 1)).1 = (mulF a (16, 1)).1 := lesF_self _
  have GB : greF (mulF b (16, 1)).1 (mulF b (16, 1)).1 = (mulF b (16, 1)).1 := greF_self _
  refine ⟨w2, w1, v2, v1, wv2, wv1, ?_⟩
  rw [e2]
  unfold fourF
  rw [if_pos ⟨w2, w2, w1, w1⟩, lesF_self, L, L, greF_self, G, GB]
end Go.Proofs.Tryz.My
