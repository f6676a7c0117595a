/- LensHolds holds for every input: each pair that fulfils all views that are not loose is in the camera and in the ranges. No conditions. -/
import Derived.Test.YtggbiibaiohefaaMnRc1
import Derived.Test.YtggbiibaiohefaaMnAm2
import Derived.Test.YtggbiibaiohefaaMnSi
import Derived.Test.YtggbiibaiohefaaMnLvB
import Derived.Test.YtggbiibaiohefaaMnGc1
import Derived.Test.YtggbiibaiohefaaEvZ
import Derived.Test.YtggbiibaiohefaaEvZa
import Derived.Test.YtggbiibaiohefaaMnIniA
import Derived.Test.YtggbiibaiohefaaRows
import Derived.WalkKit
import Derived.ProofKit
import Derived.OpenShut
import Derived.ChangeOld
import Derived.Below
set_option maxRecDepth 100000
set_option maxHeartbeats 0
set_option linter.unusedVariables false
set_option linter.unusedSimpArgs false
namespace Go.Proofs.Try.My
open Go Go.Ev

def mxI (d : Int) : Int := if 1 > d then 1 else d
theorem pc_pair (f c d : Int) (h1 : I64 f) (h2 : I64 c) (h3 : I64 d) : PC Try.prog 20 [.int .i16 f, .int .i16 c, .int .i16 d] (.agg [i64 f, i64 c, i64 (mxI d)]) := by
  have w1 : IntKind.i64.wrap f = f := w64 _ h1.1 h1.2
  have w2 : IntKind.i64.wrap c = c := w64 _ h2.1 h2.2
  have w3 : IntKind.i64.wrap d = d := w64 _ h3.1 h3.2
  refine pc_of_body hm Try.func20 (by kernel_rfl) ?_
  conv => whnf
  (repeat' (first | (refine ⟨by kernel_rfl, ?_⟩; (conv => whnf)) | fail))
  rw [w1, w2, w3]
  rfl
theorem pc_at (n d : Int) (h1 : I64 n) (h2 : I64 d) : PC Try.prog 25 [i64 n, i64 d] (fr (makeF n d).1) := by
  have c := pc_Make n d h1 h2
  generalize makeF n d = r at *
  refine pc_of_body hm Try.func25 (by kernel_rfl) ?_
  conv => whnf
  (repeat' (first | (refine ⟨_, by first | with_reducible exact c, ?_⟩; (conv => whnf)) | (refine Or.inl ?_; (conv => whnf); refine ⟨_, by first | with_reducible exact c, ?_⟩; (conv => whnf)) | (refine Or.inl ?_; (conv => whnf); refine ⟨false, ?_⟩; (conv => whnf); refine ⟨_, by first | with_reducible exact c, ?_⟩; (conv => whnf)) | (refine ⟨by kernel_rfl, ?_⟩; (conv => whnf)) | fail))
theorem lhOut (l : List SpT) (f c d x z : Int) (h : 12 < l.length ∨ x < -1000 ∨ 1000 < x ∨ z < 1 ∨ 1000 < z) : PC Try.prog 4 [vws l, .int .i16 f, .int .i16 c, .int .i16 d, i64 x, i64 z] (.bool true) := by
  have al := pc_alive4
  refine pc_of_body hm Try.func4 (by kernel_rfl) ?_
  conv => whnf
  (repeat' (first | (refine ⟨_, by first | with_reducible exact al, ?_⟩; (conv => whnf)) | (refine Or.inl ?_; (conv => whnf); refine ⟨_, by first | with_reducible exact al, ?_⟩; (conv => whnf)) | (refine Or.inl ?_; (conv => whnf); refine ⟨false, ?_⟩; (conv => whnf); refine ⟨_, by first | with_reducible exact al, ?_⟩; (conv => whnf)) | (refine ⟨by kernel_rfl, ?_⟩; (conv => whnf)) | (refine ⟨fun _ => ?_, fun h => absurd h (by first | decide | (simp; done) | fail)⟩; (conv => whnf)) | (refine ⟨fun h => absurd h (by first | decide | (simp; done) | fail), fun _ => ?_⟩; (conv => whnf)) | ((with_reducible refine And.intro (a := _ = true → _) (b := _ = false → _) (fun hh => ?_) (fun hh => ?_)) <;> (try simp only [decide_eq_true_eq, decide_eq_false_iff_not, Bool.or_eq_true, Bool.and_eq_true, Bool.or_eq_false_iff, Bool.and_eq_false_iff, Bool.not_eq_true', Bool.not_eq_false', ge_iff_le, gt_iff_lt] at hh) <;> (first | (exfalso; omega) | (conv => whnf))) | fail))
  all_goals (first | rfl | (exfalso; omega))
/-- Not all views are valid: k is the first that is not. -/
theorem lhView (l : List SpT) (f c d x z N M D : Int) (hl : l.length ≤ 12) (hx : -1000 ≤ x ∧ x ≤ 1000) (hz : 1 ≤ z ∧ z ≤ 1000) (kp : PC Try.prog 20 [.int .i16 f, .int .i16 c, .int .i16 d] (.agg [i64 N, i64 M, i64 D]))
    (k : Nat) (hk : k < l.length) (hb : viewB (l.getD k z4) = false) (hlow : ∀ j, j < k → viewB (l.getD j z4) = true) :
    PC Try.prog 4 [vws l, .int .i16 f, .int .i16 c, .int .i16 d, i64 x, i64 z] (.bool true) := by
  have al := pc_alive4
  refine pc_of_body hm Try.func4 (by kernel_rfl) ?_
  conv => whnf
  (repeat' (first | (refine ⟨_, by first | with_reducible exact al | with_reducible exact kp, ?_⟩; (conv => whnf)) | (refine Or.inl ?_; (conv => whnf); refine ⟨_, by first | with_reducible exact al | with_reducible exact kp, ?_⟩; (conv => whnf)) | (refine Or.inl ?_; (conv => whnf); refine ⟨false, ?_⟩; (conv => whnf); refine ⟨_, by first | with_reducible exact al | with_reducible exact kp, ?_⟩; (conv => whnf)) | (refine ⟨by kernel_rfl, ?_⟩; (conv => whnf)) | (refine ⟨fun _ => ?_, fun h => absurd h (by first | decide | (simp; done) | fail)⟩; (conv => whnf)) | (refine ⟨fun h => absurd h (by first | decide | (simp; done) | fail), fun _ => ?_⟩; (conv => whnf)) | ((with_reducible refine And.intro (a := _ = true → _) (b := _ = false → _) (fun hh => ?_) (fun hh => ?_)) <;> (try simp only [decide_eq_true_eq, decide_eq_false_iff_not, Bool.or_eq_true, Bool.and_eq_true, Bool.or_eq_false_iff, Bool.and_eq_false_iff, Bool.not_eq_true', Bool.not_eq_false', ge_iff_le, gt_iff_lt] at hh) <;> (first | (exfalso; omega) | (conv => whnf))) | fail))
  refine Or.inr ⟨Nat, [59], [], [], fun i => [i64 i], fun _ => [], fun _ => [], fun i => l.length - i, fun i => i ≤ k, ?_⟩
  (conv => whnf)
  refine ⟨⟨0, ?_⟩, ?_⟩
  · (conv => whnf)
    exact ⟨⟨Nat.zero_le _, rfl, rfl, rfl⟩, by kernel_rfl, by kernel_rfl⟩
  · intro i hi
    (conv => whnf)
    refine ⟨fun h => ?_, fun h => ?_⟩
    · have h := of_decide_eq_true h
      have h' : i < l.length := Int.ofNat_lt.1 h
      have cv := pc_rValidView (l.getD i z4)
      have e1 : viewB (l.getD i z4) = decide (i < k) := by
        by_cases e : i < k
        · rw [hlow i e]; simp [e]
        · obtain rfl : i = k := by omega
          rw [hb]; simp
      rw [e1] at cv
      (conv => whnf)
      (repeat' (first | (refine ⟨by kernel_rfl, ?_⟩; (conv => whnf)) | (refine And.intro (a := _ ∧ _) ⟨by omega, by omega⟩ ?_; (conv => whnf))))
      (repeat' (first | (refine ⟨_, by first | exact cv, ?_⟩; (conv => whnf)) | (refine Or.inl ?_; (conv => whnf); refine ⟨_, by first | exact cv, ?_⟩; (conv => whnf)) | (refine Or.inl ?_; (conv => whnf); refine ⟨false, ?_⟩; (conv => whnf); refine ⟨_, by first | exact cv, ?_⟩; (conv => whnf)) | (refine ⟨by kernel_rfl, ?_⟩; (conv => whnf)) | fail))
      refine ⟨fun h1 => ?_, fun h1 => ?_⟩
      · (conv => whnf)
        first | rfl | (repeat' (first | (refine ⟨by kernel_rfl, ?_⟩; (conv => whnf)) | fail))
      · have h1 : i < k := by simpa using h1
        (conv => whnf)
        refine ⟨i + 1, ?_⟩
        (conv => whnf)
        refine ⟨⟨⟨Nat.sub_lt_sub_left (by omega) (Nat.lt_succ_self i), by omega⟩, ?_, rfl, rfl⟩, by kernel_rfl, by kernel_rfl⟩
        rw [w64 _ (by omega) (by omega)]; rfl
    · have h := of_decide_eq_false h
      exfalso; omega
theorem lhOk (l : List SpT) (f c d x z N M D : Int) (hl : l.length ≤ 12) (hx : -1000 ≤ x ∧ x ≤ 1000) (hz : 1 ≤ z ∧ z ≤ 1000) (kp : PC Try.prog 20 [.int .i16 f, .int .i16 c, .int .i16 d] (.agg [i64 N, i64 M, i64 D]))
    (hv : ∀ v ∈ l, viewB v = true) (b1 b2 : Bool) (ka : PC Try.prog 22 [.agg [i64 N, i64 M, i64 D], vws l] (.bool b1)) (kb : PC Try.prog 23 [vws l] (.bool b2))
    (F1 F2 F3 F4 C1 C2 C3 C4 R1 R2 R3 R4 e g n p1 p2 q1 q2 r1 r2 : Int) (kc : PC Try.prog 13 [vws l] (.tup [cam (((F1, F2), (F3, F4)), ((C1, C2), (C3, C4))), i64 e])) (kr : PC Try.prog 15 [vws l, i64 x, i64 z] (.tup [sp ((R1, R2), (R3, R4)), i64 g]))
    (a1 : PC Try.prog 25 [i64 N, i64 D] (fr (p1, p2))) (a2 : PC Try.prog 25 [i64 M, i64 D] (fr (q1, q2))) (a3 : PC Try.prog 25 [i64 (IntKind.i64.wrap (IntKind.i64.wrap (N * x) + IntKind.i64.wrap (M * z))), i64 (IntKind.i64.wrap (D * z))] (fr (r1, r2)))
    (i1 : b1 = true → b2 = false → PC Try.prog 24 [sp ((F1, F2), (F3, F4)), fr (p1, p2)] (.tup [.bool true, i64 0])) (i2 : b1 = true → b2 = false → PC Try.prog 24 [sp ((C1, C2), (C3, C4)), fr (q1, q2)] (.tup [.bool true, i64 0])) (i3 : b1 = true → b2 = false → PC Try.prog 24 [sp ((R1, R2), (R3, R4)), fr (r1, r2)] (.tup [.bool true, i64 0]))
    (kf : PC Try.prog 11 [vws l] (.tup [i64 n, i64 0])) (hok : b1 = true → b2 = false → e = 0 ∧ g = 0 ∧ n = -1) :
    PC Try.prog 4 [vws l, .int .i16 f, .int .i16 c, .int .i16 d, i64 x, i64 z] (.bool true) := by
  have al := pc_alive4
  refine pc_of_body hm Try.func4 (by kernel_rfl) ?_
  conv => whnf
  (repeat' (first | (refine ⟨_, by first | with_reducible exact al | with_reducible exact kp, ?_⟩; (conv => whnf)) | (refine Or.inl ?_; (conv => whnf); refine ⟨_, by first | with_reducible exact al | with_reducible exact kp, ?_⟩; (conv => whnf)) | (refine Or.inl ?_; (conv => whnf); refine ⟨false, ?_⟩; (conv => whnf); refine ⟨_, by first | with_reducible exact al | with_reducible exact kp, ?_⟩; (conv => whnf)) | (refine ⟨by kernel_rfl, ?_⟩; (conv => whnf)) | (refine ⟨fun _ => ?_, fun h => absurd h (by first | decide | (simp; done) | fail)⟩; (conv => whnf)) | (refine ⟨fun h => absurd h (by first | decide | (simp; done) | fail), fun _ => ?_⟩; (conv => whnf)) | ((with_reducible refine And.intro (a := _ = true → _) (b := _ = false → _) (fun hh => ?_) (fun hh => ?_)) <;> (try simp only [decide_eq_true_eq, decide_eq_false_iff_not, Bool.or_eq_true, Bool.and_eq_true, Bool.or_eq_false_iff, Bool.and_eq_false_iff, Bool.not_eq_true', Bool.not_eq_false', ge_iff_le, gt_iff_lt] at hh) <;> (first | (exfalso; omega) | (conv => whnf))) | fail))
  refine Or.inr ⟨Nat, [59], [], [], fun i => [i64 i], fun _ => [], fun _ => [], fun i => l.length - i, fun i => i ≤ l.length, ?_⟩
  (conv => whnf)
  refine ⟨⟨0, ?_⟩, ?_⟩
  · (conv => whnf)
    exact ⟨⟨Nat.zero_le _, rfl, rfl, rfl⟩, by kernel_rfl, by kernel_rfl⟩
  · intro i hi
    (conv => whnf)
    refine ⟨fun h => ?_, fun h => ?_⟩
    · have h := of_decide_eq_true h
      have h' : i < l.length := Int.ofNat_lt.1 h
      have cv := pc_rValidView (l.getD i z4)
      have e1 : viewB (l.getD i z4) = true := hv _ (by
        simp only [List.getD, List.getElem?_eq_getElem h', Option.getD_some]
        exact List.getElem_mem h')
      rw [e1] at cv
      (conv => whnf)
      (repeat' (first | (refine ⟨by kernel_rfl, ?_⟩; (conv => whnf)) | (refine And.intro (a := _ ∧ _) ⟨by omega, by omega⟩ ?_; (conv => whnf))))
      (repeat' (first | (refine ⟨_, by first | exact cv, ?_⟩; (conv => whnf)) | (refine Or.inl ?_; (conv => whnf); refine ⟨_, by first | exact cv, ?_⟩; (conv => whnf)) | (refine Or.inl ?_; (conv => whnf); refine ⟨false, ?_⟩; (conv => whnf); refine ⟨_, by first | exact cv, ?_⟩; (conv => whnf)) | (refine ⟨by kernel_rfl, ?_⟩; (conv => whnf)) | (refine ⟨fun _ => ?_, fun h => absurd h (by first | decide | (simp; done) | fail)⟩; (conv => whnf)) | (refine ⟨fun h => absurd h (by first | decide | (simp; done) | fail), fun _ => ?_⟩; (conv => whnf)) | fail))
      refine ⟨i + 1, ?_⟩
      (conv => whnf)
      refine ⟨⟨⟨Nat.sub_lt_sub_left (by omega) (Nat.lt_succ_self i), by omega⟩, ?_, rfl, rfl⟩, by kernel_rfl, by kernel_rfl⟩
      rw [w64 _ (by omega) (by omega)]; rfl
    · (conv => whnf)
      cases b1
      · clear i1 i2 i3 hok
        (repeat' (first | (refine ⟨_, by first | with_reducible exact ka, ?_⟩; (conv => whnf)) | (refine Or.inl ?_; (conv => whnf); refine ⟨_, by first | with_reducible exact ka, ?_⟩; (conv => whnf)) | (refine Or.inl ?_; (conv => whnf); refine ⟨false, ?_⟩; (conv => whnf); refine ⟨_, by first | with_reducible exact ka, ?_⟩; (conv => whnf)) | (refine ⟨by kernel_rfl, ?_⟩; (conv => whnf)) | (refine ⟨fun _ => ?_, fun h => absurd h (by first | decide | (simp; done) | fail)⟩; (conv => whnf)) | (refine ⟨fun h => absurd h (by first | decide | (simp; done) | fail), fun _ => ?_⟩; (conv => whnf)) | fail))
        all_goals (first | rfl | set_option pp.maxSteps 300 in trace_state)
      · cases b2
        · obtain ⟨rfl, rfl, rfl⟩ := hok rfl rfl
          have i1 := i1 rfl rfl
          have i2 := i2 rfl rfl
          have i3 := i3 rfl rfl
          (repeat' (first | (refine ⟨_, by first | with_reducible exact ka | with_reducible exact kb | with_reducible exact kc | with_reducible exact kr | with_reducible exact a1 | with_reducible exact i1 | with_reducible exact a2 | with_reducible exact i2 | with_reducible exact a3 | with_reducible exact i3 | with_reducible exact kf, ?_⟩; (conv => whnf)) | (refine Or.inl ?_; (conv => whnf); refine ⟨_, by first | with_reducible exact ka | with_reducible exact kb | with_reducible exact kc | with_reducible exact kr | with_reducible exact a1 | with_reducible exact i1 | with_reducible exact a2 | with_reducible exact i2 | with_reducible exact a3 | with_reducible exact i3 | with_reducible exact kf, ?_⟩; (conv => whnf)) | (refine Or.inl ?_; (conv => whnf); refine ⟨false, ?_⟩; (conv => whnf); refine ⟨_, by first | with_reducible exact ka | with_reducible exact kb | with_reducible exact kc | with_reducible exact kr | with_reducible exact a1 | with_reducible exact i1 | with_reducible exact a2 | with_reducible exact i2 | with_reducible exact a3 | with_reducible exact i3 | with_reducible exact kf, ?_⟩; (conv => whnf)) | (refine ⟨by kernel_rfl, ?_⟩; (conv => whnf)) | (refine ⟨fun _ => ?_, fun h => absurd h (by first | decide | (simp; done) | fail)⟩; (conv => whnf)) | (refine ⟨fun h => absurd h (by first | decide | (simp; done) | fail), fun _ => ?_⟩; (conv => whnf)) | fail))
          all_goals (first | rfl | set_option pp.maxSteps 300 in trace_state)
        · clear i1 i2 i3 hok
          (repeat' (first | (refine ⟨_, by first | with_reducible exact ka | with_reducible exact kb, ?_⟩; (conv => whnf)) | (refine Or.inl ?_; (conv => whnf); refine ⟨_, by first | with_reducible exact ka | with_reducible exact kb, ?_⟩; (conv => whnf)) | (refine Or.inl ?_; (conv => whnf); refine ⟨false, ?_⟩; (conv => whnf); refine ⟨_, by first | with_reducible exact ka | with_reducible exact kb, ?_⟩; (conv => whnf)) | (refine ⟨by kernel_rfl, ?_⟩; (conv => whnf)) | (refine ⟨fun _ => ?_, fun h => absurd h (by first | decide | (simp; done) | fail)⟩; (conv => whnf)) | (refine ⟨fun h => absurd h (by first | decide | (simp; done) | fail), fun _ => ?_⟩; (conv => whnf)) | fail))
          all_goals (first | rfl | set_option pp.maxSteps 300 in trace_state)
theorem pc_LensHolds (l : List SpT) (f : Int) (wf : (Lit.int .i16 f).wf = true) (c : Int) (wc : (Lit.int .i16 c).wf = true) (d : Int) (wd : (Lit.int .i16 d).wf = true) (x z : Int) :
    PC Try.prog 4 [vws l, .int .i16 f, .int .i16 c, .int .i16 d, i64 x, i64 z] (.bool true) := by
  have rng : ∀ n : Int, (Lit.int .i16 n).wf = true → -32768 ≤ n ∧ n ≤ 32767 := fun n h => by
    simp [Lit.wf, IntKind.min, IntKind.max, IntKind.signed, IntKind.bits] at h
    omega
  have rf := rng f wf
  have rc := rng c wc
  have rd := rng d wd
  clear wf wc wd rng
  by_cases ho : 12 < l.length ∨ x < -1000 ∨ 1000 < x ∨ z < 1 ∨ 1000 < z
  · exact lhOut l f c d x z ho
  have hl : l.length ≤ 12 := by omega
  have hx : -1000 ≤ x ∧ x ≤ 1000 := by omega
  have hz : 1 ≤ z ∧ z ≤ 1000 := by omega
  have kp := pc_pair f c d (by unfold I64; omega) (by unfold I64; omega) (by unfold I64; omega)
  by_cases hv : ∃ k, k < l.length ∧ viewB (l.getD k z4) = false
  · -- the first that is not valid
    have key : ∀ n, (∃ k, k < n ∧ viewB (l.getD k z4) = false ∧ ∀ j, j < k → viewB (l.getD j z4) = true) ∨ ∀ j, j < n → viewB (l.getD j z4) = true := by
      intro n
      induction n with
      | zero => exact .inr fun j hj => absurd hj (Nat.not_lt_zero j)
      | succ n ih =>
        rcases ih with ⟨k, k1, k2, k3⟩ | ih
        · exact .inl ⟨k, by omega, k2, k3⟩
        · cases e : viewB (l.getD n z4)
          · exact .inl ⟨n, Nat.lt_succ_self n, e, ih⟩
          · refine .inr fun j hj => ?_
            by_cases e2 : j = n
            · subst e2; exact e
            · exact ih j (by omega)
    obtain ⟨m, m1, m2⟩ := hv
    rcases key l.length with ⟨k, k1, k2, k3⟩ | ih
    · exact lhView l f c d x z _ _ _ hl hx hz kp k k1 k2 k3
    · rw [ih m m1] at m2; cases m2
  have hv : ∀ v ∈ l, viewB v = true := fun v hm => by
    obtain ⟨i, hi, rfl⟩ := List.getElem_of_mem hm
    cases e : viewB l[i]
    · exact absurd ⟨i, hi, by simp only [List.getD, List.getElem?_eq_getElem hi, Option.getD_some]; exact e⟩ hv
    · rfl
  have hd : 1 ≤ mxI d ∧ mxI d ≤ 32767 := by unfold mxI; split <;> omega
  have hp : okP ((f, c), mxI d) := by
    unfold okP
    simp only []
    omega
  have ka := pc_rAll ((f, c), mxI d) l (by omega) hv hp
  have kb := pc_rAlike l (by omega) hv
  have hE := viewsE_of hl hv
  have kf := pc_FirstBad l (by omega)
  rw [show badF l = (badI l, 0) by unfold badF; rw [if_pos hE]] at kf
  have m1 := mul_pm (a := f) (b := x) (A := 32768) (B := 1000) (by omega) (by omega) (by omega) (by omega)
  have m2 := mul_pm (a := c) (b := z) (A := 32768) (B := 1000) (by omega) (by omega) (by omega) (by omega)
  have m3 := mul_pm (a := mxI d) (b := z) (A := 32768) (B := 1000) (by omega) (by omega) (by omega) (by omega)
  have m4 : 0 < mxI d * z := Int.mul_pos (by omega) (by omega)
  have w1 : IntKind.i64.wrap (f * x) = f * x := w64 _ (by omega) (by omega)
  have w2 : IntKind.i64.wrap (c * z) = c * z := w64 _ (by omega) (by omega)
  have w3 : IntKind.i64.wrap (mxI d * z) = mxI d * z := w64 _ (by omega) (by omega)
  have w4 : IntKind.i64.wrap (f * x + c * z) = f * x + c * z := w64 _ (by omega) (by omega)
  have a1 := pc_at f (mxI d) (by unfold I64; omega) (by unfold I64; omega)
  have a2 := pc_at c (mxI d) (by unfold I64; omega) (by unfold I64; omega)
  have a3 := pc_at (f * x + c * z) (mxI d * z) (by unfold I64; omega) (by unfold I64; omega)
  rw [← w4, ← w1, ← w2, ← w3] at a3
  have key : l.all (fulB ((f, c), mxI d)) = true → alikeB l = false → (calF l).2 = 0 ∧ spanB (calF l).1.1 = true ∧ InR (calF l).1.1 ((f : Rat) / (mxI d : Rat)) ∧ spanB (calF l).1.2 = true ∧ InR (calF l).1.2 ((c : Rat) / (mxI d : Rat)) ∧ badI l = -1 ∧
      ∀ x z, argB x z = true → (ranF l x z).2 = 0 ∧ spanB (ranF l x z).1 = true ∧ InR (ranF l x z).1 ((f : Rat) / (mxI d : Rat) * (x : Rat) / (z : Rat) + (c : Rat) / (mxI d : Rat)) := fun h1 h2 => by
    have hf := (allB_iff (p := ((f, c), mxI d)) (show 0 < mxI d by omega) l).1 h1
    have ha : ¬ AlikeP l := fun k => by rw [(alikeB_iff hv).2 k] at h2; cases h2
    exact cal_true hE hf ha
  have hin : ∀ (s : SpT) (n e : Int), -4611686018427387903 ≤ n → n ≤ 4611686018427387903 → 0 < e → e ≤ 4611686018427387903 → spanB s = true → InR s ((n : Rat) / (e : Rat)) → PC Try.prog 24 [sp s, fr (makeF n e).1] (.tup [.bool true, i64 0]) := fun s n e h1 h2 h3 h4 hs hi => by
    obtain ⟨v, _, q⟩ := makeF_small (n := n) (d := e) h1 h2 h3 h4
    obtain ⟨s1, s2, _⟩ := spanB_qv.1 hs
    have := pc_In s (makeF n e).1
    rw [hs, v, (hasB_qv2 s1 s2 v).2 (by rw [q]; exact hi)] at this
    exact this
  have hargs : argB x z = true := argB_iff.2 ⟨hx, hz⟩
  refine lhOk l f c d x z _ _ _ hl hx hz kp hv _ _ ka kb _ _ _ _ _ _ _ _ _ _ _ _ _ _ _ _ _ _ _ _ _ (pc_Calibrate l (by omega)) (pc_Range l x z (by omega)) a1 a2 (by rw [w1, w2, w3, w4] at a3 ⊢; exact a3) (fun h1 h2 => ?_) (fun h1 h2 => ?_) (fun h1 h2 => ?_) kf (fun h1 h2 => ?_)
  · obtain ⟨_, k2, k3, _⟩ := key h1 h2
    exact hin _ _ _ (by omega) (by omega) (by omega) (by omega) k2 k3
  · obtain ⟨_, _, _, k2, k3, _⟩ := key h1 h2
    exact hin _ _ _ (by omega) (by omega) (by omega) (by omega) k2 k3
  · obtain ⟨_, _, _, _, _, _, k⟩ := key h1 h2
    obtain ⟨_, k2, k3⟩ := k x z hargs
    refine hin _ _ _ (by omega) (by omega) (by omega) (by omega) k2 ?_
    have z1 := cast_pos (show 0 < z by omega)
    have z2 := cast_pos (show 0 < mxI d by omega)
    have e : ((f * x + c * z : Int) : Rat) / ((mxI d * z : Int) : Rat) = (f : Rat) / (mxI d : Rat) * (x : Rat) / (z : Rat) + (c : Rat) / (mxI d : Rat) := by
      simp only [Rat.intCast_add, Rat.intCast_mul]
      generalize (mxI d : Rat) = D at *
      generalize (z : Rat) = Z at *
      have n1 : D ≠ 0 := by grind
      have n2 : Z ≠ 0 := by grind
      grind
    rw [e]
    exact k3
  · obtain ⟨k1, _, _, _, _, k2, k⟩ := key h1 h2
    exact ⟨k1, (k x z hargs).1, k2⟩
end Go.Proofs.Try.My
set_option maxRecDepth 100000
set_option maxHeartbeats 0
set_option linter.unusedVariables false
set_option linter.unusedSimpArgs false
namespace Go.Proofs.Ytggbiibaiohefaa.LensHoldsDone
open Go Go.Ev Go.Proofs.Try.My
open Go.ChangeShapes Go.WideShapes Go.ChangeAt Go.RowKit

theorem own : ownKnob Try.prog.godebug = none := by kernel_rfl
theorem laidOut : laidOutB Try.prog = true := by kernel_rfl

theorem dView0 : Dec Try.prog 43 (fun y : (((Int × Int) × Int) × Int) => [i64 y.1.1.1, i64 y.1.1.2, i64 y.1.2, i64 y.2]) (fun y => ((I64 y.1.1.1 ∧ I64 y.1.1.2) ∧ I64 y.1.2) ∧ I64 y.2) :=
  dec_all Try.underlying43 rfl (by kernel_rfl)
    (dec_more (k := 3) Try.underlying43 rfl (by kernel_rfl) (dec_more (k := 2) Try.underlying43 rfl (by kernel_rfl) (dec_more (k := 1) Try.underlying43 rfl (by kernel_rfl)
      (dec_one Try.underlying43 rfl (by kernel_rfl) (dec_int Try.underlying3 (by kernel_rfl))) (dec_int Try.underlying3 (by kernel_rfl)) (fun _ => by kernel_rfl)) (dec_int Try.underlying3 (by kernel_rfl)) (fun _ => by kernel_rfl)) (dec_int Try.underlying3 (by kernel_rfl)) (fun _ => by kernel_rfl))
theorem dView : Dec Try.prog 43 eS (fun y : SpT => (I64 y.1.1 ∧ I64 y.1.2) ∧ (I64 y.2.1 ∧ I64 y.2.2)) := by
  intro H enc w base spare held fuel cs x h
  obtain ⟨⟨⟨⟨a, b⟩, c⟩, d⟩, ⟨⟨⟨q1, q2⟩, q3⟩, q4⟩, l, r⟩ := dView0 h
  exact ⟨((a, b), (c, d)), ⟨⟨q1, q2⟩, q3, q4⟩, l, r⟩
theorem walk (w : World) (l : List (SpT)) (g0 : ∀ n ∈ l, (I64 n.1.1 ∧ I64 n.1.2) ∧ (I64 n.2.1 ∧ I64 n.2.2)) (v0 : Value) (h0 : RepI (fun b => b < w.heap.size) w (.sl (Try.prog.cellsOf 43) ((0, 0), (0, 0)) eS l) v0) (f : Int) (f1 : (Lit.int .i16 f).wf = true) (c : Int) (f2 : (Lit.int .i16 c).wf = true) (d : Int) (f3 : (Lit.int .i16 d).wf = true) (x : Int) (z : Int) :
    Calls Try.prog 4 #[v0, .int .i16 f, .int .i16 c, .int .i16 d, .int .i64 x, .int .i64 z] w fun e w' => e = .returned (.bool true) ∧ Below w.heap.size w w' := by
  refine PC.callsTrue (pc_LensHolds l f f1 c f2 d f3 x z) Try.func4 (by kernel_rfl) rfl rfl fun i hi => ?_
  match i, hi with
  | 0, _ => have e : Try.prog.cellsOf 43 = 4 := (by kernel_rfl); rw [e] at h0; exact h0
  | 1, _ => exact .int _ _
  | 2, _ => exact .int _ _
  | 3, _ => exact .int _ _
  | 4, _ => exact .int _ _
  | 5, _ => exact .int _ _

theorem lifted (os : Os) (started : os.Started) (H : Type) (enc : TypeId × Value → H) :
    ReturnsInHanded {} Try.checked os 4 .any (Rows.lensHoldsSpec.pre6 enc Try.prog Try.f4 Rows.lensHoldsRow.domain false) (Rows.lensHoldsSpec.post enc Try.prog Try.f4 false true false false) := by
  refine returnsInHanded_of_change (C := Try.checked) own started (by kernel_rfl) Try.func4
    (ChangeSpec.witness6 (enc := enc) (C := Try.checked) false ⟨#[], #[.slice none 0 0, .int .i16 0, .int .i16 0, .int .i16 0, .int .i64 0, .int .i64 0], []⟩ 8 (by kernel_rfl) (by kernel_rfl) (by kernel_rfl) (by kernel_rfl)) ?_
  intro W base args ds gs before hval0 hW hcnd _
  have hval : ∀ (j : Nat) t v, Try.f4.params[j]? = some t → args[j]? = some v → Value.okWide Try.prog W .any base t v := hval0
  have hW' := hW
  obtain ⟨p, q, hA0, hV, rfl, hfz, hnd⟩ := hW
  have hA : DataW.TrodAll enc Try.prog W 0 (fun _ => true) true Try.f4.params.toList args.toList ds p := hA0
  rw [Try.params4] at hA hval
  obtain ⟨v0, vs0, d0, ds0, p0, q0, hargs, rfl, rfl, h0, r0⟩ := trodAll_cons hA
  obtain ⟨v1, vs1, d1, ds1, p1, q1, rfl, rfl, rfl, h1, r1⟩ := trodAll_cons r0
  obtain ⟨v2, vs2, d2, ds2, p2, q2, rfl, rfl, rfl, h2, r2⟩ := trodAll_cons r1
  obtain ⟨v3, vs3, d3, ds3, p3, q3, rfl, rfl, rfl, h3, r3⟩ := trodAll_cons r2
  obtain ⟨v4, vs4, d4, ds4, p4, q4, rfl, rfl, rfl, h4, r4⟩ := trodAll_cons r3
  obtain ⟨v5, vs5, d5, ds5, p5, q5, rfl, rfl, rfl, h5, r5⟩ := trodAll_cons r4
  obtain ⟨rfl, rfl, rfl⟩ := trodAll_nil r5
  obtain rfl : args = #[v0, v1, v2, v3, v4, v5] := by cases args; simp_all
  obtain ⟨rfl, rfl⟩ := trodVars_none hV
  obtain ⟨a0, len0, cap0, rfl⟩ := okWide_slice Try.underlying22 (hval 0 22 v0 rfl rfl)
  have k0 := h0
  have lt0 : ∀ x ∈ p0, x.block < W.heap.size := by obtain ⟨m, hm⟩ := k0; exact DataW.trod_lt m _ _ _ hm
  obtain ⟨fuel0, hf0⟩ := h0
  obtain ⟨l0, i0, g0, n0⟩ := repI_slice (d := ((0, 0), (0, 0))) Try.underlying22 dView (hval 0 22 _ rfl rfl) hf0
  obtain ⟨a1, rfl, rfl, rfl, w1⟩ := open_int Try.underlying47 (hval 1 47 v1 rfl rfl) h1
  obtain ⟨a2, rfl, rfl, rfl, w2⟩ := open_int Try.underlying47 (hval 2 47 v2 rfl rfl) h2
  obtain ⟨a3, rfl, rfl, rfl, w3⟩ := open_int Try.underlying47 (hval 3 47 v3 rfl rfl) h3
  obtain ⟨a4, rfl, rfl, rfl, w4⟩ := open_int Try.underlying3 (hval 4 3 v4 rfl rfl) h4
  obtain ⟨a5, rfl, rfl, rfl, w5⟩ := open_int Try.underlying3 (hval 5 3 v5 rfl rfl) h5
  clear hA0 hval0
  refine (walk W l0 g0 _ i0 a1 w1 a2 w2 a3 w3 a4 a5).mono fun e W' ⟨he, bel⟩ => ?_
  subst he
  exact ⟨_, rfl, _, _, _, [], _, [], hW', trodAll_mk1 (shut_bool Try.underlying4 _), (trodAll_cons_mk (Below.trod laidOut (by kernel_rfl) (of_decide_eq_true (by kernel_rfl)) k0 bel lt0) (trodAll_cons_mk (shut_int Try.underlying47 w1) (trodAll_cons_mk (shut_int Try.underlying47 w2) (trodAll_cons_mk (shut_int Try.underlying47 w3) (trodAll_cons_mk (shut_int Try.underlying3 w4) (trodAll_cons_mk (shut_int Try.underlying3 w5) trodAll_mk0)))))), rfl, bel.frame _, fun h => by cases h⟩

theorem closed : joinedFacts Try.pinned.checked.prog 4 Try.f4 Rows.lensHoldsSpec Rows.lensHoldsRow = true :=
  (restOf Try.pinned.checked.prog 4 Try.f4 Rows.lensHoldsSpec Rows.lensHoldsRow make_eq mayEnter_eq liftsFinal_eq).2 (by kernel_rfl)
theorem over : Rows.lensHoldsRow.holds Try.pinned (OpenSpec.ofChange Rows.lensHoldsSpec) :=
  OpenClaim.holds_of_wide 4 Try.f4 rfl rfl rfl rfl rfl rfl rfl ⟨rfl, rfl, rfl, rfl, rfl⟩ rfl rfl rfl rfl rfl (by kernel_rfl) Try.func4 closed
    (of_decide_eq_true (by kernel_rfl)) (by unfold Func.isWrapper; first | (rw [if_pos (by decide +kernel)]; kernel_rfl) | (rw [if_neg (by decide +kernel)]; exact ⟨rfl, rfl⟩))
    (fun os started H enc _ => lifted os started H enc)

theorem proved : Rows.LensHoldsSaid := over
#print axioms proved
end Go.Proofs.Ytggbiibaiohefaa.LensHoldsDone
