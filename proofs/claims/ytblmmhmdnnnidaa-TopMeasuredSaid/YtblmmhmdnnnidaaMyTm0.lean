/- A helper text: contracts of functions of the program, and plain lemmas. -/
import Derived.Test.YtblmmhmdnnnidaaMyHoA
import Derived.Test.YtblmmhmdnnnidaaMyPvA
import Derived.Test.YtblmmhmdnnnidaaMySi
import Derived.Test.YtblmmhmdnnnidaaMyEa
set_option maxRecDepth 100000
set_option maxHeartbeats 0
set_option linter.unusedVariables false
set_option linter.unusedSimpArgs false
namespace Go.Proofs.Try.My
open Go Go.Ev

/-! ### From targets and a profile to a length -/
def sizG (c : CamT × Int) (w : SpT × Int) (z : Int) : SpT × Int :=
  if c.2 = 0 then (if w.2 = 0 then (if (mulS w.1 ((16 * z, 1), (16 * z, 1))).2 = 0 then divS (mulS w.1 ((16 * z, 1), (16 * z, 1))).1 c.1.1 else (zS, (mulS w.1 ((16 * z, 1), (16 * z, 1))).2)) else (zS, w.2)) else (zS, c.2)
def sizF (l : List SpT) (p : List Int) (thr noise z : Int) : SpT × Int := sizG (calF l) (widE p thr noise) z
theorem siz_known {c : CamT × Int} {w : SpT × Int} {z : Int} (h : (sizG c w z).2 = 0) : c.2 = 0 ∧ w.2 = 0 ∧ (mulS w.1 ((16 * z, 1), (16 * z, 1))).2 = 0 ∧ (divS (mulS w.1 ((16 * z, 1), (16 * z, 1))).1 c.1.1).2 = 0 ∧ sizG c w z = divS (mulS w.1 ((16 * z, 1), (16 * z, 1))).1 c.1.1 := by
  unfold sizG at h ⊢
  by_cases h1 : c.2 = 0
  rotate_left
  · rw [if_neg h1] at h; exact absurd h h1
  by_cases h2 : w.2 = 0
  rotate_left
  · rw [if_pos h1, if_neg h2] at h; exact absurd h h2
  by_cases h3 : (mulS w.1 ((16 * z, 1), (16 * z, 1))).2 = 0
  rotate_left
  · rw [if_pos h1, if_pos h2, if_neg h3] at h; exact absurd h h3
  rw [if_pos h1, if_pos h2, if_pos h3] at h ⊢
  exact ⟨h1, h2, h3, h, rfl⟩
theorem siz_law {l : List SpT} {p : List Int} {thr noise z : Int} (h : (sizF l p thr noise z).2 = 0) {f c : Rat} (hf : Feas l f c) (z1 : 1 ≤ z) (z2 : z ≤ 1000) {W : Rat} (hW : InR (widE p thr noise).1 W) :
    f ≠ 0 ∧ InR (sizF l p thr noise z).1 (W * ((16 * z : Int) : Rat) / f) := by
  unfold sizF at h ⊢
  obtain ⟨h1, h2, h3, h4, e⟩ := siz_known h
  obtain ⟨hE, _, ha, _, _⟩ := cal_ok h1
  obtain ⟨_, _, k, _⟩ := cal_true hE hf ha
  rw [e]
  refine divS_inR h4 (mulS_inR h3 hW ?_) k
  show qv (16 * z, 1) ≤ _ ∧ _ ≤ qv (16 * z, 1)
  rw [qv_one]
  exact ⟨Rat.le_refl, Rat.le_refl⟩
theorem rat_top1 (N E Z : Rat) : N / E * Z = N * Z / E := by
  simp only [Rat.div_def, Rat.mul_assoc, Rat.mul_comm Z]
theorem rat_top {N E Z F G : Rat} (hE : E ≠ 0) (hF : F ≠ 0) (hG : G ≠ 0) : N / E * Z / (F / G) = N * Z * G / (E * F) := by
  have h1 : F / G ≠ 0 := fun k => by
    have q : F / G * G = F := Rat.div_mul_cancel hG
    rw [k, Rat.zero_mul] at q
    exact hF q.symm
  have h2 : E * F ≠ 0 := fun k => by
    rcases Rat.mul_eq_zero.1 k with k | k
    · exact hE k
    · exact hF k
  refine rat_eq_of_mul (k := F / G * (E * F)) (fun k => ?_) ?_
  · rcases Rat.mul_eq_zero.1 k with k | k
    · exact h1 k
    · exact h2 k
  have a1 : N / E * Z / (F / G) * (F / G) = N / E * Z := Rat.div_mul_cancel h1
  have a2 : N / E * E = N := Rat.div_mul_cancel hE
  have a3 : N * Z * G / (E * F) * (E * F) = N * Z * G := Rat.div_mul_cancel h2
  have a4 : F / G * G = F := Rat.div_mul_cancel hG
  generalize N / E * Z / (F / G) = x at *
  generalize N * Z * G / (E * F) = y at *
  generalize F / G = r at *
  generalize N / E = t at *
  have l : x * (r * (E * F)) = N * Z * F := by
    rw [← Rat.mul_assoc, a1, ← a2]
    grind
  have m : y * (r * (E * F)) = N * Z * F := by
    rw [show y * (r * (E * F)) = y * (E * F) * r by grind, a3, ← a4]
    grind
  rw [l, m]
theorem top_law {l : List SpT} {p moves : List Int} {thr noise z f c d : Int} (h : (sizF l p thr noise z).2 = 0) (hf : Feas l ((f : Rat) / (d : Rat)) ((c : Rat) / (d : Rat))) (z1 : 1 ≤ z) (z2 : z ≤ 1000) (f1 : 1 ≤ f) (f2 : f ≤ 32767) (d1 : 1 ≤ d) (d2 : d ≤ 32767) :
    ∃ A B C D, fstN (alwL p moves noise) (4 * thr) 0 = (A, B, true) ∧ fstN (alwL p moves noise).reverse (4 * thr) 0 = (C, D, true) ∧ (1 ≤ thr ∧ thr ≤ 255) ∧
      (-70000 ≤ A ∧ A ≤ 70000) ∧ (0 < B ∧ B ≤ 1020) ∧ (-70000 ≤ C ∧ C ≤ 70000) ∧ (0 < D ∧ D ≤ 1020) ∧
      ∀ n e, n = (((p.length : Int) - 1) * D - C) * B - A * D → e = B * D → ∃ w x v y : Int × Int, makeF n e = (w, 0) ∧ bothF mulF w (16 * z, 1) = (x, 0) ∧ makeF f d = (v, 0) ∧ bothF quoF x v = (y, 0) ∧ spanB (sizF l p thr noise z).1 = true ∧ validB y = true ∧ hasB (sizF l p thr noise z).1 y = true := by
  obtain ⟨_, hw, _, h4, es⟩ := siz_known (show (sizG (calF l) (widE p thr noise) z).2 = 0 from h)
  obtain ⟨hp, hk, _⟩ := wid_known hw
  obtain ⟨t1, t2, _⟩ := ask_known hk
  obtain ⟨A, B, C, D, e1, e2, n1, b1, n2, b2, sb, q1, q2⟩ := wid_holds (moves := moves) hw
  have hlen := prof_len hp
  refine ⟨A, B, C, D, e1, e2, ⟨t1, t2⟩, n1, b1, n2, b2, ?_⟩
  rintro n e hn he
  obtain ⟨k1, k2, k3, k4⟩ := size_wid n1.1 n1.2 b1.1 b1.2 n2.1 n2.2 b2.1 b2.2 (show 0 ≤ (p.length : Int) - 1 by omega) (by omega)
  rw [← hn] at k1 q1 q2
  rw [← he] at k2 q1 q2
  obtain ⟨wv, w0, wq⟩ := makeF_small (n := n) (d := e) (by omega) (by omega) k2.1 (by omega)
  obtain ⟨fv, f0, fq⟩ := makeF_small (n := f) (d := d) (by omega) (by omega) (by omega) (by omega)
  have ve : (0 : Rat) < (e : Rat) := cast_pos k2.1
  have vd : (0 : Rat) < (d : Rat) := cast_pos (by omega)
  have vf : (0 : Rat) < (f : Rat) := cast_pos (by omega)
  have v16 : validB (16 * z, 1) = true := valid_one (by omega) (by omega)
  have m1 := mul_size (a := n) (b := 16 * z) (A := 300000000) (B := 16000) (by omega) (by omega) (by omega) (by omega)
  have m2 := mul_size (a := n * (16 * z)) (b := d) (A := 4800000000000) (B := 32767) (by omega) (by omega) (by omega) (by omega)
  have m3 := mul_size (a := e) (b := f) (A := 1040400) (B := 32767) (by omega) (by omega) (by omega) (by omega)
  have m4 := Int.mul_pos k2.1 (show 0 < f by omega)
  have ne : (e : Rat) ≠ 0 := by grind
  have nd : (d : Rat) ≠ 0 := by grind
  have nf : (f : Rat) ≠ 0 := by grind
  have X := fits_small (n := n * (16 * z)) (d := e) (mulF_fits wv v16) (by rw [wq, qv_one, Rat.intCast_mul n (16 * z)]; exact rat_top1 _ _ _) (by omega) (by omega) k2.1 (by omega)
  obtain ⟨xv, x0, xq⟩ := X
  have hn0 : (makeF f d).1.1 ≠ 0 := fun k => by
    have := (qv_sign fv).2.2.2 k
    rw [fq] at this
    have : (f : Rat) = 0 := by
      have q : (f : Rat) / (d : Rat) * (d : Rat) = (f : Rat) := Rat.div_mul_cancel nd
      rw [this] at q
      grind
    exact nf this
  have Y := fits_small (n := n * (16 * z) * d) (d := e * f) (quoF_fits xv fv hn0) (by
    rw [xq, wq, fq, qv_one, Rat.intCast_mul (n * (16 * z)) d, Rat.intCast_mul n (16 * z), Rat.intCast_mul e f]
    exact rat_top ne nf nd) (by omega) (by omega) m4 (by omega)
  obtain ⟨yv, y0, yq⟩ := Y
  have hW : InR (widE p thr noise).1 ((n : Rat) / (e : Rat)) := ⟨q1, q2⟩
  obtain ⟨_, hin⟩ := siz_law h hf z1 z2 hW
  have sS : spanB (sizF l p thr noise z).1 = true := by
    rw [show sizF l p thr noise z = divS (mulS (widE p thr noise).1 ((16 * z, 1), (16 * z, 1))).1 (calF l).1.1 from es]
    exact (divS_ok h4).2.2.2
  obtain ⟨s1, s2, _⟩ := spanB_qv.1 sS
  refine ⟨(makeF n e).1, (mulF (makeF n e).1 (16 * z, 1)).1, (makeF f d).1, (quoF (mulF (makeF n e).1 (16 * z, 1)).1 (makeF f d).1).1, Prod.ext rfl w0, ?_, Prod.ext rfl f0, ?_, sS, yv, ?_⟩
  · unfold bothF
    rw [wv, v16]
    exact Prod.ext rfl x0
  · unfold bothF
    rw [xv, fv]
    exact Prod.ext rfl y0
  · refine (hasB_qv2 s1 s2 yv).2 ?_
    rw [yq, xq, wq, fq, qv_one]
    exact hin
end Go.Proofs.Try.My
