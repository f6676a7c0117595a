/- The true width of the bright part of a noisy profile lies in the length that is computed from targets and profile. -/
import Derived.Test.YtblmmhmdnnnidaaMyTmB
import Derived.Test.YtblmmhmdnnnidaaMyGc1
import Derived.Test.YtblmmhmdnnnidaaEvZ
import Derived.Test.YtblmmhmdnnnidaaEvZa
import Derived.Test.YtblmmhmdnnnidaaMyIniA
import Derived.Test.YtblmmhmdnnnidaaRows
import Derived.WalkKit
import Derived.ProofKit
import Derived.OpenShut
import Derived.ChangeOld
import Derived.Below
set_option maxRecDepth 100000
set_option maxHeartbeats 0
set_option linter.unusedVariables false
set_option linter.unusedSimpArgs false
namespace Go.Proofs.Try.My
open Go Go.Ev

theorem pc_TopMeasured (l : List SpT) (f : Int) (wf : (Lit.int .i16 f).wf = true) (c : Int) (wc : (Lit.int .i16 c).wf = true) (d : Int) (wd : (Lit.int .i16 d).wf = true) (p : List Int) (moves : List Int) (hw : ∀ n ∈ moves, (Lit.int .i16 n).wf = true) (thr noise z : Int) : PC Try.prog 7 [vws l, .int .i16 f, .int .i16 c, .int .i16 d, ints p, i16s moves, i64 thr, i64 noise, i64 z] (.bool true) := by
  have rf := wf_i16 wf
  have rc := wf_i16 wc
  have rd := wf_i16 wd
  by_cases ho : 12 < l.length ∨ 64 < p.length ∨ z < 1 ∨ 1000 < z ∨ noise < 0 ∨ 64 < noise ∨ f < 1 ∨ d < 1
  · exact tmOut l p moves f c d thr noise z ho
  have hl : l.length ≤ 12 := by omega
  have hp : p.length ≤ 64 := by omega
  have hz : 1 ≤ z ∧ z ≤ 1000 := by omega
  have hn : 0 ≤ noise ∧ noise ≤ 64 := by omega
  have hf : 1 ≤ f := by omega
  have hd : 1 ≤ d := by omega
  by_cases hv : ∃ k, k < l.length ∧ viewB (l.getD k z4) = false
  · -- the first that is not valid
    have key : ∀ n, (∃ k, k < n ∧ viewB (l.getD k z4) = false ∧ ∀ j, j < k → viewB (l.getD j z4) = true) ∨ ∀ j, j < n → viewB (l.getD j z4) = true := by
      intro n
      induction n with
      | zero => exact .inr fun j hj => absurd hj (Nat.not_lt_zero j)
      | succ n ih =>
        rcases ih with ⟨k, k1, k2, k3⟩ | ih
        · exact .inl ⟨k, by omega, k2, k3⟩
        · cases e : viewB (l.getD n z4)
          · exact .inl ⟨n, Nat.lt_succ_self n, e, ih⟩
          · refine .inr fun j hj => ?_
            by_cases e2 : j = n
            · subst e2; exact e
            · exact ih j (by omega)
    obtain ⟨m, m1, m2⟩ := hv
    rcases key l.length with ⟨k, k1, k2, k3⟩ | ih
    · exact tmView l p moves f c d thr noise z hl hp hz hn hf hd k k1 k2 k3
    · rw [ih m m1] at m2; cases m2
  have hv : ∀ v ∈ l, viewB v = true := fun v hm => by
    obtain ⟨i, hi, rfl⟩ := List.getElem_of_mem hm
    cases e : viewB l[i]
    · exact absurd ⟨i, hi, by simp only [List.getD, List.getElem?_eq_getElem hi, Option.getD_some]; exact e⟩ hv
    · rfl
  refine topW.2 l p moves f c d thr noise z hl hp hz hn hf hd hv fun _ => ?_
  have ks := pc_size l p thr noise z (by omega) (by omega) hz.1 hz.2
  have kv := pc_ValidProfile5 p (by omega)
  have wf : IntKind.i64.wrap f = f := w64 _ (by omega) (by omega)
  have wc : IntKind.i64.wrap c = c := w64 _ (by omega) (by omega)
  have wd : IntKind.i64.wrap d = d := w64 _ (by omega) (by omega)
  have hokp : okP ((f, c), d) := by
    unfold okP
    simp only []
    omega
  have ka : PC Try.prog 45 [.agg [i64 (IntKind.i64.wrap f), i64 (IntKind.i64.wrap c), i64 (IntKind.i64.wrap d)], vws l] (.bool (l.all (fulB ((f, c), d)))) := by
    rw [wf, wc, wd]
    exact pc_rAll ((f, c), d) l (by omega) hv hokp
  by_cases hE : (sizF l p thr noise z).2 = 0
  rotate_left
  · exact tm_e _ hE ks
  rw [hE] at ks
  cases hA : l.all (fulB ((f, c), d))
  · rw [hA] at ka
    exact tm_a ks ka
  rw [hA] at ka
  cases hV : profB p
  · rw [hV] at kv
    exact tm_v ks ka kv
  rw [hV] at kv
  refine topV.2 l p moves f c d thr noise z _ _ _ _ ks ka kv fun _ => ?_
  refine topU.2 l p moves f c d thr noise z _ _ _ _ (prof_byte hV) hp hn.1 hn.2 hw fun Q hQ => ?_
  have hQ : Q = alwL p moves noise := hQ
  subst hQ
  have hF := (allB_iff (p := ((f, c), d)) (show 0 < d by omega) l).1 hA
  obtain ⟨A, B, C, D, e1, e2, ht, n1, b1, n2, b2, law⟩ := top_law (f := f) (c := c) (d := d) (moves := moves) hE hF hz.1 hz.2 hf (by omega) hd (by omega)
  obtain ⟨w, x, v, y, l1, l2, l3, l4, l5, l6, l7⟩ := law _ _ rfl rfl
  have ql : (alwL p moves noise).length = p.length := alwL_length p moves noise
  have hq := alw_big p moves noise
  have hr : (List.range (alwL p moves noise).length).map (fun i => (alwL p moves noise).getD ((alwL p moves noise).length - 1 - i) 0) = (alwL p moves noise).reverse := by
    refine List.ext_getElem (by simp) fun i h1 h2 => ?_
    simp at h1
    have := rev_getD (alwL p moves noise) h1
    simp [List.getD, h1] at this ⊢
    exact this.symm
  refine topB.2 l p moves f c d thr noise z _ _ _ _ _ (by omega) fun _ => ?_
  have w4 : IntKind.i64.wrap (4 * thr) = 4 * thr := w64 _ (by omega) (by omega)
  have f1 := pc_topfirst (alwL p moves noise) (4 * thr) hq (by omega)
  have f2 := pc_topfirst (alwL p moves noise).reverse (4 * thr) (rev_big hq) (by rw [List.length_reverse]; omega)
  rw [e1, ← w4] at f1
  rw [e2, ← w4, ← hr] at f2
  obtain ⟨k1, k2, k3, k4⟩ := size_wid n1.1 n1.2 b1.1 b1.2 n2.1 n2.2 b2.1 b2.2 (show 0 ≤ (p.length : Int) - 1 by have := prof_len hV; omega) (by omega)
  have z0 := size_end n2.1 n2.2 b2.1 b2.2 (show 0 ≤ (p.length : Int) - 1 by have := prof_len hV; omega) (by omega)
  have w16 : IntKind.i64.wrap (16 * z) = 16 * z := w64 _ (by omega) (by omega)
  have mk : PC Try.prog 48 [i64 (IntKind.i64.wrap (IntKind.i64.wrap (IntKind.i64.wrap (IntKind.i64.wrap (IntKind.i64.wrap (((alwL p moves noise).length : Int) - 1) * D) - C) * B) - IntKind.i64.wrap (A * D))), i64 (IntKind.i64.wrap (B * D))] (.tup [fr w, i64 0]) := by
    rw [ql, w64 ((p.length : Int) - 1) (by omega) (by omega), w64 (((p.length : Int) - 1) * D) (by omega) (by omega), w64 (((p.length : Int) - 1) * D - C) (by omega) (by omega), w64 ((((p.length : Int) - 1) * D - C) * B) (by omega) (by omega), w64 (A * D) (by omega) (by omega), w64 (B * D) (by omega) (by omega), w64 ((((p.length : Int) - 1) * D - C) * B - A * D) (by omega) (by omega)]
    have := pc_Make ((((p.length : Int) - 1) * D - C) * B - A * D) (B * D) ⟨by omega, by omega⟩ ⟨by omega, by omega⟩
    rw [l1] at this
    exact this
  have wz : PC Try.prog 50 [i64 (IntKind.i64.wrap (16 * z))] (fr (16 * z, 1)) := by rw [w16]; exact pc_topwhole _
  have mu := pc_Mul w (16 * z, 1)
  rw [l2] at mu
  have mf : PC Try.prog 48 [i64 (IntKind.i64.wrap f), i64 (IntKind.i64.wrap d)] (.tup [fr v, i64 0]) := by
    rw [wf, wd]
    have := pc_Make f d ⟨by omega, by omega⟩ ⟨by omega, by omega⟩
    rw [l3] at this
    exact this
  have dv := pc_Div x v
  rw [l4] at dv
  have hin := pc_In (sizF l p thr noise z).1 y
  rw [l5, l6, l7] at hin
  exact tm_end f1 f2 mk wz mu mf dv hin
end Go.Proofs.Try.My
set_option maxRecDepth 100000
set_option maxHeartbeats 0
set_option linter.unusedVariables false
set_option linter.unusedSimpArgs false
namespace Go.Proofs.Ytblmmhmdnnnidaa.TopMeasuredDone
open Go Go.Ev Go.Proofs.Try.My
open Go.ChangeShapes Go.WideShapes Go.ChangeAt Go.RowKit

theorem own : ownKnob Try.prog.godebug = none := by kernel_rfl
theorem laidOut : laidOutB Try.prog = true := by kernel_rfl

theorem dView0 : Dec Try.prog 43 (fun y : (((Int × Int) × Int) × Int) => [i64 y.1.1.1, i64 y.1.1.2, i64 y.1.2, i64 y.2]) (fun y => ((I64 y.1.1.1 ∧ I64 y.1.1.2) ∧ I64 y.1.2) ∧ I64 y.2) :=
  dec_all Try.underlying43 rfl (by kernel_rfl)
    (dec_more (k := 3) Try.underlying43 rfl (by kernel_rfl) (dec_more (k := 2) Try.underlying43 rfl (by kernel_rfl) (dec_more (k := 1) Try.underlying43 rfl (by kernel_rfl)
      (dec_one Try.underlying43 rfl (by kernel_rfl) (dec_int Try.underlying3 (by kernel_rfl))) (dec_int Try.underlying3 (by kernel_rfl)) (fun _ => by kernel_rfl)) (dec_int Try.underlying3 (by kernel_rfl)) (fun _ => by kernel_rfl)) (dec_int Try.underlying3 (by kernel_rfl)) (fun _ => by kernel_rfl))
theorem dView : Dec Try.prog 43 eS (fun y : SpT => (I64 y.1.1 ∧ I64 y.1.2) ∧ (I64 y.2.1 ∧ I64 y.2.2)) := by
  intro H enc w base spare held fuel cs x h
  obtain ⟨⟨⟨⟨a, b⟩, c⟩, d⟩, ⟨⟨⟨q1, q2⟩, q3⟩, q4⟩, l, r⟩ := dView0 h
  exact ⟨((a, b), (c, d)), ⟨⟨q1, q2⟩, q3, q4⟩, l, r⟩
theorem walk (w : World) (l : List (SpT)) (g0 : ∀ n ∈ l, (I64 n.1.1 ∧ I64 n.1.2) ∧ (I64 n.2.1 ∧ I64 n.2.2)) (v0 : Value) (h0 : RepI (fun b => b < w.heap.size) w (.sl (Try.prog.cellsOf 43) ((0, 0), (0, 0)) eS l) v0) (f : Int) (f1 : (Lit.int .i16 f).wf = true) (c : Int) (f2 : (Lit.int .i16 c).wf = true) (d : Int) (f3 : (Lit.int .i16 d).wf = true) (p : List Int) (v4 : Value) (h4 : RepI (fun b => b < w.heap.size) w (ints p) v4) (moves : List Int) (g5 : ∀ n ∈ moves, (Lit.int .i16 n).wf = true) (v5 : Value) (h5 : RepI (fun b => b < w.heap.size) w (.sl (Try.prog.cellsOf 83) 0 (fun n => [.int .i16 n]) moves) v5) (thr : Int) (noise : Int) (z : Int) :
    Calls Try.prog 7 #[v0, .int .i16 f, .int .i16 c, .int .i16 d, v4, v5, .int .i64 thr, .int .i64 noise, .int .i64 z] w fun e w' => e = .returned (.bool true) ∧ Below w.heap.size w w' := by
  refine PC.callsTrue (pc_TopMeasured l f f1 c f2 d f3 p moves g5 thr noise z) Try.func7 (by kernel_rfl) rfl rfl fun i hi => ?_
  match i, hi with
  | 0, _ => have e : Try.prog.cellsOf 43 = 4 := (by kernel_rfl); rw [e] at h0; exact h0
  | 1, _ => exact .int _ _
  | 2, _ => exact .int _ _
  | 3, _ => exact .int _ _
  | 4, _ => exact h4
  | 5, _ => have e : Try.prog.cellsOf 83 = 1 := (by kernel_rfl); rw [e] at h5; exact h5
  | 6, _ => exact .int _ _
  | 7, _ => exact .int _ _
  | 8, _ => exact .int _ _

theorem lifted (os : Os) (started : os.Started) (H : Type) (enc : TypeId × Value → H) :
    ReturnsInHanded {} Try.checked os 7 .any (Rows.topMeasuredSpec.pre6 enc Try.prog Try.f7 Rows.topMeasuredRow.domain false) (Rows.topMeasuredSpec.post enc Try.prog Try.f7 false true false false) := by
  refine returnsInHanded_of_change (C := Try.checked) own started (by kernel_rfl) Try.func7
    (ChangeSpec.witness6 (enc := enc) (C := Try.checked) false ⟨#[], #[.slice none 0 0, .int .i16 0, .int .i16 0, .int .i16 0, .slice none 0 0, .slice none 0 0, .int .i64 0, .int .i64 0, .int .i64 0], []⟩ 8 (by kernel_rfl) (by kernel_rfl) (by kernel_rfl) (by kernel_rfl)) ?_
  intro W base args ds gs before hval0 hW hcnd _
  have hval : ∀ (j : Nat) t v, Try.f7.params[j]? = some t → args[j]? = some v → Value.okWide Try.prog W .any base t v := hval0
  have hW' := hW
  obtain ⟨p, q, hA0, hV, rfl, hfz, hnd⟩ := hW
  have hA : DataW.TrodAll enc Try.prog W 0 (fun _ => true) true Try.f7.params.toList args.toList ds p := hA0
  rw [Try.params7] at hA hval
  obtain ⟨v0, vs0, d0, ds0, p0, q0, hargs, rfl, rfl, h0, r0⟩ := trodAll_cons hA
  obtain ⟨v1, vs1, d1, ds1, p1, q1, rfl, rfl, rfl, h1, r1⟩ := trodAll_cons r0
  obtain ⟨v2, vs2, d2, ds2, p2, q2, rfl, rfl, rfl, h2, r2⟩ := trodAll_cons r1
  obtain ⟨v3, vs3, d3, ds3, p3, q3, rfl, rfl, rfl, h3, r3⟩ := trodAll_cons r2
  obtain ⟨v4, vs4, d4, ds4, p4, q4, rfl, rfl, rfl, h4, r4⟩ := trodAll_cons r3
  obtain ⟨v5, vs5, d5, ds5, p5, q5, rfl, rfl, rfl, h5, r5⟩ := trodAll_cons r4
  obtain ⟨v6, vs6, d6, ds6, p6, q6, rfl, rfl, rfl, h6, r6⟩ := trodAll_cons r5
  obtain ⟨v7, vs7, d7, ds7, p7, q7, rfl, rfl, rfl, h7, r7⟩ := trodAll_cons r6
  obtain ⟨v8, vs8, d8, ds8, p8, q8, rfl, rfl, rfl, h8, r8⟩ := trodAll_cons r7
  obtain ⟨rfl, rfl, rfl⟩ := trodAll_nil r8
  obtain rfl : args = #[v0, v1, v2, v3, v4, v5, v6, v7, v8] := by cases args; simp_all
  obtain ⟨rfl, rfl⟩ := trodVars_none hV
  obtain ⟨a0, len0, cap0, rfl⟩ := okWide_slice Try.underlying22 (hval 0 22 v0 rfl rfl)
  have k0 := h0
  have lt0 : ∀ x ∈ p0, x.block < W.heap.size := by obtain ⟨m, hm⟩ := k0; exact DataW.trod_lt m _ _ _ hm
  obtain ⟨fuel0, hf0⟩ := h0
  obtain ⟨l0, i0, g0, n0⟩ := repI_slice (d := ((0, 0), (0, 0))) Try.underlying22 dView (hval 0 22 _ rfl rfl) hf0
  obtain ⟨a1, rfl, rfl, rfl, w1⟩ := open_int Try.underlying83 (hval 1 83 v1 rfl rfl) h1
  obtain ⟨a2, rfl, rfl, rfl, w2⟩ := open_int Try.underlying83 (hval 2 83 v2 rfl rfl) h2
  obtain ⟨a3, rfl, rfl, rfl, w3⟩ := open_int Try.underlying83 (hval 3 83 v3 rfl rfl) h3
  obtain ⟨a4, len4, cap4, rfl⟩ := okWide_slice Try.underlying58 (hval 4 58 v4 rfl rfl)
  have k4 := h4
  have lt4 : ∀ x ∈ p4, x.block < W.heap.size := by obtain ⟨m, hm⟩ := k4; exact DataW.trod_lt m _ _ _ hm
  obtain ⟨l4, i4, _, n4⟩ : ∃ l : List Int, RepI (fun b => b < W.heap.size) W (ints l) (.slice a4 len4 cap4) ∧ (∀ n ∈ l, I64 n) ∧ l.length ≤ maxLen := by
    obtain ⟨fuel, hf⟩ := h4
    exact repI_ints Try.underlying58 Try.underlying3 (by kernel_rfl) (hval 4 58 _ rfl rfl) hf
  obtain ⟨a5, len5, cap5, rfl⟩ := okWide_slice Try.underlying84 (hval 5 84 v5 rfl rfl)
  have k5 := h5
  have lt5 : ∀ x ∈ p5, x.block < W.heap.size := by obtain ⟨m, hm⟩ := k5; exact DataW.trod_lt m _ _ _ hm
  obtain ⟨fuel5, hf5⟩ := h5
  obtain ⟨l5, i5, g5, n5⟩ := repI_slice (d := (0 : Int)) Try.underlying84 (dec_num Try.underlying83 (by kernel_rfl)) (hval 5 84 _ rfl rfl) hf5
  obtain ⟨a6, rfl, rfl, rfl, w6⟩ := open_int Try.underlying3 (hval 6 3 v6 rfl rfl) h6
  obtain ⟨a7, rfl, rfl, rfl, w7⟩ := open_int Try.underlying3 (hval 7 3 v7 rfl rfl) h7
  obtain ⟨a8, rfl, rfl, rfl, w8⟩ := open_int Try.underlying3 (hval 8 3 v8 rfl rfl) h8
  clear hA0 hval0
  refine (walk W l0 g0 _ i0 a1 w1 a2 w2 a3 w3 l4 _ i4 l5 g5 _ i5 a6 a7 a8).mono fun e W' ⟨he, bel⟩ => ?_
  subst he
  exact ⟨_, rfl, _, _, _, [], _, [], hW', trodAll_mk1 (shut_bool Try.underlying4 _), (trodAll_cons_mk (Below.trod laidOut (by kernel_rfl) (of_decide_eq_true (by kernel_rfl)) k0 bel lt0) (trodAll_cons_mk (shut_int Try.underlying83 w1) (trodAll_cons_mk (shut_int Try.underlying83 w2) (trodAll_cons_mk (shut_int Try.underlying83 w3) (trodAll_cons_mk (Below.trod laidOut (by kernel_rfl) (of_decide_eq_true (by kernel_rfl)) k4 bel lt4) (trodAll_cons_mk (Below.trod laidOut (by kernel_rfl) (of_decide_eq_true (by kernel_rfl)) k5 bel lt5) (trodAll_cons_mk (shut_int Try.underlying3 w6) (trodAll_cons_mk (shut_int Try.underlying3 w7) (trodAll_cons_mk (shut_int Try.underlying3 w8) trodAll_mk0))))))))), rfl, bel.frame _, fun h => by cases h⟩

theorem closed : joinedFacts Try.pinned.checked.prog 7 Try.f7 Rows.topMeasuredSpec Rows.topMeasuredRow = true :=
  (restOf Try.pinned.checked.prog 7 Try.f7 Rows.topMeasuredSpec Rows.topMeasuredRow make_eq mayEnter_eq liftsFinal_eq).2 (by kernel_rfl)
theorem over : Rows.topMeasuredRow.holds Try.pinned (OpenSpec.ofChange Rows.topMeasuredSpec) :=
  OpenClaim.holds_of_wide 7 Try.f7 rfl rfl rfl rfl rfl rfl rfl ⟨rfl, rfl, rfl, rfl, rfl⟩ rfl rfl rfl rfl rfl (by kernel_rfl) Try.func7 closed
    (of_decide_eq_true (by kernel_rfl)) (by unfold Func.isWrapper; first | (rw [if_pos (by decide +kernel)]; kernel_rfl) | (rw [if_neg (by decide +kernel)]; exact ⟨rfl, rfl⟩))
    (fun os started H enc _ => lifted os started H enc)

theorem proved : Rows.TopMeasuredSaid := over
#print axioms proved
end Go.Proofs.Ytblmmhmdnnnidaa.TopMeasuredDone
