/- GaugeHolds: each profile that the noise allows has its edges and its width in the spans. -/
import Derived.Test.YtjkoeomndepolaaMyHo3a
import Derived.Test.YtjkoeomndepolaaMyHo3b
import Derived.Test.YtjkoeomndepolaaMyHo3c
import Derived.Test.YtjkoeomndepolaaEvZ
import Derived.Test.YtjkoeomndepolaaEvZa
import Derived.Test.YtjkoeomndepolaaMyIniA
import Derived.Test.YtjkoeomndepolaaRows
import Derived.WalkKit
import Derived.ProofKit
import Derived.OpenShut
import Derived.ChangeOld
import Derived.Below
set_option maxRecDepth 100000
set_option maxHeartbeats 0
set_option linter.unusedVariables false
set_option linter.unusedSimpArgs false
namespace Go.Proofs.Try.My
open Go Go.Ev

theorem hoOk (p moves q back : List Int) (thr a noise e g h n1 d1 n2 d2 n3 d3 n4 d4 : Int) (R F W : SpT) (b1 b2 b3 b4 B1 B2 B3 : Bool) (hl : p.length ≤ 64) (m1 : 0 ≤ noise) (m2 : noise ≤ 64) (a1 : 0 ≤ a) (a2 : a < p.length)
    (k1 : PC Try.prog 28 [ints p, i64 thr, i64 a, i64 noise] (.tup [sp R, i64 e]))
    (k2 : PC Try.prog 30 [ints p, i64 thr, i64 a, i64 noise] (.tup [sp F, i64 g]))
    (k3 : PC Try.prog 32 [ints p, i64 thr, i64 noise] (.tup [sp W, i64 h]))
    (kv : PC Try.prog 45 [ints p] (.bool true))
    (ka : PC Try.prog 46 [ints p, i16s moves, i64 noise] (ints q))
    (kr : PC Try.prog 42 [ints q] (ints back))
    (f1 : PC Try.prog 47 [ints q, i64 (IntKind.i64.wrap (4 * thr)), i64 a] (.tup [i64 n1, i64 d1, .bool b1]))
    (f2 : PC Try.prog 47 [ints back, i64 (IntKind.i64.wrap (4 * thr)), i64 (IntKind.i64.wrap (IntKind.i64.wrap ((q.length : Int) - 1) - a))] (.tup [i64 n2, i64 d2, .bool b2]))
    (f3 : PC Try.prog 47 [ints q, i64 (IntKind.i64.wrap (4 * thr)), i64 0] (.tup [i64 n3, i64 d3, .bool b3]))
    (f4 : PC Try.prog 47 [ints back, i64 (IntKind.i64.wrap (4 * thr)), i64 0] (.tup [i64 n4, i64 d4, .bool b4]))
    (o1 : PC Try.prog 48 [sp R, i64 n1, i64 d1] (.bool B1))
    (o2 : PC Try.prog 48 [sp F, i64 (IntKind.i64.wrap (IntKind.i64.wrap (IntKind.i64.wrap ((q.length : Int) - 1) * d2) - n2)), i64 d2] (.bool B2))
    (o3 : PC Try.prog 48 [sp W, i64 (IntKind.i64.wrap (IntKind.i64.wrap (IntKind.i64.wrap (IntKind.i64.wrap (IntKind.i64.wrap ((q.length : Int) - 1) * d4) - n4) * d3) - IntKind.i64.wrap (n3 * d4))), i64 (IntKind.i64.wrap (d3 * d4))] (.bool B3))
    (h1 : e = 0 → b1 = true ∧ B1 = true) (h2 : g = 0 → b2 = true ∧ B2 = true) (h3 : h = 0 → b3 = true ∧ b4 = true ∧ B3 = true) :
    PC Try.prog 10 [ints p, i16s moves, i64 thr, i64 a, i64 noise] (.bool true) := by
  have hE : (e = 0 ∧ b1 = true ∧ B1 = true) ∨ e ≠ 0 := (Classical.em (e = 0)).imp (fun x => ⟨x, h1 x⟩) id
  have hG : (g = 0 ∧ b2 = true ∧ B2 = true) ∨ g ≠ 0 := (Classical.em (g = 0)).imp (fun x => ⟨x, h2 x⟩) id
  have hH : (h = 0 ∧ b3 = true ∧ b4 = true ∧ B3 = true) ∨ h ≠ 0 := (Classical.em (h = 0)).imp (fun x => ⟨x, h3 x⟩) id
  clear h1 h2 h3
  rcases hE with ⟨rfl, rfl, rfl⟩ | hE <;> rcases hG with ⟨rfl, rfl, rfl⟩ | hG <;> rcases hH with ⟨rfl, rfl, rfl, rfl⟩ | hH
  · exact hoOk0 p moves q back thr a noise 0 0 0 n1 d1 n2 d2 n3 d3 n4 d4 R F W true true true true true true true hl m1 m2 a1 a2 k1 k2 k3 kv ka kr f1 f2 f3 f4 o1 o2 o3
  · exact hoOk1 p moves q back thr a noise 0 0 h n1 d1 n2 d2 n3 d3 n4 d4 R F W true true b3 b4 true true B3 hl m1 m2 a1 a2 k1 k2 k3 kv ka kr f1 f2 f3 f4 o1 o2 o3 hH
  · exact hoOk2 p moves q back thr a noise 0 g 0 n1 d1 n2 d2 n3 d3 n4 d4 R F W true b2 true true true B2 true hl m1 m2 a1 a2 k1 k2 k3 kv ka kr f1 f2 f3 f4 o1 o2 o3 hG
  · exact hoOk3 p moves q back thr a noise 0 g h n1 d1 n2 d2 n3 d3 n4 d4 R F W true b2 b3 b4 true B2 B3 hl m1 m2 a1 a2 k1 k2 k3 kv ka kr f1 f2 f3 f4 o1 o2 o3 hG hH
  · exact hoOk4 p moves q back thr a noise e 0 0 n1 d1 n2 d2 n3 d3 n4 d4 R F W b1 true true true B1 true true hl m1 m2 a1 a2 k1 k2 k3 kv ka kr f1 f2 f3 f4 o1 o2 o3 hE
  · exact hoOk5 p moves q back thr a noise e 0 h n1 d1 n2 d2 n3 d3 n4 d4 R F W b1 true b3 b4 B1 true B3 hl m1 m2 a1 a2 k1 k2 k3 kv ka kr f1 f2 f3 f4 o1 o2 o3 hE hH
  · exact hoOk6 p moves q back thr a noise e g 0 n1 d1 n2 d2 n3 d3 n4 d4 R F W b1 b2 true true B1 B2 true hl m1 m2 a1 a2 k1 k2 k3 kv ka kr f1 f2 f3 f4 o1 o2 o3 hE hG
  · exact hoOk7 p moves q back thr a noise e g h n1 d1 n2 d2 n3 d3 n4 d4 R F W b1 b2 b3 b4 B1 B2 B3 hl m1 m2 a1 a2 k1 k2 k3 kv ka kr f1 f2 f3 f4 o1 o2 o3 hE hG hH
end Go.Proofs.Try.My
set_option maxRecDepth 100000
set_option maxHeartbeats 0
set_option linter.unusedVariables false
set_option linter.unusedSimpArgs false
namespace Go.Proofs.Try.My
open Go Go.Ev

theorem i64_wrap (x : Int) : I64 (IntKind.i64.wrap x) := by
  unfold I64
  rw [IntKind.wrap_i64]
  omega
theorem pc_GaugeHolds (p moves : List Int) (hw : ∀ n ∈ moves, (Lit.int .i16 n).wf = true) (thr a noise : Int) : PC Try.prog 10 [ints p, i16s moves, i64 thr, i64 a, i64 noise] (.bool true) := by
  by_cases ho : 64 < p.length ∨ noise < 0 ∨ 64 < noise
  · exact hoOut p moves thr a noise 0 0 0 zS zS zS ho
  have hl : p.length ≤ 64 := by omega
  have m1 : 0 ≤ noise := by omega
  have m2 : noise ≤ 64 := by omega
  have hl2 : p.length < 2 ^ 40 := by omega
  have k1 := pc_gRise p thr a noise hl2
  have k2 := pc_gFall p thr a noise hl2
  have k3 := pc_gWidth p thr noise hl2
  have kv := pc_ValidProfile5 p hl2
  by_cases hv : profB p = false ∨ a < 0 ∨ p.length ≤ a
  · refine hoErr p moves thr a noise _ _ _ _ _ _ _ hl m1 m2 k1 k2 k3 kv (fun h => ?_) (fun h => ?_) hv
    · obtain ⟨hp, hq, _⟩ := edg_known (.inl rfl) h
      obtain ⟨_, _, a1, a2, _⟩ := ask_known hq
      rw [hp] at hv
      simp at hv
      omega
    · obtain ⟨hp, hq, _⟩ := edg_known (.inr rfl) h
      obtain ⟨_, _, a1, a2, _⟩ := ask_known hq
      rw [hp] at hv
      simp at hv
      omega
  have hp : profB p = true := by
    cases h : profB p
    · exact absurd (.inl h) hv
    · rfl
  have a1 : 0 ≤ a := by omega
  have a2 : a < p.length := by omega
  rw [hp] at kv
  have ka := pc_allowed p moves noise (prof_byte hp) hl m1 m2 hw
  have ql : (alwL p moves noise).length = p.length := alwL_length p moves noise
  have kr := pc_reversed (alwL p moves noise) (by omega)
  have hq := alw_big p moves noise
  have hr := rev_big hq
  have rl : (alwL p moves noise).reverse.length = p.length := by rw [List.length_reverse, ql]
  have wl : IntKind.i64.wrap (((alwL p moves noise).length : Int) - 1) = (p.length : Int) - 1 := by rw [ql]; exact w64 _ (by omega) (by omega)
  have wa : IntKind.i64.wrap (IntKind.i64.wrap (((alwL p moves noise).length : Int) - 1) - a) = (p.length : Int) - 1 - a := by rw [wl]; exact w64 _ (by omega) (by omega)
  have f1 := pc_first (alwL p moves noise) (IntKind.i64.wrap (4 * thr)) a hq (by omega) a1 (by omega)
  have f2 := pc_first (alwL p moves noise).reverse (IntKind.i64.wrap (4 * thr)) (IntKind.i64.wrap (IntKind.i64.wrap (((alwL p moves noise).length : Int) - 1) - a)) hr (by omega) (by rw [wa]; omega) (by rw [wa]; omega)
  have f3 := pc_first (alwL p moves noise) (IntKind.i64.wrap (4 * thr)) 0 hq (by omega) (by omega) (by omega)
  have f4 := pc_first (alwL p moves noise).reverse (IntKind.i64.wrap (4 * thr)) 0 hr (by omega) (by omega) (by omega)
  have s1 := fstN_small hq (by omega) (thr := IntKind.i64.wrap (4 * thr)) a1 (show a < (alwL p moves noise).length by omega)
  have s2 := fstN_small hr (by omega) (thr := IntKind.i64.wrap (4 * thr)) (a := IntKind.i64.wrap (IntKind.i64.wrap (((alwL p moves noise).length : Int) - 1) - a)) (by rw [wa]; omega) (by rw [wa]; omega)
  refine hoOk p moves _ _ thr a noise _ _ _ _ _ _ _ _ _ _ _ _ _ _ _ _ _ _ _ _ _ hl m1 m2 a1 a2 k1 k2 k3 kv ka kr f1 f2 f3 f4 (pc_holds _ _ _ ⟨by omega, by omega⟩ ⟨by omega, by omega⟩) (pc_holds _ _ _ (i64_wrap _) ⟨by omega, by omega⟩) (pc_holds _ _ _ (i64_wrap _) (i64_wrap _)) ?_ ?_ ?_
  · intro h
    obtain ⟨_, hk, _⟩ := edg_known (.inl rfl) h
    obtain ⟨t1, t2, _⟩ := ask_known hk
    obtain ⟨n, d, e, n1, n2, d1, d2, sb, q1, q2⟩ := rise_holds (moves := moves) h
    rw [w64 (4 * thr) (by omega) (by omega), e]
    exact ⟨rfl, holB_true sb (by show _ ≤ n; omega) (by show n ≤ _; omega) d1 (by show d ≤ _; omega) q1 q2⟩
  · intro h
    obtain ⟨_, hk, _⟩ := edg_known (.inr rfl) h
    obtain ⟨t1, t2, _⟩ := ask_known hk
    obtain ⟨n, d, e, n1, n2, d1, d2, sb, q1, q2⟩ := fall_holds (moves := moves) h
    rw [w64 (4 * thr) (by omega) (by omega), wa, wl, e]
    dsimp only
    obtain ⟨z1, z2, z3, z4⟩ := size_end n1 n2 d1 d2 (show 0 ≤ (p.length : Int) - 1 by omega) (by omega)
    rw [← rat_end _ d1] at q1 q2
    generalize ((p.length : Int) - 1) * d = w at *
    rw [w64 w (by omega) (by omega), w64 (w - n) (by omega) (by omega)]
    exact ⟨rfl, holB_true sb (by omega) (by omega) d1 (by omega) q1 q2⟩
  · intro h
    obtain ⟨_, hk, _⟩ := wid_known h
    obtain ⟨t1, t2, _⟩ := ask_known hk
    obtain ⟨A, B, C, D, e1, e2, n1, d1, n2, d2, sb, q1, q2⟩ := wid_holds (moves := moves) h
    rw [w64 (4 * thr) (by omega) (by omega), wl, e1, e2]
    dsimp only
    have z0 := size_end n2.1 n2.2 d2.1 d2.2 (show 0 ≤ (p.length : Int) - 1 by omega) (by omega)
    obtain ⟨z1, z2, z3, z4⟩ := size_wid n1.1 n1.2 d1.1 d1.2 n2.1 n2.2 d2.1 d2.2 (show 0 ≤ (p.length : Int) - 1 by omega) (by omega)
    have hh := holB_wid sb n1 d1 n2 d2 (show 0 ≤ (p.length : Int) - 1 by omega) (by omega) q1 q2
    rw [w64 (((p.length : Int) - 1) * D) (by omega) (by omega), w64 (((p.length : Int) - 1) * D - C) (by omega) (by omega), w64 ((((p.length : Int) - 1) * D - C) * B) (by omega) (by omega), w64 (A * D) (by omega) (by omega), w64 (B * D) (by omega) (by omega), w64 _ (by omega) (by omega)]
    exact ⟨rfl, rfl, hh⟩
end Go.Proofs.Try.My
set_option maxRecDepth 100000
set_option maxHeartbeats 0
set_option linter.unusedVariables false
set_option linter.unusedSimpArgs false
namespace Go.Proofs.Ytjkoeomndepolaa.GaugeHoldsDone
open Go Go.Ev Go.Proofs.Try.My
open Go.ChangeShapes Go.WideShapes Go.ChangeAt Go.RowKit

theorem own : ownKnob Try.prog.godebug = none := by kernel_rfl
theorem laidOut : laidOutB Try.prog = true := by kernel_rfl

theorem walk (w : World) (p : List Int) (v0 : Value) (h0 : RepI (fun b => b < w.heap.size) w (ints p) v0) (moves : List Int) (g1 : ∀ n ∈ moves, (Lit.int .i16 n).wf = true) (v1 : Value) (h1 : RepI (fun b => b < w.heap.size) w (.sl (Try.prog.cellsOf 85) 0 (fun n => [.int .i16 n]) moves) v1) (thr : Int) (a : Int) (noise : Int) :
    Calls Try.prog 10 #[v0, v1, .int .i64 thr, .int .i64 a, .int .i64 noise] w fun e w' => e = .returned (.bool true) ∧ Below w.heap.size w w' := by
  refine PC.callsTrue (pc_GaugeHolds p moves g1 thr a noise) Try.func10 (by kernel_rfl) rfl rfl fun i hi => ?_
  match i, hi with
  | 0, _ => exact h0
  | 1, _ => have e : Try.prog.cellsOf 85 = 1 := (by kernel_rfl); rw [e] at h1; exact h1
  | 2, _ => exact .int _ _
  | 3, _ => exact .int _ _
  | 4, _ => exact .int _ _

theorem lifted (os : Os) (started : os.Started) (H : Type) (enc : TypeId × Value → H) :
    ReturnsInHanded {} Try.checked os 10 .any (Rows.gaugeHoldsSpec.pre6 enc Try.prog Try.f10 Rows.gaugeHoldsRow.domain false) (Rows.gaugeHoldsSpec.post enc Try.prog Try.f10 false true false false) := by
  refine returnsInHanded_of_change (C := Try.checked) own started (by kernel_rfl) Try.func10
    (ChangeSpec.witness6 (enc := enc) (C := Try.checked) false ⟨#[], #[.slice none 0 0, .slice none 0 0, .int .i64 0, .int .i64 0, .int .i64 0], []⟩ 8 (by kernel_rfl) (by kernel_rfl) (by kernel_rfl) (by kernel_rfl)) ?_
  intro W base args ds gs before hval0 hW hcnd _
  have hval : ∀ (j : Nat) t v, Try.f10.params[j]? = some t → args[j]? = some v → Value.okWide Try.prog W .any base t v := hval0
  have hW' := hW
  obtain ⟨p, q, hA0, hV, rfl, hfz, hnd⟩ := hW
  have hA : DataW.TrodAll enc Try.prog W 0 (fun _ => true) true Try.f10.params.toList args.toList ds p := hA0
  rw [Try.params10] at hA hval
  obtain ⟨v0, vs0, d0, ds0, p0, q0, hargs, rfl, rfl, h0, r0⟩ := trodAll_cons hA
  obtain ⟨v1, vs1, d1, ds1, p1, q1, rfl, rfl, rfl, h1, r1⟩ := trodAll_cons r0
  obtain ⟨v2, vs2, d2, ds2, p2, q2, rfl, rfl, rfl, h2, r2⟩ := trodAll_cons r1
  obtain ⟨v3, vs3, d3, ds3, p3, q3, rfl, rfl, rfl, h3, r3⟩ := trodAll_cons r2
  obtain ⟨v4, vs4, d4, ds4, p4, q4, rfl, rfl, rfl, h4, r4⟩ := trodAll_cons r3
  obtain ⟨rfl, rfl, rfl⟩ := trodAll_nil r4
  obtain rfl : args = #[v0, v1, v2, v3, v4] := by cases args; simp_all
  obtain ⟨rfl, rfl⟩ := trodVars_none hV
  obtain ⟨a0, len0, cap0, rfl⟩ := okWide_slice Try.underlying22 (hval 0 22 v0 rfl rfl)
  have k0 := h0
  have lt0 : ∀ x ∈ p0, x.block < W.heap.size := by obtain ⟨m, hm⟩ := k0; exact DataW.trod_lt m _ _ _ hm
  obtain ⟨l0, i0, _, n0⟩ : ∃ l : List Int, RepI (fun b => b < W.heap.size) W (ints l) (.slice a0 len0 cap0) ∧ (∀ n ∈ l, I64 n) ∧ l.length ≤ maxLen := by
    obtain ⟨fuel, hf⟩ := h0
    exact repI_ints Try.underlying22 Try.underlying3 (by kernel_rfl) (hval 0 22 _ rfl rfl) hf
  obtain ⟨a1, len1, cap1, rfl⟩ := okWide_slice Try.underlying73 (hval 1 73 v1 rfl rfl)
  have k1 := h1
  have lt1 : ∀ x ∈ p1, x.block < W.heap.size := by obtain ⟨m, hm⟩ := k1; exact DataW.trod_lt m _ _ _ hm
  obtain ⟨fuel1, hf1⟩ := h1
  obtain ⟨l1, i1, g1, n1⟩ := repI_slice (d := (0 : Int)) Try.underlying73 (dec_num Try.underlying85 (by kernel_rfl)) (hval 1 73 _ rfl rfl) hf1
  obtain ⟨a2, rfl, rfl, rfl, w2⟩ := open_int Try.underlying3 (hval 2 3 v2 rfl rfl) h2
  obtain ⟨a3, rfl, rfl, rfl, w3⟩ := open_int Try.underlying3 (hval 3 3 v3 rfl rfl) h3
  obtain ⟨a4, rfl, rfl, rfl, w4⟩ := open_int Try.underlying3 (hval 4 3 v4 rfl rfl) h4
  clear hA0 hval0
  refine (walk W l0 _ i0 l1 g1 _ i1 a2 a3 a4).mono fun e W' ⟨he, bel⟩ => ?_
  subst he
  exact ⟨_, rfl, _, _, _, [], _, [], hW', trodAll_mk1 (shut_bool Try.underlying4 _), (trodAll_cons_mk (Below.trod laidOut (by kernel_rfl) (of_decide_eq_true (by kernel_rfl)) k0 bel lt0) (trodAll_cons_mk (Below.trod laidOut (by kernel_rfl) (of_decide_eq_true (by kernel_rfl)) k1 bel lt1) (trodAll_cons_mk (shut_int Try.underlying3 w2) (trodAll_cons_mk (shut_int Try.underlying3 w3) (trodAll_cons_mk (shut_int Try.underlying3 w4) trodAll_mk0))))), rfl, bel.frame _, fun h => by cases h⟩

theorem closed : joinedFacts Try.pinned.checked.prog 10 Try.f10 Rows.gaugeHoldsSpec Rows.gaugeHoldsRow = true :=
  (restOf Try.pinned.checked.prog 10 Try.f10 Rows.gaugeHoldsSpec Rows.gaugeHoldsRow make_eq mayEnter_eq liftsFinal_eq).2 (by kernel_rfl)
theorem over : Rows.gaugeHoldsRow.holds Try.pinned (OpenSpec.ofChange Rows.gaugeHoldsSpec) :=
  OpenClaim.holds_of_wide 10 Try.f10 rfl rfl rfl rfl rfl rfl rfl ⟨rfl, rfl, rfl, rfl, rfl⟩ rfl rfl rfl rfl rfl (by kernel_rfl) Try.func10 closed
    (of_decide_eq_true (by kernel_rfl)) (by unfold Func.isWrapper; first | (rw [if_pos (by decide +kernel)]; kernel_rfl) | (rw [if_neg (by decide +kernel)]; exact ⟨rfl, rfl⟩))
    (fun os started H enc _ => lifted os started H enc)

theorem proved : Rows.GaugeHoldsSaid := over
#print axioms proved
end Go.Proofs.Ytjkoeomndepolaa.GaugeHoldsDone
