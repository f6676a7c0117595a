/- An image whose rows have their edges on a line, moved by at most the noise, gives spans of slope and place that contain the true ones: for every input the statement law05.GaugeStraight returns true. -/
import Derived.Test.YtiimhccemdcnpaaMyGs2
import Derived.Test.YtiimhccemdcnpaaEvZ
import Derived.Test.YtiimhccemdcnpaaEvZa
import Derived.Test.YtiimhccemdcnpaaMyIniA
import Derived.Test.YtiimhccemdcnpaaRows
import Derived.WalkKit
import Derived.ProofKit
import Derived.OpenShut
import Derived.ChangeOld
import Derived.Below
set_option maxRecDepth 100000
set_option maxHeartbeats 0
set_option linter.unusedVariables false
set_option linter.unusedSimpArgs false
namespace Go.Proofs.Try.My
open Go Go.Ev

theorem gs_views (f c rise : Int) (moves : List Int) (noise : Int) (W H : Nat) (W1 : 2 ≤ W) (W2 : W ≤ 16) (H1 : 2 ≤ H) (H2 : H ≤ 12) (r1 : 3 ≤ rise) (r2 : rise ≤ 6) (n1 : 0 ≤ noise) (n2 : noise ≤ 20) :
    PC Try.prog 5 [img W H (pixL f c rise moves noise W (W * H)), i64 (16 * rise), i64 noise] (.tup [vws (imV (pixL f c rise moves noise W (W * H)) W (16 * rise) noise H), i64 0]) := by
  have m := Nat.mul_le_mul W2 H2
  have hl := pixL_length f c rise moves noise W (W * H)
  have c1 := pc_imCheck W H (pixL f c rise moves noise W (W * H)) (by omega)
  have c2 := pc_gfrom 1 255 (16 * rise)
  have c3 := pc_gfrom 0 64 noise
  have c4 := pc_ContainsFunc0 19 (fun n => !withB n 0 255) pc_odd (pixL f c rise moves noise W (W * H)) (by omega)
  have inr : ∀ n ∈ pixL f c rise moves noise W (W * H), 0 ≤ n ∧ n ≤ 255 := fun n hn => by
    obtain ⟨k, _, rfl⟩ := List.mem_map.1 hn
    exact clip8_range _
  have hi : imgB W H (pixL f c rise moves noise W (W * H)) = true := by
    unfold imgB withB
    simp only [Bool.and_eq_true, decide_eq_true_eq, List.all_eq_true]
    refine ⟨⟨by omega, by omega⟩, ?_, fun n hn => ?_⟩
    · rw [hl, ← Int.natCast_mul, w64 _ (by omega) (by omega)]
    · have := inr n hn; omega
  rw [if_pos hi] at c1
  rw [show withB (16 * rise) 1 255 = true from by unfold withB; simp only [Bool.and_eq_true, decide_eq_true_eq]; omega] at c2
  rw [show withB noise 0 64 = true from by unfold withB; simp only [Bool.and_eq_true, decide_eq_true_eq]; omega] at c3
  rw [show ((pixL f c rise moves noise W (W * H)).any fun n => !withB n 0 255) = false from by
    rw [List.any_eq_false]
    intro n hn
    have := inr n hn
    unfold withB
    simp only [Bool.not_eq_true, Bool.not_eq_false', Bool.and_eq_true, decide_eq_true_eq]
    omega] at c4
  exact vwOk W H (16 * rise) noise _ W1 W2 (by omega) hl c1 c2 c3 c4
theorem pc_GaugeStraight (w : Int) (ww : (Lit.int .u8 w).wf = true) (h : Int) (wh : (Lit.int .u8 h).wf = true) (f : Int) (wf : (Lit.int .i8 f).wf = true) (c : Int) (wc : (Lit.int .i8 c).wf = true) (bright : Int) (wb : (Lit.int .u8 bright).wf = true) (moves : List Int) (wm : ∀ n ∈ moves, (Lit.int .i16 n).wf = true) (noise : Int) :
    PC Try.prog 3 [.int .u8 w, .int .u8 h, .int .i8 f, .int .i8 c, .int .u8 bright, i16s moves, i64 noise] (.bool true) := by
  have ru : ∀ n : Int, (Lit.int .u8 n).wf = true → 0 ≤ n ∧ n ≤ 255 := fun n h => by
    simp [Lit.wf, IntKind.min, IntKind.max, IntKind.signed, IntKind.bits] at h
    omega
  have ri : ∀ n : Int, (Lit.int .i8 n).wf = true → -128 ≤ n ∧ n ≤ 127 := fun n h => by
    simp [Lit.wf, IntKind.min, IntKind.max, IntKind.signed, IntKind.bits] at h
    omega
  have uw := ru w ww
  have uh := ru h wh
  have ub := ru bright wb
  have uf := ri f wf
  have uc := ri c wc
  clear ww wh wf wc wb ru ri
  by_cases hn : noise < 0 ∨ 20 < noise
  · exact gsOut w h f c bright noise moves hn
  have tm : ∀ {a m : Int}, 0 ≤ a → 0 < m → Int.tmod a m = a % m := fun ha hm => Int.tmod_eq_emod_of_nonneg ha
  obtain ⟨W, eW⟩ : ∃ W : Nat, (W : Int) = w % 15 + 2 := ⟨(w % 15 + 2).toNat, by omega⟩
  obtain ⟨H, eH⟩ : ∃ H : Nat, (H : Int) = h % 11 + 2 := ⟨(h % 11 + 2).toNat, by omega⟩
  have eT : Int.tdiv (100 + bright % 100) 32 = (100 + bright % 100) / 32 := Int.tdiv_eq_ediv_of_nonneg (by omega)
  obtain ⟨rise, er⟩ : ∃ r, r = (100 + bright % 100) / 32 := ⟨_, rfl⟩
  have W1 : 2 ≤ W := by omega
  have W2 : W ≤ 16 := by omega
  have H1 : 2 ≤ H := by omega
  have H2 : H ≤ 12 := by omega
  have r1 : 3 ≤ rise := by omega
  have r2 : rise ≤ 6 := by omega
  have cV := gs_views f c rise moves noise W H W1 W2 H1 H2 r1 r2 (by omega) (by omega)
  have ok := views_ok (f := f) (c := c) (rise := rise) (moves := moves) (noise := noise) (W := W) (H := H) (by omega) r2 (by omega) W2 (by omega) (K := H) (Nat.le_refl H)
  have ln := imV_len (pixL f c rise moves noise W (W * H)) W (16 * rise) noise H
  obtain ⟨p1, p2, _⟩ := imV_view (pix := pixL f c rise moves noise W (W * H)) W2 (thr := 16 * rise) (noise := noise) (H := H) (by omega)
  have cL := fun (hl : (imV (pixL f c rise moves noise W (W * H)) W (16 * rise) noise H).length < 2 ^ 39) => pc_lineOk W H (16 * rise) noise _ _ _ _ cV (pc_Calibrate _ hl)
  have cL := cL (by omega)
  generalize imV (pixL f c rise moves noise W (W * H)) W (16 * rise) noise H = l at *
  have mem : ∀ i, i < l.length → l.getD i z4 ∈ l := fun i hi => by simp [List.getD, hi]
  refine gs_walk w h f c bright noise moves W H (100 + bright % 100) rise wm ?_ ?_ ?_ (eT.trans er.symm) W1 W2 H1 H2 r1 r2 uf.1 uf.2 uc.1 uc.2 (by omega) (by omega) l (calF l).1 (calF l).2 cV cL (by omega) (fun i hi => ok _ (mem i hi)) (fun i hi => (p1 _ (mem i hi)).1) (fun h2 hg => ?_)
  · rw [w64 w (by omega) (by omega), tm (by omega) (by decide), w64 _ (by omega) (by omega)]; omega
  · rw [w64 h (by omega) (by omega), tm (by omega) (by decide), w64 _ (by omega) (by omega)]; omega
  · rw [w64 bright (by omega) (by omega), tm (by omega) (by decide), w64 _ (by omega) (by omega)]
  · refine straight_law (by omega) h2 p1 p2 (fun v hv => ?_) uf.1 uf.2 uc.1 uc.2
    obtain ⟨i, hi, rfl⟩ := List.getElem_of_mem hv
    have := hg i hi
    rw [show l.getD i z4 = l[i] by simp [List.getD, hi]] at this
    exact this
end Go.Proofs.Try.My
set_option maxRecDepth 100000
set_option maxHeartbeats 0
set_option linter.unusedVariables false
set_option linter.unusedSimpArgs false
namespace Go.Proofs.Ytiimhccemdcnpaa.GaugeStraightDone
open Go Go.Ev Go.Proofs.Try.My
open Go.ChangeShapes Go.WideShapes Go.ChangeAt Go.RowKit

theorem own : ownKnob Try.prog.godebug = none := by kernel_rfl
theorem laidOut : laidOutB Try.prog = true := by kernel_rfl

theorem walk (w : World) (aw : Int) (f0 : (Lit.int .u8 aw).wf = true) (ah : Int) (f1 : (Lit.int .u8 ah).wf = true) (af : Int) (f2 : (Lit.int .i8 af).wf = true) (ac : Int) (f3 : (Lit.int .i8 ac).wf = true) (ab : Int) (f4 : (Lit.int .u8 ab).wf = true) (am : List Int) (g5 : ∀ n ∈ am, (Lit.int .i16 n).wf = true) (v5 : Value) (h5 : RepI (fun b => b < w.heap.size) w (.sl (Try.prog.cellsOf 28) 0 (fun n => [.int .i16 n]) am) v5) (an : Int) :
    Calls Try.prog 3 #[.int .u8 aw, .int .u8 ah, .int .i8 af, .int .i8 ac, .int .u8 ab, v5, .int .i64 an] w fun e w' => e = .returned (.bool true) ∧ Below w.heap.size w w' := by
  refine PC.callsTrue (pc_GaugeStraight aw f0 ah f1 af f2 ac f3 ab f4 am g5 an) Try.func3 (by kernel_rfl) rfl rfl fun i hi => ?_
  match i, hi with
  | 0, _ => exact .int _ _
  | 1, _ => exact .int _ _
  | 2, _ => exact .int _ _
  | 3, _ => exact .int _ _
  | 4, _ => exact .int _ _
  | 5, _ => have e : Try.prog.cellsOf 28 = 1 := (by kernel_rfl); rw [e] at h5; exact h5
  | 6, _ => exact .int _ _

theorem lifted (os : Os) (started : os.Started) (H : Type) (enc : TypeId × Value → H) :
    ReturnsInHanded {} Try.checked os 3 .any (Rows.gaugeStraightSpec.pre6 enc Try.prog Try.f3 Rows.gaugeStraightRow.domain false) (Rows.gaugeStraightSpec.post enc Try.prog Try.f3 false true false false) := by
  refine returnsInHanded_of_change (C := Try.checked) own started (by kernel_rfl) Try.func3
    (ChangeSpec.witness6 (enc := enc) (C := Try.checked) false ⟨#[], #[.int .u8 0, .int .u8 0, .int .i8 0, .int .i8 0, .int .u8 0, .slice none 0 0, .int .i64 0], []⟩ 8 (by kernel_rfl) (by kernel_rfl) (by kernel_rfl) (by kernel_rfl)) ?_
  intro W base args ds gs before hval0 hW hcnd _
  have hval : ∀ (j : Nat) t v, Try.f3.params[j]? = some t → args[j]? = some v → Value.okWide Try.prog W .any base t v := hval0
  have hW' := hW
  obtain ⟨p, q, hA0, hV, rfl, hfz, hnd⟩ := hW
  have hA : DataW.TrodAll enc Try.prog W 0 (fun _ => true) true Try.f3.params.toList args.toList ds p := hA0
  rw [Try.params3] at hA hval
  obtain ⟨v0, vs0, d0, ds0, p0, q0, hargs, rfl, rfl, h0, r0⟩ := trodAll_cons hA
  obtain ⟨v1, vs1, d1, ds1, p1, q1, rfl, rfl, rfl, h1, r1⟩ := trodAll_cons r0
  obtain ⟨v2, vs2, d2, ds2, p2, q2, rfl, rfl, rfl, h2, r2⟩ := trodAll_cons r1
  obtain ⟨v3, vs3, d3, ds3, p3, q3, rfl, rfl, rfl, h3, r3⟩ := trodAll_cons r2
  obtain ⟨v4, vs4, d4, ds4, p4, q4, rfl, rfl, rfl, h4, r4⟩ := trodAll_cons r3
  obtain ⟨v5, vs5, d5, ds5, p5, q5, rfl, rfl, rfl, h5, r5⟩ := trodAll_cons r4
  obtain ⟨v6, vs6, d6, ds6, p6, q6, rfl, rfl, rfl, h6, r6⟩ := trodAll_cons r5
  obtain ⟨rfl, rfl, rfl⟩ := trodAll_nil r6
  obtain rfl : args = #[v0, v1, v2, v3, v4, v5, v6] := by cases args; simp_all
  obtain ⟨rfl, rfl⟩ := trodVars_none hV
  obtain ⟨a0, rfl, rfl, rfl, w0⟩ := open_int Try.underlying5 (hval 0 5 v0 rfl rfl) h0
  obtain ⟨a1, rfl, rfl, rfl, w1⟩ := open_int Try.underlying5 (hval 1 5 v1 rfl rfl) h1
  obtain ⟨a2, rfl, rfl, rfl, w2⟩ := open_int Try.underlying22 (hval 2 22 v2 rfl rfl) h2
  obtain ⟨a3, rfl, rfl, rfl, w3⟩ := open_int Try.underlying22 (hval 3 22 v3 rfl rfl) h3
  obtain ⟨a4, rfl, rfl, rfl, w4⟩ := open_int Try.underlying5 (hval 4 5 v4 rfl rfl) h4
  obtain ⟨a5, len5, cap5, rfl⟩ := okWide_slice Try.underlying23 (hval 5 23 v5 rfl rfl)
  have k5 := h5
  have lt5 : ∀ x ∈ p5, x.block < W.heap.size := by obtain ⟨m, hm⟩ := k5; exact DataW.trod_lt m _ _ _ hm
  obtain ⟨fuel5, hf5⟩ := h5
  obtain ⟨l5, i5, g5, n5⟩ := repI_slice (d := (0 : Int)) Try.underlying23 (dec_num Try.underlying28 (by kernel_rfl)) (hval 5 23 _ rfl rfl) hf5
  obtain ⟨a6, rfl, rfl, rfl, w6⟩ := open_int Try.underlying3 (hval 6 3 v6 rfl rfl) h6
  clear hA0 hval0
  refine (walk W a0 w0 a1 w1 a2 w2 a3 w3 a4 w4 l5 g5 _ i5 a6).mono fun e W' ⟨he, bel⟩ => ?_
  subst he
  exact ⟨_, rfl, _, _, _, [], _, [], hW', trodAll_mk1 (shut_bool Try.underlying4 _), (trodAll_cons_mk (shut_int Try.underlying5 w0) (trodAll_cons_mk (shut_int Try.underlying5 w1) (trodAll_cons_mk (shut_int Try.underlying22 w2) (trodAll_cons_mk (shut_int Try.underlying22 w3) (trodAll_cons_mk (shut_int Try.underlying5 w4) (trodAll_cons_mk (Below.trod laidOut (by kernel_rfl) (of_decide_eq_true (by kernel_rfl)) k5 bel lt5) (trodAll_cons_mk (shut_int Try.underlying3 w6) trodAll_mk0))))))), rfl, bel.frame _, fun h => by cases h⟩

theorem closed : joinedFacts Try.pinned.checked.prog 3 Try.f3 Rows.gaugeStraightSpec Rows.gaugeStraightRow = true :=
  (restOf Try.pinned.checked.prog 3 Try.f3 Rows.gaugeStraightSpec Rows.gaugeStraightRow make_eq mayEnter_eq liftsFinal_eq).2 (by kernel_rfl)
theorem over : Rows.gaugeStraightRow.holds Try.pinned (OpenSpec.ofChange Rows.gaugeStraightSpec) :=
  OpenClaim.holds_of_wide 3 Try.f3 rfl rfl rfl rfl rfl rfl rfl ⟨rfl, rfl, rfl, rfl, rfl⟩ rfl rfl rfl rfl rfl (by kernel_rfl) Try.func3 closed
    (of_decide_eq_true (by kernel_rfl)) (by unfold Func.isWrapper; first | (rw [if_pos (by decide +kernel)]; kernel_rfl) | (rw [if_neg (by decide +kernel)]; exact ⟨rfl, rfl⟩))
    (fun os started H enc _ => lifted os started H enc)

theorem proved : Rows.GaugeStraightSaid := over
#print axioms proved
end Go.Proofs.Ytiimhccemdcnpaa.GaugeStraightDone
