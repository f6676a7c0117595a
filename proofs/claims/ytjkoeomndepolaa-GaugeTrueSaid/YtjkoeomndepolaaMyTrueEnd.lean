/- GaugeTrue: Pass and Fail are right for each profile that the noise allows. -/
import Derived.Test.YtjkoeomndepolaaMyTr1a
import Derived.Test.YtjkoeomndepolaaMyTr1b
import Derived.Test.YtjkoeomndepolaaMyTr1c
import Derived.Test.YtjkoeomndepolaaMyTr1d
import Derived.Test.YtjkoeomndepolaaEvZ
import Derived.Test.YtjkoeomndepolaaEvZa
import Derived.Test.YtjkoeomndepolaaMyIniA
import Derived.Test.YtjkoeomndepolaaRows
import Derived.WalkKit
import Derived.ProofKit
import Derived.OpenShut
import Derived.ChangeOld
import Derived.Below
set_option maxRecDepth 100000
set_option maxHeartbeats 0
set_option linter.unusedVariables false
set_option linter.unusedSimpArgs false
namespace Go.Proofs.Try.My
open Go Go.Ev

theorem in_ok {s : SpT} {x : Int × Int} (hs : spanB s = true) (hx : validB x = true) : PC Try.prog 49 [sp s, fr x] (.tup [.bool (hasB s x), i64 0]) := by
  have h := pc_In s x
  rw [hs, hx] at h
  exact h
theorem pc_GaugeTrue (g : GauT) (p moves : List Int) (hw : ∀ n ∈ moves, (Lit.int .i16 n).wf = true) (high : Bool) (hI : IG g) : PC Try.prog 13 [gau g, ints p, i16s moves, .bool high] (.bool true) := by
  have hgm := fun (hg : gauB g = true) (hp : profB p = true) => mea_ok hg hp
  have hbad := fun h => mea_bad (g := g) (p := p) h
  have hdark := fun h0 h => true_dark (g := g) (p := p) (moves := moves) h0 h
  have hlaw := fun hg hp (a b c d : Int) (t : Bool) e1 e2 => true_law (g := g) (p := p) (moves := moves) (high := high) hg hp (a := a) (b := b) (c := c) (d := d) (t := t) e1 e2
  by_cases hl : p.length ≤ 64
  rotate_left
  · obtain ⟨⟨⟨⟨thr, noi⟩, ⟨⟨a1, a2⟩, ⟨b1, b2⟩⟩⟩, ⟨l1, l2⟩⟩, ⟨h1, h2⟩⟩ := g
    exact gtOut thr noi a1 a2 b1 b2 l1 l2 h1 h2 p moves high hl
  have hl2 : p.length < 2 ^ 40 := by omega
  have k1 := pc_Measure g p hl2
  have vg := pc_ValidGauge g hI
  have vp := pc_ValidProfile5 p hl2
  by_cases hv : gauB g = false ∨ profB p = false
  · have hE := hbad hv
    generalize gauB g = gb at *
    obtain ⟨⟨⟨⟨thr, noi⟩, ⟨⟨a1, a2⟩, ⟨b1, b2⟩⟩⟩, ⟨l1, l2⟩⟩, ⟨h1, h2⟩⟩ := g
    exact gtBad thr noi a1 a2 b1 b2 l1 l2 h1 h2 p moves high _ _ _ _ _ hl hE k1 vg vp hv
  have hg : gauB g = true := by
    cases h : gauB g
    · exact absurd (.inl h) hv
    · rfl
  have hp : profB p = true := by
    cases h : profB p
    · exact absurd (.inr h) hv
    · rfl
  rw [hg] at vg
  rw [hp] at vp
  obtain ⟨o1, o2⟩ := hgm hg hp
  have kn := gauB_known hg
  have hln := prof_len hp
  have ka := pc_allowed p moves (gNoi g) (prof_byte hp) hl kn.2.1.1 kn.2.1.2 hw
  have ql : (alwL p moves (gNoi g)).length = p.length := alwL_length p moves (gNoi g)
  have kr := pc_reversed (alwL p moves (gNoi g)) (by omega)
  have hq := alw_big p moves (gNoi g)
  have hr := rev_big hq
  have rl : (alwL p moves (gNoi g)).reverse.length = p.length := by rw [List.length_reverse, ql]
  have f1 := pc_first (alwL p moves (gNoi g)) (4 * gThr g) 0 hq (by omega) (by omega) (by omega)
  have f2 := pc_first (alwL p moves (gNoi g)).reverse (4 * gThr g) 0 hr (by omega) (by omega) (by omega)
  have s1 := fstN_small hq (by omega) (thr := 4 * gThr g) (a := 0) (by omega) (by omega)
  have s2 := fstN_small hr (by omega) (thr := 4 * gThr g) (a := 0) (by omega) (by omega)
  have hlaw := hlaw hg hp
  have hdark := hdark o1
  rw [o1] at k1
  generalize hA : fstN (alwL p moves (gNoi g)) (4 * gThr g) 0 = A at *
  generalize hB : fstN (alwL p moves (gNoi g)).reverse (4 * gThr g) 0 = B at *
  obtain ⟨a, b, t⟩ := A
  obtain ⟨c, d, t'⟩ := B
  simp only [] at f1 f2 s1 s2 hdark
  rw [← w64 (4 * gThr g) (by omega) (by omega)] at f1 f2
  cases t
  · have hd := hdark rfl
    generalize alwL p moves (gNoi g) = q at *
    obtain ⟨V, hV⟩ : ∃ V, (meaF g p).2.1 = V := ⟨_, rfl⟩
    rw [hV] at k1 o2 hd
    obtain ⟨⟨⟨⟨thr, noi⟩, ⟨⟨a1, a2⟩, ⟨b1, b2⟩⟩⟩, ⟨l1, l2⟩⟩, ⟨h1, h2⟩⟩ := g
    rcases o2 with rfl | rfl | rfl
    · exact absurd rfl hd
    · exact gtDark2 thr noi a1 a2 b1 b2 l1 l2 h1 h2 p moves high q _ a b c d t' _ hl k1 vg vp ka kr f1 f2
    · exact gtDark3 thr noi a1 a2 b1 b2 l1 l2 h1 h2 p moves high q _ a b c d t' _ hl k1 vg vp ka kr f1 f2
  · obtain ⟨w, L, mw, mL, vL, sM, hc⟩ := hlaw a b c d t' rfl rfl
    obtain ⟨z1, z2, z3, z4⟩ := size_wid s1.1 s1.2.1 s1.2.2.1 s1.2.2.2 s2.1 s2.2.1 s2.2.2.1 s2.2.2.2 (show 0 ≤ (p.length : Int) - 1 by omega) (by omega)
    have z0 := size_end s2.1 s2.2.1 s2.2.2.1 s2.2.2.2 (show 0 ≤ (p.length : Int) - 1 by omega) (by omega)
    have mk := pc_Make ((((p.length : Int) - 1) * d - c) * b - a * d) (b * d) ⟨by omega, by omega⟩ ⟨by omega, by omega⟩
    rw [mw] at mk
    have wl : IntKind.i64.wrap (((alwL p moves (gNoi g)).length : Int) - 1) = (p.length : Int) - 1 := by rw [ql]; exact w64 _ (by omega) (by omega)
    have e1 : IntKind.i64.wrap (IntKind.i64.wrap (IntKind.i64.wrap (IntKind.i64.wrap (IntKind.i64.wrap (((alwL p moves (gNoi g)).length : Int) - 1) * d) - c) * b) - IntKind.i64.wrap (a * d)) = (((p.length : Int) - 1) * d - c) * b - a * d := by
      rw [wl, w64 (((p.length : Int) - 1) * d) (by omega) (by omega), w64 (((p.length : Int) - 1) * d - c) (by omega) (by omega), w64 ((((p.length : Int) - 1) * d - c) * b) (by omega) (by omega), w64 (a * d) (by omega) (by omega), w64 _ (by omega) (by omega)]
    have e2 : IntKind.i64.wrap (b * d) = b * d := w64 _ (by omega) (by omega)
    rw [← e1, ← e2] at mk
    have ml := pc_Mul w (if high then (gSc g).2 else (gSc g).1)
    rw [mL] at ml
    have i1 := in_ok kn.2.2.2.1 vL
    have i2 := in_ok sM vL
    have fz : PC Try.prog 43 [i64 0, i64 1] (fr (0, 1)) := twL 0 (by omega) (by omega)
    clear hlaw hdark hbad hgm e1 e2 wl z0 z1 z2 z3 z4 s1 s2 mL mw sM o1 hA hB
    generalize alwL p moves (gNoi g) = q at *
    generalize q.reverse = back at *
    generalize meaF g p = M at *
    obtain ⟨S, V, E⟩ := M
    simp only [] at k1 i2 o2 hc
    clear kn hg
    obtain ⟨⟨⟨⟨thr, noi⟩, ⟨⟨a1, a2⟩, ⟨b1, b2⟩⟩⟩, ⟨l1, l2⟩⟩, ⟨h1, h2⟩⟩ := g
    obtain ⟨⟨s1, s2⟩, ⟨s3, s4⟩⟩ := S
    obtain ⟨w1, w2⟩ := w
    obtain ⟨L1, L2⟩ := L
    generalize hK : hasB ((s1, s2), (s3, s4)) (L1, L2) = K at *
    generalize hasB (gTol ((((thr, noi), ((a1, a2), (b1, b2))), (l1, l2)), (h1, h2))) (L1, L2) = I at *
    rcases hc with ⟨eS, rfl⟩ | ⟨rfl, ⟨rfl, rfl⟩ | ⟨rfl, rfl⟩ | rfl⟩
    · obtain ⟨⟨rfl, rfl⟩, ⟨rfl, rfl⟩⟩ : (s1 = 0 ∧ s2 = 1) ∧ (s3 = 0 ∧ s4 = 1) := by simpa using eS
      cases high
      · exact gtOkZ0 thr noi a1 a2 b1 b2 l1 l2 h1 h2 p moves q back a b c d 0 1 0 1 w1 w2 L1 L2 t' I K hl k1 vg vp ka kr f1 f2 mk ml i1 i2 fz
      · exact gtOkZ1 thr noi a1 a2 b1 b2 l1 l2 h1 h2 p moves q back a b c d 0 1 0 1 w1 w2 L1 L2 t' I K hl k1 vg vp ka kr f1 f2 mk ml i1 i2 fz
    · cases high
      · exact gtOkP0 thr noi a1 a2 b1 b2 l1 l2 h1 h2 p moves q back a b c d s1 s2 s3 s4 w1 w2 L1 L2 t' true true hl k1 vg vp ka kr f1 f2 mk ml i1 i2 fz
      · exact gtOkP1 thr noi a1 a2 b1 b2 l1 l2 h1 h2 p moves q back a b c d s1 s2 s3 s4 w1 w2 L1 L2 t' true true hl k1 vg vp ka kr f1 f2 mk ml i1 i2 fz
    · cases high
      · exact gtOkF0 thr noi a1 a2 b1 b2 l1 l2 h1 h2 p moves q back a b c d s1 s2 s3 s4 w1 w2 L1 L2 t' true true hl k1 vg vp ka kr f1 f2 mk ml i1 i2 fz
      · exact gtOkF1 thr noi a1 a2 b1 b2 l1 l2 h1 h2 p moves q back a b c d s1 s2 s3 s4 w1 w2 L1 L2 t' true true hl k1 vg vp ka kr f1 f2 mk ml i1 i2 fz
    · cases high
      · exact gtOkU0 thr noi a1 a2 b1 b2 l1 l2 h1 h2 p moves q back a b c d s1 s2 s3 s4 w1 w2 L1 L2 t' I true hl k1 vg vp ka kr f1 f2 mk ml i1 i2 fz
      · exact gtOkU1 thr noi a1 a2 b1 b2 l1 l2 h1 h2 p moves q back a b c d s1 s2 s3 s4 w1 w2 L1 L2 t' I true hl k1 vg vp ka kr f1 f2 mk ml i1 i2 fz
end Go.Proofs.Try.My
set_option maxRecDepth 100000
set_option maxHeartbeats 0
set_option linter.unusedVariables false
set_option linter.unusedSimpArgs false
namespace Go.Proofs.Ytjkoeomndepolaa.GaugeTrueDone
open Go Go.Ev Go.Proofs.Try.My
open Go.ChangeShapes Go.WideShapes Go.ChangeAt Go.RowKit

theorem own : ownKnob Try.prog.godebug = none := by kernel_rfl
theorem laidOut : laidOutB Try.prog = true := by kernel_rfl

theorem dFrac : Dec Try.prog 24 eF (fun y : Int × Int => I64 y.1 ∧ I64 y.2) :=
  dec_two Try.underlying24 rfl rfl rfl (by kernel_rfl) (by kernel_rfl) (dec_int Try.underlying3 (by kernel_rfl)) (dec_int Try.underlying3 (by kernel_rfl)) (fun _ => by kernel_rfl)
theorem dSpan : Dec Try.prog 39 eS (fun y : SpT => (I64 y.1.1 ∧ I64 y.1.2) ∧ (I64 y.2.1 ∧ I64 y.2.2)) :=
  dec_two Try.underlying39 rfl rfl rfl (by kernel_rfl) (by kernel_rfl) dFrac dFrac (fun _ => by kernel_rfl)
theorem dGauge : Dec Try.prog 54 eG (fun y : GauT => ((((I64 y.1.1.1.1 ∧ I64 y.1.1.1.2) ∧ ((I64 y.1.1.2.1.1 ∧ I64 y.1.1.2.1.2) ∧ (I64 y.1.1.2.2.1 ∧ I64 y.1.1.2.2.2))) ∧ (I64 y.1.2.1 ∧ I64 y.1.2.2)) ∧ (I64 y.2.1 ∧ I64 y.2.2))) :=
  dec_all Try.underlying54 rfl (by kernel_rfl)
    (dec_more (k := 4) Try.underlying54 rfl (by kernel_rfl) (dec_more (k := 3) Try.underlying54 rfl (by kernel_rfl) (dec_more (k := 2) Try.underlying54 rfl (by kernel_rfl) (dec_more (k := 1) Try.underlying54 rfl (by kernel_rfl)
      (dec_one Try.underlying54 rfl (by kernel_rfl) (dec_int Try.underlying3 (by kernel_rfl))) (dec_int Try.underlying3 (by kernel_rfl)) (fun _ => by kernel_rfl)) dSpan (fun _ => by kernel_rfl)) dFrac (fun _ => by kernel_rfl)) dFrac (fun _ => by kernel_rfl))
theorem walk (w : World) (g : GauT) (f0 : ((((I64 g.1.1.1.1 ∧ I64 g.1.1.1.2) ∧ ((I64 g.1.1.2.1.1 ∧ I64 g.1.1.2.1.2) ∧ (I64 g.1.1.2.2.1 ∧ I64 g.1.1.2.2.2))) ∧ (I64 g.1.2.1 ∧ I64 g.1.2.2)) ∧ (I64 g.2.1 ∧ I64 g.2.2))) (v0 : Value) (h0 : RepI (fun b => b < w.heap.size) w (.agg (eG g)) v0) (p : List Int) (v1 : Value) (h1 : RepI (fun b => b < w.heap.size) w (ints p) v1) (moves : List Int) (g2 : ∀ n ∈ moves, (Lit.int .i16 n).wf = true) (v2 : Value) (h2 : RepI (fun b => b < w.heap.size) w (.sl (Try.prog.cellsOf 85) 0 (fun n => [.int .i16 n]) moves) v2) (high : Bool) :
    Calls Try.prog 13 #[v0, v1, v2, .bool high] w fun e w' => e = .returned (.bool true) ∧ Below w.heap.size w w' := by
  refine PC.callsTrue (pc_GaugeTrue g  p moves g2 high ⟨f0.1.1.1.1, f0.1.1.1.2, ⟨f0.1.1.2.1.1, f0.1.1.2.1.2, f0.1.1.2.2.1, f0.1.1.2.2.2⟩, f0.1.2.1, f0.1.2.2, f0.2.1, f0.2.2⟩) Try.func13 (by kernel_rfl) rfl rfl fun i hi => ?_
  match i, hi with
  | 0, _ => exact h0
  | 1, _ => exact h1
  | 2, _ => have e : Try.prog.cellsOf 85 = 1 := (by kernel_rfl); rw [e] at h2; exact h2
  | 3, _ => exact .bool _

theorem lifted (os : Os) (started : os.Started) (H : Type) (enc : TypeId × Value → H) :
    ReturnsInHanded {} Try.checked os 13 .any (Rows.gaugeTrueSpec.pre6 enc Try.prog Try.f13 Rows.gaugeTrueRow.domain false) (Rows.gaugeTrueSpec.post enc Try.prog Try.f13 false true false false) := by
  refine returnsInHanded_of_change (C := Try.checked) own started (by kernel_rfl) Try.func13
    (ChangeSpec.witness6 (enc := enc) (C := Try.checked) false ⟨#[], #[.agg #[.int .i64 0, .int .i64 0, .int .i64 0, .int .i64 0, .int .i64 0, .int .i64 0, .int .i64 0, .int .i64 0, .int .i64 0, .int .i64 0], .slice none 0 0, .slice none 0 0, .bool false], []⟩ 8 (by kernel_rfl) (by kernel_rfl) (by kernel_rfl) (by kernel_rfl)) ?_
  intro W base args ds gs before hval0 hW hcnd _
  have hval : ∀ (j : Nat) t v, Try.f13.params[j]? = some t → args[j]? = some v → Value.okWide Try.prog W .any base t v := hval0
  have hW' := hW
  obtain ⟨p, q, hA0, hV, rfl, hfz, hnd⟩ := hW
  have hA : DataW.TrodAll enc Try.prog W 0 (fun _ => true) true Try.f13.params.toList args.toList ds p := hA0
  rw [Try.params13] at hA hval
  obtain ⟨v0, vs0, d0, ds0, p0, q0, hargs, rfl, rfl, h0, r0⟩ := trodAll_cons hA
  obtain ⟨v1, vs1, d1, ds1, p1, q1, rfl, rfl, rfl, h1, r1⟩ := trodAll_cons r0
  obtain ⟨v2, vs2, d2, ds2, p2, q2, rfl, rfl, rfl, h2, r2⟩ := trodAll_cons r1
  obtain ⟨v3, vs3, d3, ds3, p3, q3, rfl, rfl, rfl, h3, r3⟩ := trodAll_cons r2
  obtain ⟨rfl, rfl, rfl⟩ := trodAll_nil r3
  obtain rfl : args = #[v0, v1, v2, v3] := by cases args; simp_all
  obtain ⟨rfl, rfl⟩ := trodVars_none hV
  have k0 := h0
  have lt0 : ∀ x ∈ p0, x.block < W.heap.size := by obtain ⟨m, hm⟩ := k0; exact DataW.trod_lt m _ _ _ hm
  obtain ⟨a0, fa0, ra0⟩ := repI_struct Try.underlying54 dGauge (fun _ => by kernel_rfl) (hval 0 54 v0 rfl rfl) h0
  obtain ⟨a1, len1, cap1, rfl⟩ := okWide_slice Try.underlying22 (hval 1 22 v1 rfl rfl)
  have k1 := h1
  have lt1 : ∀ x ∈ p1, x.block < W.heap.size := by obtain ⟨m, hm⟩ := k1; exact DataW.trod_lt m _ _ _ hm
  obtain ⟨l1, i1, _, n1⟩ : ∃ l : List Int, RepI (fun b => b < W.heap.size) W (ints l) (.slice a1 len1 cap1) ∧ (∀ n ∈ l, I64 n) ∧ l.length ≤ maxLen := by
    obtain ⟨fuel, hf⟩ := h1
    exact repI_ints Try.underlying22 Try.underlying3 (by kernel_rfl) (hval 1 22 _ rfl rfl) hf
  obtain ⟨a2, len2, cap2, rfl⟩ := okWide_slice Try.underlying73 (hval 2 73 v2 rfl rfl)
  have k2 := h2
  have lt2 : ∀ x ∈ p2, x.block < W.heap.size := by obtain ⟨m, hm⟩ := k2; exact DataW.trod_lt m _ _ _ hm
  obtain ⟨fuel2, hf2⟩ := h2
  obtain ⟨l2, i2, g2, n2⟩ := repI_slice (d := (0 : Int)) Try.underlying73 (dec_num Try.underlying85 (by kernel_rfl)) (hval 2 73 _ rfl rfl) hf2
  obtain ⟨a3, rfl, rfl, rfl⟩ := open_bool Try.underlying4 (hval 3 4 v3 rfl rfl) h3
  clear hA0 hval0
  refine (walk W a0 fa0 _ (ra0 _ _) l1 _ i1 l2 g2 _ i2 a3).mono fun e W' ⟨he, bel⟩ => ?_
  subst he
  exact ⟨_, rfl, _, _, _, [], _, [], hW', trodAll_mk1 (shut_bool Try.underlying4 _), (trodAll_cons_mk (Below.trod laidOut (by kernel_rfl) (of_decide_eq_true (by kernel_rfl)) k0 bel lt0) (trodAll_cons_mk (Below.trod laidOut (by kernel_rfl) (of_decide_eq_true (by kernel_rfl)) k1 bel lt1) (trodAll_cons_mk (Below.trod laidOut (by kernel_rfl) (of_decide_eq_true (by kernel_rfl)) k2 bel lt2) (trodAll_cons_mk (shut_bool Try.underlying4 _) trodAll_mk0)))), rfl, bel.frame _, fun h => by cases h⟩

theorem closed : joinedFacts Try.pinned.checked.prog 13 Try.f13 Rows.gaugeTrueSpec Rows.gaugeTrueRow = true :=
  (restOf Try.pinned.checked.prog 13 Try.f13 Rows.gaugeTrueSpec Rows.gaugeTrueRow make_eq mayEnter_eq liftsFinal_eq).2 (by kernel_rfl)
theorem over : Rows.gaugeTrueRow.holds Try.pinned (OpenSpec.ofChange Rows.gaugeTrueSpec) :=
  OpenClaim.holds_of_wide 13 Try.f13 rfl rfl rfl rfl rfl rfl rfl ⟨rfl, rfl, rfl, rfl, rfl⟩ rfl rfl rfl rfl rfl (by kernel_rfl) Try.func13 closed
    (of_decide_eq_true (by kernel_rfl)) (by unfold Func.isWrapper; first | (rw [if_pos (by decide +kernel)]; kernel_rfl) | (rw [if_neg (by decide +kernel)]; exact ⟨rfl, rfl⟩))
    (fun os started H enc _ => lifted os started H enc)

theorem proved : Rows.GaugeTrueSaid := over
#print axioms proved
end Go.Proofs.Ytjkoeomndepolaa.GaugeTrueDone
