/- RecipeHeld of layer 10: what is in dispute stays in the log; what is dropped is the oldest entry that is not in dispute. -/
import Derived.Test.YtnoahgjfeablgaaGreatMzBkA
import Derived.Test.YtnoahgjfeablgaaGreatMzGdD
import Derived.Test.YtnoahgjfeablgaaGreatEvTen
import Derived.Test.YtnoahgjfeablgaaGreatRows
import Derived.WalkKit
import Derived.ProofKit
import Derived.OpenShut
import Derived.ChangeOld
import Derived.Below
import Derived.Test.YtnoahgjfeablgaaGreatMzBp9
import Derived.Test.YtnoahgjfeablgaaGreatMzBn9
import Derived.Test.YtnoahgjfeablgaaGreatMzIniA
set_option maxRecDepth 100000
set_option maxHeartbeats 0
set_option linter.unusedVariables false
set_option linter.unusedSimpArgs false
namespace Go.Proofs.YtnoahgjfeablgaaGreat.BooksIn
open Go Go.Ev Go.Proofs.Tryz.My
open Go.ChangeShapes Go.WideShapes Go.ChangeAt Go.RowKit
def IB (b : BooksT) : Prop := ∀ i, IG (b.recipes.getD i rec0).gauge
theorem dFrac : Dec Tryz.prog 28 eF (fun y : Int × Int => I64 y.1 ∧ I64 y.2) :=
  dec_two Tryz.underlying28 rfl rfl rfl (by kernel_rfl) (by kernel_rfl) (dec_int Tryz.underlying3 (by kernel_rfl)) (dec_int Tryz.underlying3 (by kernel_rfl)) (fun _ => by kernel_rfl)
theorem dSpan : Dec Tryz.prog 30 eS (fun y : SpT => (I64 y.1.1 ∧ I64 y.1.2) ∧ (I64 y.2.1 ∧ I64 y.2.2)) :=
  dec_two Tryz.underlying30 rfl rfl rfl (by kernel_rfl) (by kernel_rfl) dFrac dFrac (fun _ => by kernel_rfl)
theorem dGauge : Dec Tryz.prog 32 eG (fun y : GauT => ((((I64 y.1.1.1.1 ∧ I64 y.1.1.1.2) ∧ ((I64 y.1.1.2.1.1 ∧ I64 y.1.1.2.1.2) ∧ (I64 y.1.1.2.2.1 ∧ I64 y.1.1.2.2.2))) ∧ (I64 y.1.2.1 ∧ I64 y.1.2.2)) ∧ (I64 y.2.1 ∧ I64 y.2.2))) :=
  dec_all Tryz.underlying32 rfl (by kernel_rfl)
    (dec_more (k := 4) Tryz.underlying32 rfl (by kernel_rfl) (dec_more (k := 3) Tryz.underlying32 rfl (by kernel_rfl) (dec_more (k := 2) Tryz.underlying32 rfl (by kernel_rfl) (dec_more (k := 1) Tryz.underlying32 rfl (by kernel_rfl)
      (dec_one Tryz.underlying32 rfl (by kernel_rfl) (dec_int Tryz.underlying3 (by kernel_rfl))) (dec_int Tryz.underlying3 (by kernel_rfl)) (fun _ => by kernel_rfl)) dSpan (fun _ => by kernel_rfl)) dFrac (fun _ => by kernel_rfl)) dFrac (fun _ => by kernel_rfl))
theorem dInt : DecM Tryz.prog 3 (fun n : Int => [i64 n]) I64 := Dec.mem (dec_int Tryz.underlying3 (by kernel_rfl))
theorem dInts : DecM Tryz.prog 56 (fun l : List Int => [ints l]) (fun _ => True) := by
  have h0 : DecM Tryz.prog 56 (fun l : List Int => [.sl (Tryz.prog.cellsOf 3) 0 (fun n : Int => [i64 n]) l]) (fun l => (∀ n ∈ l, I64 n) ∧ l.length ≤ maxLen) := decM_slice (d := (0 : Int)) Tryz.underlying56 (by kernel_rfl) (of_decide_eq_true (by kernel_rfl)) dInt
  have e : Tryz.prog.cellsOf 3 = 1 := by kernel_rfl
  rw [e] at h0
  intro H enc w base spare held fuel cs x ht
  exact DecM.weak h0 (fun _ _ => trivial) ht
theorem dU8 : DecM Tryz.prog 5 (fun n : Int => [u8 n]) (fun n => (Lit.int .u8 n).wf = true) := Dec.mem (dec_num Tryz.underlying5 (by kernel_rfl))
theorem dU8s : DecM Tryz.prog 22 (fun l : List Int => [u8l l]) (fun _ => True) := by
  have h0 : DecM Tryz.prog 22 (fun l : List Int => [.sl (Tryz.prog.cellsOf 5) 0 (fun n : Int => [u8 n]) l]) (fun l => (∀ n ∈ l, (Lit.int .u8 n).wf = true) ∧ l.length ≤ maxLen) := decM_slice (d := (0 : Int)) Tryz.underlying22 (by kernel_rfl) (of_decide_eq_true (by kernel_rfl)) dU8
  have e : Tryz.prog.cellsOf 5 = 1 := by kernel_rfl
  rw [e] at h0
  intro H enc w base spare held fuel cs x ht
  exact DecM.weak h0 (fun _ _ => trivial) ht
theorem dGaugeM : DecM Tryz.prog 32 eG (fun y : GauT => ((((I64 y.1.1.1.1 ∧ I64 y.1.1.1.2) ∧ ((I64 y.1.1.2.1.1 ∧ I64 y.1.1.2.1.2) ∧ (I64 y.1.1.2.2.1 ∧ I64 y.1.1.2.2.2))) ∧ (I64 y.1.2.1 ∧ I64 y.1.2.2)) ∧ (I64 y.2.1 ∧ I64 y.2.2))) := Dec.mem dGauge
theorem dRec0 : DecM Tryz.prog 76 (fun y : ((Int × GauT) × List Int) × Int => ((([i64 y.1.1.1] ++ eG y.1.1.2) ++ [ints y.1.2]) ++ [u8 y.2])) (fun y => ((I64 y.1.1.1 ∧ ((((I64 y.1.1.2.1.1.1.1 ∧ I64 y.1.1.2.1.1.1.2) ∧ ((I64 y.1.1.2.1.1.2.1.1 ∧ I64 y.1.1.2.1.1.2.1.2) ∧ (I64 y.1.1.2.1.1.2.2.1 ∧ I64 y.1.1.2.1.1.2.2.2))) ∧ (I64 y.1.1.2.1.2.1 ∧ I64 y.1.1.2.1.2.2)) ∧ (I64 y.1.1.2.2.1 ∧ I64 y.1.1.2.2.2))) ∧ True) ∧ (Lit.int .u8 y.2).wf = true) :=
  decM_all Tryz.underlying76 rfl (by kernel_rfl)
    (decM_more (k := 3) Tryz.underlying76 rfl (by kernel_rfl) (decM_more (k := 2) Tryz.underlying76 rfl (by kernel_rfl) (decM_more (k := 1) Tryz.underlying76 rfl (by kernel_rfl)
      (decM_one Tryz.underlying76 rfl (by kernel_rfl) dInt) dGaugeM (fun _ => by kernel_rfl)) dInts (fun _ => by kernel_rfl)) dU8 (fun _ => by kernel_rfl))
theorem dRec : DecM Tryz.prog 76 eRec (fun x => IG x.gauge) := by
  refine DecM.weak (DecM.map (en' := eRec) dRec0 (fun y => (⟨y.1.1.1, y.1.1.2, y.1.2, y.2⟩ : RecT)) (fun _ => rfl)) fun x h => by
    obtain ⟨y, rfl, ⟨⟨_, ⟨⟨a, b⟩, c⟩⟩, _⟩, _⟩ := h
    exact ⟨a.1.1, a.1.2, ⟨a.2.1.1, a.2.1.2, a.2.2.1, a.2.2.2⟩, ⟨b.1, b.2, c.1, c.2⟩⟩
theorem dRecs : DecM Tryz.prog 23 (fun l : List RecT => [recs l]) (fun l => ∀ x ∈ l, IG x.gauge) := by
  have h0 : DecM Tryz.prog 23 (fun l : List RecT => [.sl (Tryz.prog.cellsOf 76) rec0 eRec l]) (fun l => (∀ n ∈ l, IG n.gauge) ∧ l.length ≤ maxLen) := decM_slice (d := rec0) Tryz.underlying23 (by kernel_rfl) (of_decide_eq_true (by kernel_rfl)) dRec
  have e : Tryz.prog.cellsOf 76 = 13 := by kernel_rfl
  rw [e] at h0
  intro H enc w base spare held fuel cs x ht
  exact DecM.weak h0 (fun _ h => h.1) ht
theorem dBool : DecM Tryz.prog 4 (fun b : Bool => [.bool b]) (fun _ => True) := decM_bool Tryz.underlying4 (by kernel_rfl)
theorem dEnt0 : DecM Tryz.prog 58 (fun y : ((((Int × Int) × Int) × List Int) × Int) × Bool => ((((([i64 y.1.1.1.1.1] ++ [i64 y.1.1.1.1.2]) ++ [i64 y.1.1.1.2]) ++ [ints y.1.1.2]) ++ [u8 y.1.2]) ++ [.bool y.2])) (fun y => ((((I64 y.1.1.1.1.1 ∧ I64 y.1.1.1.1.2) ∧ I64 y.1.1.1.2) ∧ True) ∧ (Lit.int .u8 y.1.2).wf = true) ∧ True) :=
  decM_all Tryz.underlying58 rfl (by kernel_rfl)
    (decM_more (k := 5) Tryz.underlying58 rfl (by kernel_rfl) (decM_more (k := 4) Tryz.underlying58 rfl (by kernel_rfl) (decM_more (k := 3) Tryz.underlying58 rfl (by kernel_rfl) (decM_more (k := 2) Tryz.underlying58 rfl (by kernel_rfl) (decM_more (k := 1) Tryz.underlying58 rfl (by kernel_rfl)
      (decM_one Tryz.underlying58 rfl (by kernel_rfl) dInt) dInt (fun _ => by kernel_rfl)) dInt (fun _ => by kernel_rfl)) dInts (fun _ => by kernel_rfl)) dU8 (fun _ => by kernel_rfl)) dBool (fun _ => by kernel_rfl))
theorem dEnt : DecM Tryz.prog 58 eEnt (fun _ => True) := by
  refine DecM.weak (DecM.map (en' := eEnt) dEnt0 (fun y => (⟨y.1.1.1.1.1, y.1.1.1.1.2, y.1.1.1.2, y.1.1.2, y.1.2, y.2⟩ : EntT)) (fun _ => rfl)) fun _ _ => trivial
theorem dEnts : DecM Tryz.prog 24 (fun l : List EntT => [ents l]) (fun _ => True) := by
  have h0 : DecM Tryz.prog 24 (fun l : List EntT => [.sl (Tryz.prog.cellsOf 58) ent0 eEnt l]) (fun l => (∀ n ∈ l, True) ∧ l.length ≤ maxLen) := decM_slice (d := ent0) Tryz.underlying24 (by kernel_rfl) (of_decide_eq_true (by kernel_rfl)) dEnt
  have e : Tryz.prog.cellsOf 58 = 6 := by kernel_rfl
  rw [e] at h0
  intro H enc w base spare held fuel cs x ht
  exact DecM.weak h0 (fun _ _ => trivial) ht
theorem dBooks0 : DecM Tryz.prog 26 (fun y : (((Int × List Int) × List RecT) × Int) × List EntT => (((([i64 y.1.1.1.1] ++ [u8l y.1.1.1.2]) ++ [recs y.1.1.2]) ++ [i64 y.1.2]) ++ [ents y.2])) (fun y => (((I64 y.1.1.1.1 ∧ True) ∧ ∀ x ∈ y.1.1.2, IG x.gauge) ∧ I64 y.1.2) ∧ True) :=
  decM_all Tryz.underlying26 rfl (by kernel_rfl)
    (decM_more (k := 4) Tryz.underlying26 rfl (by kernel_rfl) (decM_more (k := 3) Tryz.underlying26 rfl (by kernel_rfl) (decM_more (k := 2) Tryz.underlying26 rfl (by kernel_rfl) (decM_more (k := 1) Tryz.underlying26 rfl (by kernel_rfl)
      (decM_one Tryz.underlying26 rfl (by kernel_rfl) dInt) dU8s (fun _ => by kernel_rfl)) dRecs (fun _ => by kernel_rfl)) dInt (fun _ => by kernel_rfl)) dEnts (fun _ => by kernel_rfl))
theorem ig0 : IG rec0.gauge := by
  have h : I64 (0 : Int) := by first | (unfold I64; decide) | decide | exact ⟨by decide, by decide⟩
  exact ⟨h, h, ⟨h, h, h, h⟩, ⟨h, h, h, h⟩⟩
theorem dBooks : DecM Tryz.prog 26 eB IB := by
  refine DecM.weak (DecM.map (en' := eB) dBooks0 (fun y => (⟨y.1.1.1.1, y.1.1.1.2, y.1.1.2, y.1.2, y.2⟩ : BooksT)) (fun _ => rfl)) fun x h => by
    obtain ⟨y, rfl, ⟨⟨_, h⟩, _⟩, _⟩ := h
    intro i
    by_cases hi : i < y.1.1.2.length
    · have e : y.1.1.2.getD i rec0 = y.1.1.2[i] := by simp [List.getD, hi]
      show IG (y.1.1.2.getD i rec0).gauge
      rw [e]
      exact h _ (List.getElem_mem hi)
    · have e : y.1.1.2.getD i rec0 = rec0 := by rw [List.getD, List.getElem?_eq_none (by omega)]; rfl
      show IG (y.1.1.2.getD i rec0).gauge
      rw [e]
      exact ig0
end Go.Proofs.YtnoahgjfeablgaaGreat.BooksIn
set_option maxRecDepth 100000
set_option maxHeartbeats 0
set_option linter.unusedVariables false
set_option linter.unusedSimpArgs false
namespace Go.Proofs.YtnoahgjfeablgaaGreat.BooksIn
open Go Go.Ev Go.Proofs.Tryz.My
open Go.ChangeShapes Go.WideShapes Go.ChangeAt Go.RowKit
theorem dAct0 : DecM Tryz.prog 85 (fun y : ((((Int × Int) × Int) × Int) × GauT) × List Int => ((((([u8 y.1.1.1.1.1] ++ [i64 y.1.1.1.1.2]) ++ [i64 y.1.1.1.2]) ++ [u8 y.1.1.2]) ++ eG y.1.2) ++ [ints y.2]))
    (fun y => (((((Lit.int .u8 y.1.1.1.1.1).wf = true ∧ I64 y.1.1.1.1.2) ∧ I64 y.1.1.1.2) ∧ (Lit.int .u8 y.1.1.2).wf = true) ∧ ((((I64 y.1.2.1.1.1.1 ∧ I64 y.1.2.1.1.1.2) ∧ ((I64 y.1.2.1.1.2.1.1 ∧ I64 y.1.2.1.1.2.1.2) ∧ (I64 y.1.2.1.1.2.2.1 ∧ I64 y.1.2.1.1.2.2.2))) ∧ (I64 y.1.2.1.2.1 ∧ I64 y.1.2.1.2.2)) ∧ (I64 y.1.2.2.1 ∧ I64 y.1.2.2.2))) ∧ True) :=
  decM_all Tryz.underlying85 rfl (by kernel_rfl)
    (decM_more (k := 5) Tryz.underlying85 rfl (by kernel_rfl) (decM_more (k := 4) Tryz.underlying85 rfl (by kernel_rfl) (decM_more (k := 3) Tryz.underlying85 rfl (by kernel_rfl) (decM_more (k := 2) Tryz.underlying85 rfl (by kernel_rfl) (decM_more (k := 1) Tryz.underlying85 rfl (by kernel_rfl)
      (decM_one Tryz.underlying85 rfl (by kernel_rfl) dU8) dInt (fun _ => by kernel_rfl)) dInt (fun _ => by kernel_rfl)) dU8 (fun _ => by kernel_rfl)) dGaugeM (fun _ => by kernel_rfl)) dInts (fun _ => by kernel_rfl))
theorem dAct : DecM Tryz.prog 85 eAct (fun _ => True) := by
  refine DecM.weak (DecM.map (en' := eAct) dAct0 (fun y => (⟨y.1.1.1.1.1, y.1.1.1.1.2, y.1.1.1.2, y.1.1.2, y.1.2, y.2⟩ : ActT)) (fun _ => rfl)) fun _ _ => trivial
end Go.Proofs.YtnoahgjfeablgaaGreat.BooksIn
set_option maxRecDepth 100000
set_option maxHeartbeats 0
set_option linter.unusedVariables false
set_option linter.unusedSimpArgs false
namespace Go.Proofs.YtnoahgjfeablgaaGreat.BooksIn
open Go Go.Ev Go.Proofs.Tryz.My
open Go.ChangeShapes Go.WideShapes Go.ChangeAt Go.RowKit
theorem dActR : DecM Tryz.prog 85 eAct (fun a => 0 ≤ a.kind) := by
  refine DecM.weak (DecM.map (en' := eAct) dAct0 (fun y => (⟨y.1.1.1.1.1, y.1.1.1.1.2, y.1.1.1.2, y.1.1.2, y.1.2, y.2⟩ : ActT)) (fun _ => rfl)) fun x h => by
    obtain ⟨y, rfl, h, _⟩ := h
    have h := h.1.1.1.1
    simp [Lit.wf] at h
    have h0 : IntKind.u8.min = 0 := by kernel_rfl
    rw [h0] at h
    exact h.1
end Go.Proofs.YtnoahgjfeablgaaGreat.BooksIn
set_option maxRecDepth 100000
set_option maxHeartbeats 0
set_option linter.unusedVariables false
set_option linter.unusedSimpArgs false
namespace Go.Proofs.YtnoahgjfeablgaaGreat.RecipeHeldDone
open Go Go.Ev Go.Proofs.Tryz.My Go.Proofs.YtnoahgjfeablgaaGreat.BooksIn
open Go.ChangeShapes Go.WideShapes Go.ChangeAt Go.RowKit
theorem own : ownKnob Tryz.prog.godebug = none := by kernel_rfl
theorem laidOut : laidOutB Tryz.prog = true := by kernel_rfl
theorem walk (w : World) (b : BooksT) (hb : BooksIn.IB b) (v0 : Value) (h0 : RepI (fun b => b < w.heap.size) w (.agg (eB b)) v0) (a : ActT) (ha0 : 0 ≤ a.kind) (v1 : Value) (h1 : RepI (fun b => b < w.heap.size) w (.agg (eAct a)) v1) :
    Calls Tryz.prog 12 #[v0, v1] w fun e w' => e = .returned (.bool true) ∧ Below w.heap.size w w' := by
  refine PC.callsTrue (pc_RecipeHeld b a ha0) Tryz.func12 (by kernel_rfl) rfl rfl fun i hi => ?_
  match i, hi with
  | 0, _ => exact h0
  | 1, _ => exact h1
theorem lifted (os : Os) (started : os.Started) (H : Type) (enc : TypeId × Value → H) :
    ReturnsInHanded {} Tryz.checked os 12 .any (Rows.recipeHeldSpec.pre6 enc Tryz.prog Tryz.f12 Rows.recipeHeldRow.domain false) (Rows.recipeHeldSpec.post enc Tryz.prog Tryz.f12 false true false false) := by
  refine returnsInHanded_of_change (C := Tryz.checked) own started (by kernel_rfl) Tryz.func12
    (ChangeSpec.witness6 (enc := enc) (C := Tryz.checked) false ⟨#[], #[.agg #[.int .i64 0, .slice none 0 0, .slice none 0 0, .int .i64 0, .slice none 0 0], .agg #[.int .u8 0, .int .i64 0, .int .i64 0, .int .u8 0, .int .i64 0, .int .i64 0, .int .i64 0, .int .i64 0, .int .i64 0, .int .i64 0, .int .i64 0, .int .i64 0, .int .i64 0, .int .i64 0, .slice none 0 0]], []⟩ 8 (by kernel_rfl) (by kernel_rfl) (by kernel_rfl) (by kernel_rfl)) ?_
  intro W base args ds gs before hval0 hW hcnd _
  have hval : ∀ (j : Nat) t v, Tryz.f12.params[j]? = some t → args[j]? = some v → Value.okWide Tryz.prog W .any base t v := hval0
  have hW' := hW
  obtain ⟨p, q, hA0, hV, rfl, hfz, hnd⟩ := hW
  have hA : DataW.TrodAll enc Tryz.prog W 0 (fun _ => true) true Tryz.f12.params.toList args.toList ds p := hA0
  rw [Tryz.params12] at hA hval
  obtain ⟨v0, vs0, d0, ds0, p0, q0, hargs, rfl, rfl, h0, r0⟩ := trodAll_cons hA
  obtain ⟨v1, vs1, d1, ds1, p1, q1, rfl, rfl, rfl, h1, r1⟩ := trodAll_cons r0
  obtain ⟨rfl, rfl, rfl⟩ := trodAll_nil r1
  obtain rfl : args = #[v0, v1] := by cases args; simp_all
  obtain ⟨rfl, rfl⟩ := trodVars_none hV
  have k0 := h0
  have lt0 : ∀ x ∈ p0, x.block < W.heap.size := by obtain ⟨m, hm⟩ := k0; exact DataW.trod_lt m _ _ _ hm
  obtain ⟨b, hb, i0⟩ := repI_structM Tryz.underlying26 dBooks (fun _ => by kernel_rfl) (hval 0 26 v0 rfl rfl) h0
  have k1 := h1
  have lt1 : ∀ x ∈ p1, x.block < W.heap.size := by obtain ⟨m, hm⟩ := k1; exact DataW.trod_lt m _ _ _ hm
  obtain ⟨a, ha0, i1⟩ := repI_structM Tryz.underlying85 dActR (fun _ => by kernel_rfl) (hval 1 85 v1 rfl rfl) h1
  clear hA0 hval0
  refine (walk W b hb v0 i0 a ha0 v1 i1).mono fun e W' ⟨he, bel⟩ => ?_
  subst he
  exact ⟨_, rfl, _, _, _, [], _, [], hW', trodAll_mk1 (shut_bool Tryz.underlying4 _), (trodAll_cons_mk (Below.trod laidOut (by kernel_rfl) (of_decide_eq_true (by kernel_rfl)) k0 bel lt0) (trodAll_cons_mk (Below.trod laidOut (by kernel_rfl) (of_decide_eq_true (by kernel_rfl)) k1 bel lt1) trodAll_mk0)), rfl, bel.frame _, fun h => by cases h⟩
theorem closed : joinedFacts Tryz.pinned.checked.prog 12 Tryz.f12 Rows.recipeHeldSpec Rows.recipeHeldRow = true :=
  (restOf Tryz.pinned.checked.prog 12 Tryz.f12 Rows.recipeHeldSpec Rows.recipeHeldRow make_eq mayEnter_eq liftsFinal_eq).2 (by kernel_rfl)
theorem over : Rows.recipeHeldRow.holds Tryz.pinned (OpenSpec.ofChange Rows.recipeHeldSpec) :=
  OpenClaim.holds_of_wide 12 Tryz.f12 rfl rfl rfl rfl rfl rfl rfl ⟨rfl, rfl, rfl, rfl, rfl⟩ rfl rfl rfl rfl rfl (by kernel_rfl) Tryz.func12 closed
    (of_decide_eq_true (by kernel_rfl)) (by unfold Func.isWrapper; first | (rw [if_pos (by decide +kernel)]; kernel_rfl) | (rw [if_neg (by decide +kernel)]; exact ⟨rfl, rfl⟩))
    (fun os started H enc _ => lifted os started H enc)
theorem proved : Rows.RecipeHeldSaid := over
#print axioms proved
end Go.Proofs.YtnoahgjfeablgaaGreat.RecipeHeldDone
