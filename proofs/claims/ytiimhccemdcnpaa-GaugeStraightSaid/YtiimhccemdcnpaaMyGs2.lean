/- A helper text: contracts of functions of the program, and plain lemmas. -/
import Derived.Test.YtiimhccemdcnpaaEvSix
import Derived.Test.YtiimhccemdcnpaaMyGsA
set_option maxRecDepth 100000
set_option maxHeartbeats 0
set_option linter.unusedVariables false
set_option linter.unusedSimpArgs false
namespace Go.Proofs.Try.My
open Go Go.Ev

theorem gsOut (w h f c bright noise : Int) (moves : List Int) (hn : noise < 0 ∨ 20 < noise) : PC Try.prog 3 [.int .u8 w, .int .u8 h, .int .i8 f, .int .i8 c, .int .u8 bright, i16s moves, i64 noise] (.bool true) := by
  refine pc_of_bodyF hm Try.func3 (by kernel_rfl) ?_
  conv => whnf
  (repeat' (first | (refine ⟨_, by first | exact pc_alive, ?_⟩; (conv => whnf)) | (refine Or.inl ?_; (conv => whnf); refine ⟨_, by first | exact pc_alive, ?_⟩; (conv => whnf)) | (refine Or.inl ?_; (conv => whnf); refine ⟨false, ?_⟩; (conv => whnf); refine ⟨_, by first | exact pc_alive, ?_⟩; (conv => whnf)) | (refine ⟨by kernel_rfl, ?_⟩; (conv => whnf)) | (refine ⟨fun _ => ?_, fun h => absurd h (by first | decide | (simp; done) | fail)⟩; (conv => whnf)) | (refine ⟨fun h => absurd h (by first | decide | (simp; done) | fail), fun _ => ?_⟩; (conv => whnf)) | ((with_reducible refine And.intro (a := _ = true → _) (b := _ = false → _) (fun hh => ?_) (fun hh => ?_)) <;> (try simp only [decide_eq_true_eq, decide_eq_false_iff_not, Bool.or_eq_true, Bool.and_eq_true, Bool.or_eq_false_iff, Bool.and_eq_false_iff, Bool.not_eq_true', Bool.not_eq_false', ge_iff_le, gt_iff_lt] at hh) <;> (first | (exfalso; omega) | (conv => whnf))) | fail))
  all_goals (first | rfl | (exfalso; omega) | set_option pp.maxSteps 300 in trace_state)
/-- The number 107 for the slice in the image (box 16, cell 2). -/
abbrev pxK : Nat := 107 + 65536 * (1 + 16 + 4096 * 2)
def GsV (f c : Int) (v : SpT) : Prop := v.2.1 ≤ c + f * v.1.1 ∧ c + f * v.1.1 ≤ v.2.2
theorem pixL_succ {f c rise : Int} {moves : List Int} {noise : Int} {W x y : Nat} (hW : 0 < W) (hx : x < W) : pixL f c rise moves noise W (y * W + x) ++ [clip8 (truV (c + f * (y : Int)) rise x + mvV moves noise (y * W + x))] = pixL f c rise moves noise W (y * W + (x + 1)) := by
  have d1 : (y * W + x) / W = y := by rw [Nat.mul_comm, Nat.mul_add_div hW, Nat.div_eq_of_lt hx, Nat.add_zero]
  have d2 : (y * W + x) % W = x := by rw [Nat.mul_comm, Nat.mul_add_mod]; exact Nat.mod_eq_of_lt hx
  unfold pixL
  rw [← Nat.add_assoc, List.range_succ, List.map_append]
  simp only [List.map_cons, List.map_nil, pixV, d1, d2]
theorem gs_walk (w h f c bright noise : Int) (moves : List Int) (W H : Nat) (top rise : Int) (hw : ∀ n ∈ moves, (Lit.int .i16 n).wf = true)
    (eW : IntKind.i64.wrap (Int.tmod (IntKind.i64.wrap w) 15 + 2) = (W : Int)) (eH : IntKind.i64.wrap (Int.tmod (IntKind.i64.wrap h) 11 + 2) = (H : Int)) (eT : IntKind.i64.wrap (100 + Int.tmod (IntKind.i64.wrap bright) 100) = top) (eR : Int.tdiv top 32 = rise)
    (W1 : 2 ≤ W) (W2 : W ≤ 16) (H1 : 2 ≤ H) (H2 : H ≤ 12) (r1 : 3 ≤ rise) (r2 : rise ≤ 6) (f1 : -128 ≤ f) (f2 : f ≤ 127) (c1 : -128 ≤ c) (c2 : c ≤ 127) (n1 : 0 ≤ noise) (n2 : noise ≤ 20)
    (l : List SpT) (C : CamT) (g : Int) (cV : PC Try.prog 5 [img W H (pixL f c rise moves noise W (W * H)), i64 (16 * rise), i64 noise] (.tup [vws l, i64 0]))
    (cL : PC Try.prog 6 [img W H (pixL f c rise moves noise W (W * H)), i64 (16 * rise), i64 noise] (.tup [cam C, i64 g]))
    (hl : l.length ≤ 12) (hok : ∀ i, i < l.length → ViewOk f c rise W H (l.getD i z4)) (hvb : ∀ i, i < l.length → viewB (l.getD i z4) = true)
    (hs : 2 ≤ l.length → (∀ i, i < l.length → GsV f c (l.getD i z4)) → g = 0 ∧ holB C.1 f 1 = true ∧ holB C.2 c 1 = true) :
    PC Try.prog 3 [.int .u8 w, .int .u8 h, .int .i8 f, .int .i8 c, .int .u8 bright, i16s moves, i64 noise] (.bool true) := by
  have wf : IntKind.i64.wrap f = f := w64 _ (by omega) (by omega)
  have wc : IntKind.i64.wrap c = c := w64 _ (by omega) (by omega)
  have wn : IntKind.i64.wrap (noise + 1) = noise + 1 := w64 _ (by omega) (by omega)
  have wr : IntKind.i64.wrap rise = rise := w64 _ (by omega) (by omega)
  have ka := pc_alive
  have at_y : ∀ y : Nat, y < 12 → IntKind.i64.wrap (IntKind.i64.wrap c + IntKind.i64.wrap (IntKind.i64.wrap f * (y : Int))) = c + f * (y : Int) ∧ -2000 ≤ c + f * (y : Int) ∧ c + f * (y : Int) ≤ 2000 := fun y hy => by
    have m := mul_size (a := f) (b := (y : Int)) (A := 128) (B := 12) (by omega) (by omega) (by omega) (by omega)
    rw [wf, wc, w64 (f * (y : Int)) (by omega) (by omega), w64 _ (by omega) (by omega)]
    omega
  have mWH : W * H ≤ 16 * 12 := Nat.mul_le_mul W2 H2
  refine pc_of_bodyF hm Try.func3 (by kernel_rfl) ?_
  conv => whnf
  (repeat' (first | (refine ⟨_, by first | exact ka, ?_⟩; (conv => whnf)) | (refine Or.inl ?_; (conv => whnf); refine ⟨_, by first | exact ka, ?_⟩; (conv => whnf)) | (refine Or.inl ?_; (conv => whnf); refine ⟨false, ?_⟩; (conv => whnf); refine ⟨_, by first | exact ka, ?_⟩; (conv => whnf)) | (refine ⟨by kernel_rfl, ?_⟩; (conv => whnf)) | fail))
  (repeat' (first | (refine ⟨_, by first | with_reducible exact ka, ?_⟩; (conv => whnf)) | (refine Or.inl ?_; (conv => whnf); refine ⟨_, by first | with_reducible exact ka, ?_⟩; (conv => whnf)) | (refine Or.inl ?_; (conv => whnf); refine ⟨false, ?_⟩; (conv => whnf); refine ⟨_, by first | with_reducible exact ka, ?_⟩; (conv => whnf)) | (refine ⟨by kernel_rfl, ?_⟩; (conv => whnf)) | (refine ⟨fun _ => ?_, fun h => absurd h (by first | decide | (simp; done) | fail)⟩; (conv => whnf)) | (refine ⟨fun h => absurd h (by first | decide | (simp; done) | fail), fun _ => ?_⟩; (conv => whnf)) | fail))
  rw [eW, eH]
  refine ⟨fun h => absurd (of_decide_eq_true h) (by omega), fun _ => ?_⟩
  (conv => whnf)
  refine ⟨fun h => absurd (of_decide_eq_true h) (by omega), fun _ => ?_⟩
  (conv => whnf)
  (repeat' (first | (refine ⟨by kernel_rfl, ?_⟩; (conv => whnf)) | (refine ⟨fun _ => ?_, fun h => absurd h (by first | decide | (simp; done) | fail)⟩; (conv => whnf)) | (refine ⟨fun h => absurd h (by first | decide | (simp; done) | fail), fun _ => ?_⟩; (conv => whnf)) | fail))
  rw [eT]
  refine Or.inr ⟨Nat, [61, 18], [16, 107], [(pxK, ⟨Int, 3, 1, 0, eI⟩)], fun y => [i64 y, i64 ((y * W : Nat) : Int)], fun y => [.cells 27 [i64 W, i64 H, .own 107], .vec 3 1 0 eI (pixL f c rise moves noise W (y * W))], fun _ => [.none], fun y => H - y, fun y => y ≤ H, ?_⟩
  (conv => whnf)
  refine ⟨⟨0, ?_⟩, ?_⟩
  · (conv => whnf)
    refine ⟨⟨Nat.zero_le _, ?_, ?_, rfl⟩, by kernel_rfl, by kernel_rfl⟩
    · show [i64 0, i64 0] = [i64 ((0 : Nat) : Int), i64 ((0 * W : Nat) : Int)]
      rw [Nat.zero_mul]; rfl
    · show [Row.cells _ [i64 W, i64 H, .own 107], Row.vec _ 1 0 eI []] = [Row.cells _ [i64 W, i64 H, .own 107], Row.vec _ 1 0 eI (pixL f c rise moves noise W (0 * W))]
      rw [Nat.zero_mul]; rfl
  · intro y hy
    (conv => whnf)
    refine ⟨fun h => ?_, fun h => ?_⟩
    · have h := of_decide_eq_true h
      have h' : y < H := Int.ofNat_lt.1 h
      obtain ⟨ay, ay1, ay2⟩ := at_y y (by omega)
      (conv => whnf)
      rw [ay]
      refine Or.inr ⟨Nat, [73, 18], [16, 107], [(pxK, ⟨Int, 3, 1, 0, eI⟩)], fun x => [i64 x, i64 ((y * W + x : Nat) : Int)], fun x => [.cells 27 [i64 W, i64 H, .own 107], .vec 3 1 0 eI (pixL f c rise moves noise W (y * W + x))], fun _ => [.none], fun x => W - x, fun x => x ≤ W, ?_⟩
      (conv => whnf)
      refine ⟨⟨0, ?_⟩, ?_⟩
      · (conv => whnf)
        refine ⟨⟨Nat.zero_le _, ?_, ?_, rfl⟩, by kernel_rfl, by kernel_rfl⟩
        · rfl
        · rfl
      · intro x hx
        (conv => whnf)
        refine ⟨fun h => ?_, fun h => ?_⟩
        · have h := of_decide_eq_true h
          have hx' : x < W := Int.ofNat_lt.1 h
          have m1 : (y + 1) * W ≤ 12 * 16 := Nat.mul_le_mul (by omega) W2
          have m3 : (y + 1) * W = y * W + W := Nat.succ_mul y W
          obtain ⟨t1, t2⟩ := tru_wrap (at0 := c + f * (y : Int)) (rise := rise) ay1 ay2 (by omega) (by omega) (show x < 16 by omega)
          (conv => whnf)
          rw [eR, wr, t1, t2, show (if 32 * rise < (if 0 > (16 * (x : Int) - (c + f * (y : Int)) + 16) * rise then 0 else (16 * (x : Int) - (c + f * (y : Int)) + 16) * rise) then 32 * rise else (if 0 > (16 * (x : Int) - (c + f * (y : Int)) + 16) * rise then 0 else (16 * (x : Int) - (c + f * (y : Int)) + 16) * rise)) = truV (c + f * (y : Int)) rise x from rfl]
          obtain ⟨v1, v2⟩ := truV_range (c + f * (y : Int)) (show 0 ≤ rise by omega) x
          generalize hv : truV (c + f * (y : Int)) rise x = v at v1 v2
          refine ⟨fun h1 => ?_, fun h1 => ?_⟩
          · have h1 := Int.ofNat_lt.1 (of_decide_eq_true h1)
            (conv => whnf)
            refine ⟨fun h2 => ?_, fun h2 => ?_⟩
            · have h2 := of_decide_eq_true h2
              (conv => whnf)
              refine ⟨⟨by omega, by omega⟩, ?_⟩
              (conv => whnf)
              obtain ⟨q1, q2⟩ := get_i16 hw h1
              obtain ⟨q3, q4⟩ := mvV_range moves n1 (y * W + x)
              have em : Int.tmod (moves.getD (y * W + x) 0) (noise + 1) = mvV moves noise (y * W + x) := (if_pos ⟨h1, by omega⟩).symm
              rw [wn]
              refine ⟨by omega, ?_⟩
              (conv => whnf)
              rw [show ((y * W + x : Nat) : Int).toNat = y * W + x from rfl, w64 (moves.getD (y * W + x) 0) (by omega) (by omega), em, w64 (v + mvV moves noise (y * W + x)) (by omega) (by omega)]
              refine ⟨⟨Int, 1, 0, eI, pixL f c rise moves noise W (y * W + x)⟩, [clip8 (v + mvV moves noise (y * W + x))], rfl, rfl, ⟨rfl, rfl⟩, ?_, ?_, fun _ _ => ⟨rfl, rfl, rfl⟩, ?_⟩
              · show ((pixL f c rise moves noise W (y * W + x)).length + 1) * 8 ≤ _; rw [pixL_length]; omega
              · show (pixL f c rise moves noise W (y * W + x)).length + 1 ≤ _; rw [pixL_length]; omega
              (conv => whnf)
              refine ⟨x + 1, ?_⟩
              (conv => whnf)
              refine ⟨⟨⟨Nat.sub_lt_sub_left (by omega) (Nat.lt_succ_self x), by omega⟩, ?_, ?_, rfl⟩, by kernel_rfl, by kernel_rfl⟩
              · show [i64 (IntKind.i64.wrap ((x : Int) + 1)), i64 (IntKind.i64.wrap (((y * W + x : Nat) : Int) + 1))] = [i64 ((x + 1 : Nat) : Int), i64 ((y * W + (x + 1) : Nat) : Int)]
                rw [w64 _ (by omega) (by omega), w64 _ (by omega) (by omega)]; rfl
              · show [Row.cells _ [i64 W, i64 H, .own 107], Row.vec _ 1 0 eI (pixL f c rise moves noise W (y * W + x) ++ [clip8 (v + mvV moves noise (y * W + x))])] = [Row.cells _ [i64 W, i64 H, .own 107], Row.vec _ 1 0 eI (pixL f c rise moves noise W (y * W + (x + 1)))]
                rw [← pixL_succ (by omega) hx', hv]
            · have h2 := of_decide_eq_false h2
              (conv => whnf)
              refine ⟨⟨Int, 1, 0, eI, pixL f c rise moves noise W (y * W + x)⟩, [clip8 v], rfl, rfl, ⟨rfl, rfl⟩, ?_, ?_, fun _ _ => ⟨rfl, rfl, rfl⟩, ?_⟩
              · show ((pixL f c rise moves noise W (y * W + x)).length + 1) * 8 ≤ _; rw [pixL_length]; omega
              · show (pixL f c rise moves noise W (y * W + x)).length + 1 ≤ _; rw [pixL_length]; omega
              (conv => whnf)
              refine ⟨x + 1, ?_⟩
              (conv => whnf)
              refine ⟨⟨⟨Nat.sub_lt_sub_left (by omega) (Nat.lt_succ_self x), by omega⟩, ?_, ?_, rfl⟩, by kernel_rfl, by kernel_rfl⟩
              · show [i64 (IntKind.i64.wrap ((x : Int) + 1)), i64 (IntKind.i64.wrap (((y * W + x : Nat) : Int) + 1))] = [i64 ((x + 1 : Nat) : Int), i64 ((y * W + (x + 1) : Nat) : Int)]
                rw [w64 _ (by omega) (by omega), w64 _ (by omega) (by omega)]; rfl
              · show [Row.cells _ [i64 W, i64 H, .own 107], Row.vec _ 1 0 eI (pixL f c rise moves noise W (y * W + x) ++ [clip8 v])] = [Row.cells _ [i64 W, i64 H, .own 107], Row.vec _ 1 0 eI (pixL f c rise moves noise W (y * W + (x + 1)))]
                rw [← pixL_succ (by omega) hx', hv]
                rw [show mvV moves noise (y * W + x) = 0 from if_neg fun hc => h2 hc.2, Int.add_zero]
          · have h1 := fun hc => of_decide_eq_false h1 (Int.ofNat_lt.2 hc)
            (conv => whnf)
            refine ⟨⟨Int, 1, 0, eI, pixL f c rise moves noise W (y * W + x)⟩, [clip8 v], rfl, rfl, ⟨rfl, rfl⟩, ?_, ?_, fun _ _ => ⟨rfl, rfl, rfl⟩, ?_⟩
            · show ((pixL f c rise moves noise W (y * W + x)).length + 1) * 8 ≤ _; rw [pixL_length]; omega
            · show (pixL f c rise moves noise W (y * W + x)).length + 1 ≤ _; rw [pixL_length]; omega
            (conv => whnf)
            refine ⟨x + 1, ?_⟩
            (conv => whnf)
            refine ⟨⟨⟨Nat.sub_lt_sub_left (by omega) (Nat.lt_succ_self x), by omega⟩, ?_, ?_, rfl⟩, by kernel_rfl, by kernel_rfl⟩
            · show [i64 (IntKind.i64.wrap ((x : Int) + 1)), i64 (IntKind.i64.wrap (((y * W + x : Nat) : Int) + 1))] = [i64 ((x + 1 : Nat) : Int), i64 ((y * W + (x + 1) : Nat) : Int)]
              rw [w64 _ (by omega) (by omega), w64 _ (by omega) (by omega)]; rfl
            · show [Row.cells _ [i64 W, i64 H, .own 107], Row.vec _ 1 0 eI (pixL f c rise moves noise W (y * W + x) ++ [clip8 v])] = [Row.cells _ [i64 W, i64 H, .own 107], Row.vec _ 1 0 eI (pixL f c rise moves noise W (y * W + (x + 1)))]
              rw [← pixL_succ (by omega) hx', hv]
              rw [show mvV moves noise (y * W + x) = 0 from if_neg fun hc => h1 hc.1, Int.add_zero]
        · have h := of_decide_eq_false h
          have e4 : x = W := by omega
          subst e4
          (conv => whnf)
          refine ⟨y + 1, ?_⟩
          (conv => whnf)
          have m1 : (y + 1) * x ≤ 12 * 16 := Nat.mul_le_mul (by omega) W2
          refine ⟨⟨⟨Nat.sub_lt_sub_left (by omega) (Nat.lt_succ_self y), by omega⟩, ?_, ?_, rfl⟩, by kernel_rfl, by kernel_rfl⟩
          · show [i64 (IntKind.i64.wrap ((y : Int) + 1)), i64 ((y * x + x : Nat) : Int)] = [i64 ((y + 1 : Nat) : Int), i64 (((y + 1) * x : Nat) : Int)]
            rw [w64 _ (by omega) (by omega), Nat.succ_mul]; rfl
          · show [Row.cells _ [i64 x, i64 H, .own 107], Row.vec _ 1 0 eI (pixL f c rise moves noise x (y * x + x))] = [Row.cells _ [i64 x, i64 H, .own 107], Row.vec _ 1 0 eI (pixL f c rise moves noise x ((y + 1) * x))]
            rw [Nat.succ_mul]
    · have h := of_decide_eq_false h
      have e4 : y = H := by omega
      subst e4
      (conv => whnf)
      rw [eR, wr, w64 (16 * rise) (by omega) (by omega), Nat.mul_comm y W]
      refine Or.inl ?_
      (conv => whnf)
      refine ⟨true, ?_⟩
      (conv => whnf)
      refine ⟨_, cV, ?_⟩
      (conv => whnf)
      (repeat' (first | (refine ⟨_, by first | exact cL, ?_⟩; (conv => whnf)) | (refine Or.inl ?_; (conv => whnf); refine ⟨_, by first | exact cL, ?_⟩; (conv => whnf)) | (refine Or.inl ?_; (conv => whnf); refine ⟨false, ?_⟩; (conv => whnf); refine ⟨_, by first | exact cL, ?_⟩; (conv => whnf)) | (refine ⟨by kernel_rfl, ?_⟩; (conv => whnf)) | fail))
      refine ⟨fun h => absurd h (by decide), fun _ => ?_⟩
      (conv => whnf)
      refine Or.inr ⟨Nat × Nat, [140, 28], [], [], fun i => [i64 (i.1 : Nat), i64 (i.2 : Nat)], fun _ => [], fun _ => [], fun i => l.length - i.1, fun i => i.1 ≤ l.length ∧ i.2 ≤ i.1 ∧ (i.1 ≤ i.2 → ∀ j, j < i.1 → GsV f c (l.getD j z4)), ?_⟩
      (conv => whnf)
      refine ⟨⟨(0, 0), ?_⟩, ?_⟩
      · (conv => whnf)
        exact ⟨⟨⟨Nat.zero_le _, Nat.zero_le _, fun _ j hj => absurd hj (Nat.not_lt_zero j)⟩, rfl, rfl, rfl⟩, by kernel_rfl, by kernel_rfl⟩
      · rintro ⟨i, r⟩ ⟨hi, hr, hall⟩
        simp only [] at hi hr hall
        (conv => whnf)
        refine ⟨fun h => ?_, fun h => ?_⟩
        · have hi' : i < l.length := Int.ofNat_lt.1 (of_decide_eq_true h)
          obtain ⟨k, hk, e1, n, d, g1, g2, g3, g4, g5, g6, g7⟩ := hok i hi'
          obtain ⟨ay, ay1, ay2⟩ := at_y k (by omega)
          have ex : (l.getD i z4).1.1 = (k : Int) := by rw [e1]
          have lo_t : ((i : Nat) : Int).toNat = i := rfl
          (conv => whnf)
          (repeat' (first | (refine ⟨by kernel_rfl, ?_⟩; (conv => whnf)) | (refine And.intro (a := _ ∧ _) ⟨by omega, by omega⟩ ?_; (conv => whnf))))
          rw [lo_t, ex, ay]
          have cE := pc_gedge (c + f * (k : Int)) rise W ay1 ay2 (by omega) (by omega) (by omega) W2 n d g1 g2 g3 g4 g5
          obtain ⟨lo, elo⟩ : ∃ lo, lo = 16 * n / d := ⟨_, rfl⟩
          obtain ⟨hi0, ehi⟩ : ∃ hi0, hi0 = (16 * n + d - 1) / d := ⟨_, rfl⟩
          rw [← elo] at cE g6
          rw [← ehi] at cE g7
          refine ⟨fun h1 => ?_, fun h1 => ?_⟩
          · (conv => whnf)
          (conv => whnf)
          refine ⟨fun h2 => ?_, fun h2 => ?_⟩
          · (conv => whnf)
          (conv => whnf)
          rw [eR, wr]
          (repeat' (first | (refine ⟨_, by first | exact cE, ?_⟩; (conv => whnf)) | (refine Or.inl ?_; (conv => whnf); refine ⟨_, by first | exact cE, ?_⟩; (conv => whnf)) | (refine Or.inl ?_; (conv => whnf); refine ⟨false, ?_⟩; (conv => whnf); refine ⟨_, by first | exact cE, ?_⟩; (conv => whnf)) | (refine ⟨by kernel_rfl, ?_⟩; (conv => whnf)) | fail))
          (repeat' (first | (refine ⟨by kernel_rfl, ?_⟩; (conv => whnf)) | (refine And.intro (a := _ ∧ _) ⟨by omega, by omega⟩ ?_; (conv => whnf))))
          rw [lo_t]
          refine ⟨fun h => absurd (of_decide_eq_true h) (show ¬ (l.getD i z4).2.1 > lo by omega), fun _ => ?_⟩
          (conv => whnf)
          (repeat' (first | (refine ⟨by kernel_rfl, ?_⟩; (conv => whnf)) | (refine And.intro (a := _ ∧ _) ⟨by omega, by omega⟩ ?_; (conv => whnf))))
          rw [lo_t]
          refine ⟨fun h => absurd (of_decide_eq_true h) (show ¬ hi0 > (l.getD i z4).2.2 by omega), fun _ => ?_⟩
          (conv => whnf)
          refine ⟨fun h3 => ?_, fun h3 => ?_⟩
          · have h3 := of_decide_eq_true h3
            (conv => whnf)
            refine ⟨fun h4 => ?_, fun h4 => ?_⟩
            · have h4 := of_decide_eq_true h4
              (conv => whnf)
              refine ⟨(i + 1, r + 1), ?_⟩
              (conv => whnf)
              refine ⟨⟨⟨Nat.sub_lt_sub_left hi' (Nat.lt_succ_self i), hi', Nat.succ_le_succ hr, fun hc j hj => (Nat.lt_succ_iff_lt_or_eq.1 hj).elim (hall (Nat.le_of_succ_le_succ hc) j) (fun ej => by subst ej; unfold GsV; rw [ex]; omega)⟩, ?_, rfl, rfl⟩, by kernel_rfl, by kernel_rfl⟩
              show [i64 (IntKind.i64.wrap ((i : Int) + 1)), i64 (IntKind.i64.wrap ((r : Int) + 1))] = [i64 ((i + 1 : Nat) : Int), i64 ((r + 1 : Nat) : Int)]
              rw [w64 _ (by omega) (by omega), w64 _ (by omega) (by omega)]; rfl
            · (conv => whnf)
              refine ⟨(i + 1, r), ?_⟩
              (conv => whnf)
              refine ⟨⟨⟨Nat.sub_lt_sub_left hi' (Nat.lt_succ_self i), hi', Nat.le_succ_of_le hr, fun hc => absurd hc (by omega)⟩, ?_, rfl, rfl⟩, by kernel_rfl, by kernel_rfl⟩
              show [i64 (IntKind.i64.wrap ((i : Int) + 1)), i64 ((r : Int))] = [i64 ((i + 1 : Nat) : Int), i64 ((r : Nat) : Int)]
              rw [w64 _ (by omega) (by omega)]; rfl
          · (conv => whnf)
            refine ⟨(i + 1, r), ?_⟩
            (conv => whnf)
            refine ⟨⟨⟨Nat.sub_lt_sub_left hi' (Nat.lt_succ_self i), hi', Nat.le_succ_of_le hr, fun hc => absurd hc (by omega)⟩, ?_, rfl, rfl⟩, by kernel_rfl, by kernel_rfl⟩
            show [i64 (IntKind.i64.wrap ((i : Int) + 1)), i64 ((r : Int))] = [i64 ((i + 1 : Nat) : Int), i64 ((r : Nat) : Int)]
            rw [w64 _ (by omega) (by omega)]; rfl
        · have e4 : i = l.length := by have := of_decide_eq_false h; omega
          (conv => whnf)
          refine ⟨fun h1 => ?_, fun h1 => ?_⟩
          · (conv => whnf)
          have h1 : ¬ ((r : Int) < (l.length : Int)) := of_decide_eq_false h1
          (conv => whnf)
          refine ⟨fun h2 => ?_, fun h2 => ?_⟩
          · (conv => whnf)
          have h2 : ¬ ((l.length : Int) < 2) := of_decide_eq_false h2
          obtain ⟨z1, z2, z3⟩ := hs (by omega) fun j hj => hall (by omega) j (by omega)
          have k1 := pc_holds C.1 f 1 ⟨by omega, by omega⟩ ⟨by decide, by decide⟩
          have k2 := pc_holds C.2 c 1 ⟨by omega, by omega⟩ ⟨by decide, by decide⟩
          rw [z2] at k1
          rw [z3] at k2
          have k3 := pc_rValidView (l.getD 0 z4)
          rw [hvb 0 (by omega)] at k3
          subst z1
          (conv => whnf)
          (repeat' (first | (refine ⟨by kernel_rfl, ?_⟩; (conv => whnf)) | (refine ⟨fun _ => ?_, fun h => absurd h (by first | decide | (simp; done) | fail)⟩; (conv => whnf)) | (refine ⟨fun h => absurd h (by first | decide | (simp; done) | fail), fun _ => ?_⟩; (conv => whnf)) | fail))
          rw [wf]
          (repeat' (first | (refine ⟨_, by first | exact k1, ?_⟩; (conv => whnf)) | (refine Or.inl ?_; (conv => whnf); refine ⟨_, by first | exact k1, ?_⟩; (conv => whnf)) | (refine Or.inl ?_; (conv => whnf); refine ⟨false, ?_⟩; (conv => whnf); refine ⟨_, by first | exact k1, ?_⟩; (conv => whnf)) | (refine ⟨by kernel_rfl, ?_⟩; (conv => whnf)) | fail))
          (repeat' (first | (refine ⟨by kernel_rfl, ?_⟩; (conv => whnf)) | (refine ⟨fun _ => ?_, fun h => absurd h (by first | decide | (simp; done) | fail)⟩; (conv => whnf)) | (refine ⟨fun h => absurd h (by first | decide | (simp; done) | fail), fun _ => ?_⟩; (conv => whnf)) | fail))
          rw [wc]
          (repeat' (first | (refine ⟨_, by first | exact k2, ?_⟩; (conv => whnf)) | (refine Or.inl ?_; (conv => whnf); refine ⟨_, by first | exact k2, ?_⟩; (conv => whnf)) | (refine Or.inl ?_; (conv => whnf); refine ⟨false, ?_⟩; (conv => whnf); refine ⟨_, by first | exact k2, ?_⟩; (conv => whnf)) | (refine ⟨by kernel_rfl, ?_⟩; (conv => whnf)) | fail))
          (repeat' (first | (refine ⟨by kernel_rfl, ?_⟩; (conv => whnf)) | (refine ⟨fun _ => ?_, fun h => absurd h (by first | decide | (simp; done) | fail)⟩; (conv => whnf)) | (refine ⟨fun h => absurd h (by first | decide | (simp; done) | fail), fun _ => ?_⟩; (conv => whnf)) | fail))
          (repeat' (first | (refine ⟨by kernel_rfl, ?_⟩; (conv => whnf)) | (refine And.intro (a := _ ∧ _) ⟨by omega, by omega⟩ ?_; (conv => whnf))))
          (repeat' (first | (refine ⟨_, by first | exact k3, ?_⟩; (conv => whnf)) | (refine Or.inl ?_; (conv => whnf); refine ⟨_, by first | exact k3, ?_⟩; (conv => whnf)) | (refine Or.inl ?_; (conv => whnf); refine ⟨false, ?_⟩; (conv => whnf); refine ⟨_, by first | exact k3, ?_⟩; (conv => whnf)) | (refine ⟨by kernel_rfl, ?_⟩; (conv => whnf)) | fail))
          (repeat' (first | (refine ⟨by kernel_rfl, ?_⟩; (conv => whnf)) | (refine ⟨fun _ => ?_, fun h => absurd h (by first | decide | (simp; done) | fail)⟩; (conv => whnf)) | (refine ⟨fun h => absurd h (by first | decide | (simp; done) | fail), fun _ => ?_⟩; (conv => whnf)) | fail))
end Go.Proofs.Try.My
