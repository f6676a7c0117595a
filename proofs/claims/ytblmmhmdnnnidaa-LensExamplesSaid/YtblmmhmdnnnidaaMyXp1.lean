/- A helper text: contracts of functions of the program, and plain lemmas. -/
import Derived.Test.YtblmmhmdnnnidaaMyLu1
import Derived.Test.YtblmmhmdnnnidaaEvFn
set_option maxRecDepth 100000
set_option maxHeartbeats 0
set_option linter.unusedVariables false
set_option linter.unusedSimpArgs false
namespace Go.Proofs.Try.My
open Go Go.Ev

/-! ### The greatest exposure of the examples -/
theorem pw_exp (e i : Int) (b : Bool) (h0 : 0 ≤ i) (h1 : i ≤ 255) (hb : decide (idl (i + 1) 10 1000 + 2 > 255) = b) :
    PW Try.prog 86 [i64 i, .ptr 0 0 0 0, .ptr 1 0 0 0] [.cells 54 [i64 e, i64 10, i64 2], .cells 3 [i64 1000]] (.bool b) [.cells 54 [i64 (i + 1), i64 10, i64 2], .cells 3 [i64 1000]] := by
  have c := pc_ideal (i + 1) 10 2 1000 (by omega) (by omega) (by omega)
  have w1 : IntKind.i64.wrap (i + 1) = i + 1 := w64 _ (by omega) (by omega)
  have hi : 0 ≤ idl (i + 1) 10 1000 ∧ idl (i + 1) 10 1000 ≤ 255 := by
    unfold idl
    have m := Int.ediv_nonneg (show 0 ≤ (i + 1) * 1000 by omega) (show (0 : Int) ≤ 256 by decide)
    split <;> omega
  have w2 : IntKind.i64.wrap (idl (i + 1) 10 1000 + 2) = idl (i + 1) 10 1000 + 2 := w64 _ (by omega) (by omega)
  generalize idl (i + 1) 10 1000 = x at *
  rw [← w1] at c
  subst hb
  refine pw_of_bodyFN hm Try.func86 (by kernel_rfl) ⟨by kernel_rfl, ?_⟩
  conv => whnf
  (repeat' (first | (refine ⟨_, by first | exact c, ?_⟩; (conv => whnf)) | (refine Or.inl ?_; (conv => whnf); refine ⟨_, by first | exact c, ?_⟩; (conv => whnf)) | (refine Or.inl ?_; (conv => whnf); refine ⟨false, ?_⟩; (conv => whnf); refine ⟨_, by first | exact c, ?_⟩; (conv => whnf)) | (refine ⟨by kernel_rfl, ?_⟩; (conv => whnf)) | fail))
  refine ⟨[], by kernel_rfl, ?_⟩
  (conv => whnf)
  refine ⟨?_, ?_⟩
  · show AV.bool (decide (IntKind.i64.wrap (x + 2) > 255)) = AV.bool (decide (x + 2 > 255))
    rw [w2]
  · show [Row.cells 54 [i64 (IntKind.i64.wrap (i + 1)), i64 10, i64 2], Row.cells 3 [i64 1000]] = _
    rw [w1]
    rfl
theorem pw_search : PW Try.prog 85 [i64 256, .fn (.func 86) [] [.ptr 0 0 0 0, .ptr 1 0 0 0]] [.cells 54 [i64 64, i64 10, i64 2], .cells 3 [i64 1000]] (i64 62) [.cells 54 [i64 62, i64 10, i64 2], .cells 3 [i64 1000]] := by
  refine pw_of_bodyFN hm Try.func85 (by kernel_rfl) ⟨by kernel_rfl, ?_⟩
  conv => whnf
  refine Or.inl ⟨9, ?_⟩
  (conv => whnf)
  (repeat' (first | (refine ⟨by kernel_rfl, ?_⟩; (conv => whnf)) | (refine ⟨fun _ => ?_, fun h => absurd h (by first | decide | (simp; done) | fail)⟩; (conv => whnf)) | (refine ⟨fun h => absurd h (by first | decide | (simp; done) | fail), fun _ => ?_⟩; (conv => whnf)) | fail))
  rw [show IntKind.i64.wrap ((IntKind.u64.wrap (IntKind.i64.wrap (0 + 256))).fdiv (2 ^ min (Int.toNat 1) IntKind.u64.bits)) = 128 from by decide]
  (refine Or.inr ⟨[ ], [ ], by kernel_rfl, ?_⟩; (conv => whnf); refine ⟨[ 26, 27 ], _, _, _, _, ⟨ pw_exp _ 128 true (by decide) (by decide) (by decide), rfl, rfl, by kernel_rfl⟩, ?_⟩)
  (conv => whnf)
  (repeat' (first | (refine ⟨by kernel_rfl, ?_⟩; (conv => whnf)) | (refine ⟨fun _ => ?_, fun h => absurd h (by first | decide | (simp; done) | fail)⟩; (conv => whnf)) | (refine ⟨fun h => absurd h (by first | decide | (simp; done) | fail), fun _ => ?_⟩; (conv => whnf)) | fail))
  (repeat' (first | (refine ⟨by kernel_rfl, ?_⟩; (conv => whnf)) | (refine ⟨fun _ => ?_, fun h => absurd h (by first | decide | (simp; done) | fail)⟩; (conv => whnf)) | (refine ⟨fun h => absurd h (by first | decide | (simp; done) | fail), fun _ => ?_⟩; (conv => whnf)) | fail))
  rw [show IntKind.i64.wrap ((IntKind.u64.wrap (IntKind.i64.wrap (0 + 128))).fdiv (2 ^ min (Int.toNat 1) IntKind.u64.bits)) = 64 from by decide]
  (refine Or.inr ⟨[ ], [ ], by kernel_rfl, ?_⟩; (conv => whnf); refine ⟨[ 26, 27 ], _, _, _, _, ⟨ pw_exp _ 64 true (by decide) (by decide) (by decide), rfl, rfl, by kernel_rfl⟩, ?_⟩)
  (conv => whnf)
  (repeat' (first | (refine ⟨by kernel_rfl, ?_⟩; (conv => whnf)) | (refine ⟨fun _ => ?_, fun h => absurd h (by first | decide | (simp; done) | fail)⟩; (conv => whnf)) | (refine ⟨fun h => absurd h (by first | decide | (simp; done) | fail), fun _ => ?_⟩; (conv => whnf)) | fail))
  (repeat' (first | (refine ⟨by kernel_rfl, ?_⟩; (conv => whnf)) | (refine ⟨fun _ => ?_, fun h => absurd h (by first | decide | (simp; done) | fail)⟩; (conv => whnf)) | (refine ⟨fun h => absurd h (by first | decide | (simp; done) | fail), fun _ => ?_⟩; (conv => whnf)) | fail))
  rw [show IntKind.i64.wrap ((IntKind.u64.wrap (IntKind.i64.wrap (0 + 64))).fdiv (2 ^ min (Int.toNat 1) IntKind.u64.bits)) = 32 from by decide]
  (refine Or.inr ⟨[ ], [ ], by kernel_rfl, ?_⟩; (conv => whnf); refine ⟨[ 26, 27 ], _, _, _, _, ⟨ pw_exp _ 32 false (by decide) (by decide) (by decide), rfl, rfl, by kernel_rfl⟩, ?_⟩)
  (conv => whnf)
  (repeat' (first | (refine ⟨by kernel_rfl, ?_⟩; (conv => whnf)) | (refine ⟨fun _ => ?_, fun h => absurd h (by first | decide | (simp; done) | fail)⟩; (conv => whnf)) | (refine ⟨fun h => absurd h (by first | decide | (simp; done) | fail), fun _ => ?_⟩; (conv => whnf)) | fail))
  (try rw [show IntKind.i64.wrap (32 + 1) = 33 from by decide])
  (repeat' (first | (refine ⟨by kernel_rfl, ?_⟩; (conv => whnf)) | (refine ⟨fun _ => ?_, fun h => absurd h (by first | decide | (simp; done) | fail)⟩; (conv => whnf)) | (refine ⟨fun h => absurd h (by first | decide | (simp; done) | fail), fun _ => ?_⟩; (conv => whnf)) | fail))
  rw [show IntKind.i64.wrap ((IntKind.u64.wrap (IntKind.i64.wrap (33 + 64))).fdiv (2 ^ min (Int.toNat 1) IntKind.u64.bits)) = 48 from by decide]
  (refine Or.inr ⟨[ ], [ ], by kernel_rfl, ?_⟩; (conv => whnf); refine ⟨[ 26, 27 ], _, _, _, _, ⟨ pw_exp _ 48 false (by decide) (by decide) (by decide), rfl, rfl, by kernel_rfl⟩, ?_⟩)
  (conv => whnf)
  (repeat' (first | (refine ⟨by kernel_rfl, ?_⟩; (conv => whnf)) | (refine ⟨fun _ => ?_, fun h => absurd h (by first | decide | (simp; done) | fail)⟩; (conv => whnf)) | (refine ⟨fun h => absurd h (by first | decide | (simp; done) | fail), fun _ => ?_⟩; (conv => whnf)) | fail))
  (try rw [show IntKind.i64.wrap (48 + 1) = 49 from by decide])
  (repeat' (first | (refine ⟨by kernel_rfl, ?_⟩; (conv => whnf)) | (refine ⟨fun _ => ?_, fun h => absurd h (by first | decide | (simp; done) | fail)⟩; (conv => whnf)) | (refine ⟨fun h => absurd h (by first | decide | (simp; done) | fail), fun _ => ?_⟩; (conv => whnf)) | fail))
  rw [show IntKind.i64.wrap ((IntKind.u64.wrap (IntKind.i64.wrap (49 + 64))).fdiv (2 ^ min (Int.toNat 1) IntKind.u64.bits)) = 56 from by decide]
  (refine Or.inr ⟨[ ], [ ], by kernel_rfl, ?_⟩; (conv => whnf); refine ⟨[ 26, 27 ], _, _, _, _, ⟨ pw_exp _ 56 false (by decide) (by decide) (by decide), rfl, rfl, by kernel_rfl⟩, ?_⟩)
  (conv => whnf)
  (repeat' (first | (refine ⟨by kernel_rfl, ?_⟩; (conv => whnf)) | (refine ⟨fun _ => ?_, fun h => absurd h (by first | decide | (simp; done) | fail)⟩; (conv => whnf)) | (refine ⟨fun h => absurd h (by first | decide | (simp; done) | fail), fun _ => ?_⟩; (conv => whnf)) | fail))
  (try rw [show IntKind.i64.wrap (56 + 1) = 57 from by decide])
  (repeat' (first | (refine ⟨by kernel_rfl, ?_⟩; (conv => whnf)) | (refine ⟨fun _ => ?_, fun h => absurd h (by first | decide | (simp; done) | fail)⟩; (conv => whnf)) | (refine ⟨fun h => absurd h (by first | decide | (simp; done) | fail), fun _ => ?_⟩; (conv => whnf)) | fail))
  rw [show IntKind.i64.wrap ((IntKind.u64.wrap (IntKind.i64.wrap (57 + 64))).fdiv (2 ^ min (Int.toNat 1) IntKind.u64.bits)) = 60 from by decide]
  (refine Or.inr ⟨[ ], [ ], by kernel_rfl, ?_⟩; (conv => whnf); refine ⟨[ 26, 27 ], _, _, _, _, ⟨ pw_exp _ 60 false (by decide) (by decide) (by decide), rfl, rfl, by kernel_rfl⟩, ?_⟩)
  (conv => whnf)
  (repeat' (first | (refine ⟨by kernel_rfl, ?_⟩; (conv => whnf)) | (refine ⟨fun _ => ?_, fun h => absurd h (by first | decide | (simp; done) | fail)⟩; (conv => whnf)) | (refine ⟨fun h => absurd h (by first | decide | (simp; done) | fail), fun _ => ?_⟩; (conv => whnf)) | fail))
  (try rw [show IntKind.i64.wrap (60 + 1) = 61 from by decide])
  (repeat' (first | (refine ⟨by kernel_rfl, ?_⟩; (conv => whnf)) | (refine ⟨fun _ => ?_, fun h => absurd h (by first | decide | (simp; done) | fail)⟩; (conv => whnf)) | (refine ⟨fun h => absurd h (by first | decide | (simp; done) | fail), fun _ => ?_⟩; (conv => whnf)) | fail))
  rw [show IntKind.i64.wrap ((IntKind.u64.wrap (IntKind.i64.wrap (61 + 64))).fdiv (2 ^ min (Int.toNat 1) IntKind.u64.bits)) = 62 from by decide]
  (refine Or.inr ⟨[ ], [ ], by kernel_rfl, ?_⟩; (conv => whnf); refine ⟨[ 26, 27 ], _, _, _, _, ⟨ pw_exp _ 62 true (by decide) (by decide) (by decide), rfl, rfl, by kernel_rfl⟩, ?_⟩)
  (conv => whnf)
  (repeat' (first | (refine ⟨by kernel_rfl, ?_⟩; (conv => whnf)) | (refine ⟨fun _ => ?_, fun h => absurd h (by first | decide | (simp; done) | fail)⟩; (conv => whnf)) | (refine ⟨fun h => absurd h (by first | decide | (simp; done) | fail), fun _ => ?_⟩; (conv => whnf)) | fail))
  (repeat' (first | (refine ⟨by kernel_rfl, ?_⟩; (conv => whnf)) | (refine ⟨fun _ => ?_, fun h => absurd h (by first | decide | (simp; done) | fail)⟩; (conv => whnf)) | (refine ⟨fun h => absurd h (by first | decide | (simp; done) | fail), fun _ => ?_⟩; (conv => whnf)) | fail))
  rw [show IntKind.i64.wrap ((IntKind.u64.wrap (IntKind.i64.wrap (61 + 62))).fdiv (2 ^ min (Int.toNat 1) IntKind.u64.bits)) = 61 from by decide]
  (refine Or.inr ⟨[ ], [ ], by kernel_rfl, ?_⟩; (conv => whnf); refine ⟨[ 26, 27 ], _, _, _, _, ⟨ pw_exp _ 61 false (by decide) (by decide) (by decide), rfl, rfl, by kernel_rfl⟩, ?_⟩)
  (conv => whnf)
  (repeat' (first | (refine ⟨by kernel_rfl, ?_⟩; (conv => whnf)) | (refine ⟨fun _ => ?_, fun h => absurd h (by first | decide | (simp; done) | fail)⟩; (conv => whnf)) | (refine ⟨fun h => absurd h (by first | decide | (simp; done) | fail), fun _ => ?_⟩; (conv => whnf)) | fail))
  (try rw [show IntKind.i64.wrap (61 + 1) = 62 from by decide])
  (repeat' (first | (refine ⟨by kernel_rfl, ?_⟩; (conv => whnf)) | (refine ⟨fun _ => ?_, fun h => absurd h (by first | decide | (simp; done) | fail)⟩; (conv => whnf)) | (refine ⟨fun h => absurd h (by first | decide | (simp; done) | fail), fun _ => ?_⟩; (conv => whnf)) | fail))
  refine ⟨[], by kernel_rfl, ?_⟩
  (conv => whnf)
  exact ⟨rfl, rfl⟩
theorem pc_expose : PC Try.prog 24 [lig 64 10 2, i64 1000] (.tup [i64 62, i64 0]) := by
  have c := pc_lit 64 10 2 1000 4095
  rw [show litE 64 10 2 1000 4095 = 0 from by decide] at c
  refine pc_of_bodyFN hm Try.func24 (by kernel_rfl) ?_
  conv => whnf
  (repeat' (first | (refine ⟨_, by first | exact c, ?_⟩; (conv => whnf)) | (refine Or.inl ?_; (conv => whnf); refine ⟨_, by first | exact c, ?_⟩; (conv => whnf)) | (refine Or.inl ?_; (conv => whnf); refine ⟨false, ?_⟩; (conv => whnf); refine ⟨_, by first | exact c, ?_⟩; (conv => whnf)) | (refine ⟨by kernel_rfl, ?_⟩; (conv => whnf)) | fail))
  (repeat' (first | (refine ⟨by kernel_rfl, ?_⟩; (conv => whnf)) | (refine ⟨fun _ => ?_, fun h => absurd h (by first | decide | (simp; done) | fail)⟩; (conv => whnf)) | (refine ⟨fun h => absurd h (by first | decide | (simp; done) | fail), fun _ => ?_⟩; (conv => whnf)) | fail))
  (refine Or.inr ⟨[ ], [ ], by kernel_rfl, ?_⟩; (conv => whnf); refine ⟨[ 2, 3 ], _, _, _, _, ⟨ pw_search, rfl, rfl, by kernel_rfl⟩, ?_⟩)
  (conv => whnf)
  (repeat' (first | (refine ⟨by kernel_rfl, ?_⟩; (conv => whnf)) | (refine ⟨fun _ => ?_, fun h => absurd h (by first | decide | (simp; done) | fail)⟩; (conv => whnf)) | (refine ⟨fun h => absurd h (by first | decide | (simp; done) | fail), fun _ => ?_⟩; (conv => whnf)) | fail))
  first | rfl | set_option pp.maxSteps 300 in trace_state
end Go.Proofs.Try.My
