/- A helper text: contracts of functions of the program, and plain lemmas. -/
import Derived.Test.YtblmmhmdnnnidaaMyGd2a
import Derived.Test.YtblmmhmdnnnidaaMyGd2b
import Derived.Test.YtblmmhmdnnnidaaMyGd2c
set_option maxRecDepth 100000
set_option maxHeartbeats 0
set_option linter.unusedVariables false
set_option linter.unusedSimpArgs false
namespace Go.Proofs.Try.My
open Go Go.Ev

theorem pc_CheckGauge (g : GauT) : PC Try.prog 39 [gau g] (i64 (if gauB g then 0 else 8)) := by
  have f1 := pc_gfrom 1 255 (gThr g)
  have f2 := pc_gfrom 0 64 (gNoi g)
  have c1 := pc_CheckSpan (gSc g)
  have c2 := pc_CheckSpan (gTol g)
  have bad : ∀ {x : Bool}, gauB g = x → x = false → (8 : Int) = if gauB g = true then 0 else 8 := fun h h' => by rw [h, h']; rfl
  cases w1 : withB (gThr g) 1 255
  · rw [w1] at f1
    have e : gauB g = false := by unfold gauB; rw [w1]; rfl
    rw [e]
    exact pc_cg0 (gThr g) (gNoi g) (gSc g).1.1 (gSc g).1.2 (gSc g).2.1 (gSc g).2.2 g.1.2.1 g.1.2.2 g.2.1 g.2.2 f1
  cases w2 : withB (gNoi g) 0 64
  · rw [w1] at f1
    rw [w2] at f2
    have e : gauB g = false := by unfold gauB; rw [w1, w2]; rfl
    rw [e]
    exact pc_cg1 (gThr g) (gNoi g) (gSc g).1.1 (gSc g).1.2 (gSc g).2.1 (gSc g).2.2 g.1.2.1 g.1.2.2 g.2.1 g.2.2 f1 f2
  cases s1 : spanB (gSc g)
  · rw [w1] at f1
    rw [w2] at f2
    rw [s1] at c1
    have e : gauB g = false := by unfold gauB; rw [w1, w2, s1]; rfl
    rw [e]
    exact pc_cg2 (gThr g) (gNoi g) (gSc g).1.1 (gSc g).1.2 (gSc g).2.1 (gSc g).2.2 g.1.2.1 g.1.2.2 g.2.1 g.2.2 f1 f2 c1
  cases s2 : spanB (gTol g)
  · rw [w1] at f1
    rw [w2] at f2
    rw [s1] at c1
    rw [s2] at c2
    have e : gauB g = false := by unfold gauB; rw [w1, w2, s1, s2]; rfl
    rw [e]
    exact pc_cg3 (gThr g) (gNoi g) (gSc g).1.1 (gSc g).1.2 (gSc g).2.1 (gSc g).2.2 g.1.2.1 g.1.2.2 g.2.1 g.2.2 f1 f2 c1 c2
  rw [w1] at f1
  rw [w2] at f2
  rw [s1] at c1
  rw [s2] at c2
  have h := pc_cgg (gThr g) (gNoi g) (gSc g).1.1 (gSc g).1.2 (gSc g).2.1 (gSc g).2.2 g.1.2.1 g.1.2.2 g.2.1 g.2.2 _ _ _ _ f1 f2 c1 c2 (pc_gfrom _ _ _) (pc_gfrom _ _ _) (pc_gfrom _ _ _) (pc_gfrom _ _ _)
  have e : gauB g = (decide (0 < (gSc g).1.1) && (withB (gSc g).1.1 (-1000000) 1000000 && decide ((gSc g).1.2 ≤ 1000000) && (withB (gSc g).2.1 (-1000000) 1000000 && decide ((gSc g).2.2 ≤ 1000000)) && (withB g.1.2.1 (-1000000) 1000000 && decide (g.1.2.2 ≤ 1000000)) && (withB g.2.1 (-1000000) 1000000 && decide (g.2.2 ≤ 1000000)))) := by
    unfold gauB
    rw [w1, w2, s1, s2]
    rfl
  rw [e]
  exact h
end Go.Proofs.Try.My
