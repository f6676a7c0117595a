/- A helper text: contracts of functions of the program, and plain lemmas. -/
import Derived.Test.YtnoahgjfeablgaaGreatEvSix
import Derived.Test.YtnoahgjfeablgaaGreatMzGaA
import Derived.Test.YtnoahgjfeablgaaGreatMzRf2
set_option maxRecDepth 100000
set_option maxHeartbeats 0
set_option linter.unusedVariables false
set_option linter.unusedSimpArgs false
namespace Go.Proofs.Tryz.My
open Go Go.Ev
theorem clip_L (x : Int) : clip x = clipL x := by unfold clip clipL; split <;> split <;> (try split) <;> (try split) <;> omega
theorem movL_range (p : List Int) (b : Int) : (List.range p.length).map (fun i => clipL (p.getD i 0 + b)) = movL p b := by
  refine List.ext_getElem (by simp [movL]) fun i h1 h2 => ?_
  simp at h1
  simp [movL, List.getD, h1]
theorem pc_moved (b : Int) : PC Tryz.prog 159 [i64 b] (.fn (.func 179) [] [.pt [i64 b] 0]) := by
  refine pc_of_bodyF hm Tryz.func159 (by kernel_rfl) ?_
  conv => whnf
theorem pw_moved1 (p : List Int) (b : Int) (h0 : p ≠ []) (hl : p.length < 2 ^ 30) (hp : byteL p) (b1 : -64 ≤ b) (b2 : b ≤ 64) : PW Tryz.prog 179 [ints p, .pt [i64 b] 0] [] (.own 0) [.vec 3 1 0 eI (movL p b)] := by
  refine pw_of_bodyF hm Tryz.func179 (by kernel_rfl) ⟨by kernel_rfl, ?_⟩
  conv => whnf
  (refine Or.inr ⟨[ ], [ 8 ], by kernel_rfl, ?_⟩; (conv => whnf); refine ⟨[ ], _, _, _, _, ⟨ pw_Clone p h0 hl, rfl, rfl, by kernel_rfl⟩, ?_⟩)
  (conv => whnf)
  refine Or.inr ⟨Nat, [11], [8], [], fun k => [i64 k], fun k => [.vec 3 1 0 eI (mixL p (fun i => clipL (p.getD i 0 + b)) k)], fun _ => [], fun k => p.length - k, fun k => k ≤ p.length, ?_⟩
  (conv => whnf)
  refine ⟨⟨0, ?_⟩, ?_⟩
  · (conv => whnf)
    refine ⟨⟨Nat.zero_le _, rfl, ?_, rfl⟩, by kernel_rfl, by kernel_rfl⟩
    show [Row.vec 3 1 0 eI p] = [Row.vec 3 1 0 eI (mixL p _ 0)]
    rw [mixL_zero]
  · intro k hk
    (conv => whnf)
    refine ⟨fun h => ?_, fun h => ?_⟩
    · have h := of_decide_eq_true h
      have a1 := hp k (by omega)
      (conv => whnf)
      refine ⟨⟨by omega, by rw [mixL_length]; omega⟩, ?_⟩
      (conv => whnf)
      refine ⟨by rw [mixL_length]; omega, ?_⟩
      (conv => whnf)
      refine ⟨⟨by omega, by rw [mixL_length]; omega⟩, ?_⟩
      (conv => whnf)
      refine ⟨clipL (p.getD k 0 + b), ?_, by rw [mixL_length]; omega, ?_⟩
      · have e1 : (mixL p (fun i => clipL (p.getD i 0 + b)) k).getD (Int.toNat (k : Int)) 0 = p.getD k 0 := by
          show (mixL p _ k).getD k 0 = _
          rw [mixL_getD p _ k k (by omega)]; simp
        rw [e1, w64 (p.getD k 0 + b) (by omega) (by omega), ← clip_L]
        rfl
      (conv => whnf)
      refine ⟨k + 1, ?_⟩
      (conv => whnf)
      refine ⟨⟨⟨Nat.sub_lt_sub_left (by omega) (Nat.lt_succ_self k), by omega⟩, ?_, ?_, rfl⟩, by kernel_rfl, by kernel_rfl⟩
      · rw [w64 _ (by omega) (by omega)]; rfl
      · show [Row.vec _ 1 0 eI ((mixL p _ k).set k (clipL (p.getD k 0 + b)))] = _
        rw [show (mixL p (fun i => clipL (p.getD i 0 + b)) k).set k (clipL (p.getD k 0 + b)) = _ from mixL_succ p (fun i => clipL (p.getD i 0 + b)) k]
    · have h := of_decide_eq_false h
      obtain rfl : k = p.length := by omega
      (conv => whnf)
      refine ⟨[8], by kernel_rfl, ?_⟩
      (conv => whnf)
      refine ⟨rfl, ?_⟩
      show [Row.vec _ 1 0 eI (mixL p _ p.length)] = _
      rw [mixL_all, movL_range]
      rfl
end Go.Proofs.Tryz.My
set_option maxRecDepth 100000
set_option maxHeartbeats 0
set_option linter.unusedVariables false
set_option linter.unusedSimpArgs false
namespace Go.Proofs.Tryz.My
open Go Go.Ev
end Go.Proofs.Tryz.My
set_option maxRecDepth 100000
set_option maxHeartbeats 0
set_option linter.unusedVariables false
set_option linter.unusedSimpArgs false
namespace Go.Proofs.Tryz.My
open Go Go.Ev
def firG (r : (Int × Int) × Bool) : (Int × Int) × Int := if r.2 then (r.1, 0) else ((0, 0), 6)
def firF (p : List Int) (thr a d : Int) : (Int × Int) × Int := if profB p then (if askE p thr a 0 then firG (brF p thr a d) else ((0, 0), 2)) else ((0, 0), 50)
def nzB (p : List Int) (noise : Int) : Bool := profB p && askE p 1 0 noise
end Go.Proofs.Tryz.My
