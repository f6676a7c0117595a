/- A helper text: contracts of functions of the program, and plain lemmas. -/
import Derived.Test.YtblmmhmdnnnidaaGreatEvSix
import Derived.Test.YtblmmhmdnnnidaaGreatMzExB
set_option maxRecDepth 100000
set_option maxHeartbeats 0
set_option linter.unusedVariables false
set_option linter.unusedSimpArgs false
namespace Go.Proofs.Tryz.My
open Go Go.Ev

theorem pc_whole (n : Int) : PC Tryz.prog 14 [i64 n] (fr (n, 1)) := by
  refine pc_of_bodyF hm Tryz.func14 (by kernel_rfl) ?_
  conv => whnf
  (repeat' (first | (refine And.intro (a := _ = true → _) (b := _ = false → _) (fun hh => ?_) (fun hh => ?_) <;> (first | simp only [decide_eq_true_eq, decide_eq_false_iff_not, Bool.or_eq_true, Bool.and_eq_true, Bool.or_eq_false_iff, Bool.and_eq_false_iff, Bool.not_eq_true', Bool.not_eq_false', ge_iff_le, gt_iff_lt] at hh | skip) <;> (first | (exfalso; omega) | (exfalso; simp [*] at hh; done) | (exfalso; revert hh; decide) | exact absurd (by assumption) hh | (conv => whnf))) | (refine ⟨by kernel_rfl, ?_⟩; (conv => whnf)) | (refine And.intro (a := _ ∧ _) ⟨by omega, by omega⟩ ?_; (conv => whnf)) | (refine And.intro (a := _ ∧ _) ⟨by decide, by decide⟩ ?_; (conv => whnf)) | (refine And.intro (a := _ ≤ _) (by omega) ?_; (conv => whnf)) | (refine And.intro (a := _ ≠ _) (by omega) ?_; (conv => whnf))))
/-- A sum of spans, up to the first error. -/
abbrev sme (x : SpT × Int) : AV := .agg [i64 x.1.1.1, i64 x.1.1.2, i64 x.1.2.1, i64 x.1.2.2, i64 x.2]
def withF (op : SpT → SpT → SpT × Int) (x : SpT × Int) (s : SpT) : SpT × Int := if x.2 = 0 then op x.1 s else x
def bus (s c : SpT) : SpT × Int := subS c s
end Go.Proofs.Tryz.My
