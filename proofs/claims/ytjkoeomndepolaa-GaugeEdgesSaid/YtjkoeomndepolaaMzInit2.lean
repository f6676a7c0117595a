/- A helper text: contracts of functions of the program, and plain lemmas. -/
import Derived.Test.YtjkoeomndepolaaMzInit
import Derived.Test.YtjkoeomndepolaaEvW
set_option linter.unusedVariables false
set_option linter.unusedSimpArgs false
set_option maxRecDepth 100000
namespace Go.Proofs.Ytjkoeomndepolaa
open Go Go.Ev
theorem b0 : (behindMainWord (wordsSigns initL)).head? = some "cut".toList := by kernel_rfl
theorem make_eq : Try.pinned.checked.prog.make = some .cut := make_gen _ _ init_toList b0
theorem mayEnter_eq : Try.pinned.checked.prog.mayEnter = true := mayEnter_gen _ _ init_toList b0 (by kernel_rfl) (by kernel_rfl) (by kernel_rfl)
theorem liftsFinal_eq : Try.pinned.checked.prog.liftsFinal = false := liftsFinal_gen _ _ init_toList b0
end Go.Proofs.Ytjkoeomndepolaa
