/- Default proofs, for a look at what the walks leave (a tool; no claim holds it). -/
import Derived.Test.YtpmmjoccamogdaaGreatEvZl
set_option linter.unusedVariables false
set_option linter.unusedSimpArgs false
namespace Go.Ev

end Go.Ev
