/- Helper lemmas. -/
import Derived.Test.YtpmmjoccamogdaaGreatMyBkA
set_option linter.unusedVariables false
set_option linter.unusedSimpArgs false
set_option maxRecDepth 100000
set_option maxHeartbeats 0
namespace Go.Proofs.Tryz.My
open Go Go.Ev

end Go.Proofs.Tryz.My
