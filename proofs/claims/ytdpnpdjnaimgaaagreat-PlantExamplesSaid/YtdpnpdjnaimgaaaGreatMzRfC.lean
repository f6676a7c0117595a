/- Helper lemmas. -/
import Derived.Test.YtdpnpdjnaimgaaaGreatMzExB
set_option linter.unusedVariables false
set_option linter.unusedSimpArgs false
set_option maxRecDepth 100000
set_option maxHeartbeats 0
namespace Go.Proofs.Tryz.My
open Go Go.Ev
abbrev I4 (s:X2):Prop:=G7 s.1.1/\G7 s.1.2/\G7 s.2.1/\G7 s.2.2

end Go.Proofs.Tryz.My
