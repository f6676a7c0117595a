/- Helper lemmas. -/
import Derived.Test.YtdpnpdjnaimgaaaGreatRows
import Derived.OpenShut
import Derived.ChangeOld
import Derived.Test.YtdpnpdjnaimgaaaGreatMzWbX
set_option linter.unusedVariables false
set_option linter.unusedSimpArgs false
set_option maxRecDepth 100000
set_option maxHeartbeats 0
namespace Go.Proofs.YtdpnpdjnaimgaaaGreat.BooksIn
open Go Go.Ev Go.Proofs.Tryz.My
open Go.ChangeShapes Go.WideShapes Go.ChangeAt Go.RowKit
end Go.Proofs.YtdpnpdjnaimgaaaGreat.BooksIn
namespace Go.Proofs.YtdpnpdjnaimgaaaGreat.PlantIn
open Go Go.Ev Go.Proofs.Tryz.My Go.Proofs.YtdpnpdjnaimgaaaGreat.BooksIn
open Go.ChangeShapes Go.WideShapes Go.ChangeAt Go.RowKit

end Go.Proofs.YtdpnpdjnaimgaaaGreat.PlantIn
