/- Helper lemmas. -/
import Derived.Test.YtpmmjoccamogdaaGreatMyBk1
set_option linter.unusedVariables false
set_option linter.unusedSimpArgs false
set_option maxRecDepth 100000
set_option maxHeartbeats 0
namespace Go.Proofs.Tryz.My
open Go Go.Ev
abbrev Kb (x:x7):AV := .agg (iH x)
abbrev wk (s:A1):AV := .agg (V8 s)
def Ci (g h:H4):Prop:=K4 g=K4 h/\J2 g=J2 h/\(K7 g).1.1=(K7 h).1.1/\(K7 g).1.2=(K7 h).1.2/\(K7 g).2.1=(K7 h).2.1/\(K7 g).2.2=(K7 h).2.2/\g.1.2.1=h.1.2.1/\g.1.2.2=h.1.2.2/\g.2.1=h.2.1/\g.2.2=h.2.2
instance (g h:H4):Decidable (Ci g h):=by unfold Ci;infer_instance

end Go.Proofs.Tryz.My
