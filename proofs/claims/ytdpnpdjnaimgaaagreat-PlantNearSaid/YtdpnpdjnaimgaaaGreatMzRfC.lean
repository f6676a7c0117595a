/- A helper text: contracts of functions of the program, and plain lemmas. -/
import Derived.Test.YtdpnpdjnaimgaaaGreatEvSix
import Derived.Test.YtdpnpdjnaimgaaaGreatMzRf1
import Derived.Test.YtdpnpdjnaimgaaaGreatMzExB
set_option maxRecDepth 100000
set_option maxHeartbeats 0
set_option linter.unusedVariables false
set_option linter.unusedSimpArgs false
namespace Go.Proofs.Tryz.My
open Go Go.Ev
def lowN (sg:Int) (n d:Nat):(Int×Int)×Bool:=if n<=4611686018427387903/\d<=4611686018427387903 then ((if sg < 0 then -(n:Int) else (n:Int),(d:Int)),true) else ((0,0),false)
def lowF (sg:Int) (N D:Nat):(Int×Int)×Bool:=lowN sg (N / Nat.gcd N D) (D / Nat.gcd N D)
abbrev okF (r:(Int×Int)×Int):AV := .tup [fr r.1,.bool (decide (r.2=0))]
def b5M (a b c d:(Int×Int)×Int):SpT×Int:=if a.2=0/\b.2=0/\c.2=0/\d.2=0 then ((lesF (lesF (lesF a.1 b.1) c.1) d.1,greF (greF (greF a.1 b.1) c.1) d.1),0) else (zS,4)
abbrev I4 (s:SpT):Prop:=I64 s.1.1/\I64 s.1.2/\I64 s.2.1/\I64 s.2.2

end Go.Proofs.Tryz.My
