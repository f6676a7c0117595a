/- A helper text: contracts of functions of the program, and plain lemmas. -/
import Derived.Test.YtnoahgjfeablgaaGreatEvSix
import Derived.Test.YtnoahgjfeablgaaGreatMzBp8
set_option maxRecDepth 100000
set_option maxHeartbeats 0
set_option linter.unusedVariables false
set_option linter.unusedSimpArgs false
namespace Go.Proofs.Tryz.My
open Go Go.Ev
structure ActT where
  kind : Int
  user : Int
  number : Int
  role : Int
  gauge : GauT
  profile : List Int
def eAct (a : ActT) : List AV := [u8 a.kind, i64 a.user, i64 a.number, u8 a.role, i64 (gThr a.gauge), i64 (gNoi a.gauge), i64 (gSc a.gauge).1.1, i64 (gSc a.gauge).1.2, i64 (gSc a.gauge).2.1, i64 (gSc a.gauge).2.2, i64 a.gauge.1.2.1, i64 a.gauge.1.2.2, i64 a.gauge.2.1, i64 a.gauge.2.2, ints a.profile]
abbrev act (a : ActT) : AV := .agg (eAct a)
def knd (a : ActT) : Int := a.kind.tmod 8
def doE (b : BooksT) (a : ActT) : Int :=
  if knd a = 0 then addE b a.role else if knd a = 1 then drfE b a.user a.gauge else if knd a = 2 then apvE b a.user a.number else if knd a = 3 then actvE b a.user a.number else if knd a = 4 then retE b a.user else if knd a = 5 then rcdE b a.number a.profile else if knd a = 6 then disE b a.user a.number else setE b a.user a.number
def doB (b : BooksT) (a : ActT) : BooksT :=
  if knd a = 0 then addU b a.role else if knd a = 1 then drfB b a.user a.gauge else if knd a = 2 then apvB b a.user a.number else if knd a = 3 then actvB b a.number else if knd a = 4 then retB b (firstA b.recipes) else if knd a = 5 then rcdB b a.number a.profile else if knd a = 6 then mrkB b a.number true else mrkB b a.number false
end Go.Proofs.Tryz.My
