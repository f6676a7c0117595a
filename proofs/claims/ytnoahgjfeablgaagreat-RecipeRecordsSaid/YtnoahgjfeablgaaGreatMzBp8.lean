/- A helper text: contracts of functions of the program, and plain lemmas. -/
import Derived.Test.YtnoahgjfeablgaaGreatEvSix
import Derived.Test.YtnoahgjfeablgaaGreatMzBpC
set_option maxRecDepth 100000
set_option maxHeartbeats 0
set_option linter.unusedVariables false
set_option linter.unusedSimpArgs false
namespace Go.Proofs.Tryz.My
open Go Go.Ev
def darkL : List Int := [0, 0, 100, 100, 0]
def plainG (lo hi : Int) : GauT := ((((50, 0), ((1, 1), (1, 1))), (lo, 1)), (hi, 1))
def tB0 : BooksT := ⟨2, [], [], 0, []⟩
def tB1 : BooksT := ⟨2, [2], [], 0, []⟩
def tB2 : BooksT := ⟨2, [2, 2], [], 0, []⟩
def tB3 : BooksT := ⟨2, [2, 2, 3], [], 0, []⟩
def tB4 : BooksT := ⟨2, [2, 2, 3, 1], [], 0, []⟩
def tB5 : BooksT := ⟨2, [2, 2, 3, 1], [⟨0, plainG 1 3, [], 1⟩], 0, []⟩
def tB6 : BooksT := ⟨2, [2, 2, 3, 1], [⟨0, plainG 1 3, [1], 1⟩], 0, []⟩
def tB7 : BooksT := ⟨2, [2, 2, 3, 1], [⟨0, plainG 1 3, [1, 2], 2⟩], 0, []⟩
def tB8 : BooksT := ⟨2, [2, 2, 3, 1], [⟨0, plainG 1 3, [1, 2], 3⟩], 0, []⟩
def tX (q part : Int) (is : Bool) : EntT := ⟨q, 0, part, darkL, 1, is⟩
def tL (next : Int) (l : List EntT) : BooksT := ⟨2, [2, 2, 3, 1], [⟨0, plainG 1 3, [1, 2], 3⟩], next, l⟩
end Go.Proofs.Tryz.My
