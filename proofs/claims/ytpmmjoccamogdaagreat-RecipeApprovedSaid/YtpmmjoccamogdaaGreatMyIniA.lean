/- Helper lemmas. -/
import Derived.Test.YtpmmjoccamogdaaGreatRows
import Derived.Test.YtpmmjoccamogdaaGreatEvTen
set_option linter.unusedVariables false
set_option linter.unusedSimpArgs false
set_option maxRecDepth 100000
namespace Go.Proofs.YtpmmjoccamogdaaGreat
open Go
def ya:List Char:=([104,97,114,110,101,115,115,32,55,97,50,50,99,57,49,98,102,55,55,100,53,100,56,54,102,99,53,53,51,102,49,52,50,54,52,55,51,99,51,55,97,57,56,97,98,98,53,48,102,55,50,55,56,99,51,97,54,56,101,98,97,53,53,48,99,57,54,52,51,49,49,101,32,99,117,116,32,97,116,32,115,105,103,104,116,98,101,110,99,104,47,115,105,103,104,116,98,101,110,99,104,108,97,119,49,48,46,82,101,99,105,112,101,65,112,112,114,111,118,101,100]:List Nat).map Char.ofNat
theorem yb:Tryz.pinned.checked.prog.initOrder=String.ofList ya:=by kernel_rfl
theorem cu:Tryz.pinned.checked.prog.initOrder.toList=ya:=by rw [yb,String.toList_ofList]
open Go Go.Ev
theorem b0:(behindMainWord (wordsSigns ya)).head? = some "cut".toList:=by kernel_rfl
theorem AN:Tryz.pinned.checked.prog.make=some .cut:=xX _ _ cu b0
theorem qh:Tryz.pinned.checked.prog.mayEnter=true:=nW _ _ cu b0 (by kernel_rfl) (by kernel_rfl) (by kernel_rfl)
theorem lx:Tryz.pinned.checked.prog.liftsFinal=false:=jP _ _ cu b0

end Go.Proofs.YtpmmjoccamogdaaGreat
