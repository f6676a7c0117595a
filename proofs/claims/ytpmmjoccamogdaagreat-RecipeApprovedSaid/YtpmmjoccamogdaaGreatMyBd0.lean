/- Helper lemmas. -/
import Derived.Test.YtpmmjoccamogdaaGreatMyBkA
import Derived.Test.YtpmmjoccamogdaaGreatEvTen
import Derived.Test.YtpmmjoccamogdaaGreatRows
import Derived.WalkKit
import Derived.OpenShut
import Derived.ChangeOld
set_option linter.unusedVariables false
set_option linter.unusedSimpArgs false
set_option maxRecDepth 100000
set_option maxHeartbeats 0
namespace Go.Proofs.YtpmmjoccamogdaaGreat.BooksIn
open Go Go.Ev Go.Proofs.Tryz.My
open Go.ChangeShapes Go.WideShapes Go.ChangeAt Go.RowKit
theorem tY:rn Tryz.prog 40 eF (fun y:Int×Int=>K6 y.1/\K6 y.2) :=
 tG Tryz.underlying40 rfl rfl rfl (by kernel_rfl) (by kernel_rfl) (eX Tryz.underlying3 (by kernel_rfl)) (eX Tryz.underlying3 (by kernel_rfl)) (fun _=>by kernel_rfl)
theorem Ga:rn Tryz.prog 42 eS (fun y:S6=>(K6 y.1.1/\K6 y.1.2)/\(K6 y.2.1/\K6 y.2.2)) :=
 tG Tryz.underlying42 rfl rfl rfl (by kernel_rfl) (by kernel_rfl) tY tY (fun _=>by kernel_rfl)
theorem DO:rn Tryz.prog 44 eG (fun y:H4=>((((K6 y.1.1.1.1/\K6 y.1.1.1.2)/\((K6 y.1.1.2.1.1/\K6 y.1.1.2.1.2)/\(K6 y.1.1.2.2.1/\K6 y.1.1.2.2.2)))/\(K6 y.1.2.1/\K6 y.1.2.2))/\(K6 y.2.1/\K6 y.2.2))) :=
 AL Tryz.underlying44 rfl (by kernel_rfl)
  (eY (k:=4) Tryz.underlying44 rfl (by kernel_rfl) (eY (k:=3) Tryz.underlying44 rfl (by kernel_rfl) (eY (k:=2) Tryz.underlying44 rfl (by kernel_rfl) (eY (k:=1) Tryz.underlying44 rfl (by kernel_rfl)
   (AK Tryz.underlying44 rfl (by kernel_rfl) (eX Tryz.underlying3 (by kernel_rfl))) (eX Tryz.underlying3 (by kernel_rfl)) (fun _=>by kernel_rfl)) Ga (fun _=>by kernel_rfl)) tY (fun _=>by kernel_rfl)) tY (fun _=>by kernel_rfl))
theorem DP:U4 Tryz.prog 3 (fun n:Int=>[i64 n]) K6:=rn.mem (eX Tryz.underlying3 (by kernel_rfl))
theorem Gb:U4 Tryz.prog 34 (fun l:List Int=>[I7 l]) (fun _=>True):=by
 have h0:U4 Tryz.prog 34 (fun l:List Int=>[.sl (Tryz.prog.cellsOf 3) 0 (fun n:Int=>[i64 n]) l]) (fun l=>(∀ n ∈ l,K6 n)/\l.length<=maxLen):=jO (d:=(0:Int)) Tryz.underlying34 (by kernel_rfl) (of_decide_eq_true (by kernel_rfl)) DP
 have e:Tryz.prog.cellsOf 3=1:=by kernel_rfl
 rw [e] at h0
 intro H enc w base spare held fuel cs x ht
 exact U4.weak h0 (fun _ _=>trivial) ht
theorem Kc:U4 Tryz.prog 5 (fun n:Int=>[u8 n]) (fun n=>(Lit.int .u8 n).wf=true):=rn.mem (AM Tryz.underlying5 (by kernel_rfl))
theorem Bp:U4 Tryz.prog 44 eG (fun y:H4=>((((K6 y.1.1.1.1/\K6 y.1.1.1.2)/\((K6 y.1.1.2.1.1/\K6 y.1.1.2.1.2)/\(K6 y.1.1.2.2.1/\K6 y.1.1.2.2.2)))/\(K6 y.1.2.1/\K6 y.1.2.2))/\(K6 y.2.1/\K6 y.2.2))):=rn.mem DO

end Go.Proofs.YtpmmjoccamogdaaGreat.BooksIn
