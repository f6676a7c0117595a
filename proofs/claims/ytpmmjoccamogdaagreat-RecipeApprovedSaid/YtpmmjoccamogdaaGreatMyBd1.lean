/- Helper lemmas. -/
import Derived.Test.YtpmmjoccamogdaaGreatMyBd0
import Derived.Test.YtpmmjoccamogdaaGreatMyBpD
set_option linter.unusedVariables false
set_option linter.unusedSimpArgs false
set_option maxRecDepth 100000
set_option maxHeartbeats 0
namespace Go.Proofs.YtpmmjoccamogdaaGreat.BooksIn
open Go Go.Ev Go.Proofs.Tryz.My
open Go.ChangeShapes Go.WideShapes Go.ChangeAt Go.RowKit
theorem Gi:U4 Tryz.prog 46 (fun y:((((Int×Int)×Int)×Int)×H4)×List Int=>((((([u8 y.1.1.1.1.1]++[i64 y.1.1.1.1.2])++[i64 y.1.1.1.2])++[u8 y.1.1.2])++eG y.1.2)++[I7 y.2]))
  (fun y=>(((((Lit.int .u8 y.1.1.1.1.1).wf=true/\K6 y.1.1.1.1.2)/\K6 y.1.1.1.2)/\(Lit.int .u8 y.1.1.2).wf=true)/\((((K6 y.1.2.1.1.1.1/\K6 y.1.2.1.1.1.2)/\((K6 y.1.2.1.1.2.1.1/\K6 y.1.2.1.1.2.1.2)/\(K6 y.1.2.1.1.2.2.1/\K6 y.1.2.1.1.2.2.2)))/\(K6 y.1.2.1.2.1/\K6 y.1.2.1.2.2))/\(K6 y.1.2.2.1/\K6 y.1.2.2.2)))/\True) :=
 xV Tryz.underlying46 rfl (by kernel_rfl)
  (aR (k:=5) Tryz.underlying46 rfl (by kernel_rfl) (aR (k:=4) Tryz.underlying46 rfl (by kernel_rfl) (aR (k:=3) Tryz.underlying46 rfl (by kernel_rfl) (aR (k:=2) Tryz.underlying46 rfl (by kernel_rfl) (aR (k:=1) Tryz.underlying46 rfl (by kernel_rfl)
   (xU Tryz.underlying46 rfl (by kernel_rfl) Kc) DP (fun _=>by kernel_rfl)) DP (fun _=>by kernel_rfl)) Kc (fun _=>by kernel_rfl)) Bp (fun _=>by kernel_rfl)) Gb (fun _=>by kernel_rfl))
theorem Jf:U4 Tryz.prog 46 zb (fun _=>True):=by
 refine U4.weak (U4.map (en':=zb) Gi (fun y=>(⟨y.1.1.1.1.1,y.1.1.1.1.2,y.1.1.1.2,y.1.1.2,y.1.2,y.2⟩:M9)) (fun _=>rfl)) fun _ _=>trivial

end Go.Proofs.YtpmmjoccamogdaaGreat.BooksIn
