/- A helper text: contracts of functions of the program, and plain lemmas. -/
import Derived.Test.YtnoahgjfeablgaaGreatMzBp4
import Derived.Test.YtnoahgjfeablgaaGreatMzBoB
import Derived.Test.YtnoahgjfeablgaaGreatEvTen
set_option maxRecDepth 100000
set_option maxHeartbeats 0
set_option linter.unusedVariables false
set_option linter.unusedSimpArgs false
namespace Go.Proofs.Tryz.My
open Go Go.Ev
theorem pc_AddUserOk (b : BooksT) (o : Okay b) (role : Int) (h : addE b role = 0) : PC Tryz.prog 17 [bks b, u8 role] (.tup [bks (addU b role), i64 b.users.length, i64 0]) := (pw_AddUserOk b o role h).toPC 6 (by kernel_rfl)
theorem pc_DraftOk (b : BooksT) (o : Okay b) (user : Int) (g : GauT) (h : drfE b user g = 0) : PC Tryz.prog 19 [bks b, i64 user, gau g] (.tup [bks (drfB b user g), i64 b.recipes.length, i64 0]) := (pw_DraftOk b o user g h).toPC 6 (by kernel_rfl)
theorem pc_ApproveOk (b : BooksT) (o : Okay b) (user number : Int) (h : apvE b user number = 0) : PC Tryz.prog 23 [bks b, i64 user, i64 number] (.tup [bks (apvB b user number), i64 0]) := (pw_ApproveOk b o user number h).toPC 6 (by kernel_rfl)
theorem pc_ActivateOk (b : BooksT) (o : Okay b) (user number : Int) (h : actvE b user number = 0) : PC Tryz.prog 25 [bks b, i64 user, i64 number] (.tup [bks (actvB b number), i64 0]) := (pw_ActivateOk b o user number h).toPC 6 (by kernel_rfl)
theorem pc_RetireOk (b : BooksT) (o : Okay b) (user : Int) (h : retE b user = 0) : PC Tryz.prog 27 [bks b, i64 user] (.tup [bks (retB b (firstA b.recipes)), i64 0]) := (pw_RetireOk b o user h).toPC 6 (by kernel_rfl)
theorem pc_DisputeOk (b : BooksT) (o : Okay b) (user seq : Int) (h : disE b user seq = 0) : PC Tryz.prog 34 [bks b, i64 user, i64 seq] (.tup [bks (mrkB b seq true), i64 0]) := (pw_DisputeOk b o user seq h).toPC 6 (by kernel_rfl)
theorem pc_SettleOk (b : BooksT) (o : Okay b) (user seq : Int) (h : setE b user seq = 0) : PC Tryz.prog 36 [bks b, i64 user, i64 seq] (.tup [bks (mrkB b seq false), i64 0]) := (pw_SettleOk b o user seq h).toPC 6 (by kernel_rfl)
end Go.Proofs.Tryz.My
