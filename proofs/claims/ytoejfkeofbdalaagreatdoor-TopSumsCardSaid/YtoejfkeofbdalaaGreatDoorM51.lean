import Derived.Test.YtoejfkeofbdalaaGreatDoorRows
import Derived.KernelRfl
set_option linter.unusedVariables false
set_option maxRecDepth 100000
set_option maxHeartbeats 8000000
namespace Go.Proofs.YtoejfkeofbdalaaGreatDoor.topSums
open Go
theorem zsy:(Rows.topSumsRow.inPlace == Tryz.prog.inPlace 4)=true:=by kernel_rfl
theorem zlV:(Rows.topSumsRow.unfollowed == Tryz.prog.unfollowed 4)=true:=by kernel_rfl
theorem zrn:(Rows.topSumsRow.recurses == Tryz.prog.recurses 4)=true:=by kernel_rfl
theorem zvm:(Rows.topSumsRow.named == Tryz.prog.varsNamed 4)=true:=by kernel_rfl
end Go.Proofs.YtoejfkeofbdalaaGreatDoor.topSums
