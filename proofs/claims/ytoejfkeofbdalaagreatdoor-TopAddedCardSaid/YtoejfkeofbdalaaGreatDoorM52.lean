import Derived.Test.YtoejfkeofbdalaaGreatDoorM01
import Derived.Test.YtoejfkeofbdalaaGreatDoorRows
import Derived.KernelRfl
set_option linter.all false
set_option maxRecDepth 100000
set_option maxHeartbeats 8000000
namespace Go.Proofs.YtoejfkeofbdalaaGreatDoor.topAdded
open Go
theorem zwW:(Rows.topAddedRow.inPlace ==Tryz.prog.inPlace 3)=true:=Q2
theorem zor:(Rows.topAddedRow.unfollowed ==Tryz.prog.unfollowed 3)=true:=Q2
theorem ztu:(Rows.topAddedRow.recurses ==Tryz.prog.recurses 3)=true:=Q2
theorem zAN:(Rows.topAddedRow.named ==Tryz.prog.varsNamed 3)=true:=Q2
end Go.Proofs.YtoejfkeofbdalaaGreatDoor.topAdded