import Derived.Test.YtoejfkeofbdalaaGreatDoorM01
import Derived.Test.YtoejfkeofbdalaaGreatDoorRows
import Derived.KernelRfl
set_option linter.all false
set_option maxRecDepth 100000
set_option maxHeartbeats 8000000
namespace Go.Proofs.YtoejfkeofbdalaaGreatDoor.topShell
open Go
theorem zwW:(Rows.topShellRow.inPlace ==Tryz.prog.inPlace 5)=true:=Q2
theorem zor:(Rows.topShellRow.unfollowed ==Tryz.prog.unfollowed 5)=true:=Q2
theorem ztu:(Rows.topShellRow.recurses ==Tryz.prog.recurses 5)=true:=Q2
theorem zAN:(Rows.topShellRow.named ==Tryz.prog.varsNamed 5)=true:=Q2
end Go.Proofs.YtoejfkeofbdalaaGreatDoor.topShell