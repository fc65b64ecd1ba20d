/- The law TopShell holds of every input. Conditions: none but the row's own: the listed package variables read as the text of the program lays them, which the card ties. -/
import Derived.Test.YtoejfkeofbdalaaGreatDoorM51
set_option linter.all false
set_option maxRecDepth 100000
set_option maxHeartbeats 8000000
namespace Go.Proofs.YtoejfkeofbdalaaGreatDoor.topShell
open Go.ChangeShapes Go.WideShapes Go.ChangeAt Go.RowKit
theorem proved:Rows.TopShellCardSaid :=
 Claim7.holds_tied_plain_at .later [] [.data,.data,.data,.data,.handle,.sentinel,.sentinel,.pinned] true (true, "1165fa2518f2c4214681ab53fd5bc205ee95a7fa3ae4b30a7e9106f60a68fd90") true over (λ_ h=>by cases h) (by as_aux_lemma=>kernel_rfl) (λ_ h=>by cases h) topShell_row_tie rfl ⟨rfl,rfl⟩ (by as_aux_lemma=>kernel_rfl) rfl
  (λf b c e=>by
    obtain rfl:f=5:=JN ((show Tryz.prog.funcNamed "pressmark/pressmarktop.TopShell" =some 5 by kernel_rfl).symm.trans c) |>.symm
    obtain rfl:b=Tryz.f5:=(JN (Tryz.func5.symm.trans e)).symm
    exact⟨Q2,λj t a=>by
     rw[Tryz.params5] at a;have d:t∈[9,22,3,22]:=by simpa using Array.mem_of_getElem? a
     have g:([9,22,3,22].all λu=>!Tryz.prog.wantsStandIn u)=true:=Q2
     exact(show Tryz.prog.wantsStandIn t=false by simpa using List.all_eq_true.1 g t d)⟩)
  (by as_aux_lemma=>kernel_rfl)
end Go.Proofs.YtoejfkeofbdalaaGreatDoor.topShell