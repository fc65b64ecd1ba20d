/- The law TopAdded holds of every input. Conditions: none but the row's own: the listed package variables read as the text of the program lays them, which the card ties. -/
import Derived.Test.YtoejfkeofbdalaaGreatDoorM53
set_option linter.all false
set_option maxRecDepth 100000
set_option maxHeartbeats 8000000
namespace Go.Proofs.YtoejfkeofbdalaaGreatDoor.topAdded
open Go.ChangeShapes Go.WideShapes Go.ChangeAt Go.RowKit
theorem proved:Rows.TopAddedCardSaid :=
 Claim7.holds_tied_plain_at .later [] [.data,.data,.data,.data,.handle,.sentinel,.sentinel,.pinned] true (true, "1165fa2518f2c4214681ab53fd5bc205ee95a7fa3ae4b30a7e9106f60a68fd90") true over (λ_ h=>by cases h) (by as_aux_lemma=>kernel_rfl) (λ_ h=>by cases h) topAdded_row_tie rfl ⟨rfl,rfl⟩ (by as_aux_lemma=>kernel_rfl) rfl
  (λf b c e=>by
    obtain rfl:f=3:=JN ((show Tryz.prog.funcNamed "pressmark/pressmarktop.TopAdded" =some 3 by kernel_rfl).symm.trans c) |>.symm
    obtain rfl:b=Tryz.f3:=(JN (Tryz.func3.symm.trans e)).symm
    exact⟨Q2,λj t a=>by
     rw[Tryz.params3] at a;have d:t∈[9,22,9,3,3,3]:=by simpa using Array.mem_of_getElem? a
     have g:([9,22,9,3,3,3].all λu=>!Tryz.prog.wantsStandIn u)=true:=Q2
     exact(show Tryz.prog.wantsStandIn t=false by simpa using List.all_eq_true.1 g t d)⟩)
  (by as_aux_lemma=>kernel_rfl)
end Go.Proofs.YtoejfkeofbdalaaGreatDoor.topAdded