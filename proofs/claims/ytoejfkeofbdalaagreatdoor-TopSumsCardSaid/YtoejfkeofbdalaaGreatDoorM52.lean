import Derived.Test.YtoejfkeofbdalaaGreatDoorM50
import Derived.Test.YtoejfkeofbdalaaGreatDoorM51
set_option linter.unusedVariables false
set_option maxRecDepth 100000
set_option maxHeartbeats 8000000
namespace Go.Proofs.YtoejfkeofbdalaaGreatDoor.topSums
open Go.ChangeShapes Go.WideShapes Go.ChangeAt Go.RowKit
theorem zvl:joinedFacts Tryz.pinned.checked.prog 4 Tryz.f4 Rows.topSumsSpec Rows.topSumsRow=true:=by
  have i1:(Rows.topSumsRow.inPlace == Tryz.pinned.checked.prog.inPlace 4)=true:=zsy;have i2:(Rows.topSumsRow.unfollowed == Tryz.pinned.checked.prog.unfollowed 4)=true:=zlV;have i3:(Rows.topSumsRow.recurses == Tryz.pinned.checked.prog.recurses 4)=true:=zrn;have i4:(Rows.topSumsRow.named == Tryz.pinned.checked.prog.varsNamed 4)=true:=zvm;unfold joinedFacts
  repeat' (first | (with_reducible refine Bool.and_eq_true_iff.2 ⟨?_,?_⟩))
  all_goals first | with_reducible exact i1 | with_reducible exact i2 | with_reducible exact i3 | with_reducible exact i4 | (clear i1 i2 i3 i4;as_aux_lemma=>kernel_rfl)
theorem over:Rows.topSumsRow.holds Tryz.pinned (OpenSpec.ofChange Rows.topSumsSpec) :=
  OpenClaim.holds_of_wide 4 Tryz.f4 rfl rfl rfl rfl rfl rfl rfl ⟨rfl,rfl,rfl,rfl,rfl⟩ rfl rfl rfl rfl rfl (by as_aux_lemma=>kernel_rfl) Tryz.func4 zvl
    (of_decide_eq_true (by as_aux_lemma=>kernel_rfl)) (by unfold Func.isWrapper;rw[if_neg (of_decide_eq_false (by as_aux_lemma=>kernel_rfl))];exact⟨rfl,rfl⟩)
    (fun os started H enc _=>lifted os started H enc)
end Go.Proofs.YtoejfkeofbdalaaGreatDoor.topSums
