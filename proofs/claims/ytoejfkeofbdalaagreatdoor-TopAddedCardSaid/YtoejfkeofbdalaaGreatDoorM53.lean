import Derived.Test.YtoejfkeofbdalaaGreatDoorM51
import Derived.Test.YtoejfkeofbdalaaGreatDoorM52
set_option linter.all false
set_option maxRecDepth 100000
set_option maxHeartbeats 8000000
namespace Go.Proofs.YtoejfkeofbdalaaGreatDoor.topAdded
open Go.ChangeShapes Go.WideShapes Go.ChangeAt Go.RowKit
theorem zAg:joinedFacts Tryz.pinned.checked.prog 3 Tryz.f3 Rows.topAddedSpec Rows.topAddedRow=true:=by
 have a:(Rows.topAddedRow.inPlace ==Tryz.pinned.checked.prog.inPlace 3)=true:=zwW;have b:(Rows.topAddedRow.unfollowed ==Tryz.pinned.checked.prog.unfollowed 3)=true:=zor;have c:(Rows.topAddedRow.recurses ==Tryz.pinned.checked.prog.recurses 3)=true:=ztu;have d:(Rows.topAddedRow.named ==Tryz.pinned.checked.prog.varsNamed 3)=true:=zAN;unfold joinedFacts
 repeat' (first|(with_reducible refine Bool.and_eq_true_iff.2 ⟨?_,?_⟩))
 all_goals first|with_reducible exact a|with_reducible exact b|with_reducible exact c|with_reducible exact d|(clear a b c d;as_aux_lemma=>kernel_rfl)
theorem over:Rows.topAddedRow.holds Tryz.pinned (OpenSpec.ofChange Rows.topAddedSpec) :=
 OpenClaim.holds_of_wide 3 Tryz.f3 rfl rfl rfl rfl rfl rfl rfl ⟨rfl,rfl,rfl,rfl,rfl⟩ rfl rfl rfl rfl rfl (by as_aux_lemma=>kernel_rfl) Tryz.func3 zAg
  (Kk (by as_aux_lemma=>kernel_rfl)) (by unfold Func.isWrapper;rw[if_neg (of_decide_eq_false (by as_aux_lemma=>kernel_rfl))];exact⟨rfl,rfl⟩)
  (λa b H enc _=>lifted a b H enc)
end Go.Proofs.YtoejfkeofbdalaaGreatDoor.topAdded