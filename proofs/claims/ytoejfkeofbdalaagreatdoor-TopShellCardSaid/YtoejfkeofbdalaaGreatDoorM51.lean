import Derived.Test.YtoejfkeofbdalaaGreatDoorM49
import Derived.Test.YtoejfkeofbdalaaGreatDoorM50
set_option linter.all false
set_option maxRecDepth 100000
set_option maxHeartbeats 8000000
namespace Go.Proofs.YtoejfkeofbdalaaGreatDoor.topShell
open Go.ChangeShapes Go.WideShapes Go.ChangeAt Go.RowKit
theorem zAg:joinedFacts Tryz.pinned.checked.prog 5 Tryz.f5 Rows.topShellSpec Rows.topShellRow=true:=by
 have a:(Rows.topShellRow.inPlace ==Tryz.pinned.checked.prog.inPlace 5)=true:=zwW;have b:(Rows.topShellRow.unfollowed ==Tryz.pinned.checked.prog.unfollowed 5)=true:=zor;have c:(Rows.topShellRow.recurses ==Tryz.pinned.checked.prog.recurses 5)=true:=ztu;have d:(Rows.topShellRow.named ==Tryz.pinned.checked.prog.varsNamed 5)=true:=zAN;unfold joinedFacts
 repeat' (first|(with_reducible refine Bool.and_eq_true_iff.2 ⟨?_,?_⟩))
 all_goals first|with_reducible exact a|with_reducible exact b|with_reducible exact c|with_reducible exact d|(clear a b c d;as_aux_lemma=>kernel_rfl)
theorem over:Rows.topShellRow.holds Tryz.pinned (OpenSpec.ofChange Rows.topShellSpec) :=
 OpenClaim.holds_of_wide 5 Tryz.f5 rfl rfl rfl rfl rfl rfl rfl ⟨rfl,rfl,rfl,rfl,rfl⟩ rfl rfl rfl rfl rfl (by as_aux_lemma=>kernel_rfl) Tryz.func5 zAg
  (Kk (by as_aux_lemma=>kernel_rfl)) (by unfold Func.isWrapper;rw[if_neg (of_decide_eq_false (by as_aux_lemma=>kernel_rfl))];exact⟨rfl,rfl⟩)
  (λa b H enc _=>lifted a b H enc)
end Go.Proofs.YtoejfkeofbdalaaGreatDoor.topShell