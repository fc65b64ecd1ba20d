/-
  No cell of these rows narrows 'for every input' (looked for: loops, veiled, ifaces, maps, wideKeys, modest, calm, conditions, laid).
  DERIVED. THE GIVEN ROWS OF THIS SEAT. 4 by the template 'for every input the law returns true; each argument reads behind the call as it read before'; 0 by the template 'total and deterministic' (their statements: YtodniacnjdnffaaTotals.lean).
  GIVEN WITH THE SEED: the statements are not yours to turn. If you find one false, say at which input.
  Laid BY PROGRAM, IN A SANDBOX (cutbox-rows.mjs): the forced cells as the released guide's own fill.sh prints them over the translation f176b0b7a33b7284… (all of the seat's roots in one cut). By AI agents, Wed Nov 11 2026. No macro, syntax, notation, axiom, sorry.
-/
import Derived.Test.YtodniacnjdnffaaChecked
import GoSem.Claim
import GoSem.ClaimJoined
import GoSem.ClaimMapViews
import Derived.JoinedTies
import Derived.KernelRfl
namespace Go.Proofs.Ytodniacnjdnffaa
/- THE CELL 'sum', in the pinned program and in every row, IS THE sha256 OF THE DUMP (.gsa) THAT YtodniacnjdnffaaProg.lean LOADS. Nothing in Lean hashes anything: it is a label: what it is worth is what the hold of that sum in a sandbox is worth. -/
noncomputable def Try.pinned : Pinned := { name := "ytodniacnjdnffaa", sum := "f176b0b7a33b7284997272d62e44fc97f66f29baee67f475cea6cb466d77e6b5", checked := Try.checked }
namespace Rows
def none {H : Type} : Left H := { results := [], args := [] }

/-- 'pressmarklaw11.ChooseAlike': WHATEVER THE INPUT: true; the input reads as it did. -/
def chooseAlikeSpec : ChangeSpec := { name := "chooseAlike", fn := fun _ => fun
  | [d1, d2] => { results := [.lit (.bool true)], args := [d1, d2] }
  | _ => none }
def chooseAlikeRow : OpenClaim := { program := "ytodniacnjdnffaa", sum := "f176b0b7a33b7284997272d62e44fc97f66f29baee67f475cea6cb466d77e6b5", func := "pressmark/pressmarklaw11.ChooseAlike", spec := "chooseAlike", unfollowed := true, recurses := true, apart := false }
def ChooseAlikeSaid : Prop := chooseAlikeRow.holds Try.pinned (OpenSpec.ofChange chooseAlikeSpec)

/-- ITS FALSE NEIGHBOUR: 'it returns false'. Refute it at one input. -/
def chooseAlikeWrong : ChangeSpec := { name := "chooseAlike", fn := fun _ => fun
  | [d1, d2] => { results := [.lit (.bool false)], args := [d1, d2] }
  | _ => none }
def ChooseAlikeWrongFalsely : Prop := chooseAlikeRow.holds Try.pinned (OpenSpec.ofChange chooseAlikeWrong)

/-- 'pressmarklaw11.ChooseTurned': WHATEVER THE INPUT: true; the input reads as it did. -/
def chooseTurnedSpec : ChangeSpec := { name := "chooseTurned", fn := fun _ => fun
  | [d1, d2] => { results := [.lit (.bool true)], args := [d1, d2] }
  | _ => none }
def chooseTurnedRow : OpenClaim := { program := "ytodniacnjdnffaa", sum := "f176b0b7a33b7284997272d62e44fc97f66f29baee67f475cea6cb466d77e6b5", func := "pressmark/pressmarklaw11.ChooseTurned", spec := "chooseTurned", unfollowed := true, recurses := true, apart := false }
def ChooseTurnedSaid : Prop := chooseTurnedRow.holds Try.pinned (OpenSpec.ofChange chooseTurnedSpec)

/-- ITS FALSE NEIGHBOUR: 'it returns false'. Refute it at one input. -/
def chooseTurnedWrong : ChangeSpec := { name := "chooseTurned", fn := fun _ => fun
  | [d1, d2] => { results := [.lit (.bool false)], args := [d1, d2] }
  | _ => none }
def ChooseTurnedWrongFalsely : Prop := chooseTurnedRow.holds Try.pinned (OpenSpec.ofChange chooseTurnedWrong)

/-- 'pressmarklaw11.ChooseBest': WHATEVER THE INPUT: true; the input reads as it did. -/
def chooseBestSpec : ChangeSpec := { name := "chooseBest", fn := fun _ => fun
  | [d1, d2, d3] => { results := [.lit (.bool true)], args := [d1, d2, d3] }
  | _ => none }
def chooseBestRow : OpenClaim := { program := "ytodniacnjdnffaa", sum := "f176b0b7a33b7284997272d62e44fc97f66f29baee67f475cea6cb466d77e6b5", func := "pressmark/pressmarklaw11.ChooseBest", spec := "chooseBest", unfollowed := true, recurses := true, apart := false }
def ChooseBestSaid : Prop := chooseBestRow.holds Try.pinned (OpenSpec.ofChange chooseBestSpec)

/-- ITS FALSE NEIGHBOUR: 'it returns false'. Refute it at one input. -/
def chooseBestWrong : ChangeSpec := { name := "chooseBest", fn := fun _ => fun
  | [d1, d2, d3] => { results := [.lit (.bool false)], args := [d1, d2, d3] }
  | _ => none }
def ChooseBestWrongFalsely : Prop := chooseBestRow.holds Try.pinned (OpenSpec.ofChange chooseBestWrong)

/-- 'pressmarklaw11.ChooseGroups': WHATEVER THE INPUT: true; the input reads as it did. -/
def chooseGroupsSpec : ChangeSpec := { name := "chooseGroups", fn := fun _ => fun
  | [d1, d2] => { results := [.lit (.bool true)], args := [d1, d2] }
  | _ => none }
def chooseGroupsRow : OpenClaim := { program := "ytodniacnjdnffaa", sum := "f176b0b7a33b7284997272d62e44fc97f66f29baee67f475cea6cb466d77e6b5", func := "pressmark/pressmarklaw11.ChooseGroups", spec := "chooseGroups", unfollowed := true, recurses := true, apart := false }
def ChooseGroupsSaid : Prop := chooseGroupsRow.holds Try.pinned (OpenSpec.ofChange chooseGroupsSpec)

/-- ITS FALSE NEIGHBOUR: 'it returns false'. Refute it at one input. -/
def chooseGroupsWrong : ChangeSpec := { name := "chooseGroups", fn := fun _ => fun
  | [d1, d2] => { results := [.lit (.bool false)], args := [d1, d2] }
  | _ => none }
def ChooseGroupsWrongFalsely : Prop := chooseGroupsRow.holds Try.pinned (OpenSpec.ofChange chooseGroupsWrong)

/- THE SECOND FORM. 'bulk': how many values and letters a reading holds, each counted each time it is reached (what is shared counts as often as it is met; a slice's spare places count too). A statement '..UptoSaid' is the law's where the arguments, and the package variables that the reading takes, are together of bulk at most 1048576: NARROWER than '..Said'. Prove '..Said' where nothing that the law and all that it calls make is longer than what came in: it says more and counts as full. Else prove '..UptoSaid'. A law counts once. -/
mutual
def uptoBulk {H : Type} : DataW H → Nat
  | .lit (.string bytes) => bytes.length + 1
  | .lit _ => 1
  | .nil => 1
  | .ptr d => uptoBulk d + 1
  | .slice elems spare => uptoBulkAll elems + uptoBulkAll spare + 1
  | .agg parts => uptoBulkAll parts + 1
  | .iface _ d => uptoBulk d + 1
  | .map entries => uptoBulkEntries entries + 1
  | .held _ => 1
def uptoBulkAll {H : Type} : List (DataW H) → Nat
  | [] => 0
  | d :: r => uptoBulk d + uptoBulkAll r
def uptoBulkEntries {H : Type} : List (Lit × DataW H) → Nat
  | [] => 0
  | x :: r => uptoBulkEntry x + uptoBulkEntries r
def uptoBulkEntry {H : Type} : Lit × DataW H → Nat
  | (.string bytes, d) => bytes.length + uptoBulk d + 1
  | (_, d) => uptoBulk d + 1
 end
def uptoSmall : (H : Type) → List (DataW H) → Bool := fun _ ds => decide (uptoBulkAll ds ≤ 1048576)
def OpenSpec.upto (s : _root_.Go.ChangeSpec) : _root_.Go.OpenSpec := { _root_.Go.OpenSpec.ofChange s with cond := some uptoSmall }

/-- 'pressmarklaw11.ChooseAlike', WHERE WHAT IT READS IS OF BULK AT MOST 1048576: true; the input reads as it did. -/
def chooseAlikeUptoRow : OpenClaim := { program := "ytodniacnjdnffaa", sum := "f176b0b7a33b7284997272d62e44fc97f66f29baee67f475cea6cb466d77e6b5", func := "pressmark/pressmarklaw11.ChooseAlike", spec := "chooseAlike", unfollowed := true, recurses := true, apart := false, narrowed := true }
def ChooseAlikeUptoSaid : Prop := chooseAlikeUptoRow.holds Try.pinned (OpenSpec.upto chooseAlikeSpec)

/-- 'pressmarklaw11.ChooseTurned', WHERE WHAT IT READS IS OF BULK AT MOST 1048576: true; the input reads as it did. -/
def chooseTurnedUptoRow : OpenClaim := { program := "ytodniacnjdnffaa", sum := "f176b0b7a33b7284997272d62e44fc97f66f29baee67f475cea6cb466d77e6b5", func := "pressmark/pressmarklaw11.ChooseTurned", spec := "chooseTurned", unfollowed := true, recurses := true, apart := false, narrowed := true }
def ChooseTurnedUptoSaid : Prop := chooseTurnedUptoRow.holds Try.pinned (OpenSpec.upto chooseTurnedSpec)

/-- 'pressmarklaw11.ChooseBest', WHERE WHAT IT READS IS OF BULK AT MOST 1048576: true; the input reads as it did. -/
def chooseBestUptoRow : OpenClaim := { program := "ytodniacnjdnffaa", sum := "f176b0b7a33b7284997272d62e44fc97f66f29baee67f475cea6cb466d77e6b5", func := "pressmark/pressmarklaw11.ChooseBest", spec := "chooseBest", unfollowed := true, recurses := true, apart := false, narrowed := true }
def ChooseBestUptoSaid : Prop := chooseBestUptoRow.holds Try.pinned (OpenSpec.upto chooseBestSpec)

/-- 'pressmarklaw11.ChooseGroups', WHERE WHAT IT READS IS OF BULK AT MOST 1048576: true; the input reads as it did. -/
def chooseGroupsUptoRow : OpenClaim := { program := "ytodniacnjdnffaa", sum := "f176b0b7a33b7284997272d62e44fc97f66f29baee67f475cea6cb466d77e6b5", func := "pressmark/pressmarklaw11.ChooseGroups", spec := "chooseGroups", unfollowed := true, recurses := true, apart := false, narrowed := true }
def ChooseGroupsUptoSaid : Prop := chooseGroupsUptoRow.holds Try.pinned (OpenSpec.upto chooseGroupsSpec)

end Rows
end Go.Proofs.Ytodniacnjdnffaa
