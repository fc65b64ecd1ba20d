/-
  No cell of these rows narrows 'for every input' (looked for: loops, veiled, ifaces, maps, wideKeys, modest, calm, conditions, laid).
  DERIVED. THE GIVEN ROWS OF THIS SEAT. 4 by the template 'for every input the law returns true; each argument reads behind the call as it read before'; 0 by the template 'total and deterministic' (their statements: YtbanageccecmnaaTotals.lean).
  GIVEN WITH THE SEED: the statements are not yours to turn. If you find one false, say at which input.
  Laid BY PROGRAM, IN A SANDBOX (cutbox-rows.mjs): the forced cells as the released guide's own fill.sh prints them over the translation b607bd2c28a7835a… (all of the seat's roots in one cut). By AI agents, Wed Nov 11 2026. No macro, syntax, notation, axiom, sorry.
-/
import Derived.Test.YtbanageccecmnaaChecked
import GoSem.Claim
import GoSem.ClaimJoined
import GoSem.ClaimMapViews
import Derived.JoinedTies
import Derived.KernelRfl
namespace Go.Proofs.Ytbanageccecmnaa
/- THE CELL 'sum', in the pinned program and in every row, IS THE sha256 OF THE DUMP (.gsa) THAT YtbanageccecmnaaProg.lean LOADS. Nothing in Lean hashes anything: it is a label: what it is worth is what the hold of that sum in a sandbox is worth. -/
noncomputable def Try.pinned : Pinned := { name := "ytbanageccecmnaa", sum := "b607bd2c28a7835a8c2c5a5fd249c96e34248075d6ab7f6fa9d3fbab608bbf93", checked := Try.checked }
namespace Rows
def none {H : Type} : Left H := { results := [], args := [] }

/-- 'pressmarklaw02.MagicPlaces': WHATEVER THE INPUT: true; the input reads as it did. -/
def magicPlacesSpec : ChangeSpec := { name := "magicPlaces", fn := fun _ => fun
  | [d1, d2, d3] => { results := [.lit (.bool true)], args := [d1, d2, d3] }
  | _ => none }
def magicPlacesRow : OpenClaim := { program := "ytbanageccecmnaa", sum := "b607bd2c28a7835a8c2c5a5fd249c96e34248075d6ab7f6fa9d3fbab608bbf93", func := "pressmark/pressmarklaw02.MagicPlaces", spec := "magicPlaces", unfollowed := true, recurses := true, apart := false }
def MagicPlacesSaid : Prop := magicPlacesRow.holds Try.pinned (OpenSpec.ofChange magicPlacesSpec)

/-- ITS FALSE NEIGHBOUR: 'it returns false'. Refute it at one input. -/
def magicPlacesWrong : ChangeSpec := { name := "magicPlaces", fn := fun _ => fun
  | [d1, d2, d3] => { results := [.lit (.bool false)], args := [d1, d2, d3] }
  | _ => none }
def MagicPlacesWrongFalsely : Prop := magicPlacesRow.holds Try.pinned (OpenSpec.ofChange magicPlacesWrong)

/-- 'pressmarklaw02.MagicFirst': WHATEVER THE INPUT: true; the input reads as it did. -/
def magicFirstSpec : ChangeSpec := { name := "magicFirst", fn := fun _ => fun
  | [d1, d2, d3, d4] => { results := [.lit (.bool true)], args := [d1, d2, d3, d4] }
  | _ => none }
def magicFirstRow : OpenClaim := { program := "ytbanageccecmnaa", sum := "b607bd2c28a7835a8c2c5a5fd249c96e34248075d6ab7f6fa9d3fbab608bbf93", func := "pressmark/pressmarklaw02.MagicFirst", spec := "magicFirst", unfollowed := true, recurses := true, apart := false }
def MagicFirstSaid : Prop := magicFirstRow.holds Try.pinned (OpenSpec.ofChange magicFirstSpec)

/-- ITS FALSE NEIGHBOUR: 'it returns false'. Refute it at one input. -/
def magicFirstWrong : ChangeSpec := { name := "magicFirst", fn := fun _ => fun
  | [d1, d2, d3, d4] => { results := [.lit (.bool false)], args := [d1, d2, d3, d4] }
  | _ => none }
def MagicFirstWrongFalsely : Prop := magicFirstRow.holds Try.pinned (OpenSpec.ofChange magicFirstWrong)

/-- 'pressmarklaw02.MagicOnes': WHATEVER THE INPUT: true; the input reads as it did. -/
def magicOnesSpec : ChangeSpec := { name := "magicOnes", fn := fun _ => fun
  | [d1, d2] => { results := [.lit (.bool true)], args := [d1, d2] }
  | _ => none }
def magicOnesRow : OpenClaim := { program := "ytbanageccecmnaa", sum := "b607bd2c28a7835a8c2c5a5fd249c96e34248075d6ab7f6fa9d3fbab608bbf93", func := "pressmark/pressmarklaw02.MagicOnes", spec := "magicOnes", unfollowed := true, recurses := true, apart := false }
def MagicOnesSaid : Prop := magicOnesRow.holds Try.pinned (OpenSpec.ofChange magicOnesSpec)

/-- ITS FALSE NEIGHBOUR: 'it returns false'. Refute it at one input. -/
def magicOnesWrong : ChangeSpec := { name := "magicOnes", fn := fun _ => fun
  | [d1, d2] => { results := [.lit (.bool false)], args := [d1, d2] }
  | _ => none }
def MagicOnesWrongFalsely : Prop := magicOnesRow.holds Try.pinned (OpenSpec.ofChange magicOnesWrong)

/-- 'pressmarklaw02.MagicMoved': WHATEVER THE INPUT: true; the input reads as it did. -/
def magicMovedSpec : ChangeSpec := { name := "magicMoved", fn := fun _ => fun
  | [d1, d2, d3, d4] => { results := [.lit (.bool true)], args := [d1, d2, d3, d4] }
  | _ => none }
def magicMovedRow : OpenClaim := { program := "ytbanageccecmnaa", sum := "b607bd2c28a7835a8c2c5a5fd249c96e34248075d6ab7f6fa9d3fbab608bbf93", func := "pressmark/pressmarklaw02.MagicMoved", spec := "magicMoved", unfollowed := true, recurses := true, apart := false }
def MagicMovedSaid : Prop := magicMovedRow.holds Try.pinned (OpenSpec.ofChange magicMovedSpec)

/-- ITS FALSE NEIGHBOUR: 'it returns false'. Refute it at one input. -/
def magicMovedWrong : ChangeSpec := { name := "magicMoved", fn := fun _ => fun
  | [d1, d2, d3, d4] => { results := [.lit (.bool false)], args := [d1, d2, d3, d4] }
  | _ => none }
def MagicMovedWrongFalsely : Prop := magicMovedRow.holds Try.pinned (OpenSpec.ofChange magicMovedWrong)

/- THE SECOND FORM. 'bulk': how many values and letters a reading holds, each counted each time it is reached (what is shared counts as often as it is met; a slice's spare places count too). A statement '..UptoSaid' is the law's where the arguments, and the package variables that the reading takes, are together of bulk at most 1048576: NARROWER than '..Said'. Prove '..Said' where nothing that the law and all that it calls make is longer than what came in: it says more and counts as full. Else prove '..UptoSaid'. A law counts once. -/
mutual
def uptoBulk {H : Type} : DataW H → Nat
  | .lit (.string bytes) => bytes.length + 1
  | .lit _ => 1
  | .nil => 1
  | .ptr d => uptoBulk d + 1
  | .slice elems spare => uptoBulkAll elems + uptoBulkAll spare + 1
  | .agg parts => uptoBulkAll parts + 1
  | .iface _ d => uptoBulk d + 1
  | .map entries => uptoBulkEntries entries + 1
  | .held _ => 1
def uptoBulkAll {H : Type} : List (DataW H) → Nat
  | [] => 0
  | d :: r => uptoBulk d + uptoBulkAll r
def uptoBulkEntries {H : Type} : List (Lit × DataW H) → Nat
  | [] => 0
  | x :: r => uptoBulkEntry x + uptoBulkEntries r
def uptoBulkEntry {H : Type} : Lit × DataW H → Nat
  | (.string bytes, d) => bytes.length + uptoBulk d + 1
  | (_, d) => uptoBulk d + 1
 end
def uptoSmall : (H : Type) → List (DataW H) → Bool := fun _ ds => decide (uptoBulkAll ds ≤ 1048576)
def OpenSpec.upto (s : _root_.Go.ChangeSpec) : _root_.Go.OpenSpec := { _root_.Go.OpenSpec.ofChange s with cond := some uptoSmall }

/-- 'pressmarklaw02.MagicPlaces', WHERE WHAT IT READS IS OF BULK AT MOST 1048576: true; the input reads as it did. -/
def magicPlacesUptoRow : OpenClaim := { program := "ytbanageccecmnaa", sum := "b607bd2c28a7835a8c2c5a5fd249c96e34248075d6ab7f6fa9d3fbab608bbf93", func := "pressmark/pressmarklaw02.MagicPlaces", spec := "magicPlaces", unfollowed := true, recurses := true, apart := false, narrowed := true }
def MagicPlacesUptoSaid : Prop := magicPlacesUptoRow.holds Try.pinned (OpenSpec.upto magicPlacesSpec)

/-- 'pressmarklaw02.MagicFirst', WHERE WHAT IT READS IS OF BULK AT MOST 1048576: true; the input reads as it did. -/
def magicFirstUptoRow : OpenClaim := { program := "ytbanageccecmnaa", sum := "b607bd2c28a7835a8c2c5a5fd249c96e34248075d6ab7f6fa9d3fbab608bbf93", func := "pressmark/pressmarklaw02.MagicFirst", spec := "magicFirst", unfollowed := true, recurses := true, apart := false, narrowed := true }
def MagicFirstUptoSaid : Prop := magicFirstUptoRow.holds Try.pinned (OpenSpec.upto magicFirstSpec)

/-- 'pressmarklaw02.MagicOnes', WHERE WHAT IT READS IS OF BULK AT MOST 1048576: true; the input reads as it did. -/
def magicOnesUptoRow : OpenClaim := { program := "ytbanageccecmnaa", sum := "b607bd2c28a7835a8c2c5a5fd249c96e34248075d6ab7f6fa9d3fbab608bbf93", func := "pressmark/pressmarklaw02.MagicOnes", spec := "magicOnes", unfollowed := true, recurses := true, apart := false, narrowed := true }
def MagicOnesUptoSaid : Prop := magicOnesUptoRow.holds Try.pinned (OpenSpec.upto magicOnesSpec)

/-- 'pressmarklaw02.MagicMoved', WHERE WHAT IT READS IS OF BULK AT MOST 1048576: true; the input reads as it did. -/
def magicMovedUptoRow : OpenClaim := { program := "ytbanageccecmnaa", sum := "b607bd2c28a7835a8c2c5a5fd249c96e34248075d6ab7f6fa9d3fbab608bbf93", func := "pressmark/pressmarklaw02.MagicMoved", spec := "magicMoved", unfollowed := true, recurses := true, apart := false, narrowed := true }
def MagicMovedUptoSaid : Prop := magicMovedUptoRow.holds Try.pinned (OpenSpec.upto magicMovedSpec)

end Rows
end Go.Proofs.Ytbanageccecmnaa
