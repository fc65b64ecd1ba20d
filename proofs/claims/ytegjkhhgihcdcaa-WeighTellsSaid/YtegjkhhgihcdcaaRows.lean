/-
  No cell of these rows narrows 'for every input' (looked for: loops, veiled, ifaces, maps, wideKeys, modest, calm, conditions, laid).
  DERIVED. THE GIVEN ROWS OF THIS SEAT. 6 by the template 'for every input the law returns true; each argument reads behind the call as it read before'; 0 by the template 'total and deterministic' (their statements: YtegjkhhgihcdcaaTotals.lean).
  GIVEN WITH THE SEED: the statements are not yours to turn. If you find one false, say at which input.
  Laid BY PROGRAM, IN A SANDBOX (cutbox-rows.mjs): the forced cells as the released guide's own fill.sh prints them over the translation 3a2a00e11a719cde… (all of the seat's roots in one cut). By AI agents, Wed Nov 11 2026. No macro, syntax, notation, axiom, sorry.
-/
import Derived.Test.YtegjkhhgihcdcaaChecked
import GoSem.Claim
import GoSem.ClaimJoined
import GoSem.ClaimMapViews
import Derived.JoinedTies
import Derived.KernelRfl
namespace Go.Proofs.Ytegjkhhgihcdcaa
/- THE CELL 'sum', in the pinned program and in every row, IS THE sha256 OF THE DUMP (.gsa) THAT YtegjkhhgihcdcaaProg.lean LOADS. Nothing in Lean hashes anything: it is a label: what it is worth is what the hold of that sum in a sandbox is worth. -/
noncomputable def Try.pinned : Pinned := { name := "ytegjkhhgihcdcaa", sum := "3a2a00e11a719cdec2a07410405249addf86a85bb5ff8b7ec92bb0cebc816650", checked := Try.checked }
namespace Rows
def none {H : Type} : Left H := { results := [], args := [] }

/-- 'pressmarklaw10.WeighTells': WHATEVER THE INPUT: true; the input reads as it did. -/
def weighTellsSpec : ChangeSpec := { name := "weighTells", fn := fun _ => fun
  | [d1, d2, d3, d4] => { results := [.lit (.bool true)], args := [d1, d2, d3, d4] }
  | _ => none }
def weighTellsRow : OpenClaim := { program := "ytegjkhhgihcdcaa", sum := "3a2a00e11a719cdec2a07410405249addf86a85bb5ff8b7ec92bb0cebc816650", func := "pressmark/pressmarklaw10.WeighTells", spec := "weighTells", unfollowed := true, recurses := true, apart := false }
def WeighTellsSaid : Prop := weighTellsRow.holds Try.pinned (OpenSpec.ofChange weighTellsSpec)

/-- ITS FALSE NEIGHBOUR: 'it returns false'. Refute it at one input. -/
def weighTellsWrong : ChangeSpec := { name := "weighTells", fn := fun _ => fun
  | [d1, d2, d3, d4] => { results := [.lit (.bool false)], args := [d1, d2, d3, d4] }
  | _ => none }
def WeighTellsWrongFalsely : Prop := weighTellsRow.holds Try.pinned (OpenSpec.ofChange weighTellsWrong)

/-- 'pressmarklaw10.WeighOrder': WHATEVER THE INPUT: true; the input reads as it did. -/
def weighOrderSpec : ChangeSpec := { name := "weighOrder", fn := fun _ => fun
  | [d1, d2] => { results := [.lit (.bool true)], args := [d1, d2] }
  | _ => none }
def weighOrderRow : OpenClaim := { program := "ytegjkhhgihcdcaa", sum := "3a2a00e11a719cdec2a07410405249addf86a85bb5ff8b7ec92bb0cebc816650", func := "pressmark/pressmarklaw10.WeighOrder", spec := "weighOrder", unfollowed := true, recurses := true, apart := false }
def WeighOrderSaid : Prop := weighOrderRow.holds Try.pinned (OpenSpec.ofChange weighOrderSpec)

/-- ITS FALSE NEIGHBOUR: 'it returns false'. Refute it at one input. -/
def weighOrderWrong : ChangeSpec := { name := "weighOrder", fn := fun _ => fun
  | [d1, d2] => { results := [.lit (.bool false)], args := [d1, d2] }
  | _ => none }
def WeighOrderWrongFalsely : Prop := weighOrderRow.holds Try.pinned (OpenSpec.ofChange weighOrderWrong)

/-- 'pressmarklaw10.WeighEven': WHATEVER THE INPUT: true; the input reads as it did. -/
def weighEvenSpec : ChangeSpec := { name := "weighEven", fn := fun _ => fun
  | [d1, d2, d3] => { results := [.lit (.bool true)], args := [d1, d2, d3] }
  | _ => none }
def weighEvenRow : OpenClaim := { program := "ytegjkhhgihcdcaa", sum := "3a2a00e11a719cdec2a07410405249addf86a85bb5ff8b7ec92bb0cebc816650", func := "pressmark/pressmarklaw10.WeighEven", spec := "weighEven", unfollowed := true, recurses := true, apart := false }
def WeighEvenSaid : Prop := weighEvenRow.holds Try.pinned (OpenSpec.ofChange weighEvenSpec)

/-- ITS FALSE NEIGHBOUR: 'it returns false'. Refute it at one input. -/
def weighEvenWrong : ChangeSpec := { name := "weighEven", fn := fun _ => fun
  | [d1, d2, d3] => { results := [.lit (.bool false)], args := [d1, d2, d3] }
  | _ => none }
def WeighEvenWrongFalsely : Prop := weighEvenRow.holds Try.pinned (OpenSpec.ofChange weighEvenWrong)

/-- 'pressmarklaw10.WeighCost': WHATEVER THE INPUT: true; the input reads as it did. -/
def weighCostSpec : ChangeSpec := { name := "weighCost", fn := fun _ => fun
  | [d1, d2, d3] => { results := [.lit (.bool true)], args := [d1, d2, d3] }
  | _ => none }
def weighCostRow : OpenClaim := { program := "ytegjkhhgihcdcaa", sum := "3a2a00e11a719cdec2a07410405249addf86a85bb5ff8b7ec92bb0cebc816650", func := "pressmark/pressmarklaw10.WeighCost", spec := "weighCost", unfollowed := true, recurses := true, apart := false }
def WeighCostSaid : Prop := weighCostRow.holds Try.pinned (OpenSpec.ofChange weighCostSpec)

/-- ITS FALSE NEIGHBOUR: 'it returns false'. Refute it at one input. -/
def weighCostWrong : ChangeSpec := { name := "weighCost", fn := fun _ => fun
  | [d1, d2, d3] => { results := [.lit (.bool false)], args := [d1, d2, d3] }
  | _ => none }
def WeighCostWrongFalsely : Prop := weighCostRow.holds Try.pinned (OpenSpec.ofChange weighCostWrong)

/-- 'pressmarklaw10.WeighFull': WHATEVER THE INPUT: true; the input reads as it did. -/
def weighFullSpec : ChangeSpec := { name := "weighFull", fn := fun _ => fun
  | [d1, d2] => { results := [.lit (.bool true)], args := [d1, d2] }
  | _ => none }
def weighFullRow : OpenClaim := { program := "ytegjkhhgihcdcaa", sum := "3a2a00e11a719cdec2a07410405249addf86a85bb5ff8b7ec92bb0cebc816650", func := "pressmark/pressmarklaw10.WeighFull", spec := "weighFull", unfollowed := true, recurses := true, apart := false }
def WeighFullSaid : Prop := weighFullRow.holds Try.pinned (OpenSpec.ofChange weighFullSpec)

/-- ITS FALSE NEIGHBOUR: 'it returns false'. Refute it at one input. -/
def weighFullWrong : ChangeSpec := { name := "weighFull", fn := fun _ => fun
  | [d1, d2] => { results := [.lit (.bool false)], args := [d1, d2] }
  | _ => none }
def WeighFullWrongFalsely : Prop := weighFullRow.holds Try.pinned (OpenSpec.ofChange weighFullWrong)

/-- 'pressmarklaw10.WeighLeast': WHATEVER THE INPUT: true; the input reads as it did. -/
def weighLeastSpec : ChangeSpec := { name := "weighLeast", fn := fun _ => fun
  | [d1, d2] => { results := [.lit (.bool true)], args := [d1, d2] }
  | _ => none }
def weighLeastRow : OpenClaim := { program := "ytegjkhhgihcdcaa", sum := "3a2a00e11a719cdec2a07410405249addf86a85bb5ff8b7ec92bb0cebc816650", func := "pressmark/pressmarklaw10.WeighLeast", spec := "weighLeast", unfollowed := true, recurses := true, apart := false }
def WeighLeastSaid : Prop := weighLeastRow.holds Try.pinned (OpenSpec.ofChange weighLeastSpec)

/-- ITS FALSE NEIGHBOUR: 'it returns false'. Refute it at one input. -/
def weighLeastWrong : ChangeSpec := { name := "weighLeast", fn := fun _ => fun
  | [d1, d2] => { results := [.lit (.bool false)], args := [d1, d2] }
  | _ => none }
def WeighLeastWrongFalsely : Prop := weighLeastRow.holds Try.pinned (OpenSpec.ofChange weighLeastWrong)

/- THE SECOND FORM. 'bulk': how many values and letters a reading holds, each counted each time it is reached (what is shared counts as often as it is met; a slice's spare places count too). A statement '..UptoSaid' is the law's where the arguments, and the package variables that the reading takes, are together of bulk at most 1048576: NARROWER than '..Said'. Prove '..Said' where nothing that the law and all that it calls make is longer than what came in: it says more and counts as full. Else prove '..UptoSaid'. A law counts once. -/
mutual
def uptoBulk {H : Type} : DataW H → Nat
  | .lit (.string bytes) => bytes.length + 1
  | .lit _ => 1
  | .nil => 1
  | .ptr d => uptoBulk d + 1
  | .slice elems spare => uptoBulkAll elems + uptoBulkAll spare + 1
  | .agg parts => uptoBulkAll parts + 1
  | .iface _ d => uptoBulk d + 1
  | .map entries => uptoBulkEntries entries + 1
  | .held _ => 1
def uptoBulkAll {H : Type} : List (DataW H) → Nat
  | [] => 0
  | d :: r => uptoBulk d + uptoBulkAll r
def uptoBulkEntries {H : Type} : List (Lit × DataW H) → Nat
  | [] => 0
  | x :: r => uptoBulkEntry x + uptoBulkEntries r
def uptoBulkEntry {H : Type} : Lit × DataW H → Nat
  | (.string bytes, d) => bytes.length + uptoBulk d + 1
  | (_, d) => uptoBulk d + 1
 end
def uptoSmall : (H : Type) → List (DataW H) → Bool := fun _ ds => decide (uptoBulkAll ds ≤ 1048576)
def OpenSpec.upto (s : _root_.Go.ChangeSpec) : _root_.Go.OpenSpec := { _root_.Go.OpenSpec.ofChange s with cond := some uptoSmall }

/-- 'pressmarklaw10.WeighTells', WHERE WHAT IT READS IS OF BULK AT MOST 1048576: true; the input reads as it did. -/
def weighTellsUptoRow : OpenClaim := { program := "ytegjkhhgihcdcaa", sum := "3a2a00e11a719cdec2a07410405249addf86a85bb5ff8b7ec92bb0cebc816650", func := "pressmark/pressmarklaw10.WeighTells", spec := "weighTells", unfollowed := true, recurses := true, apart := false, narrowed := true }
def WeighTellsUptoSaid : Prop := weighTellsUptoRow.holds Try.pinned (OpenSpec.upto weighTellsSpec)

/-- 'pressmarklaw10.WeighOrder', WHERE WHAT IT READS IS OF BULK AT MOST 1048576: true; the input reads as it did. -/
def weighOrderUptoRow : OpenClaim := { program := "ytegjkhhgihcdcaa", sum := "3a2a00e11a719cdec2a07410405249addf86a85bb5ff8b7ec92bb0cebc816650", func := "pressmark/pressmarklaw10.WeighOrder", spec := "weighOrder", unfollowed := true, recurses := true, apart := false, narrowed := true }
def WeighOrderUptoSaid : Prop := weighOrderUptoRow.holds Try.pinned (OpenSpec.upto weighOrderSpec)

/-- 'pressmarklaw10.WeighEven', WHERE WHAT IT READS IS OF BULK AT MOST 1048576: true; the input reads as it did. -/
def weighEvenUptoRow : OpenClaim := { program := "ytegjkhhgihcdcaa", sum := "3a2a00e11a719cdec2a07410405249addf86a85bb5ff8b7ec92bb0cebc816650", func := "pressmark/pressmarklaw10.WeighEven", spec := "weighEven", unfollowed := true, recurses := true, apart := false, narrowed := true }
def WeighEvenUptoSaid : Prop := weighEvenUptoRow.holds Try.pinned (OpenSpec.upto weighEvenSpec)

/-- 'pressmarklaw10.WeighCost', WHERE WHAT IT READS IS OF BULK AT MOST 1048576: true; the input reads as it did. -/
def weighCostUptoRow : OpenClaim := { program := "ytegjkhhgihcdcaa", sum := "3a2a00e11a719cdec2a07410405249addf86a85bb5ff8b7ec92bb0cebc816650", func := "pressmark/pressmarklaw10.WeighCost", spec := "weighCost", unfollowed := true, recurses := true, apart := false, narrowed := true }
def WeighCostUptoSaid : Prop := weighCostUptoRow.holds Try.pinned (OpenSpec.upto weighCostSpec)

/-- 'pressmarklaw10.WeighFull', WHERE WHAT IT READS IS OF BULK AT MOST 1048576: true; the input reads as it did. -/
def weighFullUptoRow : OpenClaim := { program := "ytegjkhhgihcdcaa", sum := "3a2a00e11a719cdec2a07410405249addf86a85bb5ff8b7ec92bb0cebc816650", func := "pressmark/pressmarklaw10.WeighFull", spec := "weighFull", unfollowed := true, recurses := true, apart := false, narrowed := true }
def WeighFullUptoSaid : Prop := weighFullUptoRow.holds Try.pinned (OpenSpec.upto weighFullSpec)

/-- 'pressmarklaw10.WeighLeast', WHERE WHAT IT READS IS OF BULK AT MOST 1048576: true; the input reads as it did. -/
def weighLeastUptoRow : OpenClaim := { program := "ytegjkhhgihcdcaa", sum := "3a2a00e11a719cdec2a07410405249addf86a85bb5ff8b7ec92bb0cebc816650", func := "pressmark/pressmarklaw10.WeighLeast", spec := "weighLeast", unfollowed := true, recurses := true, apart := false, narrowed := true }
def WeighLeastUptoSaid : Prop := weighLeastUptoRow.holds Try.pinned (OpenSpec.upto weighLeastSpec)

end Rows
end Go.Proofs.Ytegjkhhgihcdcaa
