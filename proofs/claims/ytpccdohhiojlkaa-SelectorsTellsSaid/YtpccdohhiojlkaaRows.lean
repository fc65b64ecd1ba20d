/-
  No cell of these rows narrows 'for every input' (looked for: loops, veiled, ifaces, maps, wideKeys, modest, calm, conditions, laid).
  DERIVED. THE GIVEN ROWS OF THIS SEAT. 5 by the template 'for every input the law returns true; each argument reads behind the call as it read before'; 0 by the template 'total and deterministic' (their statements: YtpccdohhiojlkaaTotals.lean).
  GIVEN WITH THE SEED: the statements are not yours to turn. If you find one false, say at which input.
  Laid BY PROGRAM, IN A SANDBOX (cutbox-rows.mjs): the forced cells as the released guide's own fill.sh prints them over the translation b04518d98e031b78… (all of the seat's roots in one cut). By AI agents, Wed Nov 11 2026. No macro, syntax, notation, axiom, sorry.
-/
import Derived.Test.YtpccdohhiojlkaaChecked
import GoSem.Claim
import GoSem.ClaimJoined
import GoSem.ClaimMapViews
import Derived.JoinedTies
import Derived.KernelRfl
namespace Go.Proofs.Ytpccdohhiojlkaa
/- THE CELL 'sum', in the pinned program and in every row, IS THE sha256 OF THE DUMP (.gsa) THAT YtpccdohhiojlkaaProg.lean LOADS. Nothing in Lean hashes anything: it is a label: what it is worth is what the hold of that sum in a sandbox is worth. -/
noncomputable def Try.pinned : Pinned := { name := "ytpccdohhiojlkaa", sum := "b04518d98e031b78bf24b8246c33b2bd1056eb85b163ab33ecb6318c1eea4c67", checked := Try.checked }
namespace Rows
def none {H : Type} : Left H := { results := [], args := [] }

/-- 'pressmarklaw12.SelectorsTells': WHATEVER THE INPUT: true; the input reads as it did. -/
def selectorsTellsSpec : ChangeSpec := { name := "selectorsTells", fn := fun _ => fun
  | [d1, d2, d3, d4, d5, d6, d7] => { results := [.lit (.bool true)], args := [d1, d2, d3, d4, d5, d6, d7] }
  | _ => none }
def selectorsTellsRow : OpenClaim := { program := "ytpccdohhiojlkaa", sum := "b04518d98e031b78bf24b8246c33b2bd1056eb85b163ab33ecb6318c1eea4c67", func := "pressmark/pressmarklaw12.SelectorsTells", spec := "selectorsTells", unfollowed := true, recurses := true, apart := false }
def SelectorsTellsSaid : Prop := selectorsTellsRow.holds Try.pinned (OpenSpec.ofChange selectorsTellsSpec)

/-- ITS FALSE NEIGHBOUR: 'it returns false'. Refute it at one input. -/
def selectorsTellsWrong : ChangeSpec := { name := "selectorsTells", fn := fun _ => fun
  | [d1, d2, d3, d4, d5, d6, d7] => { results := [.lit (.bool false)], args := [d1, d2, d3, d4, d5, d6, d7] }
  | _ => none }
def SelectorsTellsWrongFalsely : Prop := selectorsTellsRow.holds Try.pinned (OpenSpec.ofChange selectorsTellsWrong)

/-- 'pressmarklaw12.SelectorsBack': WHATEVER THE INPUT: true; the input reads as it did. -/
def selectorsBackSpec : ChangeSpec := { name := "selectorsBack", fn := fun _ => fun
  | [d1, d2, d3, d4, d5] => { results := [.lit (.bool true)], args := [d1, d2, d3, d4, d5] }
  | _ => none }
def selectorsBackRow : OpenClaim := { program := "ytpccdohhiojlkaa", sum := "b04518d98e031b78bf24b8246c33b2bd1056eb85b163ab33ecb6318c1eea4c67", func := "pressmark/pressmarklaw12.SelectorsBack", spec := "selectorsBack", unfollowed := true, recurses := true, apart := false }
def SelectorsBackSaid : Prop := selectorsBackRow.holds Try.pinned (OpenSpec.ofChange selectorsBackSpec)

/-- ITS FALSE NEIGHBOUR: 'it returns false'. Refute it at one input. -/
def selectorsBackWrong : ChangeSpec := { name := "selectorsBack", fn := fun _ => fun
  | [d1, d2, d3, d4, d5] => { results := [.lit (.bool false)], args := [d1, d2, d3, d4, d5] }
  | _ => none }
def SelectorsBackWrongFalsely : Prop := selectorsBackRow.holds Try.pinned (OpenSpec.ofChange selectorsBackWrong)

/-- 'pressmarklaw12.SelectorsNames': WHATEVER THE INPUT: true; the input reads as it did. -/
def selectorsNamesSpec : ChangeSpec := { name := "selectorsNames", fn := fun _ => fun
  | [d1, d2, d3, d4] => { results := [.lit (.bool true)], args := [d1, d2, d3, d4] }
  | _ => none }
def selectorsNamesRow : OpenClaim := { program := "ytpccdohhiojlkaa", sum := "b04518d98e031b78bf24b8246c33b2bd1056eb85b163ab33ecb6318c1eea4c67", func := "pressmark/pressmarklaw12.SelectorsNames", spec := "selectorsNames", unfollowed := true, recurses := true, apart := false }
def SelectorsNamesSaid : Prop := selectorsNamesRow.holds Try.pinned (OpenSpec.ofChange selectorsNamesSpec)

/-- ITS FALSE NEIGHBOUR: 'it returns false'. Refute it at one input. -/
def selectorsNamesWrong : ChangeSpec := { name := "selectorsNames", fn := fun _ => fun
  | [d1, d2, d3, d4] => { results := [.lit (.bool false)], args := [d1, d2, d3, d4] }
  | _ => none }
def SelectorsNamesWrongFalsely : Prop := selectorsNamesRow.holds Try.pinned (OpenSpec.ofChange selectorsNamesWrong)

/-- 'pressmarklaw12.SelectorsCut': WHATEVER THE INPUT: true; the input reads as it did. -/
def selectorsCutSpec : ChangeSpec := { name := "selectorsCut", fn := fun _ => fun
  | [d1, d2, d3] => { results := [.lit (.bool true)], args := [d1, d2, d3] }
  | _ => none }
def selectorsCutRow : OpenClaim := { program := "ytpccdohhiojlkaa", sum := "b04518d98e031b78bf24b8246c33b2bd1056eb85b163ab33ecb6318c1eea4c67", func := "pressmark/pressmarklaw12.SelectorsCut", spec := "selectorsCut", unfollowed := true, recurses := true, apart := false }
def SelectorsCutSaid : Prop := selectorsCutRow.holds Try.pinned (OpenSpec.ofChange selectorsCutSpec)

/-- ITS FALSE NEIGHBOUR: 'it returns false'. Refute it at one input. -/
def selectorsCutWrong : ChangeSpec := { name := "selectorsCut", fn := fun _ => fun
  | [d1, d2, d3] => { results := [.lit (.bool false)], args := [d1, d2, d3] }
  | _ => none }
def SelectorsCutWrongFalsely : Prop := selectorsCutRow.holds Try.pinned (OpenSpec.ofChange selectorsCutWrong)

/-- 'pressmarklaw12.SelectorsLong': WHATEVER THE INPUT: true; the input reads as it did. -/
def selectorsLongSpec : ChangeSpec := { name := "selectorsLong", fn := fun _ => fun
  | [d1, d2, d3] => { results := [.lit (.bool true)], args := [d1, d2, d3] }
  | _ => none }
def selectorsLongRow : OpenClaim := { program := "ytpccdohhiojlkaa", sum := "b04518d98e031b78bf24b8246c33b2bd1056eb85b163ab33ecb6318c1eea4c67", func := "pressmark/pressmarklaw12.SelectorsLong", spec := "selectorsLong", unfollowed := true, recurses := true, apart := false }
def SelectorsLongSaid : Prop := selectorsLongRow.holds Try.pinned (OpenSpec.ofChange selectorsLongSpec)

/-- ITS FALSE NEIGHBOUR: 'it returns false'. Refute it at one input. -/
def selectorsLongWrong : ChangeSpec := { name := "selectorsLong", fn := fun _ => fun
  | [d1, d2, d3] => { results := [.lit (.bool false)], args := [d1, d2, d3] }
  | _ => none }
def SelectorsLongWrongFalsely : Prop := selectorsLongRow.holds Try.pinned (OpenSpec.ofChange selectorsLongWrong)

/- THE SECOND FORM. 'bulk': how many values and letters a reading holds, each counted each time it is reached (what is shared counts as often as it is met; a slice's spare places count too). A statement '..UptoSaid' is the law's where the arguments, and the package variables that the reading takes, are together of bulk at most 1048576: NARROWER than '..Said'. Prove '..Said' where nothing that the law and all that it calls make is longer than what came in: it says more and counts as full. Else prove '..UptoSaid'. A law counts once. -/
mutual
def uptoBulk {H : Type} : DataW H → Nat
  | .lit (.string bytes) => bytes.length + 1
  | .lit _ => 1
  | .nil => 1
  | .ptr d => uptoBulk d + 1
  | .slice elems spare => uptoBulkAll elems + uptoBulkAll spare + 1
  | .agg parts => uptoBulkAll parts + 1
  | .iface _ d => uptoBulk d + 1
  | .map entries => uptoBulkEntries entries + 1
  | .held _ => 1
def uptoBulkAll {H : Type} : List (DataW H) → Nat
  | [] => 0
  | d :: r => uptoBulk d + uptoBulkAll r
def uptoBulkEntries {H : Type} : List (Lit × DataW H) → Nat
  | [] => 0
  | x :: r => uptoBulkEntry x + uptoBulkEntries r
def uptoBulkEntry {H : Type} : Lit × DataW H → Nat
  | (.string bytes, d) => bytes.length + uptoBulk d + 1
  | (_, d) => uptoBulk d + 1
 end
def uptoSmall : (H : Type) → List (DataW H) → Bool := fun _ ds => decide (uptoBulkAll ds ≤ 1048576)
def OpenSpec.upto (s : _root_.Go.ChangeSpec) : _root_.Go.OpenSpec := { _root_.Go.OpenSpec.ofChange s with cond := some uptoSmall }

/-- 'pressmarklaw12.SelectorsTells', WHERE WHAT IT READS IS OF BULK AT MOST 1048576: true; the input reads as it did. -/
def selectorsTellsUptoRow : OpenClaim := { program := "ytpccdohhiojlkaa", sum := "b04518d98e031b78bf24b8246c33b2bd1056eb85b163ab33ecb6318c1eea4c67", func := "pressmark/pressmarklaw12.SelectorsTells", spec := "selectorsTells", unfollowed := true, recurses := true, apart := false, narrowed := true }
def SelectorsTellsUptoSaid : Prop := selectorsTellsUptoRow.holds Try.pinned (OpenSpec.upto selectorsTellsSpec)

/-- 'pressmarklaw12.SelectorsBack', WHERE WHAT IT READS IS OF BULK AT MOST 1048576: true; the input reads as it did. -/
def selectorsBackUptoRow : OpenClaim := { program := "ytpccdohhiojlkaa", sum := "b04518d98e031b78bf24b8246c33b2bd1056eb85b163ab33ecb6318c1eea4c67", func := "pressmark/pressmarklaw12.SelectorsBack", spec := "selectorsBack", unfollowed := true, recurses := true, apart := false, narrowed := true }
def SelectorsBackUptoSaid : Prop := selectorsBackUptoRow.holds Try.pinned (OpenSpec.upto selectorsBackSpec)

/-- 'pressmarklaw12.SelectorsNames', WHERE WHAT IT READS IS OF BULK AT MOST 1048576: true; the input reads as it did. -/
def selectorsNamesUptoRow : OpenClaim := { program := "ytpccdohhiojlkaa", sum := "b04518d98e031b78bf24b8246c33b2bd1056eb85b163ab33ecb6318c1eea4c67", func := "pressmark/pressmarklaw12.SelectorsNames", spec := "selectorsNames", unfollowed := true, recurses := true, apart := false, narrowed := true }
def SelectorsNamesUptoSaid : Prop := selectorsNamesUptoRow.holds Try.pinned (OpenSpec.upto selectorsNamesSpec)

/-- 'pressmarklaw12.SelectorsCut', WHERE WHAT IT READS IS OF BULK AT MOST 1048576: true; the input reads as it did. -/
def selectorsCutUptoRow : OpenClaim := { program := "ytpccdohhiojlkaa", sum := "b04518d98e031b78bf24b8246c33b2bd1056eb85b163ab33ecb6318c1eea4c67", func := "pressmark/pressmarklaw12.SelectorsCut", spec := "selectorsCut", unfollowed := true, recurses := true, apart := false, narrowed := true }
def SelectorsCutUptoSaid : Prop := selectorsCutUptoRow.holds Try.pinned (OpenSpec.upto selectorsCutSpec)

/-- 'pressmarklaw12.SelectorsLong', WHERE WHAT IT READS IS OF BULK AT MOST 1048576: true; the input reads as it did. -/
def selectorsLongUptoRow : OpenClaim := { program := "ytpccdohhiojlkaa", sum := "b04518d98e031b78bf24b8246c33b2bd1056eb85b163ab33ecb6318c1eea4c67", func := "pressmark/pressmarklaw12.SelectorsLong", spec := "selectorsLong", unfollowed := true, recurses := true, apart := false, narrowed := true }
def SelectorsLongUptoSaid : Prop := selectorsLongUptoRow.holds Try.pinned (OpenSpec.upto selectorsLongSpec)

end Rows
end Go.Proofs.Ytpccdohhiojlkaa
