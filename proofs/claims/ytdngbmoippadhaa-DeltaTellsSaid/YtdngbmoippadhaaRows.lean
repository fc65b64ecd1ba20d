/-
  No cell of these rows narrows 'for every input' (looked for: loops, veiled, ifaces, maps, wideKeys, modest, calm, conditions, laid).
  DERIVED. THE GIVEN ROWS OF THIS SEAT. 6 by the template 'for every input the law returns true; each argument reads behind the call as it read before'; 0 by the template 'total and deterministic' (their statements: YtdngbmoippadhaaTotals.lean).
  GIVEN WITH THE SEED: the statements are not yours to turn. If you find one false, say at which input.
  Laid BY PROGRAM, IN A SANDBOX (cutbox-rows.mjs): the forced cells as the released guide's own fill.sh prints them over the translation 829a8fe4ba1c3599… (all of the seat's roots in one cut). By AI agents, Wed Nov 11 2026. No macro, syntax, notation, axiom, sorry.
-/
import Derived.Test.YtdngbmoippadhaaChecked
import GoSem.Claim
import GoSem.ClaimJoined
import GoSem.ClaimMapViews
import Derived.JoinedTies
import Derived.KernelRfl
namespace Go.Proofs.Ytdngbmoippadhaa
/- THE CELL 'sum', in the pinned program and in every row, IS THE sha256 OF THE DUMP (.gsa) THAT YtdngbmoippadhaaProg.lean LOADS. Nothing in Lean hashes anything: it is a label: what it is worth is what the hold of that sum in a sandbox is worth. -/
noncomputable def Try.pinned : Pinned := { name := "ytdngbmoippadhaa", sum := "829a8fe4ba1c35994a450e1e6f01c2334382454f5c34265f92b2f51870f8fd5b", checked := Try.checked }
namespace Rows
def none {H : Type} : Left H := { results := [], args := [] }

/-- 'pressmarklaw09.DeltaTells': WHATEVER THE INPUT: true; the input reads as it did. -/
def deltaTellsSpec : ChangeSpec := { name := "deltaTells", fn := fun _ => fun
  | [d1, d2, d3, d4, d5, d6] => { results := [.lit (.bool true)], args := [d1, d2, d3, d4, d5, d6] }
  | _ => none }
def deltaTellsRow : OpenClaim := { program := "ytdngbmoippadhaa", sum := "829a8fe4ba1c35994a450e1e6f01c2334382454f5c34265f92b2f51870f8fd5b", func := "pressmark/pressmarklaw09.DeltaTells", spec := "deltaTells", unfollowed := true, recurses := true, apart := false }
def DeltaTellsSaid : Prop := deltaTellsRow.holds Try.pinned (OpenSpec.ofChange deltaTellsSpec)

/-- ITS FALSE NEIGHBOUR: 'it returns false'. Refute it at one input. -/
def deltaTellsWrong : ChangeSpec := { name := "deltaTells", fn := fun _ => fun
  | [d1, d2, d3, d4, d5, d6] => { results := [.lit (.bool false)], args := [d1, d2, d3, d4, d5, d6] }
  | _ => none }
def DeltaTellsWrongFalsely : Prop := deltaTellsRow.holds Try.pinned (OpenSpec.ofChange deltaTellsWrong)

/-- 'pressmarklaw09.DeltaLong': WHATEVER THE INPUT: true; the input reads as it did. -/
def deltaLongSpec : ChangeSpec := { name := "deltaLong", fn := fun _ => fun
  | [d] => { results := [.lit (.bool true)], args := [d] }
  | _ => none }
def deltaLongRow : OpenClaim := { program := "ytdngbmoippadhaa", sum := "829a8fe4ba1c35994a450e1e6f01c2334382454f5c34265f92b2f51870f8fd5b", func := "pressmark/pressmarklaw09.DeltaLong", spec := "deltaLong", unfollowed := true, recurses := true, apart := false }
def DeltaLongSaid : Prop := deltaLongRow.holds Try.pinned (OpenSpec.ofChange deltaLongSpec)

/-- ITS FALSE NEIGHBOUR: 'it returns false'. Refute it at one input. -/
def deltaLongWrong : ChangeSpec := { name := "deltaLong", fn := fun _ => fun
  | [d] => { results := [.lit (.bool false)], args := [d] }
  | _ => none }
def DeltaLongWrongFalsely : Prop := deltaLongRow.holds Try.pinned (OpenSpec.ofChange deltaLongWrong)

/-- 'pressmarklaw09.DeltaParts': WHATEVER THE INPUT: true; the input reads as it did. -/
def deltaPartsSpec : ChangeSpec := { name := "deltaParts", fn := fun _ => fun
  | [d1, d2, d3] => { results := [.lit (.bool true)], args := [d1, d2, d3] }
  | _ => none }
def deltaPartsRow : OpenClaim := { program := "ytdngbmoippadhaa", sum := "829a8fe4ba1c35994a450e1e6f01c2334382454f5c34265f92b2f51870f8fd5b", func := "pressmark/pressmarklaw09.DeltaParts", spec := "deltaParts", unfollowed := true, recurses := true, apart := false }
def DeltaPartsSaid : Prop := deltaPartsRow.holds Try.pinned (OpenSpec.ofChange deltaPartsSpec)

/-- ITS FALSE NEIGHBOUR: 'it returns false'. Refute it at one input. -/
def deltaPartsWrong : ChangeSpec := { name := "deltaParts", fn := fun _ => fun
  | [d1, d2, d3] => { results := [.lit (.bool false)], args := [d1, d2, d3] }
  | _ => none }
def DeltaPartsWrongFalsely : Prop := deltaPartsRow.holds Try.pinned (OpenSpec.ofChange deltaPartsWrong)

/-- 'pressmarklaw09.DeltaBack': WHATEVER THE INPUT: true; the input reads as it did. -/
def deltaBackSpec : ChangeSpec := { name := "deltaBack", fn := fun _ => fun
  | [d1, d2, d3, d4] => { results := [.lit (.bool true)], args := [d1, d2, d3, d4] }
  | _ => none }
def deltaBackRow : OpenClaim := { program := "ytdngbmoippadhaa", sum := "829a8fe4ba1c35994a450e1e6f01c2334382454f5c34265f92b2f51870f8fd5b", func := "pressmark/pressmarklaw09.DeltaBack", spec := "deltaBack", unfollowed := true, recurses := true, apart := false }
def DeltaBackSaid : Prop := deltaBackRow.holds Try.pinned (OpenSpec.ofChange deltaBackSpec)

/-- ITS FALSE NEIGHBOUR: 'it returns false'. Refute it at one input. -/
def deltaBackWrong : ChangeSpec := { name := "deltaBack", fn := fun _ => fun
  | [d1, d2, d3, d4] => { results := [.lit (.bool false)], args := [d1, d2, d3, d4] }
  | _ => none }
def DeltaBackWrongFalsely : Prop := deltaBackRow.holds Try.pinned (OpenSpec.ofChange deltaBackWrong)

/-- 'pressmarklaw09.DeltaTurned': WHATEVER THE INPUT: true; the input reads as it did. -/
def deltaTurnedSpec : ChangeSpec := { name := "deltaTurned", fn := fun _ => fun
  | [d] => { results := [.lit (.bool true)], args := [d] }
  | _ => none }
def deltaTurnedRow : OpenClaim := { program := "ytdngbmoippadhaa", sum := "829a8fe4ba1c35994a450e1e6f01c2334382454f5c34265f92b2f51870f8fd5b", func := "pressmark/pressmarklaw09.DeltaTurned", spec := "deltaTurned", unfollowed := true, recurses := true, apart := false }
def DeltaTurnedSaid : Prop := deltaTurnedRow.holds Try.pinned (OpenSpec.ofChange deltaTurnedSpec)

/-- ITS FALSE NEIGHBOUR: 'it returns false'. Refute it at one input. -/
def deltaTurnedWrong : ChangeSpec := { name := "deltaTurned", fn := fun _ => fun
  | [d] => { results := [.lit (.bool false)], args := [d] }
  | _ => none }
def DeltaTurnedWrongFalsely : Prop := deltaTurnedRow.holds Try.pinned (OpenSpec.ofChange deltaTurnedWrong)

/-- 'pressmarklaw09.DeltaForms': WHATEVER THE INPUT: true; the input reads as it did. -/
def deltaFormsSpec : ChangeSpec := { name := "deltaForms", fn := fun _ => fun
  | [d1, d2, d3, d4] => { results := [.lit (.bool true)], args := [d1, d2, d3, d4] }
  | _ => none }
def deltaFormsRow : OpenClaim := { program := "ytdngbmoippadhaa", sum := "829a8fe4ba1c35994a450e1e6f01c2334382454f5c34265f92b2f51870f8fd5b", func := "pressmark/pressmarklaw09.DeltaForms", spec := "deltaForms", unfollowed := true, recurses := true, apart := false }
def DeltaFormsSaid : Prop := deltaFormsRow.holds Try.pinned (OpenSpec.ofChange deltaFormsSpec)

/-- ITS FALSE NEIGHBOUR: 'it returns false'. Refute it at one input. -/
def deltaFormsWrong : ChangeSpec := { name := "deltaForms", fn := fun _ => fun
  | [d1, d2, d3, d4] => { results := [.lit (.bool false)], args := [d1, d2, d3, d4] }
  | _ => none }
def DeltaFormsWrongFalsely : Prop := deltaFormsRow.holds Try.pinned (OpenSpec.ofChange deltaFormsWrong)

/- THE SECOND FORM. 'bulk': how many values and letters a reading holds, each counted each time it is reached (what is shared counts as often as it is met; a slice's spare places count too). A statement '..UptoSaid' is the law's where the arguments, and the package variables that the reading takes, are together of bulk at most 1048576: NARROWER than '..Said'. Prove '..Said' where nothing that the law and all that it calls make is longer than what came in: it says more and counts as full. Else prove '..UptoSaid'. A law counts once. -/
mutual
def uptoBulk {H : Type} : DataW H → Nat
  | .lit (.string bytes) => bytes.length + 1
  | .lit _ => 1
  | .nil => 1
  | .ptr d => uptoBulk d + 1
  | .slice elems spare => uptoBulkAll elems + uptoBulkAll spare + 1
  | .agg parts => uptoBulkAll parts + 1
  | .iface _ d => uptoBulk d + 1
  | .map entries => uptoBulkEntries entries + 1
  | .held _ => 1
def uptoBulkAll {H : Type} : List (DataW H) → Nat
  | [] => 0
  | d :: r => uptoBulk d + uptoBulkAll r
def uptoBulkEntries {H : Type} : List (Lit × DataW H) → Nat
  | [] => 0
  | x :: r => uptoBulkEntry x + uptoBulkEntries r
def uptoBulkEntry {H : Type} : Lit × DataW H → Nat
  | (.string bytes, d) => bytes.length + uptoBulk d + 1
  | (_, d) => uptoBulk d + 1
 end
def uptoSmall : (H : Type) → List (DataW H) → Bool := fun _ ds => decide (uptoBulkAll ds ≤ 1048576)
def OpenSpec.upto (s : _root_.Go.ChangeSpec) : _root_.Go.OpenSpec := { _root_.Go.OpenSpec.ofChange s with cond := some uptoSmall }

/-- 'pressmarklaw09.DeltaTells', WHERE WHAT IT READS IS OF BULK AT MOST 1048576: true; the input reads as it did. -/
def deltaTellsUptoRow : OpenClaim := { program := "ytdngbmoippadhaa", sum := "829a8fe4ba1c35994a450e1e6f01c2334382454f5c34265f92b2f51870f8fd5b", func := "pressmark/pressmarklaw09.DeltaTells", spec := "deltaTells", unfollowed := true, recurses := true, apart := false, narrowed := true }
def DeltaTellsUptoSaid : Prop := deltaTellsUptoRow.holds Try.pinned (OpenSpec.upto deltaTellsSpec)

/-- 'pressmarklaw09.DeltaLong', WHERE WHAT IT READS IS OF BULK AT MOST 1048576: true; the input reads as it did. -/
def deltaLongUptoRow : OpenClaim := { program := "ytdngbmoippadhaa", sum := "829a8fe4ba1c35994a450e1e6f01c2334382454f5c34265f92b2f51870f8fd5b", func := "pressmark/pressmarklaw09.DeltaLong", spec := "deltaLong", unfollowed := true, recurses := true, apart := false, narrowed := true }
def DeltaLongUptoSaid : Prop := deltaLongUptoRow.holds Try.pinned (OpenSpec.upto deltaLongSpec)

/-- 'pressmarklaw09.DeltaParts', WHERE WHAT IT READS IS OF BULK AT MOST 1048576: true; the input reads as it did. -/
def deltaPartsUptoRow : OpenClaim := { program := "ytdngbmoippadhaa", sum := "829a8fe4ba1c35994a450e1e6f01c2334382454f5c34265f92b2f51870f8fd5b", func := "pressmark/pressmarklaw09.DeltaParts", spec := "deltaParts", unfollowed := true, recurses := true, apart := false, narrowed := true }
def DeltaPartsUptoSaid : Prop := deltaPartsUptoRow.holds Try.pinned (OpenSpec.upto deltaPartsSpec)

/-- 'pressmarklaw09.DeltaBack', WHERE WHAT IT READS IS OF BULK AT MOST 1048576: true; the input reads as it did. -/
def deltaBackUptoRow : OpenClaim := { program := "ytdngbmoippadhaa", sum := "829a8fe4ba1c35994a450e1e6f01c2334382454f5c34265f92b2f51870f8fd5b", func := "pressmark/pressmarklaw09.DeltaBack", spec := "deltaBack", unfollowed := true, recurses := true, apart := false, narrowed := true }
def DeltaBackUptoSaid : Prop := deltaBackUptoRow.holds Try.pinned (OpenSpec.upto deltaBackSpec)

/-- 'pressmarklaw09.DeltaTurned', WHERE WHAT IT READS IS OF BULK AT MOST 1048576: true; the input reads as it did. -/
def deltaTurnedUptoRow : OpenClaim := { program := "ytdngbmoippadhaa", sum := "829a8fe4ba1c35994a450e1e6f01c2334382454f5c34265f92b2f51870f8fd5b", func := "pressmark/pressmarklaw09.DeltaTurned", spec := "deltaTurned", unfollowed := true, recurses := true, apart := false, narrowed := true }
def DeltaTurnedUptoSaid : Prop := deltaTurnedUptoRow.holds Try.pinned (OpenSpec.upto deltaTurnedSpec)

/-- 'pressmarklaw09.DeltaForms', WHERE WHAT IT READS IS OF BULK AT MOST 1048576: true; the input reads as it did. -/
def deltaFormsUptoRow : OpenClaim := { program := "ytdngbmoippadhaa", sum := "829a8fe4ba1c35994a450e1e6f01c2334382454f5c34265f92b2f51870f8fd5b", func := "pressmark/pressmarklaw09.DeltaForms", spec := "deltaForms", unfollowed := true, recurses := true, apart := false, narrowed := true }
def DeltaFormsUptoSaid : Prop := deltaFormsUptoRow.holds Try.pinned (OpenSpec.upto deltaFormsSpec)

end Rows
end Go.Proofs.Ytdngbmoippadhaa
