/-
  No cell of these rows narrows 'for every input' (looked for: loops, veiled, ifaces, maps, wideKeys, modest, calm, conditions, laid).
  DERIVED. THE GIVEN ROWS OF THIS SEAT. 3 by the template 'for every input the law returns true; each argument reads behind the call as it read before'; 0 by the template 'total and deterministic' (their statements: YtlnkngacenkikaaTotals.lean).
  GIVEN WITH THE SEED: the statements are not yours to turn. If you find one false, say at which input.
  Laid BY PROGRAM, IN A SANDBOX (cutbox-rows.mjs): the forced cells as the released guide's own fill.sh prints them over the translation 15bdb5d056c5ee51… (all of the seat's roots in one cut). By AI agents, Wed Nov 11 2026. No macro, syntax, notation, axiom, sorry.
-/
import Derived.Test.YtlnkngacenkikaaChecked
import GoSem.Claim
import GoSem.ClaimJoined
import GoSem.ClaimMapViews
import Derived.JoinedTies
import Derived.KernelRfl
namespace Go.Proofs.Ytlnkngacenkikaa
/- THE CELL 'sum', in the pinned program and in every row, IS THE sha256 OF THE DUMP (.gsa) THAT YtlnkngacenkikaaProg.lean LOADS. Nothing in Lean hashes anything: it is a label: what it is worth is what the hold of that sum in a sandbox is worth. -/
noncomputable def Try.pinned : Pinned := { name := "ytlnkngacenkikaa", sum := "15bdb5d056c5ee5128f4a03048198567809bfc8a4b94a9860faa7d33248ed944", checked := Try.checked }
namespace Rows
def none {H : Type} : Left H := { results := [], args := [] }

/-- 'pressmarklaw07.UsedLong': WHATEVER THE INPUT: true; the input reads as it did. -/
def usedLongSpec : ChangeSpec := { name := "usedLong", fn := fun _ => fun
  | [d1, d2] => { results := [.lit (.bool true)], args := [d1, d2] }
  | _ => none }
def usedLongRow : OpenClaim := { program := "ytlnkngacenkikaa", sum := "15bdb5d056c5ee5128f4a03048198567809bfc8a4b94a9860faa7d33248ed944", func := "pressmark/pressmarklaw07.UsedLong", spec := "usedLong", unfollowed := true, recurses := true, apart := false }
def UsedLongSaid : Prop := usedLongRow.holds Try.pinned (OpenSpec.ofChange usedLongSpec)

/-- ITS FALSE NEIGHBOUR: 'it returns false'. Refute it at one input. -/
def usedLongWrong : ChangeSpec := { name := "usedLong", fn := fun _ => fun
  | [d1, d2] => { results := [.lit (.bool false)], args := [d1, d2] }
  | _ => none }
def UsedLongWrongFalsely : Prop := usedLongRow.holds Try.pinned (OpenSpec.ofChange usedLongWrong)

/-- 'pressmarklaw07.UsedBack': WHATEVER THE INPUT: true; the input reads as it did. -/
def usedBackSpec : ChangeSpec := { name := "usedBack", fn := fun _ => fun
  | [d1, d2, d3, d4] => { results := [.lit (.bool true)], args := [d1, d2, d3, d4] }
  | _ => none }
def usedBackRow : OpenClaim := { program := "ytlnkngacenkikaa", sum := "15bdb5d056c5ee5128f4a03048198567809bfc8a4b94a9860faa7d33248ed944", func := "pressmark/pressmarklaw07.UsedBack", spec := "usedBack", unfollowed := true, recurses := true, apart := false }
def UsedBackSaid : Prop := usedBackRow.holds Try.pinned (OpenSpec.ofChange usedBackSpec)

/-- ITS FALSE NEIGHBOUR: 'it returns false'. Refute it at one input. -/
def usedBackWrong : ChangeSpec := { name := "usedBack", fn := fun _ => fun
  | [d1, d2, d3, d4] => { results := [.lit (.bool false)], args := [d1, d2, d3, d4] }
  | _ => none }
def UsedBackWrongFalsely : Prop := usedBackRow.holds Try.pinned (OpenSpec.ofChange usedBackWrong)

/-- 'pressmarklaw07.UsedForms': WHATEVER THE INPUT: true; the input reads as it did. -/
def usedFormsSpec : ChangeSpec := { name := "usedForms", fn := fun _ => fun
  | [d1, d2, d3, d4] => { results := [.lit (.bool true)], args := [d1, d2, d3, d4] }
  | _ => none }
def usedFormsRow : OpenClaim := { program := "ytlnkngacenkikaa", sum := "15bdb5d056c5ee5128f4a03048198567809bfc8a4b94a9860faa7d33248ed944", func := "pressmark/pressmarklaw07.UsedForms", spec := "usedForms", unfollowed := true, recurses := true, apart := false }
def UsedFormsSaid : Prop := usedFormsRow.holds Try.pinned (OpenSpec.ofChange usedFormsSpec)

/-- ITS FALSE NEIGHBOUR: 'it returns false'. Refute it at one input. -/
def usedFormsWrong : ChangeSpec := { name := "usedForms", fn := fun _ => fun
  | [d1, d2, d3, d4] => { results := [.lit (.bool false)], args := [d1, d2, d3, d4] }
  | _ => none }
def UsedFormsWrongFalsely : Prop := usedFormsRow.holds Try.pinned (OpenSpec.ofChange usedFormsWrong)

/- THE SECOND FORM. 'bulk': how many values and letters a reading holds, each counted each time it is reached (what is shared counts as often as it is met; a slice's spare places count too). A statement '..UptoSaid' is the law's where the arguments, and the package variables that the reading takes, are together of bulk at most 1048576: NARROWER than '..Said'. Prove '..Said' where nothing that the law and all that it calls make is longer than what came in: it says more and counts as full. Else prove '..UptoSaid'. A law counts once. -/
mutual
def uptoBulk {H : Type} : DataW H → Nat
  | .lit (.string bytes) => bytes.length + 1
  | .lit _ => 1
  | .nil => 1
  | .ptr d => uptoBulk d + 1
  | .slice elems spare => uptoBulkAll elems + uptoBulkAll spare + 1
  | .agg parts => uptoBulkAll parts + 1
  | .iface _ d => uptoBulk d + 1
  | .map entries => uptoBulkEntries entries + 1
  | .held _ => 1
def uptoBulkAll {H : Type} : List (DataW H) → Nat
  | [] => 0
  | d :: r => uptoBulk d + uptoBulkAll r
def uptoBulkEntries {H : Type} : List (Lit × DataW H) → Nat
  | [] => 0
  | x :: r => uptoBulkEntry x + uptoBulkEntries r
def uptoBulkEntry {H : Type} : Lit × DataW H → Nat
  | (.string bytes, d) => bytes.length + uptoBulk d + 1
  | (_, d) => uptoBulk d + 1
 end
def uptoSmall : (H : Type) → List (DataW H) → Bool := fun _ ds => decide (uptoBulkAll ds ≤ 1048576)
def OpenSpec.upto (s : _root_.Go.ChangeSpec) : _root_.Go.OpenSpec := { _root_.Go.OpenSpec.ofChange s with cond := some uptoSmall }

/-- 'pressmarklaw07.UsedLong', WHERE WHAT IT READS IS OF BULK AT MOST 1048576: true; the input reads as it did. -/
def usedLongUptoRow : OpenClaim := { program := "ytlnkngacenkikaa", sum := "15bdb5d056c5ee5128f4a03048198567809bfc8a4b94a9860faa7d33248ed944", func := "pressmark/pressmarklaw07.UsedLong", spec := "usedLong", unfollowed := true, recurses := true, apart := false, narrowed := true }
def UsedLongUptoSaid : Prop := usedLongUptoRow.holds Try.pinned (OpenSpec.upto usedLongSpec)

/-- 'pressmarklaw07.UsedBack', WHERE WHAT IT READS IS OF BULK AT MOST 1048576: true; the input reads as it did. -/
def usedBackUptoRow : OpenClaim := { program := "ytlnkngacenkikaa", sum := "15bdb5d056c5ee5128f4a03048198567809bfc8a4b94a9860faa7d33248ed944", func := "pressmark/pressmarklaw07.UsedBack", spec := "usedBack", unfollowed := true, recurses := true, apart := false, narrowed := true }
def UsedBackUptoSaid : Prop := usedBackUptoRow.holds Try.pinned (OpenSpec.upto usedBackSpec)

/-- 'pressmarklaw07.UsedForms', WHERE WHAT IT READS IS OF BULK AT MOST 1048576: true; the input reads as it did. -/
def usedFormsUptoRow : OpenClaim := { program := "ytlnkngacenkikaa", sum := "15bdb5d056c5ee5128f4a03048198567809bfc8a4b94a9860faa7d33248ed944", func := "pressmark/pressmarklaw07.UsedForms", spec := "usedForms", unfollowed := true, recurses := true, apart := false, narrowed := true }
def UsedFormsUptoSaid : Prop := usedFormsUptoRow.holds Try.pinned (OpenSpec.upto usedFormsSpec)

end Rows
end Go.Proofs.Ytlnkngacenkikaa
