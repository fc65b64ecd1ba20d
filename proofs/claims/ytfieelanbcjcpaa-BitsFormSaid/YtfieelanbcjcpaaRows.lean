/-
  No cell of these rows narrows 'for every input' (looked for: loops, veiled, ifaces, maps, wideKeys, modest, calm, conditions, laid).
  DERIVED. THE GIVEN ROWS OF THIS SEAT. 5 by the template 'for every input the law returns true; each argument reads behind the call as it read before'; 0 by the template 'total and deterministic' (their statements: YtfieelanbcjcpaaTotals.lean).
  GIVEN WITH THE SEED: the statements are not yours to turn. If you find one false, say at which input.
  Laid BY PROGRAM, IN A SANDBOX (cutbox-rows.mjs): the forced cells as the released guide's own fill.sh prints them over the translation dc8c5d598bb45ebd… (all of the seat's roots in one cut). By AI agents, Wed Nov 11 2026. No macro, syntax, notation, axiom, sorry.
-/
import Derived.Test.YtfieelanbcjcpaaChecked
import GoSem.Claim
import GoSem.ClaimJoined
import GoSem.ClaimMapViews
import Derived.JoinedTies
import Derived.KernelRfl
namespace Go.Proofs.Ytfieelanbcjcpaa
/- THE CELL 'sum', in the pinned program and in every row, IS THE sha256 OF THE DUMP (.gsa) THAT YtfieelanbcjcpaaProg.lean LOADS. Nothing in Lean hashes anything: it is a label: what it is worth is what the hold of that sum in a sandbox is worth. -/
noncomputable def Try.pinned : Pinned := { name := "ytfieelanbcjcpaa", sum := "dc8c5d598bb45ebd437d8ade6c17160b46e99b61592cd6230d743fa85ac36ad0", checked := Try.checked }
namespace Rows
def none {H : Type} : Left H := { results := [], args := [] }

/-- 'pressmarklaw01.BitsBack': WHATEVER THE INPUT: true; the input reads as it did. -/
def bitsBackSpec : ChangeSpec := { name := "bitsBack", fn := fun _ => fun
  | [d1, d2, d3] => { results := [.lit (.bool true)], args := [d1, d2, d3] }
  | _ => none }
def bitsBackRow : OpenClaim := { program := "ytfieelanbcjcpaa", sum := "dc8c5d598bb45ebd437d8ade6c17160b46e99b61592cd6230d743fa85ac36ad0", func := "pressmark/pressmarklaw01.BitsBack", spec := "bitsBack", unfollowed := true, recurses := true, apart := false }
def BitsBackSaid : Prop := bitsBackRow.holds Try.pinned (OpenSpec.ofChange bitsBackSpec)

/-- ITS FALSE NEIGHBOUR: 'it returns false'. Refute it at one input. -/
def bitsBackWrong : ChangeSpec := { name := "bitsBack", fn := fun _ => fun
  | [d1, d2, d3] => { results := [.lit (.bool false)], args := [d1, d2, d3] }
  | _ => none }
def BitsBackWrongFalsely : Prop := bitsBackRow.holds Try.pinned (OpenSpec.ofChange bitsBackWrong)

/-- 'pressmarklaw01.BitsCat': WHATEVER THE INPUT: true; the input reads as it did. -/
def bitsCatSpec : ChangeSpec := { name := "bitsCat", fn := fun _ => fun
  | [d1, d2, d3, d4, d5] => { results := [.lit (.bool true)], args := [d1, d2, d3, d4, d5] }
  | _ => none }
def bitsCatRow : OpenClaim := { program := "ytfieelanbcjcpaa", sum := "dc8c5d598bb45ebd437d8ade6c17160b46e99b61592cd6230d743fa85ac36ad0", func := "pressmark/pressmarklaw01.BitsCat", spec := "bitsCat", unfollowed := true, recurses := true, apart := false }
def BitsCatSaid : Prop := bitsCatRow.holds Try.pinned (OpenSpec.ofChange bitsCatSpec)

/-- ITS FALSE NEIGHBOUR: 'it returns false'. Refute it at one input. -/
def bitsCatWrong : ChangeSpec := { name := "bitsCat", fn := fun _ => fun
  | [d1, d2, d3, d4, d5] => { results := [.lit (.bool false)], args := [d1, d2, d3, d4, d5] }
  | _ => none }
def BitsCatWrongFalsely : Prop := bitsCatRow.holds Try.pinned (OpenSpec.ofChange bitsCatWrong)

/-- 'pressmarklaw01.BitsGet': WHATEVER THE INPUT: true; the input reads as it did. -/
def bitsGetSpec : ChangeSpec := { name := "bitsGet", fn := fun _ => fun
  | [d1, d2, d3, d4] => { results := [.lit (.bool true)], args := [d1, d2, d3, d4] }
  | _ => none }
def bitsGetRow : OpenClaim := { program := "ytfieelanbcjcpaa", sum := "dc8c5d598bb45ebd437d8ade6c17160b46e99b61592cd6230d743fa85ac36ad0", func := "pressmark/pressmarklaw01.BitsGet", spec := "bitsGet", unfollowed := true, recurses := true, apart := false }
def BitsGetSaid : Prop := bitsGetRow.holds Try.pinned (OpenSpec.ofChange bitsGetSpec)

/-- ITS FALSE NEIGHBOUR: 'it returns false'. Refute it at one input. -/
def bitsGetWrong : ChangeSpec := { name := "bitsGet", fn := fun _ => fun
  | [d1, d2, d3, d4] => { results := [.lit (.bool false)], args := [d1, d2, d3, d4] }
  | _ => none }
def BitsGetWrongFalsely : Prop := bitsGetRow.holds Try.pinned (OpenSpec.ofChange bitsGetWrong)

/-- 'pressmarklaw01.BitsMany': WHATEVER THE INPUT: true; the input reads as it did. -/
def bitsManySpec : ChangeSpec := { name := "bitsMany", fn := fun _ => fun
  | [d1, d2] => { results := [.lit (.bool true)], args := [d1, d2] }
  | _ => none }
def bitsManyRow : OpenClaim := { program := "ytfieelanbcjcpaa", sum := "dc8c5d598bb45ebd437d8ade6c17160b46e99b61592cd6230d743fa85ac36ad0", func := "pressmark/pressmarklaw01.BitsMany", spec := "bitsMany", unfollowed := true, recurses := true, apart := false }
def BitsManySaid : Prop := bitsManyRow.holds Try.pinned (OpenSpec.ofChange bitsManySpec)

/-- ITS FALSE NEIGHBOUR: 'it returns false'. Refute it at one input. -/
def bitsManyWrong : ChangeSpec := { name := "bitsMany", fn := fun _ => fun
  | [d1, d2] => { results := [.lit (.bool false)], args := [d1, d2] }
  | _ => none }
def BitsManyWrongFalsely : Prop := bitsManyRow.holds Try.pinned (OpenSpec.ofChange bitsManyWrong)

/-- 'pressmarklaw01.BitsForm': WHATEVER THE INPUT: true; the input reads as it did. -/
def bitsFormSpec : ChangeSpec := { name := "bitsForm", fn := fun _ => fun
  | [d1, d2, d3] => { results := [.lit (.bool true)], args := [d1, d2, d3] }
  | _ => none }
def bitsFormRow : OpenClaim := { program := "ytfieelanbcjcpaa", sum := "dc8c5d598bb45ebd437d8ade6c17160b46e99b61592cd6230d743fa85ac36ad0", func := "pressmark/pressmarklaw01.BitsForm", spec := "bitsForm", unfollowed := true, recurses := true, apart := false }
def BitsFormSaid : Prop := bitsFormRow.holds Try.pinned (OpenSpec.ofChange bitsFormSpec)

/-- ITS FALSE NEIGHBOUR: 'it returns false'. Refute it at one input. -/
def bitsFormWrong : ChangeSpec := { name := "bitsForm", fn := fun _ => fun
  | [d1, d2, d3] => { results := [.lit (.bool false)], args := [d1, d2, d3] }
  | _ => none }
def BitsFormWrongFalsely : Prop := bitsFormRow.holds Try.pinned (OpenSpec.ofChange bitsFormWrong)

/- THE SECOND FORM. 'bulk': how many values and letters a reading holds, each counted each time it is reached (what is shared counts as often as it is met; a slice's spare places count too). A statement '..UptoSaid' is the law's where the arguments, and the package variables that the reading takes, are together of bulk at most 1048576: NARROWER than '..Said'. Prove '..Said' where nothing that the law and all that it calls make is longer than what came in: it says more and counts as full. Else prove '..UptoSaid'. A law counts once. -/
mutual
def uptoBulk {H : Type} : DataW H → Nat
  | .lit (.string bytes) => bytes.length + 1
  | .lit _ => 1
  | .nil => 1
  | .ptr d => uptoBulk d + 1
  | .slice elems spare => uptoBulkAll elems + uptoBulkAll spare + 1
  | .agg parts => uptoBulkAll parts + 1
  | .iface _ d => uptoBulk d + 1
  | .map entries => uptoBulkEntries entries + 1
  | .held _ => 1
def uptoBulkAll {H : Type} : List (DataW H) → Nat
  | [] => 0
  | d :: r => uptoBulk d + uptoBulkAll r
def uptoBulkEntries {H : Type} : List (Lit × DataW H) → Nat
  | [] => 0
  | x :: r => uptoBulkEntry x + uptoBulkEntries r
def uptoBulkEntry {H : Type} : Lit × DataW H → Nat
  | (.string bytes, d) => bytes.length + uptoBulk d + 1
  | (_, d) => uptoBulk d + 1
 end
def uptoSmall : (H : Type) → List (DataW H) → Bool := fun _ ds => decide (uptoBulkAll ds ≤ 1048576)
def OpenSpec.upto (s : _root_.Go.ChangeSpec) : _root_.Go.OpenSpec := { _root_.Go.OpenSpec.ofChange s with cond := some uptoSmall }

/-- 'pressmarklaw01.BitsBack', WHERE WHAT IT READS IS OF BULK AT MOST 1048576: true; the input reads as it did. -/
def bitsBackUptoRow : OpenClaim := { program := "ytfieelanbcjcpaa", sum := "dc8c5d598bb45ebd437d8ade6c17160b46e99b61592cd6230d743fa85ac36ad0", func := "pressmark/pressmarklaw01.BitsBack", spec := "bitsBack", unfollowed := true, recurses := true, apart := false, narrowed := true }
def BitsBackUptoSaid : Prop := bitsBackUptoRow.holds Try.pinned (OpenSpec.upto bitsBackSpec)

/-- 'pressmarklaw01.BitsCat', WHERE WHAT IT READS IS OF BULK AT MOST 1048576: true; the input reads as it did. -/
def bitsCatUptoRow : OpenClaim := { program := "ytfieelanbcjcpaa", sum := "dc8c5d598bb45ebd437d8ade6c17160b46e99b61592cd6230d743fa85ac36ad0", func := "pressmark/pressmarklaw01.BitsCat", spec := "bitsCat", unfollowed := true, recurses := true, apart := false, narrowed := true }
def BitsCatUptoSaid : Prop := bitsCatUptoRow.holds Try.pinned (OpenSpec.upto bitsCatSpec)

/-- 'pressmarklaw01.BitsGet', WHERE WHAT IT READS IS OF BULK AT MOST 1048576: true; the input reads as it did. -/
def bitsGetUptoRow : OpenClaim := { program := "ytfieelanbcjcpaa", sum := "dc8c5d598bb45ebd437d8ade6c17160b46e99b61592cd6230d743fa85ac36ad0", func := "pressmark/pressmarklaw01.BitsGet", spec := "bitsGet", unfollowed := true, recurses := true, apart := false, narrowed := true }
def BitsGetUptoSaid : Prop := bitsGetUptoRow.holds Try.pinned (OpenSpec.upto bitsGetSpec)

/-- 'pressmarklaw01.BitsMany', WHERE WHAT IT READS IS OF BULK AT MOST 1048576: true; the input reads as it did. -/
def bitsManyUptoRow : OpenClaim := { program := "ytfieelanbcjcpaa", sum := "dc8c5d598bb45ebd437d8ade6c17160b46e99b61592cd6230d743fa85ac36ad0", func := "pressmark/pressmarklaw01.BitsMany", spec := "bitsMany", unfollowed := true, recurses := true, apart := false, narrowed := true }
def BitsManyUptoSaid : Prop := bitsManyUptoRow.holds Try.pinned (OpenSpec.upto bitsManySpec)

/-- 'pressmarklaw01.BitsForm', WHERE WHAT IT READS IS OF BULK AT MOST 1048576: true; the input reads as it did. -/
def bitsFormUptoRow : OpenClaim := { program := "ytfieelanbcjcpaa", sum := "dc8c5d598bb45ebd437d8ade6c17160b46e99b61592cd6230d743fa85ac36ad0", func := "pressmark/pressmarklaw01.BitsForm", spec := "bitsForm", unfollowed := true, recurses := true, apart := false, narrowed := true }
def BitsFormUptoSaid : Prop := bitsFormUptoRow.holds Try.pinned (OpenSpec.upto bitsFormSpec)

end Rows
end Go.Proofs.Ytfieelanbcjcpaa
