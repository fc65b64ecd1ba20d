/-
  No cell of these rows narrows 'for every input' (looked for: loops, veiled, ifaces, maps, wideKeys, modest, calm, conditions, laid).
  DERIVED. THE GIVEN ROWS OF THIS SEAT. 6 by the template 'for every input the law returns true; each argument reads behind the call as it read before'; 0 by the template 'total and deterministic' (their statements: YtflhhlemoaifnaaTotals.lean).
  GIVEN WITH THE SEED: the statements are not yours to turn. If you find one false, say at which input.
  Laid BY PROGRAM, IN A SANDBOX (cutbox-rows.mjs): the forced cells as the released guide's own fill.sh prints them over the translation 157afb4d99e3a254… (all of the seat's roots in one cut). By AI agents, Wed Nov 11 2026. No macro, syntax, notation, axiom, sorry.
-/
import Derived.Test.YtflhhlemoaifnaaChecked
import GoSem.Claim
import GoSem.ClaimJoined
import GoSem.ClaimMapViews
import Derived.JoinedTies
import Derived.KernelRfl
namespace Go.Proofs.Ytflhhlemoaifnaa
/- THE CELL 'sum', in the pinned program and in every row, IS THE sha256 OF THE DUMP (.gsa) THAT YtflhhlemoaifnaaProg.lean LOADS. Nothing in Lean hashes anything: it is a label: what it is worth is what the hold of that sum in a sandbox is worth. -/
noncomputable def Try.pinned : Pinned := { name := "ytflhhlemoaifnaa", sum := "157afb4d99e3a2542052b4d02a42220e726ebc52c5e9e6e6b5c9ce208e68e5fe", checked := Try.checked }
namespace Rows
def none {H : Type} : Left H := { results := [], args := [] }

/-- 'pressmarklaw06.ZeroTells': WHATEVER THE INPUT: true; the input reads as it did. -/
def zeroTellsSpec : ChangeSpec := { name := "zeroTells", fn := fun _ => fun
  | [d1, d2, d3, d4] => { results := [.lit (.bool true)], args := [d1, d2, d3, d4] }
  | _ => none }
def zeroTellsRow : OpenClaim := { program := "ytflhhlemoaifnaa", sum := "157afb4d99e3a2542052b4d02a42220e726ebc52c5e9e6e6b5c9ce208e68e5fe", func := "pressmark/pressmarklaw06.ZeroTells", spec := "zeroTells", unfollowed := true, recurses := true, apart := false }
def ZeroTellsSaid : Prop := zeroTellsRow.holds Try.pinned (OpenSpec.ofChange zeroTellsSpec)

/-- ITS FALSE NEIGHBOUR: 'it returns false'. Refute it at one input. -/
def zeroTellsWrong : ChangeSpec := { name := "zeroTells", fn := fun _ => fun
  | [d1, d2, d3, d4] => { results := [.lit (.bool false)], args := [d1, d2, d3, d4] }
  | _ => none }
def ZeroTellsWrongFalsely : Prop := zeroTellsRow.holds Try.pinned (OpenSpec.ofChange zeroTellsWrong)

/-- 'pressmarklaw06.ZeroBack': WHATEVER THE INPUT: true; the input reads as it did. -/
def zeroBackSpec : ChangeSpec := { name := "zeroBack", fn := fun _ => fun
  | [d1, d2] => { results := [.lit (.bool true)], args := [d1, d2] }
  | _ => none }
def zeroBackRow : OpenClaim := { program := "ytflhhlemoaifnaa", sum := "157afb4d99e3a2542052b4d02a42220e726ebc52c5e9e6e6b5c9ce208e68e5fe", func := "pressmark/pressmarklaw06.ZeroBack", spec := "zeroBack", unfollowed := true, recurses := true, apart := false }
def ZeroBackSaid : Prop := zeroBackRow.holds Try.pinned (OpenSpec.ofChange zeroBackSpec)

/-- ITS FALSE NEIGHBOUR: 'it returns false'. Refute it at one input. -/
def zeroBackWrong : ChangeSpec := { name := "zeroBack", fn := fun _ => fun
  | [d1, d2] => { results := [.lit (.bool false)], args := [d1, d2] }
  | _ => none }
def ZeroBackWrongFalsely : Prop := zeroBackRow.holds Try.pinned (OpenSpec.ofChange zeroBackWrong)

/-- 'pressmarklaw06.ZeroDigits': WHATEVER THE INPUT: true; the input reads as it did. -/
def zeroDigitsSpec : ChangeSpec := { name := "zeroDigits", fn := fun _ => fun
  | [d1, d2] => { results := [.lit (.bool true)], args := [d1, d2] }
  | _ => none }
def zeroDigitsRow : OpenClaim := { program := "ytflhhlemoaifnaa", sum := "157afb4d99e3a2542052b4d02a42220e726ebc52c5e9e6e6b5c9ce208e68e5fe", func := "pressmark/pressmarklaw06.ZeroDigits", spec := "zeroDigits", unfollowed := true, recurses := true, apart := false }
def ZeroDigitsSaid : Prop := zeroDigitsRow.holds Try.pinned (OpenSpec.ofChange zeroDigitsSpec)

/-- ITS FALSE NEIGHBOUR: 'it returns false'. Refute it at one input. -/
def zeroDigitsWrong : ChangeSpec := { name := "zeroDigits", fn := fun _ => fun
  | [d1, d2] => { results := [.lit (.bool false)], args := [d1, d2] }
  | _ => none }
def ZeroDigitsWrongFalsely : Prop := zeroDigitsRow.holds Try.pinned (OpenSpec.ofChange zeroDigitsWrong)

/-- 'pressmarklaw06.ZeroParts': WHATEVER THE INPUT: true; the input reads as it did. -/
def zeroPartsSpec : ChangeSpec := { name := "zeroParts", fn := fun _ => fun
  | [d1, d2] => { results := [.lit (.bool true)], args := [d1, d2] }
  | _ => none }
def zeroPartsRow : OpenClaim := { program := "ytflhhlemoaifnaa", sum := "157afb4d99e3a2542052b4d02a42220e726ebc52c5e9e6e6b5c9ce208e68e5fe", func := "pressmark/pressmarklaw06.ZeroParts", spec := "zeroParts", unfollowed := true, recurses := true, apart := false }
def ZeroPartsSaid : Prop := zeroPartsRow.holds Try.pinned (OpenSpec.ofChange zeroPartsSpec)

/-- ITS FALSE NEIGHBOUR: 'it returns false'. Refute it at one input. -/
def zeroPartsWrong : ChangeSpec := { name := "zeroParts", fn := fun _ => fun
  | [d1, d2] => { results := [.lit (.bool false)], args := [d1, d2] }
  | _ => none }
def ZeroPartsWrongFalsely : Prop := zeroPartsRow.holds Try.pinned (OpenSpec.ofChange zeroPartsWrong)

/-- 'pressmarklaw06.ZeroShort': WHATEVER THE INPUT: true; the input reads as it did. -/
def zeroShortSpec : ChangeSpec := { name := "zeroShort", fn := fun _ => fun
  | [d1, d2] => { results := [.lit (.bool true)], args := [d1, d2] }
  | _ => none }
def zeroShortRow : OpenClaim := { program := "ytflhhlemoaifnaa", sum := "157afb4d99e3a2542052b4d02a42220e726ebc52c5e9e6e6b5c9ce208e68e5fe", func := "pressmark/pressmarklaw06.ZeroShort", spec := "zeroShort", unfollowed := true, recurses := true, apart := false }
def ZeroShortSaid : Prop := zeroShortRow.holds Try.pinned (OpenSpec.ofChange zeroShortSpec)

/-- ITS FALSE NEIGHBOUR: 'it returns false'. Refute it at one input. -/
def zeroShortWrong : ChangeSpec := { name := "zeroShort", fn := fun _ => fun
  | [d1, d2] => { results := [.lit (.bool false)], args := [d1, d2] }
  | _ => none }
def ZeroShortWrongFalsely : Prop := zeroShortRow.holds Try.pinned (OpenSpec.ofChange zeroShortWrong)

/-- 'pressmarklaw06.ZeroMost': WHATEVER THE INPUT: true; the input reads as it did. -/
def zeroMostSpec : ChangeSpec := { name := "zeroMost", fn := fun _ => fun
  | [d1, d2, d3] => { results := [.lit (.bool true)], args := [d1, d2, d3] }
  | _ => none }
def zeroMostRow : OpenClaim := { program := "ytflhhlemoaifnaa", sum := "157afb4d99e3a2542052b4d02a42220e726ebc52c5e9e6e6b5c9ce208e68e5fe", func := "pressmark/pressmarklaw06.ZeroMost", spec := "zeroMost", unfollowed := true, recurses := true, apart := false }
def ZeroMostSaid : Prop := zeroMostRow.holds Try.pinned (OpenSpec.ofChange zeroMostSpec)

/-- ITS FALSE NEIGHBOUR: 'it returns false'. Refute it at one input. -/
def zeroMostWrong : ChangeSpec := { name := "zeroMost", fn := fun _ => fun
  | [d1, d2, d3] => { results := [.lit (.bool false)], args := [d1, d2, d3] }
  | _ => none }
def ZeroMostWrongFalsely : Prop := zeroMostRow.holds Try.pinned (OpenSpec.ofChange zeroMostWrong)

/- THE SECOND FORM. 'bulk': how many values and letters a reading holds, each counted each time it is reached (what is shared counts as often as it is met; a slice's spare places count too). A statement '..UptoSaid' is the law's where the arguments, and the package variables that the reading takes, are together of bulk at most 1048576: NARROWER than '..Said'. Prove '..Said' where nothing that the law and all that it calls make is longer than what came in: it says more and counts as full. Else prove '..UptoSaid'. A law counts once. -/
mutual
def uptoBulk {H : Type} : DataW H → Nat
  | .lit (.string bytes) => bytes.length + 1
  | .lit _ => 1
  | .nil => 1
  | .ptr d => uptoBulk d + 1
  | .slice elems spare => uptoBulkAll elems + uptoBulkAll spare + 1
  | .agg parts => uptoBulkAll parts + 1
  | .iface _ d => uptoBulk d + 1
  | .map entries => uptoBulkEntries entries + 1
  | .held _ => 1
def uptoBulkAll {H : Type} : List (DataW H) → Nat
  | [] => 0
  | d :: r => uptoBulk d + uptoBulkAll r
def uptoBulkEntries {H : Type} : List (Lit × DataW H) → Nat
  | [] => 0
  | x :: r => uptoBulkEntry x + uptoBulkEntries r
def uptoBulkEntry {H : Type} : Lit × DataW H → Nat
  | (.string bytes, d) => bytes.length + uptoBulk d + 1
  | (_, d) => uptoBulk d + 1
 end
def uptoSmall : (H : Type) → List (DataW H) → Bool := fun _ ds => decide (uptoBulkAll ds ≤ 1048576)
def OpenSpec.upto (s : _root_.Go.ChangeSpec) : _root_.Go.OpenSpec := { _root_.Go.OpenSpec.ofChange s with cond := some uptoSmall }

/-- 'pressmarklaw06.ZeroTells', WHERE WHAT IT READS IS OF BULK AT MOST 1048576: true; the input reads as it did. -/
def zeroTellsUptoRow : OpenClaim := { program := "ytflhhlemoaifnaa", sum := "157afb4d99e3a2542052b4d02a42220e726ebc52c5e9e6e6b5c9ce208e68e5fe", func := "pressmark/pressmarklaw06.ZeroTells", spec := "zeroTells", unfollowed := true, recurses := true, apart := false, narrowed := true }
def ZeroTellsUptoSaid : Prop := zeroTellsUptoRow.holds Try.pinned (OpenSpec.upto zeroTellsSpec)

/-- 'pressmarklaw06.ZeroBack', WHERE WHAT IT READS IS OF BULK AT MOST 1048576: true; the input reads as it did. -/
def zeroBackUptoRow : OpenClaim := { program := "ytflhhlemoaifnaa", sum := "157afb4d99e3a2542052b4d02a42220e726ebc52c5e9e6e6b5c9ce208e68e5fe", func := "pressmark/pressmarklaw06.ZeroBack", spec := "zeroBack", unfollowed := true, recurses := true, apart := false, narrowed := true }
def ZeroBackUptoSaid : Prop := zeroBackUptoRow.holds Try.pinned (OpenSpec.upto zeroBackSpec)

/-- 'pressmarklaw06.ZeroDigits', WHERE WHAT IT READS IS OF BULK AT MOST 1048576: true; the input reads as it did. -/
def zeroDigitsUptoRow : OpenClaim := { program := "ytflhhlemoaifnaa", sum := "157afb4d99e3a2542052b4d02a42220e726ebc52c5e9e6e6b5c9ce208e68e5fe", func := "pressmark/pressmarklaw06.ZeroDigits", spec := "zeroDigits", unfollowed := true, recurses := true, apart := false, narrowed := true }
def ZeroDigitsUptoSaid : Prop := zeroDigitsUptoRow.holds Try.pinned (OpenSpec.upto zeroDigitsSpec)

/-- 'pressmarklaw06.ZeroParts', WHERE WHAT IT READS IS OF BULK AT MOST 1048576: true; the input reads as it did. -/
def zeroPartsUptoRow : OpenClaim := { program := "ytflhhlemoaifnaa", sum := "157afb4d99e3a2542052b4d02a42220e726ebc52c5e9e6e6b5c9ce208e68e5fe", func := "pressmark/pressmarklaw06.ZeroParts", spec := "zeroParts", unfollowed := true, recurses := true, apart := false, narrowed := true }
def ZeroPartsUptoSaid : Prop := zeroPartsUptoRow.holds Try.pinned (OpenSpec.upto zeroPartsSpec)

/-- 'pressmarklaw06.ZeroShort', WHERE WHAT IT READS IS OF BULK AT MOST 1048576: true; the input reads as it did. -/
def zeroShortUptoRow : OpenClaim := { program := "ytflhhlemoaifnaa", sum := "157afb4d99e3a2542052b4d02a42220e726ebc52c5e9e6e6b5c9ce208e68e5fe", func := "pressmark/pressmarklaw06.ZeroShort", spec := "zeroShort", unfollowed := true, recurses := true, apart := false, narrowed := true }
def ZeroShortUptoSaid : Prop := zeroShortUptoRow.holds Try.pinned (OpenSpec.upto zeroShortSpec)

/-- 'pressmarklaw06.ZeroMost', WHERE WHAT IT READS IS OF BULK AT MOST 1048576: true; the input reads as it did. -/
def zeroMostUptoRow : OpenClaim := { program := "ytflhhlemoaifnaa", sum := "157afb4d99e3a2542052b4d02a42220e726ebc52c5e9e6e6b5c9ce208e68e5fe", func := "pressmark/pressmarklaw06.ZeroMost", spec := "zeroMost", unfollowed := true, recurses := true, apart := false, narrowed := true }
def ZeroMostUptoSaid : Prop := zeroMostUptoRow.holds Try.pinned (OpenSpec.upto zeroMostSpec)

end Rows
end Go.Proofs.Ytflhhlemoaifnaa
