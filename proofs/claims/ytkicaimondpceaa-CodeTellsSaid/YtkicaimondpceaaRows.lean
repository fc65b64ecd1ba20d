/-
  No cell of these rows narrows 'for every input' (looked for: loops, veiled, ifaces, maps, wideKeys, modest, calm, conditions, laid).
  DERIVED. THE GIVEN ROWS OF THIS SEAT. 7 by the template 'for every input the law returns true; each argument reads behind the call as it read before'; 0 by the template 'total and deterministic' (their statements: YtkicaimondpceaaTotals.lean).
  GIVEN WITH THE SEED: the statements are not yours to turn. If you find one false, say at which input.
  Laid BY PROGRAM, IN A SANDBOX (cutbox-rows.mjs): the forced cells as the released guide's own fill.sh prints them over the translation c9d5c757fdc7a9aa… (all of the seat's roots in one cut). By AI agents, Wed Nov 11 2026. No macro, syntax, notation, axiom, sorry.
-/
import Derived.Test.YtkicaimondpceaaChecked
import GoSem.Claim
import GoSem.ClaimJoined
import GoSem.ClaimMapViews
import Derived.JoinedTies
import Derived.KernelRfl
namespace Go.Proofs.Ytkicaimondpceaa
/- THE CELL 'sum', in the pinned program and in every row, IS THE sha256 OF THE DUMP (.gsa) THAT YtkicaimondpceaaProg.lean LOADS. Nothing in Lean hashes anything: it is a label: what it is worth is what the hold of that sum in a sandbox is worth. -/
noncomputable def Try.pinned : Pinned := { name := "ytkicaimondpceaa", sum := "c9d5c757fdc7a9aaf0be264069bd02511a6696ba150d1316f0a121d349e48eef", checked := Try.checked }
namespace Rows
def none {H : Type} : Left H := { results := [], args := [] }

/-- 'pressmarklaw08.CodeTells': WHATEVER THE INPUT: true; the input reads as it did. -/
def codeTellsSpec : ChangeSpec := { name := "codeTells", fn := fun _ => fun
  | [d1, d2, d3, d4, d5, d6, d7] => { results := [.lit (.bool true)], args := [d1, d2, d3, d4, d5, d6, d7] }
  | _ => none }
def codeTellsRow : OpenClaim := { program := "ytkicaimondpceaa", sum := "c9d5c757fdc7a9aaf0be264069bd02511a6696ba150d1316f0a121d349e48eef", func := "pressmark/pressmarklaw08.CodeTells", spec := "codeTells", unfollowed := true, recurses := true, apart := false }
def CodeTellsSaid : Prop := codeTellsRow.holds Try.pinned (OpenSpec.ofChange codeTellsSpec)

/-- ITS FALSE NEIGHBOUR: 'it returns false'. Refute it at one input. -/
def codeTellsWrong : ChangeSpec := { name := "codeTells", fn := fun _ => fun
  | [d1, d2, d3, d4, d5, d6, d7] => { results := [.lit (.bool false)], args := [d1, d2, d3, d4, d5, d6, d7] }
  | _ => none }
def CodeTellsWrongFalsely : Prop := codeTellsRow.holds Try.pinned (OpenSpec.ofChange codeTellsWrong)

/-- 'pressmarklaw08.CodeBack': WHATEVER THE INPUT: true; the input reads as it did. -/
def codeBackSpec : ChangeSpec := { name := "codeBack", fn := fun _ => fun
  | [d1, d2, d3, d4] => { results := [.lit (.bool true)], args := [d1, d2, d3, d4] }
  | _ => none }
def codeBackRow : OpenClaim := { program := "ytkicaimondpceaa", sum := "c9d5c757fdc7a9aaf0be264069bd02511a6696ba150d1316f0a121d349e48eef", func := "pressmark/pressmarklaw08.CodeBack", spec := "codeBack", unfollowed := true, recurses := true, apart := false }
def CodeBackSaid : Prop := codeBackRow.holds Try.pinned (OpenSpec.ofChange codeBackSpec)

/-- ITS FALSE NEIGHBOUR: 'it returns false'. Refute it at one input. -/
def codeBackWrong : ChangeSpec := { name := "codeBack", fn := fun _ => fun
  | [d1, d2, d3, d4] => { results := [.lit (.bool false)], args := [d1, d2, d3, d4] }
  | _ => none }
def CodeBackWrongFalsely : Prop := codeBackRow.holds Try.pinned (OpenSpec.ofChange codeBackWrong)

/-- 'pressmarklaw08.CodePrefix': WHATEVER THE INPUT: true; the input reads as it did. -/
def codePrefixSpec : ChangeSpec := { name := "codePrefix", fn := fun _ => fun
  | [d] => { results := [.lit (.bool true)], args := [d] }
  | _ => none }
def codePrefixRow : OpenClaim := { program := "ytkicaimondpceaa", sum := "c9d5c757fdc7a9aaf0be264069bd02511a6696ba150d1316f0a121d349e48eef", func := "pressmark/pressmarklaw08.CodePrefix", spec := "codePrefix", unfollowed := true, recurses := true, apart := false }
def CodePrefixSaid : Prop := codePrefixRow.holds Try.pinned (OpenSpec.ofChange codePrefixSpec)

/-- ITS FALSE NEIGHBOUR: 'it returns false'. Refute it at one input. -/
def codePrefixWrong : ChangeSpec := { name := "codePrefix", fn := fun _ => fun
  | [d] => { results := [.lit (.bool false)], args := [d] }
  | _ => none }
def CodePrefixWrongFalsely : Prop := codePrefixRow.holds Try.pinned (OpenSpec.ofChange codePrefixWrong)

/-- 'pressmarklaw08.CodeFull': WHATEVER THE INPUT: true; the input reads as it did. -/
def codeFullSpec : ChangeSpec := { name := "codeFull", fn := fun _ => fun
  | [d1, d2] => { results := [.lit (.bool true)], args := [d1, d2] }
  | _ => none }
def codeFullRow : OpenClaim := { program := "ytkicaimondpceaa", sum := "c9d5c757fdc7a9aaf0be264069bd02511a6696ba150d1316f0a121d349e48eef", func := "pressmark/pressmarklaw08.CodeFull", spec := "codeFull", unfollowed := true, recurses := true, apart := false }
def CodeFullSaid : Prop := codeFullRow.holds Try.pinned (OpenSpec.ofChange codeFullSpec)

/-- ITS FALSE NEIGHBOUR: 'it returns false'. Refute it at one input. -/
def codeFullWrong : ChangeSpec := { name := "codeFull", fn := fun _ => fun
  | [d1, d2] => { results := [.lit (.bool false)], args := [d1, d2] }
  | _ => none }
def CodeFullWrongFalsely : Prop := codeFullRow.holds Try.pinned (OpenSpec.ofChange codeFullWrong)

/-- 'pressmarklaw08.CodeCat': WHATEVER THE INPUT: true; the input reads as it did. -/
def codeCatSpec : ChangeSpec := { name := "codeCat", fn := fun _ => fun
  | [d1, d2, d3] => { results := [.lit (.bool true)], args := [d1, d2, d3] }
  | _ => none }
def codeCatRow : OpenClaim := { program := "ytkicaimondpceaa", sum := "c9d5c757fdc7a9aaf0be264069bd02511a6696ba150d1316f0a121d349e48eef", func := "pressmark/pressmarklaw08.CodeCat", spec := "codeCat", unfollowed := true, recurses := true, apart := false }
def CodeCatSaid : Prop := codeCatRow.holds Try.pinned (OpenSpec.ofChange codeCatSpec)

/-- ITS FALSE NEIGHBOUR: 'it returns false'. Refute it at one input. -/
def codeCatWrong : ChangeSpec := { name := "codeCat", fn := fun _ => fun
  | [d1, d2, d3] => { results := [.lit (.bool false)], args := [d1, d2, d3] }
  | _ => none }
def CodeCatWrongFalsely : Prop := codeCatRow.holds Try.pinned (OpenSpec.ofChange codeCatWrong)

/-- 'pressmarklaw08.CodeCheck': WHATEVER THE INPUT: true; the input reads as it did. -/
def codeCheckSpec : ChangeSpec := { name := "codeCheck", fn := fun _ => fun
  | [d1, d2, d3] => { results := [.lit (.bool true)], args := [d1, d2, d3] }
  | _ => none }
def codeCheckRow : OpenClaim := { program := "ytkicaimondpceaa", sum := "c9d5c757fdc7a9aaf0be264069bd02511a6696ba150d1316f0a121d349e48eef", func := "pressmark/pressmarklaw08.CodeCheck", spec := "codeCheck", unfollowed := true, recurses := true, apart := false }
def CodeCheckSaid : Prop := codeCheckRow.holds Try.pinned (OpenSpec.ofChange codeCheckSpec)

/-- ITS FALSE NEIGHBOUR: 'it returns false'. Refute it at one input. -/
def codeCheckWrong : ChangeSpec := { name := "codeCheck", fn := fun _ => fun
  | [d1, d2, d3] => { results := [.lit (.bool false)], args := [d1, d2, d3] }
  | _ => none }
def CodeCheckWrongFalsely : Prop := codeCheckRow.holds Try.pinned (OpenSpec.ofChange codeCheckWrong)

/-- 'pressmarklaw08.CodeForms': WHATEVER THE INPUT: true; the input reads as it did. -/
def codeFormsSpec : ChangeSpec := { name := "codeForms", fn := fun _ => fun
  | [d1, d2, d3] => { results := [.lit (.bool true)], args := [d1, d2, d3] }
  | _ => none }
def codeFormsRow : OpenClaim := { program := "ytkicaimondpceaa", sum := "c9d5c757fdc7a9aaf0be264069bd02511a6696ba150d1316f0a121d349e48eef", func := "pressmark/pressmarklaw08.CodeForms", spec := "codeForms", unfollowed := true, recurses := true, apart := false }
def CodeFormsSaid : Prop := codeFormsRow.holds Try.pinned (OpenSpec.ofChange codeFormsSpec)

/-- ITS FALSE NEIGHBOUR: 'it returns false'. Refute it at one input. -/
def codeFormsWrong : ChangeSpec := { name := "codeForms", fn := fun _ => fun
  | [d1, d2, d3] => { results := [.lit (.bool false)], args := [d1, d2, d3] }
  | _ => none }
def CodeFormsWrongFalsely : Prop := codeFormsRow.holds Try.pinned (OpenSpec.ofChange codeFormsWrong)

/- THE SECOND FORM. 'bulk': how many values and letters a reading holds, each counted each time it is reached (what is shared counts as often as it is met; a slice's spare places count too). A statement '..UptoSaid' is the law's where the arguments, and the package variables that the reading takes, are together of bulk at most 1048576: NARROWER than '..Said'. Prove '..Said' where nothing that the law and all that it calls make is longer than what came in: it says more and counts as full. Else prove '..UptoSaid'. A law counts once. -/
mutual
def uptoBulk {H : Type} : DataW H → Nat
  | .lit (.string bytes) => bytes.length + 1
  | .lit _ => 1
  | .nil => 1
  | .ptr d => uptoBulk d + 1
  | .slice elems spare => uptoBulkAll elems + uptoBulkAll spare + 1
  | .agg parts => uptoBulkAll parts + 1
  | .iface _ d => uptoBulk d + 1
  | .map entries => uptoBulkEntries entries + 1
  | .held _ => 1
def uptoBulkAll {H : Type} : List (DataW H) → Nat
  | [] => 0
  | d :: r => uptoBulk d + uptoBulkAll r
def uptoBulkEntries {H : Type} : List (Lit × DataW H) → Nat
  | [] => 0
  | x :: r => uptoBulkEntry x + uptoBulkEntries r
def uptoBulkEntry {H : Type} : Lit × DataW H → Nat
  | (.string bytes, d) => bytes.length + uptoBulk d + 1
  | (_, d) => uptoBulk d + 1
 end
def uptoSmall : (H : Type) → List (DataW H) → Bool := fun _ ds => decide (uptoBulkAll ds ≤ 1048576)
def OpenSpec.upto (s : _root_.Go.ChangeSpec) : _root_.Go.OpenSpec := { _root_.Go.OpenSpec.ofChange s with cond := some uptoSmall }

/-- 'pressmarklaw08.CodeTells', WHERE WHAT IT READS IS OF BULK AT MOST 1048576: true; the input reads as it did. -/
def codeTellsUptoRow : OpenClaim := { program := "ytkicaimondpceaa", sum := "c9d5c757fdc7a9aaf0be264069bd02511a6696ba150d1316f0a121d349e48eef", func := "pressmark/pressmarklaw08.CodeTells", spec := "codeTells", unfollowed := true, recurses := true, apart := false, narrowed := true }
def CodeTellsUptoSaid : Prop := codeTellsUptoRow.holds Try.pinned (OpenSpec.upto codeTellsSpec)

/-- 'pressmarklaw08.CodeBack', WHERE WHAT IT READS IS OF BULK AT MOST 1048576: true; the input reads as it did. -/
def codeBackUptoRow : OpenClaim := { program := "ytkicaimondpceaa", sum := "c9d5c757fdc7a9aaf0be264069bd02511a6696ba150d1316f0a121d349e48eef", func := "pressmark/pressmarklaw08.CodeBack", spec := "codeBack", unfollowed := true, recurses := true, apart := false, narrowed := true }
def CodeBackUptoSaid : Prop := codeBackUptoRow.holds Try.pinned (OpenSpec.upto codeBackSpec)

/-- 'pressmarklaw08.CodePrefix', WHERE WHAT IT READS IS OF BULK AT MOST 1048576: true; the input reads as it did. -/
def codePrefixUptoRow : OpenClaim := { program := "ytkicaimondpceaa", sum := "c9d5c757fdc7a9aaf0be264069bd02511a6696ba150d1316f0a121d349e48eef", func := "pressmark/pressmarklaw08.CodePrefix", spec := "codePrefix", unfollowed := true, recurses := true, apart := false, narrowed := true }
def CodePrefixUptoSaid : Prop := codePrefixUptoRow.holds Try.pinned (OpenSpec.upto codePrefixSpec)

/-- 'pressmarklaw08.CodeFull', WHERE WHAT IT READS IS OF BULK AT MOST 1048576: true; the input reads as it did. -/
def codeFullUptoRow : OpenClaim := { program := "ytkicaimondpceaa", sum := "c9d5c757fdc7a9aaf0be264069bd02511a6696ba150d1316f0a121d349e48eef", func := "pressmark/pressmarklaw08.CodeFull", spec := "codeFull", unfollowed := true, recurses := true, apart := false, narrowed := true }
def CodeFullUptoSaid : Prop := codeFullUptoRow.holds Try.pinned (OpenSpec.upto codeFullSpec)

/-- 'pressmarklaw08.CodeCat', WHERE WHAT IT READS IS OF BULK AT MOST 1048576: true; the input reads as it did. -/
def codeCatUptoRow : OpenClaim := { program := "ytkicaimondpceaa", sum := "c9d5c757fdc7a9aaf0be264069bd02511a6696ba150d1316f0a121d349e48eef", func := "pressmark/pressmarklaw08.CodeCat", spec := "codeCat", unfollowed := true, recurses := true, apart := false, narrowed := true }
def CodeCatUptoSaid : Prop := codeCatUptoRow.holds Try.pinned (OpenSpec.upto codeCatSpec)

/-- 'pressmarklaw08.CodeCheck', WHERE WHAT IT READS IS OF BULK AT MOST 1048576: true; the input reads as it did. -/
def codeCheckUptoRow : OpenClaim := { program := "ytkicaimondpceaa", sum := "c9d5c757fdc7a9aaf0be264069bd02511a6696ba150d1316f0a121d349e48eef", func := "pressmark/pressmarklaw08.CodeCheck", spec := "codeCheck", unfollowed := true, recurses := true, apart := false, narrowed := true }
def CodeCheckUptoSaid : Prop := codeCheckUptoRow.holds Try.pinned (OpenSpec.upto codeCheckSpec)

/-- 'pressmarklaw08.CodeForms', WHERE WHAT IT READS IS OF BULK AT MOST 1048576: true; the input reads as it did. -/
def codeFormsUptoRow : OpenClaim := { program := "ytkicaimondpceaa", sum := "c9d5c757fdc7a9aaf0be264069bd02511a6696ba150d1316f0a121d349e48eef", func := "pressmark/pressmarklaw08.CodeForms", spec := "codeForms", unfollowed := true, recurses := true, apart := false, narrowed := true }
def CodeFormsUptoSaid : Prop := codeFormsUptoRow.holds Try.pinned (OpenSpec.upto codeFormsSpec)

end Rows
end Go.Proofs.Ytkicaimondpceaa
