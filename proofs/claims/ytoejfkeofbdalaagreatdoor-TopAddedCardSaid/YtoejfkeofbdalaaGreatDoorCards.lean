/-
  DERIVED. GIVEN WITH THE SEED: THE CARDS: each row of YtoejfkeofbdalaaGreatDoorRows.lean that lists a variable, with what it lists TIED to the program's text (the seventh form; the later family's looks); each row that meets fmt, with fmt's text TOLD by the authors' own Lean function (tested against real Go, not proved from fmt's source: count such statements apart). THE CARD IS WHAT COUNTS. Prove the row's statement (the work); the ties are given (YtoejfkeofbdalaaGreatDoorTie.lean); close each card by the builder's one call (the guide's Derived/Test/ToyasCard.lean, 'card_holds'). Laid BY PROGRAM, IN A SANDBOX (cutbox-door.mjs). By AI agents, Wed Nov 11 2026. No macro, syntax, notation, axiom, sorry.
-/
import Derived.Test.YtoejfkeofbdalaaGreatDoorRows
import GoSem.ClaimSeven
namespace Go.Proofs.YtoejfkeofbdalaaGreatDoor
namespace Rows

/-- THE TIED CARD OF 'pressmarktop.TopAdded'. -/
def topAddedCard : Claim7 := { stood := { row := topAddedRow, standIns := [], harness := (true, "1165fa2518f2c4214681ab53fd5bc205ee95a7fa3ae4b30a7e9106f60a68fd90"), looks := true }, kinds := [], alts := [], laidByText := true, laidKinds := [.data, .data, .data, .data, .handle, .sentinel, .sentinel, .pinned], laidTests := true, laidLooks := .later }
def TopAddedCardSaid : Prop := Claim7.holds Tryz.pinned (.plain (OpenSpec.ofChange topAddedSpec)) topAddedCard

/-- THE TIED CARD OF 'pressmarktop.TopSums'. -/
def topSumsCard : Claim7 := { stood := { row := topSumsRow, standIns := [], harness := (true, "1165fa2518f2c4214681ab53fd5bc205ee95a7fa3ae4b30a7e9106f60a68fd90"), looks := true }, kinds := [], alts := [], laidByText := true, laidKinds := [.data, .data, .data, .data, .handle, .sentinel, .sentinel, .pinned], laidTests := true, laidLooks := .later }
def TopSumsCardSaid : Prop := Claim7.holds Tryz.pinned (.plain (OpenSpec.ofChange topSumsSpec)) topSumsCard

/-- THE TIED CARD OF 'pressmarktop.TopShell'. -/
def topShellCard : Claim7 := { stood := { row := topShellRow, standIns := [], harness := (true, "1165fa2518f2c4214681ab53fd5bc205ee95a7fa3ae4b30a7e9106f60a68fd90"), looks := true }, kinds := [], alts := [], laidByText := true, laidKinds := [.data, .data, .data, .data, .handle, .sentinel, .sentinel, .pinned], laidTests := true, laidLooks := .later }
def TopShellCardSaid : Prop := Claim7.holds Tryz.pinned (.plain (OpenSpec.ofChange topShellSpec)) topShellCard

/-- THE SECOND FORM's CARD OF 'pressmarktop.TopAdded'. -/
def topAddedUptoCard : Claim7 := { stood := { row := topAddedUptoRow, standIns := [], harness := (true, "1165fa2518f2c4214681ab53fd5bc205ee95a7fa3ae4b30a7e9106f60a68fd90"), looks := true }, kinds := [], alts := [], laidByText := true, laidKinds := [.data, .data, .data, .data, .handle, .sentinel, .sentinel, .pinned], laidTests := true, laidLooks := .later }
def TopAddedUptoCardSaid : Prop := Claim7.holds Tryz.pinned (.plain (OpenSpec.upto topAddedSpec)) topAddedUptoCard

/-- THE SECOND FORM's CARD OF 'pressmarktop.TopSums'. -/
def topSumsUptoCard : Claim7 := { stood := { row := topSumsUptoRow, standIns := [], harness := (true, "1165fa2518f2c4214681ab53fd5bc205ee95a7fa3ae4b30a7e9106f60a68fd90"), looks := true }, kinds := [], alts := [], laidByText := true, laidKinds := [.data, .data, .data, .data, .handle, .sentinel, .sentinel, .pinned], laidTests := true, laidLooks := .later }
def TopSumsUptoCardSaid : Prop := Claim7.holds Tryz.pinned (.plain (OpenSpec.upto topSumsSpec)) topSumsUptoCard

/-- THE SECOND FORM's CARD OF 'pressmarktop.TopShell'. -/
def topShellUptoCard : Claim7 := { stood := { row := topShellUptoRow, standIns := [], harness := (true, "1165fa2518f2c4214681ab53fd5bc205ee95a7fa3ae4b30a7e9106f60a68fd90"), looks := true }, kinds := [], alts := [], laidByText := true, laidKinds := [.data, .data, .data, .data, .handle, .sentinel, .sentinel, .pinned], laidTests := true, laidLooks := .later }
def TopShellUptoCardSaid : Prop := Claim7.holds Tryz.pinned (.plain (OpenSpec.upto topShellSpec)) topShellUptoCard
end Rows
end Go.Proofs.YtoejfkeofbdalaaGreatDoor
