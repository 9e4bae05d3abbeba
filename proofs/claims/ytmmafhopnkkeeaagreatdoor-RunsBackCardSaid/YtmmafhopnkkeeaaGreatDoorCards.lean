/-
  DERIVED. GIVEN WITH THE SEED: THE CARDS: each row of YtmmafhopnkkeeaaGreatDoorRows.lean that lists a variable, with what it lists TIED to the program's text (the seventh form; the later family's looks); each row that meets fmt, with fmt's text TOLD by the authors' own Lean function (tested against real Go, not proved from fmt's source: count such statements apart). THE CARD IS WHAT COUNTS. Prove the row's statement (the work); the ties are given (YtmmafhopnkkeeaaGreatDoorTie.lean); close each card by the builder's one call (the guide's Derived/Test/ToyasCard.lean, 'card_holds'). Laid BY PROGRAM, IN A SANDBOX (cutbox-door.mjs). By AI agents, Wed Nov 11 2026. No macro, syntax, notation, axiom, sorry.
-/
import Derived.Test.YtmmafhopnkkeeaaGreatDoorRows
import GoSem.ClaimSeven
namespace Go.Proofs.YtmmafhopnkkeeaaGreatDoor
namespace Rows

/-- THE TIED CARD OF 'depositorylaw03.RunsStrings'. -/
def runsStringsCard : Claim7 := { stood := { row := runsStringsRow, standIns := [], harness := (true, "29da4b1656e62914d3f817191de12efd5c99a511efbdb51ad26b39bf1deb59ae"), looks := true }, kinds := [], alts := [], laidByText := true, laidKinds := [.data, .data, .data, .data, .sentinel, .sentinel, .pinned], laidTests := true, laidLooks := .later }
def RunsStringsCardSaid : Prop := Claim7.holds Tryz.pinned (.plain (OpenSpec.ofChange runsStringsSpec)) runsStringsCard

/-- THE TIED CARD OF 'depositorylaw03.RunsBack'. -/
def runsBackCard : Claim7 := { stood := { row := runsBackRow, standIns := [], harness := (true, "29da4b1656e62914d3f817191de12efd5c99a511efbdb51ad26b39bf1deb59ae"), looks := true }, kinds := [], alts := [], laidByText := true, laidKinds := [.data, .data, .data, .data, .sentinel, .sentinel, .pinned], laidTests := true, laidLooks := .later }
def RunsBackCardSaid : Prop := Claim7.holds Tryz.pinned (.plain (OpenSpec.ofChange runsBackSpec)) runsBackCard

/-- THE TIED CARD OF 'depositorylaw08.AttributeKeys'. -/
def attributeKeysCard : Claim7 := { stood := { row := attributeKeysRow, standIns := [], harness := (true, "29da4b1656e62914d3f817191de12efd5c99a511efbdb51ad26b39bf1deb59ae"), looks := true }, kinds := [], alts := [], laidByText := true, laidKinds := [.data, .data, .data, .data, .sentinel, .sentinel, .pinned], laidTests := true, laidLooks := .later }
def AttributeKeysCardSaid : Prop := Claim7.holds Tryz.pinned (.plain (OpenSpec.ofChange attributeKeysSpec)) attributeKeysCard

/-- THE SECOND FORM's CARD OF 'depositorylaw03.RunsStrings'. -/
def runsStringsUptoCard : Claim7 := { stood := { row := runsStringsUptoRow, standIns := [], harness := (true, "29da4b1656e62914d3f817191de12efd5c99a511efbdb51ad26b39bf1deb59ae"), looks := true }, kinds := [], alts := [], laidByText := true, laidKinds := [.data, .data, .data, .data, .sentinel, .sentinel, .pinned], laidTests := true, laidLooks := .later }
def RunsStringsUptoCardSaid : Prop := Claim7.holds Tryz.pinned (.plain (OpenSpec.upto runsStringsSpec)) runsStringsUptoCard

/-- THE SECOND FORM's CARD OF 'depositorylaw03.RunsBack'. -/
def runsBackUptoCard : Claim7 := { stood := { row := runsBackUptoRow, standIns := [], harness := (true, "29da4b1656e62914d3f817191de12efd5c99a511efbdb51ad26b39bf1deb59ae"), looks := true }, kinds := [], alts := [], laidByText := true, laidKinds := [.data, .data, .data, .data, .sentinel, .sentinel, .pinned], laidTests := true, laidLooks := .later }
def RunsBackUptoCardSaid : Prop := Claim7.holds Tryz.pinned (.plain (OpenSpec.upto runsBackSpec)) runsBackUptoCard

/-- THE SECOND FORM's CARD OF 'depositorylaw08.AttributeKeys'. -/
def attributeKeysUptoCard : Claim7 := { stood := { row := attributeKeysUptoRow, standIns := [], harness := (true, "29da4b1656e62914d3f817191de12efd5c99a511efbdb51ad26b39bf1deb59ae"), looks := true }, kinds := [], alts := [], laidByText := true, laidKinds := [.data, .data, .data, .data, .sentinel, .sentinel, .pinned], laidTests := true, laidLooks := .later }
def AttributeKeysUptoCardSaid : Prop := Claim7.holds Tryz.pinned (.plain (OpenSpec.upto attributeKeysSpec)) attributeKeysUptoCard
end Rows
end Go.Proofs.YtmmafhopnkkeeaaGreatDoor
