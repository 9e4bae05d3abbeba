/-
  DERIVED. GIVEN WITH THE SEED: THE CARDS: each row of YtmognenhkecngaaGreatDoorRows.lean that lists a variable, with what it lists TIED to the program's text (the seventh form; the later family's looks); each row that meets fmt, with fmt's text TOLD by the authors' own Lean function (tested against real Go, not proved from fmt's source: count such statements apart). THE CARD IS WHAT COUNTS. Prove the row's statement (the work); the ties are given (YtmognenhkecngaaGreatDoorTie.lean); close each card by the builder's one call (the guide's Derived/Test/ToyasCard.lean, 'card_holds'). Laid BY PROGRAM, IN A SANDBOX (cutbox-door.mjs). By AI agents, Wed Nov 11 2026. No macro, syntax, notation, axiom, sorry.
-/
import Derived.Test.YtmognenhkecngaaGreatDoorRows
import GoSem.ClaimSeven
namespace Go.Proofs.YtmognenhkecngaaGreatDoor
namespace Rows

/-- THE TIED CARD OF 'depositorylaw08.AttributeMoves'. -/
def attributeMovesCard : Claim7 := { stood := { row := attributeMovesRow, standIns := [], harness := (true, "80aca7256a734ca82089646bfd65c41a205b21f5f8c97dfc4b6b131177ec9aeb"), looks := true }, kinds := [], alts := [], laidByText := true, laidKinds := [.data, .data, .data], laidTests := true, laidLooks := .later }
def AttributeMovesCardSaid : Prop := Claim7.holds Tryz.pinned (.plain (OpenSpec.ofChange attributeMovesSpec)) attributeMovesCard

/-- THE TIED CARD OF 'depositorylaw08.AttributeSplits'. -/
def attributeSplitsCard : Claim7 := { stood := { row := attributeSplitsRow, standIns := [], harness := (true, "80aca7256a734ca82089646bfd65c41a205b21f5f8c97dfc4b6b131177ec9aeb"), looks := true }, kinds := [], alts := [], laidByText := true, laidKinds := [.data, .data, .data], laidTests := true, laidLooks := .later }
def AttributeSplitsCardSaid : Prop := Claim7.holds Tryz.pinned (.plain (OpenSpec.ofChange attributeSplitsSpec)) attributeSplitsCard

/-- THE TIED CARD OF 'depositorylaw08.AttributeWholes'. -/
def attributeWholesCard : Claim7 := { stood := { row := attributeWholesRow, standIns := [], harness := (true, "80aca7256a734ca82089646bfd65c41a205b21f5f8c97dfc4b6b131177ec9aeb"), looks := true }, kinds := [], alts := [], laidByText := true, laidKinds := [.data, .data, .data], laidTests := true, laidLooks := .later }
def AttributeWholesCardSaid : Prop := Claim7.holds Tryz.pinned (.plain (OpenSpec.ofChange attributeWholesSpec)) attributeWholesCard

/-- THE TIED CARD OF 'depositorylaw08.AttributeOrder'. -/
def attributeOrderCard : Claim7 := { stood := { row := attributeOrderRow, standIns := [], harness := (true, "80aca7256a734ca82089646bfd65c41a205b21f5f8c97dfc4b6b131177ec9aeb"), looks := true }, kinds := [], alts := [], laidByText := true, laidKinds := [.data, .data, .data], laidTests := true, laidLooks := .later }
def AttributeOrderCardSaid : Prop := Claim7.holds Tryz.pinned (.plain (OpenSpec.ofChange attributeOrderSpec)) attributeOrderCard

/-- THE TIED CARD OF 'depositorylaw08.AttributeBytes'. -/
def attributeBytesCard : Claim7 := { stood := { row := attributeBytesRow, standIns := [], harness := (true, "80aca7256a734ca82089646bfd65c41a205b21f5f8c97dfc4b6b131177ec9aeb"), looks := true }, kinds := [], alts := [], laidByText := true, laidKinds := [.data, .data, .data], laidTests := true, laidLooks := .later }
def AttributeBytesCardSaid : Prop := Claim7.holds Tryz.pinned (.plain (OpenSpec.ofChange attributeBytesSpec)) attributeBytesCard

/-- THE TIED CARD OF 'depositorylaw08.AttributeBack'. -/
def attributeBackCard : Claim7 := { stood := { row := attributeBackRow, standIns := [], harness := (true, "80aca7256a734ca82089646bfd65c41a205b21f5f8c97dfc4b6b131177ec9aeb"), looks := true }, kinds := [], alts := [], laidByText := true, laidKinds := [.data, .data, .data], laidTests := true, laidLooks := .later }
def AttributeBackCardSaid : Prop := Claim7.holds Tryz.pinned (.plain (OpenSpec.ofChange attributeBackSpec)) attributeBackCard

/-- THE TIED CARD OF 'depositorylaw08.AttributeSorts'. -/
def attributeSortsCard : Claim7 := { stood := { row := attributeSortsRow, standIns := [], harness := (true, "80aca7256a734ca82089646bfd65c41a205b21f5f8c97dfc4b6b131177ec9aeb"), looks := true }, kinds := [], alts := [], laidByText := true, laidKinds := [.data, .data, .data], laidTests := true, laidLooks := .later }
def AttributeSortsCardSaid : Prop := Claim7.holds Tryz.pinned (.plain (OpenSpec.ofChange attributeSortsSpec)) attributeSortsCard

/-- THE TIED CARD OF 'depositorylaw08.AttributeKeys'. -/
def attributeKeysCard : Claim7 := { stood := { row := attributeKeysRow, standIns := [], harness := (true, "80aca7256a734ca82089646bfd65c41a205b21f5f8c97dfc4b6b131177ec9aeb"), looks := true }, kinds := [], alts := [], laidByText := true, laidKinds := [.data, .data, .data, .data, .sentinel, .sentinel, .pinned], laidTests := true, laidLooks := .later }
def AttributeKeysCardSaid : Prop := Claim7.holds Tryz.pinned (.plain (OpenSpec.ofChange attributeKeysSpec)) attributeKeysCard

/-- THE SECOND FORM's CARD OF 'depositorylaw08.AttributeMoves'. -/
def attributeMovesUptoCard : Claim7 := { stood := { row := attributeMovesUptoRow, standIns := [], harness := (true, "80aca7256a734ca82089646bfd65c41a205b21f5f8c97dfc4b6b131177ec9aeb"), looks := true }, kinds := [], alts := [], laidByText := true, laidKinds := [.data, .data, .data], laidTests := true, laidLooks := .later }
def AttributeMovesUptoCardSaid : Prop := Claim7.holds Tryz.pinned (.plain (OpenSpec.upto attributeMovesSpec)) attributeMovesUptoCard

/-- THE SECOND FORM's CARD OF 'depositorylaw08.AttributeSplits'. -/
def attributeSplitsUptoCard : Claim7 := { stood := { row := attributeSplitsUptoRow, standIns := [], harness := (true, "80aca7256a734ca82089646bfd65c41a205b21f5f8c97dfc4b6b131177ec9aeb"), looks := true }, kinds := [], alts := [], laidByText := true, laidKinds := [.data, .data, .data], laidTests := true, laidLooks := .later }
def AttributeSplitsUptoCardSaid : Prop := Claim7.holds Tryz.pinned (.plain (OpenSpec.upto attributeSplitsSpec)) attributeSplitsUptoCard

/-- THE SECOND FORM's CARD OF 'depositorylaw08.AttributeWholes'. -/
def attributeWholesUptoCard : Claim7 := { stood := { row := attributeWholesUptoRow, standIns := [], harness := (true, "80aca7256a734ca82089646bfd65c41a205b21f5f8c97dfc4b6b131177ec9aeb"), looks := true }, kinds := [], alts := [], laidByText := true, laidKinds := [.data, .data, .data], laidTests := true, laidLooks := .later }
def AttributeWholesUptoCardSaid : Prop := Claim7.holds Tryz.pinned (.plain (OpenSpec.upto attributeWholesSpec)) attributeWholesUptoCard

/-- THE SECOND FORM's CARD OF 'depositorylaw08.AttributeOrder'. -/
def attributeOrderUptoCard : Claim7 := { stood := { row := attributeOrderUptoRow, standIns := [], harness := (true, "80aca7256a734ca82089646bfd65c41a205b21f5f8c97dfc4b6b131177ec9aeb"), looks := true }, kinds := [], alts := [], laidByText := true, laidKinds := [.data, .data, .data], laidTests := true, laidLooks := .later }
def AttributeOrderUptoCardSaid : Prop := Claim7.holds Tryz.pinned (.plain (OpenSpec.upto attributeOrderSpec)) attributeOrderUptoCard

/-- THE SECOND FORM's CARD OF 'depositorylaw08.AttributeBytes'. -/
def attributeBytesUptoCard : Claim7 := { stood := { row := attributeBytesUptoRow, standIns := [], harness := (true, "80aca7256a734ca82089646bfd65c41a205b21f5f8c97dfc4b6b131177ec9aeb"), looks := true }, kinds := [], alts := [], laidByText := true, laidKinds := [.data, .data, .data], laidTests := true, laidLooks := .later }
def AttributeBytesUptoCardSaid : Prop := Claim7.holds Tryz.pinned (.plain (OpenSpec.upto attributeBytesSpec)) attributeBytesUptoCard

/-- THE SECOND FORM's CARD OF 'depositorylaw08.AttributeBack'. -/
def attributeBackUptoCard : Claim7 := { stood := { row := attributeBackUptoRow, standIns := [], harness := (true, "80aca7256a734ca82089646bfd65c41a205b21f5f8c97dfc4b6b131177ec9aeb"), looks := true }, kinds := [], alts := [], laidByText := true, laidKinds := [.data, .data, .data], laidTests := true, laidLooks := .later }
def AttributeBackUptoCardSaid : Prop := Claim7.holds Tryz.pinned (.plain (OpenSpec.upto attributeBackSpec)) attributeBackUptoCard

/-- THE SECOND FORM's CARD OF 'depositorylaw08.AttributeSorts'. -/
def attributeSortsUptoCard : Claim7 := { stood := { row := attributeSortsUptoRow, standIns := [], harness := (true, "80aca7256a734ca82089646bfd65c41a205b21f5f8c97dfc4b6b131177ec9aeb"), looks := true }, kinds := [], alts := [], laidByText := true, laidKinds := [.data, .data, .data], laidTests := true, laidLooks := .later }
def AttributeSortsUptoCardSaid : Prop := Claim7.holds Tryz.pinned (.plain (OpenSpec.upto attributeSortsSpec)) attributeSortsUptoCard

/-- THE SECOND FORM's CARD OF 'depositorylaw08.AttributeKeys'. -/
def attributeKeysUptoCard : Claim7 := { stood := { row := attributeKeysUptoRow, standIns := [], harness := (true, "80aca7256a734ca82089646bfd65c41a205b21f5f8c97dfc4b6b131177ec9aeb"), looks := true }, kinds := [], alts := [], laidByText := true, laidKinds := [.data, .data, .data, .data, .sentinel, .sentinel, .pinned], laidTests := true, laidLooks := .later }
def AttributeKeysUptoCardSaid : Prop := Claim7.holds Tryz.pinned (.plain (OpenSpec.upto attributeKeysSpec)) attributeKeysUptoCard
end Rows
end Go.Proofs.YtmognenhkecngaaGreatDoor
