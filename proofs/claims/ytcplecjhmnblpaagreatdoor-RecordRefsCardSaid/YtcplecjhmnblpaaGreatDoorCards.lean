/-
  DERIVED. GIVEN WITH THE SEED: THE CARDS: each row of YtcplecjhmnblpaaGreatDoorRows.lean that lists a variable, with what it lists TIED to the program's text (the seventh form; the later family's looks); each row that meets fmt, with fmt's text TOLD by the authors' own Lean function (tested against real Go, not proved from fmt's source: count such statements apart). THE CARD IS WHAT COUNTS. Prove the row's statement (the work); the ties are given (YtcplecjhmnblpaaGreatDoorTie.lean); close each card by the builder's one call (the guide's Derived/Test/ToyasCard.lean, 'card_holds'). Laid BY PROGRAM, IN A SANDBOX (cutbox-door.mjs). By AI agents, Wed Nov 11 2026. No macro, syntax, notation, axiom, sorry.
-/
import Derived.Test.YtcplecjhmnblpaaGreatDoorRows
import GoSem.ClaimSeven
namespace Go.Proofs.YtcplecjhmnblpaaGreatDoor
namespace Rows

/-- THE TIED CARD OF 'depositorylaw09.RecordChecks'. -/
def recordChecksCard : Claim7 := { stood := { row := recordChecksRow, standIns := [], harness := (true, "1ce9360427fb041e8d4a0c95897df6d8491d08b0ef170487f34774ea18aa9e69"), looks := true }, kinds := [], alts := [], laidByText := true, laidKinds := [.data, .data, .data, .data, .wider, .wider, .wider, .wider, .wider, .wider, .wider, .wider, .wider, .wider, .pinned], laidTests := true, laidLooks := .later }
def RecordChecksCardSaid : Prop := Claim7.holds Tryz.pinned (.plain (OpenSpec.ofChange recordChecksSpec)) recordChecksCard

/-- THE TIED CARD OF 'depositorylaw09.RecordChanges'. -/
def recordChangesCard : Claim7 := { stood := { row := recordChangesRow, standIns := [], harness := (true, "1ce9360427fb041e8d4a0c95897df6d8491d08b0ef170487f34774ea18aa9e69"), looks := true }, kinds := [], alts := [], laidByText := true, laidKinds := [.data, .data, .data, .data, .wider, .wider, .wider, .wider, .wider, .wider, .wider, .wider, .wider, .wider, .pinned], laidTests := true, laidLooks := .later }
def RecordChangesCardSaid : Prop := Claim7.holds Tryz.pinned (.plain (OpenSpec.ofChange recordChangesSpec)) recordChangesCard

/-- THE TIED CARD OF 'depositorylaw09.RecordDrops'. -/
def recordDropsCard : Claim7 := { stood := { row := recordDropsRow, standIns := [], harness := (true, "1ce9360427fb041e8d4a0c95897df6d8491d08b0ef170487f34774ea18aa9e69"), looks := true }, kinds := [], alts := [], laidByText := true, laidKinds := [.data, .data, .data, .data, .wider, .wider, .wider, .wider, .wider, .wider, .wider, .wider, .wider, .wider, .pinned], laidTests := true, laidLooks := .later }
def RecordDropsCardSaid : Prop := Claim7.holds Tryz.pinned (.plain (OpenSpec.ofChange recordDropsSpec)) recordDropsCard

/-- THE TIED CARD OF 'depositorylaw09.RecordBack'. -/
def recordBackCard : Claim7 := { stood := { row := recordBackRow, standIns := [], harness := (true, "1ce9360427fb041e8d4a0c95897df6d8491d08b0ef170487f34774ea18aa9e69"), looks := true }, kinds := [], alts := [], laidByText := true, laidKinds := [.data, .data, .data, .data, .wider, .wider, .wider, .wider, .wider, .wider, .wider, .wider, .wider, .wider, .pinned], laidTests := true, laidLooks := .later }
def RecordBackCardSaid : Prop := Claim7.holds Tryz.pinned (.plain (OpenSpec.ofChange recordBackSpec)) recordBackCard

/-- THE TIED CARD OF 'depositorylaw09.RecordRewrites'. -/
def recordRewritesCard : Claim7 := { stood := { row := recordRewritesRow, standIns := [], harness := (true, "1ce9360427fb041e8d4a0c95897df6d8491d08b0ef170487f34774ea18aa9e69"), looks := true }, kinds := [], alts := [], laidByText := true, laidKinds := [.data, .data, .data, .data, .wider, .wider, .wider, .wider, .wider, .wider, .wider, .wider, .wider, .wider, .pinned], laidTests := true, laidLooks := .later }
def RecordRewritesCardSaid : Prop := Claim7.holds Tryz.pinned (.plain (OpenSpec.ofChange recordRewritesSpec)) recordRewritesCard

/-- THE TIED CARD OF 'depositorylaw09.RecordTorn'. -/
def recordTornCard : Claim7 := { stood := { row := recordTornRow, standIns := [], harness := (true, "1ce9360427fb041e8d4a0c95897df6d8491d08b0ef170487f34774ea18aa9e69"), looks := true }, kinds := [], alts := [], laidByText := true, laidKinds := [.data, .data, .data, .data, .wider, .wider, .wider, .wider, .wider, .wider, .wider, .wider, .wider, .wider, .pinned], laidTests := true, laidLooks := .later }
def RecordTornCardSaid : Prop := Claim7.holds Tryz.pinned (.plain (OpenSpec.ofChange recordTornSpec)) recordTornCard

/-- THE TIED CARD OF 'depositorylaw09.RecordBytes'. -/
def recordBytesCard : Claim7 := { stood := { row := recordBytesRow, standIns := [], harness := (true, "1ce9360427fb041e8d4a0c95897df6d8491d08b0ef170487f34774ea18aa9e69"), looks := true }, kinds := [], alts := [], laidByText := true, laidKinds := [.data, .data, .data, .data, .data, .wider, .wider, .wider, .wider, .wider, .wider, .wider, .wider, .wider, .wider, .pinned], laidTests := true, laidLooks := .later }
def RecordBytesCardSaid : Prop := Claim7.holds Tryz.pinned (.plain (OpenSpec.ofChange recordBytesSpec)) recordBytesCard

/-- THE TIED CARD OF 'depositorylaw09.RecordRefs'. -/
def recordRefsCard : Claim7 := { stood := { row := recordRefsRow, standIns := [], harness := (true, "1ce9360427fb041e8d4a0c95897df6d8491d08b0ef170487f34774ea18aa9e69"), looks := true }, kinds := [], alts := [], laidByText := true, laidKinds := [.data, .data, .data, .data, .sentinel, .sentinel, .wider, .wider, .wider, .wider, .wider, .wider, .wider, .wider, .wider, .wider, .pinned], laidTests := true, laidLooks := .later }
def RecordRefsCardSaid : Prop := Claim7.holds Tryz.pinned (.plain (OpenSpec.ofChange recordRefsSpec)) recordRefsCard

/-- THE SECOND FORM's CARD OF 'depositorylaw09.RecordChecks'. -/
def recordChecksUptoCard : Claim7 := { stood := { row := recordChecksUptoRow, standIns := [], harness := (true, "1ce9360427fb041e8d4a0c95897df6d8491d08b0ef170487f34774ea18aa9e69"), looks := true }, kinds := [], alts := [], laidByText := true, laidKinds := [.data, .data, .data, .data, .wider, .wider, .wider, .wider, .wider, .wider, .wider, .wider, .wider, .wider, .pinned], laidTests := true, laidLooks := .later }
def RecordChecksUptoCardSaid : Prop := Claim7.holds Tryz.pinned (.plain (OpenSpec.upto recordChecksSpec)) recordChecksUptoCard

/-- THE SECOND FORM's CARD OF 'depositorylaw09.RecordChanges'. -/
def recordChangesUptoCard : Claim7 := { stood := { row := recordChangesUptoRow, standIns := [], harness := (true, "1ce9360427fb041e8d4a0c95897df6d8491d08b0ef170487f34774ea18aa9e69"), looks := true }, kinds := [], alts := [], laidByText := true, laidKinds := [.data, .data, .data, .data, .wider, .wider, .wider, .wider, .wider, .wider, .wider, .wider, .wider, .wider, .pinned], laidTests := true, laidLooks := .later }
def RecordChangesUptoCardSaid : Prop := Claim7.holds Tryz.pinned (.plain (OpenSpec.upto recordChangesSpec)) recordChangesUptoCard

/-- THE SECOND FORM's CARD OF 'depositorylaw09.RecordDrops'. -/
def recordDropsUptoCard : Claim7 := { stood := { row := recordDropsUptoRow, standIns := [], harness := (true, "1ce9360427fb041e8d4a0c95897df6d8491d08b0ef170487f34774ea18aa9e69"), looks := true }, kinds := [], alts := [], laidByText := true, laidKinds := [.data, .data, .data, .data, .wider, .wider, .wider, .wider, .wider, .wider, .wider, .wider, .wider, .wider, .pinned], laidTests := true, laidLooks := .later }
def RecordDropsUptoCardSaid : Prop := Claim7.holds Tryz.pinned (.plain (OpenSpec.upto recordDropsSpec)) recordDropsUptoCard

/-- THE SECOND FORM's CARD OF 'depositorylaw09.RecordBack'. -/
def recordBackUptoCard : Claim7 := { stood := { row := recordBackUptoRow, standIns := [], harness := (true, "1ce9360427fb041e8d4a0c95897df6d8491d08b0ef170487f34774ea18aa9e69"), looks := true }, kinds := [], alts := [], laidByText := true, laidKinds := [.data, .data, .data, .data, .wider, .wider, .wider, .wider, .wider, .wider, .wider, .wider, .wider, .wider, .pinned], laidTests := true, laidLooks := .later }
def RecordBackUptoCardSaid : Prop := Claim7.holds Tryz.pinned (.plain (OpenSpec.upto recordBackSpec)) recordBackUptoCard

/-- THE SECOND FORM's CARD OF 'depositorylaw09.RecordRewrites'. -/
def recordRewritesUptoCard : Claim7 := { stood := { row := recordRewritesUptoRow, standIns := [], harness := (true, "1ce9360427fb041e8d4a0c95897df6d8491d08b0ef170487f34774ea18aa9e69"), looks := true }, kinds := [], alts := [], laidByText := true, laidKinds := [.data, .data, .data, .data, .wider, .wider, .wider, .wider, .wider, .wider, .wider, .wider, .wider, .wider, .pinned], laidTests := true, laidLooks := .later }
def RecordRewritesUptoCardSaid : Prop := Claim7.holds Tryz.pinned (.plain (OpenSpec.upto recordRewritesSpec)) recordRewritesUptoCard

/-- THE SECOND FORM's CARD OF 'depositorylaw09.RecordTorn'. -/
def recordTornUptoCard : Claim7 := { stood := { row := recordTornUptoRow, standIns := [], harness := (true, "1ce9360427fb041e8d4a0c95897df6d8491d08b0ef170487f34774ea18aa9e69"), looks := true }, kinds := [], alts := [], laidByText := true, laidKinds := [.data, .data, .data, .data, .wider, .wider, .wider, .wider, .wider, .wider, .wider, .wider, .wider, .wider, .pinned], laidTests := true, laidLooks := .later }
def RecordTornUptoCardSaid : Prop := Claim7.holds Tryz.pinned (.plain (OpenSpec.upto recordTornSpec)) recordTornUptoCard

/-- THE SECOND FORM's CARD OF 'depositorylaw09.RecordBytes'. -/
def recordBytesUptoCard : Claim7 := { stood := { row := recordBytesUptoRow, standIns := [], harness := (true, "1ce9360427fb041e8d4a0c95897df6d8491d08b0ef170487f34774ea18aa9e69"), looks := true }, kinds := [], alts := [], laidByText := true, laidKinds := [.data, .data, .data, .data, .data, .wider, .wider, .wider, .wider, .wider, .wider, .wider, .wider, .wider, .wider, .pinned], laidTests := true, laidLooks := .later }
def RecordBytesUptoCardSaid : Prop := Claim7.holds Tryz.pinned (.plain (OpenSpec.upto recordBytesSpec)) recordBytesUptoCard

/-- THE SECOND FORM's CARD OF 'depositorylaw09.RecordRefs'. -/
def recordRefsUptoCard : Claim7 := { stood := { row := recordRefsUptoRow, standIns := [], harness := (true, "1ce9360427fb041e8d4a0c95897df6d8491d08b0ef170487f34774ea18aa9e69"), looks := true }, kinds := [], alts := [], laidByText := true, laidKinds := [.data, .data, .data, .data, .sentinel, .sentinel, .wider, .wider, .wider, .wider, .wider, .wider, .wider, .wider, .wider, .wider, .pinned], laidTests := true, laidLooks := .later }
def RecordRefsUptoCardSaid : Prop := Claim7.holds Tryz.pinned (.plain (OpenSpec.upto recordRefsSpec)) recordRefsUptoCard
end Rows
end Go.Proofs.YtcplecjhmnblpaaGreatDoor
