/-
  DERIVED. GIVEN WITH THE SEED: THE CARDS: each row of YtgdjbbnicgfohabGreatDoorRows.lean that lists a variable, with what it lists TIED to the program's text (the seventh form; the later family's looks); each row that meets fmt, with fmt's text TOLD by the authors' own Lean function (tested against real Go, not proved from fmt's source: count such statements apart). THE CARD IS WHAT COUNTS. Prove the row's statement (the work); the ties are given (YtgdjbbnicgfohabGreatDoorTie.lean); close each card by the builder's one call (the guide's Derived/Test/ToyasCard.lean, 'card_holds'). Laid BY PROGRAM, IN A SANDBOX (cutbox-door.mjs). By AI agents, Wed Nov 11 2026. No macro, syntax, notation, axiom, sorry.
-/
import Derived.Test.YtgdjbbnicgfohabGreatDoorRows
import GoSem.ClaimSeven
namespace Go.Proofs.YtgdjbbnicgfohabGreatDoor
namespace Rows

/-- THE TIED CARD OF 'depositorylaw11.TableReads'. -/
def tableReadsCard : Claim7 := { stood := { row := tableReadsRow, standIns := [], harness := (true, "3d88d79af044efa9099ca51c2582c1dc2a4f9124c4b6f30c84f2d431eba28f79"), looks := false }, kinds := [], alts := [], laidByText := true, laidKinds := [.data, .wider, .wider, .wider, .wider, .wider, .wider, .wider, .wider, .wider, .wider, .pinned], laidTests := true, laidLooks := .later }
def TableReadsCardSaid : Prop := Claim7.holds Tryz.pinned (.plain (OpenSpec.ofChange tableReadsSpec)) tableReadsCard

/-- THE SECOND FORM's CARD OF 'depositorylaw11.TableReads'. -/
def tableReadsUptoCard : Claim7 := { stood := { row := tableReadsUptoRow, standIns := [], harness := (true, "3d88d79af044efa9099ca51c2582c1dc2a4f9124c4b6f30c84f2d431eba28f79"), looks := false }, kinds := [], alts := [], laidByText := true, laidKinds := [.data, .wider, .wider, .wider, .wider, .wider, .wider, .wider, .wider, .wider, .wider, .pinned], laidTests := true, laidLooks := .later }
def TableReadsUptoCardSaid : Prop := Claim7.holds Tryz.pinned (.plain (OpenSpec.upto tableReadsSpec)) tableReadsUptoCard
end Rows
end Go.Proofs.YtgdjbbnicgfohabGreatDoor
