/-
  DERIVED. GIVEN WITH THE SEED: THE CARDS: each row of YtalhnjjchkmfeabGreatDoorRows.lean that lists a variable, with what it lists TIED to the program's text (the seventh form; the later family's looks); each row that meets fmt, with fmt's text TOLD by the authors' own Lean function (tested against real Go, not proved from fmt's source: count such statements apart). THE CARD IS WHAT COUNTS. Prove the row's statement (the work); the ties are given (YtalhnjjchkmfeabGreatDoorTie.lean); close each card by the builder's one call (the guide's Derived/Test/ToyasCard.lean, 'card_holds'). Laid BY PROGRAM, IN A SANDBOX (cutbox-door.mjs). By AI agents, Wed Nov 11 2026. No macro, syntax, notation, axiom, sorry.
-/
import Derived.Test.YtalhnjjchkmfeabGreatDoorRows
import GoSem.ClaimSeven
namespace Go.Proofs.YtalhnjjchkmfeabGreatDoor
namespace Rows

/-- THE TIED CARD OF 'depositorylaw11.TableWrites'. -/
def tableWritesCard : Claim7 := { stood := { row := tableWritesRow, standIns := [], harness := (true, "589be85cfb3bb25d91b597d8681b85cfbf1358ad5fb7c4237a9843e26fdb7396"), looks := false }, kinds := [], alts := [], laidByText := true, laidKinds := [.data, .wider, .wider, .wider, .wider, .wider, .wider, .wider, .wider, .wider, .wider, .pinned], laidTests := true, laidLooks := .later }
def TableWritesCardSaid : Prop := Claim7.holds Tryz.pinned (.plain (OpenSpec.ofChange tableWritesSpec)) tableWritesCard

/-- THE SECOND FORM's CARD OF 'depositorylaw11.TableWrites'. -/
def tableWritesUptoCard : Claim7 := { stood := { row := tableWritesUptoRow, standIns := [], harness := (true, "589be85cfb3bb25d91b597d8681b85cfbf1358ad5fb7c4237a9843e26fdb7396"), looks := false }, kinds := [], alts := [], laidByText := true, laidKinds := [.data, .wider, .wider, .wider, .wider, .wider, .wider, .wider, .wider, .wider, .wider, .pinned], laidTests := true, laidLooks := .later }
def TableWritesUptoCardSaid : Prop := Claim7.holds Tryz.pinned (.plain (OpenSpec.upto tableWritesSpec)) tableWritesUptoCard
end Rows
end Go.Proofs.YtalhnjjchkmfeabGreatDoor
