/-
  DERIVED. GIVEN WITH THE SEED: THE CARDS: each row of YtalhnjjchkmfeaaGreatDoorRows.lean that lists a variable, with what it lists TIED to the program's text (the seventh form; the later family's looks); each row that meets fmt, with fmt's text TOLD by the authors' own Lean function (tested against real Go, not proved from fmt's source: count such statements apart). THE CARD IS WHAT COUNTS. Prove the row's statement (the work); the ties are given (YtalhnjjchkmfeaaGreatDoorTie.lean); close each card by the builder's one call (the guide's Derived/Test/ToyasCard.lean, 'card_holds'). Laid BY PROGRAM, IN A SANDBOX (cutbox-door.mjs). By AI agents, Wed Nov 11 2026. No macro, syntax, notation, axiom, sorry.
-/
import Derived.Test.YtalhnjjchkmfeaaGreatDoorRows
import GoSem.ClaimSeven
namespace Go.Proofs.YtalhnjjchkmfeaaGreatDoor
namespace Rows

/-- THE TIED CARD OF 'depositorylaw11.TableMirrors'. -/
def tableMirrorsCard : Claim7 := { stood := { row := tableMirrorsRow, standIns := [], harness := (true, "f645cf04a6dfaed1023291a72c158105d80179af9f254de390a0aca3b6242534"), looks := false }, kinds := [], alts := [], laidByText := true, laidKinds := [.data, .wider, .wider, .wider, .wider, .wider, .wider, .wider, .wider, .wider, .wider, .pinned], laidTests := true, laidLooks := .later }
def TableMirrorsCardSaid : Prop := Claim7.holds Tryz.pinned (.plain (OpenSpec.ofChange tableMirrorsSpec)) tableMirrorsCard

/-- THE SECOND FORM's CARD OF 'depositorylaw11.TableMirrors'. -/
def tableMirrorsUptoCard : Claim7 := { stood := { row := tableMirrorsUptoRow, standIns := [], harness := (true, "f645cf04a6dfaed1023291a72c158105d80179af9f254de390a0aca3b6242534"), looks := false }, kinds := [], alts := [], laidByText := true, laidKinds := [.data, .wider, .wider, .wider, .wider, .wider, .wider, .wider, .wider, .wider, .wider, .pinned], laidTests := true, laidLooks := .later }
def TableMirrorsUptoCardSaid : Prop := Claim7.holds Tryz.pinned (.plain (OpenSpec.upto tableMirrorsSpec)) tableMirrorsUptoCard
end Rows
end Go.Proofs.YtalhnjjchkmfeaaGreatDoor
