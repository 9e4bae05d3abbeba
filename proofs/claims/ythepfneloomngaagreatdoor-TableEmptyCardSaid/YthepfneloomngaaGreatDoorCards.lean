/-
  DERIVED. GIVEN WITH THE SEED: THE CARDS: each row of YthepfneloomngaaGreatDoorRows.lean that lists a variable, with what it lists TIED to the program's text (the seventh form; the later family's looks); each row that meets fmt, with fmt's text TOLD by the authors' own Lean function (tested against real Go, not proved from fmt's source: count such statements apart). THE CARD IS WHAT COUNTS. Prove the row's statement (the work); the ties are given (YthepfneloomngaaGreatDoorTie.lean); close each card by the builder's one call (the guide's Derived/Test/ToyasCard.lean, 'card_holds'). Laid BY PROGRAM, IN A SANDBOX (cutbox-door.mjs). By AI agents, Wed Nov 11 2026. No macro, syntax, notation, axiom, sorry.
-/
import Derived.Test.YthepfneloomngaaGreatDoorRows
import GoSem.ClaimSeven
namespace Go.Proofs.YthepfneloomngaaGreatDoor
namespace Rows

/-- THE TIED CARD OF 'depositorylaw11.TableBoots'. -/
def tableBootsCard : Claim7 := { stood := { row := tableBootsRow, standIns := [], harness := (true, "cb708e461c011ed0a97a38f7045e8e234e91bc944869db4fe4043f9cdac9c2a6"), looks := false }, kinds := [], alts := [], laidByText := true, laidKinds := [.data, .wider, .wider, .wider, .wider, .wider, .wider, .wider, .wider, .wider, .wider, .pinned], laidTests := true, laidLooks := .later }
def TableBootsCardSaid : Prop := Claim7.holds Tryz.pinned (.plain (OpenSpec.ofChange tableBootsSpec)) tableBootsCard

/-- THE TIED CARD OF 'depositorylaw11.TableMirrors'. -/
def tableMirrorsCard : Claim7 := { stood := { row := tableMirrorsRow, standIns := [], harness := (true, "cb708e461c011ed0a97a38f7045e8e234e91bc944869db4fe4043f9cdac9c2a6"), looks := false }, kinds := [], alts := [], laidByText := true, laidKinds := [.data, .wider, .wider, .wider, .wider, .wider, .wider, .wider, .wider, .wider, .wider, .pinned], laidTests := true, laidLooks := .later }
def TableMirrorsCardSaid : Prop := Claim7.holds Tryz.pinned (.plain (OpenSpec.ofChange tableMirrorsSpec)) tableMirrorsCard

/-- THE TIED CARD OF 'depositorylaw11.TableReads'. -/
def tableReadsCard : Claim7 := { stood := { row := tableReadsRow, standIns := [], harness := (true, "cb708e461c011ed0a97a38f7045e8e234e91bc944869db4fe4043f9cdac9c2a6"), looks := false }, kinds := [], alts := [], laidByText := true, laidKinds := [.data, .wider, .wider, .wider, .wider, .wider, .wider, .wider, .wider, .wider, .wider, .pinned], laidTests := true, laidLooks := .later }
def TableReadsCardSaid : Prop := Claim7.holds Tryz.pinned (.plain (OpenSpec.ofChange tableReadsSpec)) tableReadsCard

/-- THE TIED CARD OF 'depositorylaw11.TableDisks'. -/
def tableDisksCard : Claim7 := { stood := { row := tableDisksRow, standIns := [], harness := (true, "cb708e461c011ed0a97a38f7045e8e234e91bc944869db4fe4043f9cdac9c2a6"), looks := false }, kinds := [], alts := [], laidByText := true, laidKinds := [.data, .wider, .wider, .wider, .wider, .wider, .wider, .wider, .wider, .wider, .wider, .pinned], laidTests := true, laidLooks := .later }
def TableDisksCardSaid : Prop := Claim7.holds Tryz.pinned (.plain (OpenSpec.ofChange tableDisksSpec)) tableDisksCard

/-- THE TIED CARD OF 'depositorylaw11.TableEmpty'. -/
def tableEmptyCard : Claim7 := { stood := { row := tableEmptyRow, standIns := [], harness := (true, "cb708e461c011ed0a97a38f7045e8e234e91bc944869db4fe4043f9cdac9c2a6"), looks := false }, kinds := [], alts := [], laidByText := true, laidKinds := [.data, .wider, .wider, .wider, .wider, .wider, .wider, .wider, .wider, .wider, .wider, .pinned], laidTests := true, laidLooks := .later }
def TableEmptyCardSaid : Prop := Claim7.holds Tryz.pinned (.plain (OpenSpec.ofChange tableEmptySpec)) tableEmptyCard

/-- THE TIED CARD OF 'depositorylaw11.TableOpens'. -/
def tableOpensCard : Claim7 := { stood := { row := tableOpensRow, standIns := [], harness := (true, "cb708e461c011ed0a97a38f7045e8e234e91bc944869db4fe4043f9cdac9c2a6"), looks := false }, kinds := [], alts := [], laidByText := true, laidKinds := [.data, .wider, .wider, .wider, .wider, .wider, .wider, .wider, .wider, .wider, .wider, .pinned], laidTests := true, laidLooks := .later }
def TableOpensCardSaid : Prop := Claim7.holds Tryz.pinned (.plain (OpenSpec.ofChange tableOpensSpec)) tableOpensCard

/-- THE TIED CARD OF 'depositorylaw11.TableWrites'. -/
def tableWritesCard : Claim7 := { stood := { row := tableWritesRow, standIns := [], harness := (true, "cb708e461c011ed0a97a38f7045e8e234e91bc944869db4fe4043f9cdac9c2a6"), looks := false }, kinds := [], alts := [], laidByText := true, laidKinds := [.data, .wider, .wider, .wider, .wider, .wider, .wider, .wider, .wider, .wider, .wider, .pinned], laidTests := true, laidLooks := .later }
def TableWritesCardSaid : Prop := Claim7.holds Tryz.pinned (.plain (OpenSpec.ofChange tableWritesSpec)) tableWritesCard

/-- THE TIED CARD OF 'depositorylaw11.TableGrows'. -/
def tableGrowsCard : Claim7 := { stood := { row := tableGrowsRow, standIns := [], harness := (true, "cb708e461c011ed0a97a38f7045e8e234e91bc944869db4fe4043f9cdac9c2a6"), looks := false }, kinds := [], alts := [], laidByText := true, laidKinds := [.data, .wider, .wider, .wider, .wider, .wider, .wider, .wider, .wider, .wider, .wider, .pinned], laidTests := true, laidLooks := .later }
def TableGrowsCardSaid : Prop := Claim7.holds Tryz.pinned (.plain (OpenSpec.ofChange tableGrowsSpec)) tableGrowsCard

/-- THE SECOND FORM's CARD OF 'depositorylaw11.TableBoots'. -/
def tableBootsUptoCard : Claim7 := { stood := { row := tableBootsUptoRow, standIns := [], harness := (true, "cb708e461c011ed0a97a38f7045e8e234e91bc944869db4fe4043f9cdac9c2a6"), looks := false }, kinds := [], alts := [], laidByText := true, laidKinds := [.data, .wider, .wider, .wider, .wider, .wider, .wider, .wider, .wider, .wider, .wider, .pinned], laidTests := true, laidLooks := .later }
def TableBootsUptoCardSaid : Prop := Claim7.holds Tryz.pinned (.plain (OpenSpec.upto tableBootsSpec)) tableBootsUptoCard

/-- THE SECOND FORM's CARD OF 'depositorylaw11.TableMirrors'. -/
def tableMirrorsUptoCard : Claim7 := { stood := { row := tableMirrorsUptoRow, standIns := [], harness := (true, "cb708e461c011ed0a97a38f7045e8e234e91bc944869db4fe4043f9cdac9c2a6"), looks := false }, kinds := [], alts := [], laidByText := true, laidKinds := [.data, .wider, .wider, .wider, .wider, .wider, .wider, .wider, .wider, .wider, .wider, .pinned], laidTests := true, laidLooks := .later }
def TableMirrorsUptoCardSaid : Prop := Claim7.holds Tryz.pinned (.plain (OpenSpec.upto tableMirrorsSpec)) tableMirrorsUptoCard

/-- THE SECOND FORM's CARD OF 'depositorylaw11.TableReads'. -/
def tableReadsUptoCard : Claim7 := { stood := { row := tableReadsUptoRow, standIns := [], harness := (true, "cb708e461c011ed0a97a38f7045e8e234e91bc944869db4fe4043f9cdac9c2a6"), looks := false }, kinds := [], alts := [], laidByText := true, laidKinds := [.data, .wider, .wider, .wider, .wider, .wider, .wider, .wider, .wider, .wider, .wider, .pinned], laidTests := true, laidLooks := .later }
def TableReadsUptoCardSaid : Prop := Claim7.holds Tryz.pinned (.plain (OpenSpec.upto tableReadsSpec)) tableReadsUptoCard

/-- THE SECOND FORM's CARD OF 'depositorylaw11.TableDisks'. -/
def tableDisksUptoCard : Claim7 := { stood := { row := tableDisksUptoRow, standIns := [], harness := (true, "cb708e461c011ed0a97a38f7045e8e234e91bc944869db4fe4043f9cdac9c2a6"), looks := false }, kinds := [], alts := [], laidByText := true, laidKinds := [.data, .wider, .wider, .wider, .wider, .wider, .wider, .wider, .wider, .wider, .wider, .pinned], laidTests := true, laidLooks := .later }
def TableDisksUptoCardSaid : Prop := Claim7.holds Tryz.pinned (.plain (OpenSpec.upto tableDisksSpec)) tableDisksUptoCard

/-- THE SECOND FORM's CARD OF 'depositorylaw11.TableEmpty'. -/
def tableEmptyUptoCard : Claim7 := { stood := { row := tableEmptyUptoRow, standIns := [], harness := (true, "cb708e461c011ed0a97a38f7045e8e234e91bc944869db4fe4043f9cdac9c2a6"), looks := false }, kinds := [], alts := [], laidByText := true, laidKinds := [.data, .wider, .wider, .wider, .wider, .wider, .wider, .wider, .wider, .wider, .wider, .pinned], laidTests := true, laidLooks := .later }
def TableEmptyUptoCardSaid : Prop := Claim7.holds Tryz.pinned (.plain (OpenSpec.upto tableEmptySpec)) tableEmptyUptoCard

/-- THE SECOND FORM's CARD OF 'depositorylaw11.TableOpens'. -/
def tableOpensUptoCard : Claim7 := { stood := { row := tableOpensUptoRow, standIns := [], harness := (true, "cb708e461c011ed0a97a38f7045e8e234e91bc944869db4fe4043f9cdac9c2a6"), looks := false }, kinds := [], alts := [], laidByText := true, laidKinds := [.data, .wider, .wider, .wider, .wider, .wider, .wider, .wider, .wider, .wider, .wider, .pinned], laidTests := true, laidLooks := .later }
def TableOpensUptoCardSaid : Prop := Claim7.holds Tryz.pinned (.plain (OpenSpec.upto tableOpensSpec)) tableOpensUptoCard

/-- THE SECOND FORM's CARD OF 'depositorylaw11.TableWrites'. -/
def tableWritesUptoCard : Claim7 := { stood := { row := tableWritesUptoRow, standIns := [], harness := (true, "cb708e461c011ed0a97a38f7045e8e234e91bc944869db4fe4043f9cdac9c2a6"), looks := false }, kinds := [], alts := [], laidByText := true, laidKinds := [.data, .wider, .wider, .wider, .wider, .wider, .wider, .wider, .wider, .wider, .wider, .pinned], laidTests := true, laidLooks := .later }
def TableWritesUptoCardSaid : Prop := Claim7.holds Tryz.pinned (.plain (OpenSpec.upto tableWritesSpec)) tableWritesUptoCard

/-- THE SECOND FORM's CARD OF 'depositorylaw11.TableGrows'. -/
def tableGrowsUptoCard : Claim7 := { stood := { row := tableGrowsUptoRow, standIns := [], harness := (true, "cb708e461c011ed0a97a38f7045e8e234e91bc944869db4fe4043f9cdac9c2a6"), looks := false }, kinds := [], alts := [], laidByText := true, laidKinds := [.data, .wider, .wider, .wider, .wider, .wider, .wider, .wider, .wider, .wider, .wider, .pinned], laidTests := true, laidLooks := .later }
def TableGrowsUptoCardSaid : Prop := Claim7.holds Tryz.pinned (.plain (OpenSpec.upto tableGrowsSpec)) tableGrowsUptoCard
end Rows
end Go.Proofs.YthepfneloomngaaGreatDoor
