/-
  DERIVED. GIVEN WITH THE SEED: THE CARDS: each row of YtinageiefahjfaaGreatDoorRows.lean that lists a variable, with what it lists TIED to the program's text (the seventh form; the later family's looks); each row that meets fmt, with fmt's text TOLD by the authors' own Lean function (tested against real Go, not proved from fmt's source: count such statements apart). THE CARD IS WHAT COUNTS. Prove the row's statement (the work); the ties are given (YtinageiefahjfaaGreatDoorTie.lean); close each card by the builder's one call (the guide's Derived/Test/ToyasCard.lean, 'card_holds'). Laid BY PROGRAM, IN A SANDBOX (cutbox-door.mjs). By AI agents, Wed Nov 11 2026. No macro, syntax, notation, axiom, sorry.
-/
import Derived.Test.YtinageiefahjfaaGreatDoorRows
import GoSem.ClaimSeven
namespace Go.Proofs.YtinageiefahjfaaGreatDoor
namespace Rows

/-- THE TIED CARD OF 'depositorylaw26.OplocksErrors'. -/
def oplocksErrorsCard : Claim7 := { stood := { row := oplocksErrorsRow, standIns := [], harness := (true, "7b2b88a9bead18d35b59f34576d9c337ae85f5f683d584a6d93dea763016bfeb"), looks := false }, kinds := [], alts := [], laidByText := true, laidKinds := [.data, .data, .data, .data], laidTests := true, laidLooks := .later }
def OplocksErrorsCardSaid : Prop := Claim7.holds Tryz.pinned (.plain (OpenSpec.ofChange oplocksErrorsSpec)) oplocksErrorsCard

/-- THE TIED CARD OF 'depositorylaw26.OplocksRuns'. -/
def oplocksRunsCard : Claim7 := { stood := { row := oplocksRunsRow, standIns := [], harness := (true, "7b2b88a9bead18d35b59f34576d9c337ae85f5f683d584a6d93dea763016bfeb"), looks := false }, kinds := [], alts := [], laidByText := true, laidKinds := [.data, .data, .data, .data], laidTests := true, laidLooks := .later }
def OplocksRunsCardSaid : Prop := Claim7.holds Tryz.pinned (.plain (OpenSpec.ofChange oplocksRunsSpec)) oplocksRunsCard

/-- THE TIED CARD OF 'depositorylaw26.OplocksCaches'. -/
def oplocksCachesCard : Claim7 := { stood := { row := oplocksCachesRow, standIns := [], harness := (true, "7b2b88a9bead18d35b59f34576d9c337ae85f5f683d584a6d93dea763016bfeb"), looks := false }, kinds := [], alts := [], laidByText := true, laidKinds := [.data, .data, .data, .data], laidTests := true, laidLooks := .later }
def OplocksCachesCardSaid : Prop := Claim7.holds Tryz.pinned (.plain (OpenSpec.ofChange oplocksCachesSpec)) oplocksCachesCard

/-- THE TIED CARD OF 'depositorylaw26.OplocksSteps'. -/
def oplocksStepsCard : Claim7 := { stood := { row := oplocksStepsRow, standIns := [], harness := (true, "7b2b88a9bead18d35b59f34576d9c337ae85f5f683d584a6d93dea763016bfeb"), looks := false }, kinds := [], alts := [], laidByText := true, laidKinds := [.data, .data, .data, .data], laidTests := true, laidLooks := .later }
def OplocksStepsCardSaid : Prop := Claim7.holds Tryz.pinned (.plain (OpenSpec.ofChange oplocksStepsSpec)) oplocksStepsCard

/-- THE TIED CARD OF 'depositorylaw26.OplocksStates'. -/
def oplocksStatesCard : Claim7 := { stood := { row := oplocksStatesRow, standIns := [], harness := (true, "7b2b88a9bead18d35b59f34576d9c337ae85f5f683d584a6d93dea763016bfeb"), looks := false }, kinds := [], alts := [], laidByText := true, laidKinds := [.data, .data, .data, .data], laidTests := true, laidLooks := .later }
def OplocksStatesCardSaid : Prop := Claim7.holds Tryz.pinned (.plain (OpenSpec.ofChange oplocksStatesSpec)) oplocksStatesCard

/-- THE TIED CARD OF 'depositorylaw26.OplocksStrings'. -/
def oplocksStringsCard : Claim7 := { stood := { row := oplocksStringsRow, standIns := [], harness := (true, "7b2b88a9bead18d35b59f34576d9c337ae85f5f683d584a6d93dea763016bfeb"), looks := false }, kinds := [], alts := [], laidByText := true, laidKinds := [.data, .data, .data, .data, .data, .pinned], laidTests := true, laidLooks := .later }
def OplocksStringsCardSaid : Prop := Claim7.holds Tryz.pinned (.plain (OpenSpec.ofChange oplocksStringsSpec)) oplocksStringsCard

/-- THE TIED CARD OF 'depositorytop.TopOplocksSafe'. -/
def topOplocksSafeCard : Claim7 := { stood := { row := topOplocksSafeRow, standIns := [], harness := (true, "7b2b88a9bead18d35b59f34576d9c337ae85f5f683d584a6d93dea763016bfeb"), looks := false }, kinds := [], alts := [], laidByText := true, laidKinds := [.data], laidTests := true, laidLooks := .later }
def TopOplocksSafeCardSaid : Prop := Claim7.holds Tryz.pinned (.plain (OpenSpec.ofChange topOplocksSafeSpec)) topOplocksSafeCard

/-- THE SECOND FORM's CARD OF 'depositorylaw26.OplocksErrors'. -/
def oplocksErrorsUptoCard : Claim7 := { stood := { row := oplocksErrorsUptoRow, standIns := [], harness := (true, "7b2b88a9bead18d35b59f34576d9c337ae85f5f683d584a6d93dea763016bfeb"), looks := false }, kinds := [], alts := [], laidByText := true, laidKinds := [.data, .data, .data, .data], laidTests := true, laidLooks := .later }
def OplocksErrorsUptoCardSaid : Prop := Claim7.holds Tryz.pinned (.plain (OpenSpec.upto oplocksErrorsSpec)) oplocksErrorsUptoCard

/-- THE SECOND FORM's CARD OF 'depositorylaw26.OplocksRuns'. -/
def oplocksRunsUptoCard : Claim7 := { stood := { row := oplocksRunsUptoRow, standIns := [], harness := (true, "7b2b88a9bead18d35b59f34576d9c337ae85f5f683d584a6d93dea763016bfeb"), looks := false }, kinds := [], alts := [], laidByText := true, laidKinds := [.data, .data, .data, .data], laidTests := true, laidLooks := .later }
def OplocksRunsUptoCardSaid : Prop := Claim7.holds Tryz.pinned (.plain (OpenSpec.upto oplocksRunsSpec)) oplocksRunsUptoCard

/-- THE SECOND FORM's CARD OF 'depositorylaw26.OplocksCaches'. -/
def oplocksCachesUptoCard : Claim7 := { stood := { row := oplocksCachesUptoRow, standIns := [], harness := (true, "7b2b88a9bead18d35b59f34576d9c337ae85f5f683d584a6d93dea763016bfeb"), looks := false }, kinds := [], alts := [], laidByText := true, laidKinds := [.data, .data, .data, .data], laidTests := true, laidLooks := .later }
def OplocksCachesUptoCardSaid : Prop := Claim7.holds Tryz.pinned (.plain (OpenSpec.upto oplocksCachesSpec)) oplocksCachesUptoCard

/-- THE SECOND FORM's CARD OF 'depositorylaw26.OplocksSteps'. -/
def oplocksStepsUptoCard : Claim7 := { stood := { row := oplocksStepsUptoRow, standIns := [], harness := (true, "7b2b88a9bead18d35b59f34576d9c337ae85f5f683d584a6d93dea763016bfeb"), looks := false }, kinds := [], alts := [], laidByText := true, laidKinds := [.data, .data, .data, .data], laidTests := true, laidLooks := .later }
def OplocksStepsUptoCardSaid : Prop := Claim7.holds Tryz.pinned (.plain (OpenSpec.upto oplocksStepsSpec)) oplocksStepsUptoCard

/-- THE SECOND FORM's CARD OF 'depositorylaw26.OplocksStates'. -/
def oplocksStatesUptoCard : Claim7 := { stood := { row := oplocksStatesUptoRow, standIns := [], harness := (true, "7b2b88a9bead18d35b59f34576d9c337ae85f5f683d584a6d93dea763016bfeb"), looks := false }, kinds := [], alts := [], laidByText := true, laidKinds := [.data, .data, .data, .data], laidTests := true, laidLooks := .later }
def OplocksStatesUptoCardSaid : Prop := Claim7.holds Tryz.pinned (.plain (OpenSpec.upto oplocksStatesSpec)) oplocksStatesUptoCard

/-- THE SECOND FORM's CARD OF 'depositorylaw26.OplocksStrings'. -/
def oplocksStringsUptoCard : Claim7 := { stood := { row := oplocksStringsUptoRow, standIns := [], harness := (true, "7b2b88a9bead18d35b59f34576d9c337ae85f5f683d584a6d93dea763016bfeb"), looks := false }, kinds := [], alts := [], laidByText := true, laidKinds := [.data, .data, .data, .data, .data, .pinned], laidTests := true, laidLooks := .later }
def OplocksStringsUptoCardSaid : Prop := Claim7.holds Tryz.pinned (.plain (OpenSpec.upto oplocksStringsSpec)) oplocksStringsUptoCard

/-- THE SECOND FORM's CARD OF 'depositorytop.TopOplocksSafe'. -/
def topOplocksSafeUptoCard : Claim7 := { stood := { row := topOplocksSafeUptoRow, standIns := [], harness := (true, "7b2b88a9bead18d35b59f34576d9c337ae85f5f683d584a6d93dea763016bfeb"), looks := false }, kinds := [], alts := [], laidByText := true, laidKinds := [.data], laidTests := true, laidLooks := .later }
def TopOplocksSafeUptoCardSaid : Prop := Claim7.holds Tryz.pinned (.plain (OpenSpec.upto topOplocksSafeSpec)) topOplocksSafeUptoCard
end Rows
end Go.Proofs.YtinageiefahjfaaGreatDoor
