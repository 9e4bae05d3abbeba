/-
  DERIVED. GIVEN WITH THE SEED: THE CARDS: each row of YtinageiefahjfaaDoorRows.lean that lists a variable, with what it lists TIED to the program's text (the seventh form; the later family's looks); each row that meets fmt, with fmt's text TOLD by the authors' own Lean function (tested against real Go, not proved from fmt's source: count such statements apart). THE CARD IS WHAT COUNTS. Prove the row's statement (the work); the ties are given (YtinageiefahjfaaDoorTie.lean); close each card by the builder's one call (the guide's Derived/Test/ToyasCard.lean, 'card_holds'). Laid BY PROGRAM, IN A SANDBOX (cutbox-door.mjs). By AI agents, Wed Nov 11 2026. No macro, syntax, notation, axiom, sorry.
-/
import Derived.Test.YtinageiefahjfaaDoorRows
import GoSem.ClaimSeven
namespace Go.Proofs.YtinageiefahjfaaDoor
namespace Rows

/-- THE TIED CARD OF 'depositorylaw26.OplocksFresh'. -/
def oplocksFreshCard : Claim7 := { stood := { row := oplocksFreshRow, standIns := [], harness := (true, "6bf72598b1645291be6f9b566e4a4220b497e78dc8d307dd6f5de848e7babf60"), looks := false }, kinds := [], alts := [], laidByText := true, laidKinds := [.data, .data, .data, .data], laidTests := true, laidLooks := .later }
def OplocksFreshCardSaid : Prop := Claim7.holds Tryd.pinned (.plain (OpenSpec.ofChange oplocksFreshSpec)) oplocksFreshCard

/-- THE TIED CARD OF 'depositorylaw26.OplocksOne'. -/
def oplocksOneCard : Claim7 := { stood := { row := oplocksOneRow, standIns := [], harness := (true, "6bf72598b1645291be6f9b566e4a4220b497e78dc8d307dd6f5de848e7babf60"), looks := false }, kinds := [], alts := [], laidByText := true, laidKinds := [.data, .data, .data, .data], laidTests := true, laidLooks := .later }
def OplocksOneCardSaid : Prop := Claim7.holds Tryd.pinned (.plain (OpenSpec.ofChange oplocksOneSpec)) oplocksOneCard

/-- THE SECOND FORM's CARD OF 'depositorylaw26.OplocksFresh'. -/
def oplocksFreshUptoCard : Claim7 := { stood := { row := oplocksFreshUptoRow, standIns := [], harness := (true, "6bf72598b1645291be6f9b566e4a4220b497e78dc8d307dd6f5de848e7babf60"), looks := false }, kinds := [], alts := [], laidByText := true, laidKinds := [.data, .data, .data, .data], laidTests := true, laidLooks := .later }
def OplocksFreshUptoCardSaid : Prop := Claim7.holds Tryd.pinned (.plain (OpenSpec.upto oplocksFreshSpec)) oplocksFreshUptoCard

/-- THE SECOND FORM's CARD OF 'depositorylaw26.OplocksOne'. -/
def oplocksOneUptoCard : Claim7 := { stood := { row := oplocksOneUptoRow, standIns := [], harness := (true, "6bf72598b1645291be6f9b566e4a4220b497e78dc8d307dd6f5de848e7babf60"), looks := false }, kinds := [], alts := [], laidByText := true, laidKinds := [.data, .data, .data, .data], laidTests := true, laidLooks := .later }
def OplocksOneUptoCardSaid : Prop := Claim7.holds Tryd.pinned (.plain (OpenSpec.upto oplocksOneSpec)) oplocksOneUptoCard
end Rows
end Go.Proofs.YtinageiefahjfaaDoor
