/-
  No cell of these rows narrows 'for every input' (looked for: loops, veiled, ifaces, maps, wideKeys, modest, calm, conditions, laid).
  DERIVED. THE GIVEN ROWS OF THIS SEAT. 6 by the template 'for every input the law returns true; each argument reads behind the call as it read before'; 0 by the template 'total and deterministic' (their statements: YtginjcpblgpcoaaTotals.lean).
  GIVEN WITH THE SEED: the statements are not yours to turn. If you find one false, say at which input.
  Laid BY PROGRAM, IN A SANDBOX (cutbox-rows.mjs): the forced cells as the released guide's own fill.sh prints them over the translation 5c1df05773da6213… (all of the seat's roots in one cut). By AI agents, Wed Nov 11 2026. No macro, syntax, notation, axiom, sorry.
-/
import Derived.Test.YtginjcpblgpcoaaChecked
import GoSem.Claim
import GoSem.ClaimJoined
import GoSem.ClaimMapViews
import Derived.JoinedTies
import Derived.KernelRfl
namespace Go.Proofs.Ytginjcpblgpcoaa
/- THE CELL 'sum', in the pinned program and in every row, IS THE sha256 OF THE DUMP (.gsa) THAT YtginjcpblgpcoaaProg.lean LOADS. Nothing in Lean hashes anything: it is a label: what it is worth is what the hold of that sum in a sandbox is worth. -/
noncomputable def Try.pinned : Pinned := { name := "ytginjcpblgpcoaa", sum := "5c1df05773da6213b1c92a77bc6151bfea2f2d6aaa0f3feaf56c461b20e66895", checked := Try.checked }
namespace Rows
def none {H : Type} : Left H := { results := [], args := [] }

/-- 'depositorylaw03.RunsPlaces': WHATEVER THE INPUT: true; the input reads as it did. -/
def runsPlacesSpec : ChangeSpec := { name := "runsPlaces", fn := fun _ => fun
  | [d1, d2] => { results := [.lit (.bool true)], args := [d1, d2] }
  | _ => none }
def runsPlacesRow : OpenClaim := { program := "ytginjcpblgpcoaa", sum := "5c1df05773da6213b1c92a77bc6151bfea2f2d6aaa0f3feaf56c461b20e66895", func := "depository/depositorylaw03.RunsPlaces", spec := "runsPlaces", apart := false }
def RunsPlacesSaid : Prop := runsPlacesRow.holds Try.pinned (OpenSpec.ofChange runsPlacesSpec)

/-- ITS FALSE NEIGHBOUR: 'it returns false'. Refute it at one input. -/
def runsPlacesWrong : ChangeSpec := { name := "runsPlaces", fn := fun _ => fun
  | [d1, d2] => { results := [.lit (.bool false)], args := [d1, d2] }
  | _ => none }
def RunsPlacesWrongFalsely : Prop := runsPlacesRow.holds Try.pinned (OpenSpec.ofChange runsPlacesWrong)

/-- 'depositorylaw03.RunsChanges': WHATEVER THE INPUT: true; the input reads as it did. -/
def runsChangesSpec : ChangeSpec := { name := "runsChanges", fn := fun _ => fun
  | [d1, d2, d3] => { results := [.lit (.bool true)], args := [d1, d2, d3] }
  | _ => none }
def runsChangesRow : OpenClaim := { program := "ytginjcpblgpcoaa", sum := "5c1df05773da6213b1c92a77bc6151bfea2f2d6aaa0f3feaf56c461b20e66895", func := "depository/depositorylaw03.RunsChanges", spec := "runsChanges", apart := false }
def RunsChangesSaid : Prop := runsChangesRow.holds Try.pinned (OpenSpec.ofChange runsChangesSpec)

/-- ITS FALSE NEIGHBOUR: 'it returns false'. Refute it at one input. -/
def runsChangesWrong : ChangeSpec := { name := "runsChanges", fn := fun _ => fun
  | [d1, d2, d3] => { results := [.lit (.bool false)], args := [d1, d2, d3] }
  | _ => none }
def RunsChangesWrongFalsely : Prop := runsChangesRow.holds Try.pinned (OpenSpec.ofChange runsChangesWrong)

/-- 'depositorylaw03.RunsParts': WHATEVER THE INPUT: true; the input reads as it did. -/
def runsPartsSpec : ChangeSpec := { name := "runsParts", fn := fun _ => fun
  | [d1, d2, d3] => { results := [.lit (.bool true)], args := [d1, d2, d3] }
  | _ => none }
def runsPartsRow : OpenClaim := { program := "ytginjcpblgpcoaa", sum := "5c1df05773da6213b1c92a77bc6151bfea2f2d6aaa0f3feaf56c461b20e66895", func := "depository/depositorylaw03.RunsParts", spec := "runsParts", apart := false }
def RunsPartsSaid : Prop := runsPartsRow.holds Try.pinned (OpenSpec.ofChange runsPartsSpec)

/-- ITS FALSE NEIGHBOUR: 'it returns false'. Refute it at one input. -/
def runsPartsWrong : ChangeSpec := { name := "runsParts", fn := fun _ => fun
  | [d1, d2, d3] => { results := [.lit (.bool false)], args := [d1, d2, d3] }
  | _ => none }
def RunsPartsWrongFalsely : Prop := runsPartsRow.holds Try.pinned (OpenSpec.ofChange runsPartsWrong)

/-- 'depositorylaw03.RunsBytes': WHATEVER THE INPUT: true; the input reads as it did. -/
def runsBytesSpec : ChangeSpec := { name := "runsBytes", fn := fun _ => fun
  | [d1, d2] => { results := [.lit (.bool true)], args := [d1, d2] }
  | _ => none }
def runsBytesRow : OpenClaim := { program := "ytginjcpblgpcoaa", sum := "5c1df05773da6213b1c92a77bc6151bfea2f2d6aaa0f3feaf56c461b20e66895", func := "depository/depositorylaw03.RunsBytes", spec := "runsBytes", apart := false }
def RunsBytesSaid : Prop := runsBytesRow.holds Try.pinned (OpenSpec.ofChange runsBytesSpec)

/-- ITS FALSE NEIGHBOUR: 'it returns false'. Refute it at one input. -/
def runsBytesWrong : ChangeSpec := { name := "runsBytes", fn := fun _ => fun
  | [d1, d2] => { results := [.lit (.bool false)], args := [d1, d2] }
  | _ => none }
def RunsBytesWrongFalsely : Prop := runsBytesRow.holds Try.pinned (OpenSpec.ofChange runsBytesWrong)

/-- 'depositorylaw03.RunsChecks': WHATEVER THE INPUT: true; the input reads as it did. -/
def runsChecksSpec : ChangeSpec := { name := "runsChecks", fn := fun _ => fun
  | [d] => { results := [.lit (.bool true)], args := [d] }
  | _ => none }
def runsChecksRow : OpenClaim := { program := "ytginjcpblgpcoaa", sum := "5c1df05773da6213b1c92a77bc6151bfea2f2d6aaa0f3feaf56c461b20e66895", func := "depository/depositorylaw03.RunsChecks", spec := "runsChecks", unfollowed := true, recurses := true, apart := false }
def RunsChecksSaid : Prop := runsChecksRow.holds Try.pinned (OpenSpec.ofChange runsChecksSpec)

/-- ITS FALSE NEIGHBOUR: 'it returns false'. Refute it at one input. -/
def runsChecksWrong : ChangeSpec := { name := "runsChecks", fn := fun _ => fun
  | [d] => { results := [.lit (.bool false)], args := [d] }
  | _ => none }
def RunsChecksWrongFalsely : Prop := runsChecksRow.holds Try.pinned (OpenSpec.ofChange runsChecksWrong)

/-- 'depositorylaw03.RunsHalves': WHATEVER THE INPUT: true; the input reads as it did. -/
def runsHalvesSpec : ChangeSpec := { name := "runsHalves", fn := fun _ => fun
  | [d1, d2, d3] => { results := [.lit (.bool true)], args := [d1, d2, d3] }
  | _ => none }
def runsHalvesRow : OpenClaim := { program := "ytginjcpblgpcoaa", sum := "5c1df05773da6213b1c92a77bc6151bfea2f2d6aaa0f3feaf56c461b20e66895", func := "depository/depositorylaw03.RunsHalves", spec := "runsHalves", unfollowed := true, recurses := true, apart := false }
def RunsHalvesSaid : Prop := runsHalvesRow.holds Try.pinned (OpenSpec.ofChange runsHalvesSpec)

/-- ITS FALSE NEIGHBOUR: 'it returns false'. Refute it at one input. -/
def runsHalvesWrong : ChangeSpec := { name := "runsHalves", fn := fun _ => fun
  | [d1, d2, d3] => { results := [.lit (.bool false)], args := [d1, d2, d3] }
  | _ => none }
def RunsHalvesWrongFalsely : Prop := runsHalvesRow.holds Try.pinned (OpenSpec.ofChange runsHalvesWrong)

/- THE SECOND FORM. 'bulk': how many values and letters a reading holds, each counted each time it is reached (what is shared counts as often as it is met; a slice's spare places count too). A statement '..UptoSaid' is the law's where the arguments, and the package variables that the reading takes, are together of bulk at most 1048576: NARROWER than '..Said'. Prove '..Said' where nothing that the law and all that it calls make is longer than what came in: it says more and counts as full. Else prove '..UptoSaid'. A law counts once. -/
mutual
def uptoBulk {H : Type} : DataW H → Nat
  | .lit (.string bytes) => bytes.length + 1
  | .lit _ => 1
  | .nil => 1
  | .ptr d => uptoBulk d + 1
  | .slice elems spare => uptoBulkAll elems + uptoBulkAll spare + 1
  | .agg parts => uptoBulkAll parts + 1
  | .iface _ d => uptoBulk d + 1
  | .map entries => uptoBulkEntries entries + 1
  | .held _ => 1
def uptoBulkAll {H : Type} : List (DataW H) → Nat
  | [] => 0
  | d :: r => uptoBulk d + uptoBulkAll r
def uptoBulkEntries {H : Type} : List (Lit × DataW H) → Nat
  | [] => 0
  | x :: r => uptoBulkEntry x + uptoBulkEntries r
def uptoBulkEntry {H : Type} : Lit × DataW H → Nat
  | (.string bytes, d) => bytes.length + uptoBulk d + 1
  | (_, d) => uptoBulk d + 1
 end
def uptoSmall : (H : Type) → List (DataW H) → Bool := fun _ ds => decide (uptoBulkAll ds ≤ 1048576)
def OpenSpec.upto (s : _root_.Go.ChangeSpec) : _root_.Go.OpenSpec := { _root_.Go.OpenSpec.ofChange s with cond := some uptoSmall }

/-- 'depositorylaw03.RunsPlaces', WHERE WHAT IT READS IS OF BULK AT MOST 1048576: true; the input reads as it did. -/
def runsPlacesUptoRow : OpenClaim := { program := "ytginjcpblgpcoaa", sum := "5c1df05773da6213b1c92a77bc6151bfea2f2d6aaa0f3feaf56c461b20e66895", func := "depository/depositorylaw03.RunsPlaces", spec := "runsPlaces", apart := false, narrowed := true }
def RunsPlacesUptoSaid : Prop := runsPlacesUptoRow.holds Try.pinned (OpenSpec.upto runsPlacesSpec)

/-- 'depositorylaw03.RunsChanges', WHERE WHAT IT READS IS OF BULK AT MOST 1048576: true; the input reads as it did. -/
def runsChangesUptoRow : OpenClaim := { program := "ytginjcpblgpcoaa", sum := "5c1df05773da6213b1c92a77bc6151bfea2f2d6aaa0f3feaf56c461b20e66895", func := "depository/depositorylaw03.RunsChanges", spec := "runsChanges", apart := false, narrowed := true }
def RunsChangesUptoSaid : Prop := runsChangesUptoRow.holds Try.pinned (OpenSpec.upto runsChangesSpec)

/-- 'depositorylaw03.RunsParts', WHERE WHAT IT READS IS OF BULK AT MOST 1048576: true; the input reads as it did. -/
def runsPartsUptoRow : OpenClaim := { program := "ytginjcpblgpcoaa", sum := "5c1df05773da6213b1c92a77bc6151bfea2f2d6aaa0f3feaf56c461b20e66895", func := "depository/depositorylaw03.RunsParts", spec := "runsParts", apart := false, narrowed := true }
def RunsPartsUptoSaid : Prop := runsPartsUptoRow.holds Try.pinned (OpenSpec.upto runsPartsSpec)

/-- 'depositorylaw03.RunsBytes', WHERE WHAT IT READS IS OF BULK AT MOST 1048576: true; the input reads as it did. -/
def runsBytesUptoRow : OpenClaim := { program := "ytginjcpblgpcoaa", sum := "5c1df05773da6213b1c92a77bc6151bfea2f2d6aaa0f3feaf56c461b20e66895", func := "depository/depositorylaw03.RunsBytes", spec := "runsBytes", apart := false, narrowed := true }
def RunsBytesUptoSaid : Prop := runsBytesUptoRow.holds Try.pinned (OpenSpec.upto runsBytesSpec)

/-- 'depositorylaw03.RunsChecks', WHERE WHAT IT READS IS OF BULK AT MOST 1048576: true; the input reads as it did. -/
def runsChecksUptoRow : OpenClaim := { program := "ytginjcpblgpcoaa", sum := "5c1df05773da6213b1c92a77bc6151bfea2f2d6aaa0f3feaf56c461b20e66895", func := "depository/depositorylaw03.RunsChecks", spec := "runsChecks", unfollowed := true, recurses := true, apart := false, narrowed := true }
def RunsChecksUptoSaid : Prop := runsChecksUptoRow.holds Try.pinned (OpenSpec.upto runsChecksSpec)

/-- 'depositorylaw03.RunsHalves', WHERE WHAT IT READS IS OF BULK AT MOST 1048576: true; the input reads as it did. -/
def runsHalvesUptoRow : OpenClaim := { program := "ytginjcpblgpcoaa", sum := "5c1df05773da6213b1c92a77bc6151bfea2f2d6aaa0f3feaf56c461b20e66895", func := "depository/depositorylaw03.RunsHalves", spec := "runsHalves", unfollowed := true, recurses := true, apart := false, narrowed := true }
def RunsHalvesUptoSaid : Prop := runsHalvesUptoRow.holds Try.pinned (OpenSpec.upto runsHalvesSpec)

end Rows
end Go.Proofs.Ytginjcpblgpcoaa
