/-
  NARROWER THAN 'FOR EVERY INPUT', by the rows' own cells (each row's printed sentence says how): TableWrites: laid.
  DERIVED. THE GIVEN ROWS OF THIS SEAT. 1 by the template 'for every input the law returns true; each argument reads behind the call as it read before'; 0 by the template 'total and deterministic' (their statements: YtalhnjjchkmfeabGreatDoorTotals.lean).
  GIVEN WITH THE SEED: the statements are not yours to turn. If you find one false, say at which input.
  Laid BY PROGRAM, IN A SANDBOX (cutbox-rows.mjs): the forced cells as the released guide's own fill.sh prints them over the translation 0c31fb7212a18026… (all of the seat's roots in one cut). By AI agents, Wed Nov 11 2026. No macro, syntax, notation, axiom, sorry.
-/
import Derived.Test.YtalhnjjchkmfeabGreatDoorChecked
import GoSem.PinnedTables
import GoSem.Claim
import GoSem.ClaimJoined
import GoSem.ClaimMapViews
import Derived.JoinedTies
import Derived.KernelRfl
namespace Go.Proofs.YtalhnjjchkmfeabGreatDoor
/- THE CELL 'sum', in the pinned program and in every row, IS THE sha256 OF THE DUMP (.gsa) THAT YtalhnjjchkmfeabGreatDoorProg.lean LOADS. Nothing in Lean hashes anything: it is a label: what it is worth is what the hold of that sum in a sandbox is worth. -/
noncomputable def Tryz.pinned : Pinned := { name := "ytalhnjjchkmfeabgreatdoor", sum := "0c31fb7212a1802610dd48e138e4c59d18f617cb8595d24ceb9a06e1e61c21fa", checked := Tryz.checked }
namespace Rows
def none {H : Type} : Left H := { results := [], args := [] }

/- WHAT THE LISTED PACKAGE-LEVEL VARIABLES READ AS WHEN THE CALL BEGINS. Each datum BY PROGRAM (the guide's laid-datum.mjs) off the statement by which the dump's own 'gosem.cut.vars' lays the variable. In a bare row this is a premise. The card (YtalhnjjchkmfeabGreatDoorCards.lean) ties it to the program's text. -/
def laid_unicode_utf8_acceptRanges {H : Type} : DataW H := .agg [.agg [.lit (.int .u8 128), .lit (.int .u8 191)], .agg [.lit (.int .u8 160), .lit (.int .u8 191)], .agg [.lit (.int .u8 128), .lit (.int .u8 159)], .agg [.lit (.int .u8 144), .lit (.int .u8 191)], .agg [.lit (.int .u8 128), .lit (.int .u8 143)], .agg [.lit (.int .u8 0), .lit (.int .u8 0)], .agg [.lit (.int .u8 0), .lit (.int .u8 0)], .agg [.lit (.int .u8 0), .lit (.int .u8 0)], .agg [.lit (.int .u8 0), .lit (.int .u8 0)], .agg [.lit (.int .u8 0), .lit (.int .u8 0)], .agg [.lit (.int .u8 0), .lit (.int .u8 0)], .agg [.lit (.int .u8 0), .lit (.int .u8 0)], .agg [.lit (.int .u8 0), .lit (.int .u8 0)], .agg [.lit (.int .u8 0), .lit (.int .u8 0)], .agg [.lit (.int .u8 0), .lit (.int .u8 0)], .agg [.lit (.int .u8 0), .lit (.int .u8 0)]]
def laid_depository_record_fieldLSN {H : Type} : DataW H := .agg [.lit (.int .i64 8), .lit (.int .i64 4)]
def laid_depository_record_fieldSequence {H : Type} : DataW H := .agg [.lit (.int .i64 16), .lit (.int .i64 2)]
def laid_depository_record_fieldLinks {H : Type} : DataW H := .agg [.lit (.int .i64 18), .lit (.int .i64 2)]
def laid_depository_record_fieldFirst {H : Type} : DataW H := .agg [.lit (.int .i64 20), .lit (.int .i64 2)]
def laid_depository_record_fieldFlags {H : Type} : DataW H := .agg [.lit (.int .i64 22), .lit (.int .i64 2)]
def laid_depository_record_fieldEnd {H : Type} : DataW H := .agg [.lit (.int .i64 24), .lit (.int .i64 4)]
def laid_depository_record_fieldSize {H : Type} : DataW H := .agg [.lit (.int .i64 28), .lit (.int .i64 4)]
def laid_depository_record_fieldBase {H : Type} : DataW H := .agg [.lit (.int .i64 32), .lit (.int .i64 4)]
def laid_depository_record_fieldBaseOf {H : Type} : DataW H := .agg [.lit (.int .i64 36), .lit (.int .i64 2)]
def laid_depository_record_fieldNext {H : Type} : DataW H := .agg [.lit (.int .i64 38), .lit (.int .i64 2)]
/-- One of Go's own tables, pinned by name: the form's constant. -/
def laid_unicode_utf8_first : DataW Unit := Go.Pinned.utf8First

/-- 'depositorylaw11.TableWrites': WHATEVER THE INPUT: true; the input reads as it did. -/
def tableWritesSpec : ChangeSpec := { name := "tableWrites", fn := fun _ => fun
  | [d1, d2, d3] => { results := [.lit (.bool true)], args := [d1, d2, d3] }
  | _ => none }
def tableWritesRow : OpenClaim := { program := "ytalhnjjchkmfeabgreatdoor", sum := "0c31fb7212a1802610dd48e138e4c59d18f617cb8595d24ceb9a06e1e61c21fa", func := "depository/depositorylaw11.TableWrites", spec := "tableWrites", inPlace := ["internal/abi.NoEscape", "internal/bytealg.MakeNoZero", "internal/bytealg.IndexByteString", "internal/bytealg.IndexString"], unfollowed := true, recurses := true, named := ["depository/record.fieldLSN", "depository/record.fieldSequence", "depository/record.fieldLinks", "depository/record.fieldFirst", "depository/record.fieldFlags", "depository/record.fieldEnd", "depository/record.fieldSize", "depository/record.fieldBase", "depository/record.fieldBaseOf", "depository/record.fieldNext", "unicode/utf8.first", "unicode/utf8.acceptRanges", "internal/bytealg.MaxLen"], apart := false, laid := [("unicode/utf8.acceptRanges", laid_unicode_utf8_acceptRanges), ("depository/record.fieldLSN", laid_depository_record_fieldLSN), ("depository/record.fieldSequence", laid_depository_record_fieldSequence), ("depository/record.fieldLinks", laid_depository_record_fieldLinks), ("depository/record.fieldFirst", laid_depository_record_fieldFirst), ("depository/record.fieldFlags", laid_depository_record_fieldFlags), ("depository/record.fieldEnd", laid_depository_record_fieldEnd), ("depository/record.fieldSize", laid_depository_record_fieldSize), ("depository/record.fieldBase", laid_depository_record_fieldBase), ("depository/record.fieldBaseOf", laid_depository_record_fieldBaseOf), ("depository/record.fieldNext", laid_depository_record_fieldNext), ("unicode/utf8.first", laid_unicode_utf8_first)] }
def TableWritesSaid : Prop := tableWritesRow.holds Tryz.pinned (OpenSpec.ofChange tableWritesSpec)

/-- ITS FALSE NEIGHBOUR: 'it returns false'. Refute it at one input. -/
def tableWritesWrong : ChangeSpec := { name := "tableWrites", fn := fun _ => fun
  | [d1, d2, d3] => { results := [.lit (.bool false)], args := [d1, d2, d3] }
  | _ => none }
def TableWritesWrongFalsely : Prop := tableWritesRow.holds Tryz.pinned (OpenSpec.ofChange tableWritesWrong)

/- THE SECOND FORM. 'bulk': how many values and letters a reading holds, each counted each time it is reached (what is shared counts as often as it is met; a slice's spare places count too). A statement '..UptoSaid' is the law's where the arguments, and the package variables that the reading takes, are together of bulk at most 1048576: NARROWER than '..Said'. Prove '..Said' where nothing that the law and all that it calls make is longer than what came in: it says more and counts as full. Else prove '..UptoSaid'. A law counts once. -/
mutual
def uptoBulk {H : Type} : DataW H → Nat
  | .lit (.string bytes) => bytes.length + 1
  | .lit _ => 1
  | .nil => 1
  | .ptr d => uptoBulk d + 1
  | .slice elems spare => uptoBulkAll elems + uptoBulkAll spare + 1
  | .agg parts => uptoBulkAll parts + 1
  | .iface _ d => uptoBulk d + 1
  | .map entries => uptoBulkEntries entries + 1
  | .held _ => 1
def uptoBulkAll {H : Type} : List (DataW H) → Nat
  | [] => 0
  | d :: r => uptoBulk d + uptoBulkAll r
def uptoBulkEntries {H : Type} : List (Lit × DataW H) → Nat
  | [] => 0
  | x :: r => uptoBulkEntry x + uptoBulkEntries r
def uptoBulkEntry {H : Type} : Lit × DataW H → Nat
  | (.string bytes, d) => bytes.length + uptoBulk d + 1
  | (_, d) => uptoBulk d + 1
 end
def uptoSmall : (H : Type) → List (DataW H) → Bool := fun _ ds => decide (uptoBulkAll ds ≤ 1048576)
def OpenSpec.upto (s : _root_.Go.ChangeSpec) : _root_.Go.OpenSpec := { _root_.Go.OpenSpec.ofChange s with cond := some uptoSmall }

/-- 'depositorylaw11.TableWrites', WHERE WHAT IT READS IS OF BULK AT MOST 1048576: true; the input reads as it did. -/
def tableWritesUptoRow : OpenClaim := { program := "ytalhnjjchkmfeabgreatdoor", sum := "0c31fb7212a1802610dd48e138e4c59d18f617cb8595d24ceb9a06e1e61c21fa", func := "depository/depositorylaw11.TableWrites", spec := "tableWrites", inPlace := ["internal/abi.NoEscape", "internal/bytealg.MakeNoZero", "internal/bytealg.IndexByteString", "internal/bytealg.IndexString"], unfollowed := true, recurses := true, named := ["depository/record.fieldLSN", "depository/record.fieldSequence", "depository/record.fieldLinks", "depository/record.fieldFirst", "depository/record.fieldFlags", "depository/record.fieldEnd", "depository/record.fieldSize", "depository/record.fieldBase", "depository/record.fieldBaseOf", "depository/record.fieldNext", "unicode/utf8.first", "unicode/utf8.acceptRanges", "internal/bytealg.MaxLen"], apart := false, laid := [("unicode/utf8.acceptRanges", laid_unicode_utf8_acceptRanges), ("depository/record.fieldLSN", laid_depository_record_fieldLSN), ("depository/record.fieldSequence", laid_depository_record_fieldSequence), ("depository/record.fieldLinks", laid_depository_record_fieldLinks), ("depository/record.fieldFirst", laid_depository_record_fieldFirst), ("depository/record.fieldFlags", laid_depository_record_fieldFlags), ("depository/record.fieldEnd", laid_depository_record_fieldEnd), ("depository/record.fieldSize", laid_depository_record_fieldSize), ("depository/record.fieldBase", laid_depository_record_fieldBase), ("depository/record.fieldBaseOf", laid_depository_record_fieldBaseOf), ("depository/record.fieldNext", laid_depository_record_fieldNext), ("unicode/utf8.first", laid_unicode_utf8_first)], narrowed := true }
def TableWritesUptoSaid : Prop := tableWritesUptoRow.holds Tryz.pinned (OpenSpec.upto tableWritesSpec)

end Rows
end Go.Proofs.YtalhnjjchkmfeabGreatDoor
