/-
  NARROWER THAN 'FOR EVERY INPUT', by the rows' own cells (each row's printed sentence says how): TableBoots: laid · TableMirrors: laid · TableReads: laid · TableDisks: laid · TableEmpty: laid · TableOpens: laid · TableWrites: laid · TableGrows: laid.
  DERIVED. THE GIVEN ROWS OF THIS SEAT. 8 by the template 'for every input the law returns true; each argument reads behind the call as it read before'; 0 by the template 'total and deterministic' (their statements: YthepfneloomngaaGreatDoorTotals.lean).
  GIVEN WITH THE SEED: the statements are not yours to turn. If you find one false, say at which input.
  Laid BY PROGRAM, IN A SANDBOX (cutbox-rows.mjs): the forced cells as the released guide's own fill.sh prints them over the translation fe9bf4ce4b89ee0c… (all of the seat's roots in one cut). By AI agents, Wed Nov 11 2026. No macro, syntax, notation, axiom, sorry.
-/
import Derived.Test.YthepfneloomngaaGreatDoorChecked
import GoSem.PinnedTables
import GoSem.Claim
import GoSem.ClaimJoined
import GoSem.ClaimMapViews
import Derived.JoinedTies
import Derived.KernelRfl
namespace Go.Proofs.YthepfneloomngaaGreatDoor
/- THE CELL 'sum', in the pinned program and in every row, IS THE sha256 OF THE DUMP (.gsa) THAT YthepfneloomngaaGreatDoorProg.lean LOADS. Nothing in Lean hashes anything: it is a label: what it is worth is what the hold of that sum in a sandbox is worth. -/
noncomputable def Tryz.pinned : Pinned := { name := "ythepfneloomngaagreatdoor", sum := "fe9bf4ce4b89ee0ceb8ebc26a684e690b5e6dcfb20a84c86a3769fae6fc61b6b", checked := Tryz.checked }
namespace Rows
def none {H : Type} : Left H := { results := [], args := [] }

/- WHAT THE LISTED PACKAGE-LEVEL VARIABLES READ AS WHEN THE CALL BEGINS. Each datum BY PROGRAM (the guide's laid-datum.mjs) off the statement by which the dump's own 'gosem.cut.vars' lays the variable. In a bare row this is a premise. The card (YthepfneloomngaaGreatDoorCards.lean) ties it to the program's text. -/
def laid_unicode_utf8_acceptRanges {H : Type} : DataW H := .agg [.agg [.lit (.int .u8 128), .lit (.int .u8 191)], .agg [.lit (.int .u8 160), .lit (.int .u8 191)], .agg [.lit (.int .u8 128), .lit (.int .u8 159)], .agg [.lit (.int .u8 144), .lit (.int .u8 191)], .agg [.lit (.int .u8 128), .lit (.int .u8 143)], .agg [.lit (.int .u8 0), .lit (.int .u8 0)], .agg [.lit (.int .u8 0), .lit (.int .u8 0)], .agg [.lit (.int .u8 0), .lit (.int .u8 0)], .agg [.lit (.int .u8 0), .lit (.int .u8 0)], .agg [.lit (.int .u8 0), .lit (.int .u8 0)], .agg [.lit (.int .u8 0), .lit (.int .u8 0)], .agg [.lit (.int .u8 0), .lit (.int .u8 0)], .agg [.lit (.int .u8 0), .lit (.int .u8 0)], .agg [.lit (.int .u8 0), .lit (.int .u8 0)], .agg [.lit (.int .u8 0), .lit (.int .u8 0)], .agg [.lit (.int .u8 0), .lit (.int .u8 0)]]
def laid_depository_record_fieldLSN {H : Type} : DataW H := .agg [.lit (.int .i64 8), .lit (.int .i64 4)]
def laid_depository_record_fieldSequence {H : Type} : DataW H := .agg [.lit (.int .i64 16), .lit (.int .i64 2)]
def laid_depository_record_fieldLinks {H : Type} : DataW H := .agg [.lit (.int .i64 18), .lit (.int .i64 2)]
def laid_depository_record_fieldFirst {H : Type} : DataW H := .agg [.lit (.int .i64 20), .lit (.int .i64 2)]
def laid_depository_record_fieldFlags {H : Type} : DataW H := .agg [.lit (.int .i64 22), .lit (.int .i64 2)]
def laid_depository_record_fieldEnd {H : Type} : DataW H := .agg [.lit (.int .i64 24), .lit (.int .i64 4)]
def laid_depository_record_fieldSize {H : Type} : DataW H := .agg [.lit (.int .i64 28), .lit (.int .i64 4)]
def laid_depository_record_fieldBase {H : Type} : DataW H := .agg [.lit (.int .i64 32), .lit (.int .i64 4)]
def laid_depository_record_fieldBaseOf {H : Type} : DataW H := .agg [.lit (.int .i64 36), .lit (.int .i64 2)]
def laid_depository_record_fieldNext {H : Type} : DataW H := .agg [.lit (.int .i64 38), .lit (.int .i64 2)]
/-- One of Go's own tables, pinned by name: the form's constant. -/
def laid_unicode_utf8_first : DataW Unit := Go.Pinned.utf8First

/-- 'depositorylaw11.TableBoots': WHATEVER THE INPUT: true; the input reads as it did. -/
def tableBootsSpec : ChangeSpec := { name := "tableBoots", fn := fun _ => fun
  | [d1, d2] => { results := [.lit (.bool true)], args := [d1, d2] }
  | _ => none }
def tableBootsRow : OpenClaim := { program := "ythepfneloomngaagreatdoor", sum := "fe9bf4ce4b89ee0ceb8ebc26a684e690b5e6dcfb20a84c86a3769fae6fc61b6b", func := "depository/depositorylaw11.TableBoots", spec := "tableBoots", inPlace := ["internal/abi.NoEscape", "internal/bytealg.MakeNoZero", "internal/bytealg.IndexByteString", "internal/bytealg.IndexString"], unfollowed := true, recurses := true, named := ["depository/record.fieldLSN", "depository/record.fieldSequence", "depository/record.fieldLinks", "depository/record.fieldFirst", "depository/record.fieldFlags", "depository/record.fieldEnd", "depository/record.fieldSize", "depository/record.fieldBase", "depository/record.fieldBaseOf", "depository/record.fieldNext", "unicode/utf8.first", "unicode/utf8.acceptRanges", "internal/bytealg.MaxLen"], apart := false, laid := [("unicode/utf8.acceptRanges", laid_unicode_utf8_acceptRanges), ("depository/record.fieldLSN", laid_depository_record_fieldLSN), ("depository/record.fieldSequence", laid_depository_record_fieldSequence), ("depository/record.fieldLinks", laid_depository_record_fieldLinks), ("depository/record.fieldFirst", laid_depository_record_fieldFirst), ("depository/record.fieldFlags", laid_depository_record_fieldFlags), ("depository/record.fieldEnd", laid_depository_record_fieldEnd), ("depository/record.fieldSize", laid_depository_record_fieldSize), ("depository/record.fieldBase", laid_depository_record_fieldBase), ("depository/record.fieldBaseOf", laid_depository_record_fieldBaseOf), ("depository/record.fieldNext", laid_depository_record_fieldNext), ("unicode/utf8.first", laid_unicode_utf8_first)] }
def TableBootsSaid : Prop := tableBootsRow.holds Tryz.pinned (OpenSpec.ofChange tableBootsSpec)

/-- ITS FALSE NEIGHBOUR: 'it returns false'. Refute it at one input. -/
def tableBootsWrong : ChangeSpec := { name := "tableBoots", fn := fun _ => fun
  | [d1, d2] => { results := [.lit (.bool false)], args := [d1, d2] }
  | _ => none }
def TableBootsWrongFalsely : Prop := tableBootsRow.holds Tryz.pinned (OpenSpec.ofChange tableBootsWrong)

/-- 'depositorylaw11.TableMirrors': WHATEVER THE INPUT: true; the input reads as it did. -/
def tableMirrorsSpec : ChangeSpec := { name := "tableMirrors", fn := fun _ => fun
  | [d1, d2, d3] => { results := [.lit (.bool true)], args := [d1, d2, d3] }
  | _ => none }
def tableMirrorsRow : OpenClaim := { program := "ythepfneloomngaagreatdoor", sum := "fe9bf4ce4b89ee0ceb8ebc26a684e690b5e6dcfb20a84c86a3769fae6fc61b6b", func := "depository/depositorylaw11.TableMirrors", spec := "tableMirrors", inPlace := ["internal/abi.NoEscape", "internal/bytealg.MakeNoZero", "internal/bytealg.IndexByteString", "internal/bytealg.IndexString"], unfollowed := true, recurses := true, named := ["depository/record.fieldLSN", "depository/record.fieldSequence", "depository/record.fieldLinks", "depository/record.fieldFirst", "depository/record.fieldFlags", "depository/record.fieldEnd", "depository/record.fieldSize", "depository/record.fieldBase", "depository/record.fieldBaseOf", "depository/record.fieldNext", "unicode/utf8.first", "unicode/utf8.acceptRanges", "internal/bytealg.MaxLen"], apart := false, laid := [("unicode/utf8.acceptRanges", laid_unicode_utf8_acceptRanges), ("depository/record.fieldLSN", laid_depository_record_fieldLSN), ("depository/record.fieldSequence", laid_depository_record_fieldSequence), ("depository/record.fieldLinks", laid_depository_record_fieldLinks), ("depository/record.fieldFirst", laid_depository_record_fieldFirst), ("depository/record.fieldFlags", laid_depository_record_fieldFlags), ("depository/record.fieldEnd", laid_depository_record_fieldEnd), ("depository/record.fieldSize", laid_depository_record_fieldSize), ("depository/record.fieldBase", laid_depository_record_fieldBase), ("depository/record.fieldBaseOf", laid_depository_record_fieldBaseOf), ("depository/record.fieldNext", laid_depository_record_fieldNext), ("unicode/utf8.first", laid_unicode_utf8_first)] }
def TableMirrorsSaid : Prop := tableMirrorsRow.holds Tryz.pinned (OpenSpec.ofChange tableMirrorsSpec)

/-- ITS FALSE NEIGHBOUR: 'it returns false'. Refute it at one input. -/
def tableMirrorsWrong : ChangeSpec := { name := "tableMirrors", fn := fun _ => fun
  | [d1, d2, d3] => { results := [.lit (.bool false)], args := [d1, d2, d3] }
  | _ => none }
def TableMirrorsWrongFalsely : Prop := tableMirrorsRow.holds Tryz.pinned (OpenSpec.ofChange tableMirrorsWrong)

/-- 'depositorylaw11.TableReads': WHATEVER THE INPUT: true; the input reads as it did. -/
def tableReadsSpec : ChangeSpec := { name := "tableReads", fn := fun _ => fun
  | [d1, d2] => { results := [.lit (.bool true)], args := [d1, d2] }
  | _ => none }
def tableReadsRow : OpenClaim := { program := "ythepfneloomngaagreatdoor", sum := "fe9bf4ce4b89ee0ceb8ebc26a684e690b5e6dcfb20a84c86a3769fae6fc61b6b", func := "depository/depositorylaw11.TableReads", spec := "tableReads", inPlace := ["internal/abi.NoEscape", "internal/bytealg.MakeNoZero", "internal/bytealg.IndexByteString", "internal/bytealg.IndexString"], unfollowed := true, recurses := true, named := ["depository/record.fieldLSN", "depository/record.fieldSequence", "depository/record.fieldLinks", "depository/record.fieldFirst", "depository/record.fieldFlags", "depository/record.fieldEnd", "depository/record.fieldSize", "depository/record.fieldBase", "depository/record.fieldBaseOf", "depository/record.fieldNext", "unicode/utf8.first", "unicode/utf8.acceptRanges", "internal/bytealg.MaxLen"], apart := false, laid := [("unicode/utf8.acceptRanges", laid_unicode_utf8_acceptRanges), ("depository/record.fieldLSN", laid_depository_record_fieldLSN), ("depository/record.fieldSequence", laid_depository_record_fieldSequence), ("depository/record.fieldLinks", laid_depository_record_fieldLinks), ("depository/record.fieldFirst", laid_depository_record_fieldFirst), ("depository/record.fieldFlags", laid_depository_record_fieldFlags), ("depository/record.fieldEnd", laid_depository_record_fieldEnd), ("depository/record.fieldSize", laid_depository_record_fieldSize), ("depository/record.fieldBase", laid_depository_record_fieldBase), ("depository/record.fieldBaseOf", laid_depository_record_fieldBaseOf), ("depository/record.fieldNext", laid_depository_record_fieldNext), ("unicode/utf8.first", laid_unicode_utf8_first)] }
def TableReadsSaid : Prop := tableReadsRow.holds Tryz.pinned (OpenSpec.ofChange tableReadsSpec)

/-- ITS FALSE NEIGHBOUR: 'it returns false'. Refute it at one input. -/
def tableReadsWrong : ChangeSpec := { name := "tableReads", fn := fun _ => fun
  | [d1, d2] => { results := [.lit (.bool false)], args := [d1, d2] }
  | _ => none }
def TableReadsWrongFalsely : Prop := tableReadsRow.holds Tryz.pinned (OpenSpec.ofChange tableReadsWrong)

/-- 'depositorylaw11.TableDisks': WHATEVER THE INPUT: true; the input reads as it did. -/
def tableDisksSpec : ChangeSpec := { name := "tableDisks", fn := fun _ => fun
  | [d1, d2] => { results := [.lit (.bool true)], args := [d1, d2] }
  | _ => none }
def tableDisksRow : OpenClaim := { program := "ythepfneloomngaagreatdoor", sum := "fe9bf4ce4b89ee0ceb8ebc26a684e690b5e6dcfb20a84c86a3769fae6fc61b6b", func := "depository/depositorylaw11.TableDisks", spec := "tableDisks", inPlace := ["internal/abi.NoEscape", "internal/bytealg.MakeNoZero", "internal/bytealg.IndexByteString", "internal/bytealg.IndexString"], unfollowed := true, recurses := true, named := ["depository/record.fieldLSN", "depository/record.fieldSequence", "depository/record.fieldLinks", "depository/record.fieldFirst", "depository/record.fieldFlags", "depository/record.fieldEnd", "depository/record.fieldSize", "depository/record.fieldBase", "depository/record.fieldBaseOf", "depository/record.fieldNext", "unicode/utf8.first", "unicode/utf8.acceptRanges", "internal/bytealg.MaxLen"], apart := false, laid := [("unicode/utf8.acceptRanges", laid_unicode_utf8_acceptRanges), ("depository/record.fieldLSN", laid_depository_record_fieldLSN), ("depository/record.fieldSequence", laid_depository_record_fieldSequence), ("depository/record.fieldLinks", laid_depository_record_fieldLinks), ("depository/record.fieldFirst", laid_depository_record_fieldFirst), ("depository/record.fieldFlags", laid_depository_record_fieldFlags), ("depository/record.fieldEnd", laid_depository_record_fieldEnd), ("depository/record.fieldSize", laid_depository_record_fieldSize), ("depository/record.fieldBase", laid_depository_record_fieldBase), ("depository/record.fieldBaseOf", laid_depository_record_fieldBaseOf), ("depository/record.fieldNext", laid_depository_record_fieldNext), ("unicode/utf8.first", laid_unicode_utf8_first)] }
def TableDisksSaid : Prop := tableDisksRow.holds Tryz.pinned (OpenSpec.ofChange tableDisksSpec)

/-- ITS FALSE NEIGHBOUR: 'it returns false'. Refute it at one input. -/
def tableDisksWrong : ChangeSpec := { name := "tableDisks", fn := fun _ => fun
  | [d1, d2] => { results := [.lit (.bool false)], args := [d1, d2] }
  | _ => none }
def TableDisksWrongFalsely : Prop := tableDisksRow.holds Tryz.pinned (OpenSpec.ofChange tableDisksWrong)

/-- 'depositorylaw11.TableEmpty': WHATEVER THE INPUT: true; the input reads as it did. -/
def tableEmptySpec : ChangeSpec := { name := "tableEmpty", fn := fun _ => fun
  | [d1, d2] => { results := [.lit (.bool true)], args := [d1, d2] }
  | _ => none }
def tableEmptyRow : OpenClaim := { program := "ythepfneloomngaagreatdoor", sum := "fe9bf4ce4b89ee0ceb8ebc26a684e690b5e6dcfb20a84c86a3769fae6fc61b6b", func := "depository/depositorylaw11.TableEmpty", spec := "tableEmpty", inPlace := ["internal/abi.NoEscape", "internal/bytealg.MakeNoZero", "internal/bytealg.IndexByteString", "internal/bytealg.IndexString"], unfollowed := true, recurses := true, named := ["depository/record.fieldLSN", "depository/record.fieldSequence", "depository/record.fieldLinks", "depository/record.fieldFirst", "depository/record.fieldFlags", "depository/record.fieldEnd", "depository/record.fieldSize", "depository/record.fieldBase", "depository/record.fieldBaseOf", "depository/record.fieldNext", "unicode/utf8.first", "unicode/utf8.acceptRanges", "internal/bytealg.MaxLen"], apart := false, laid := [("unicode/utf8.acceptRanges", laid_unicode_utf8_acceptRanges), ("depository/record.fieldLSN", laid_depository_record_fieldLSN), ("depository/record.fieldSequence", laid_depository_record_fieldSequence), ("depository/record.fieldLinks", laid_depository_record_fieldLinks), ("depository/record.fieldFirst", laid_depository_record_fieldFirst), ("depository/record.fieldFlags", laid_depository_record_fieldFlags), ("depository/record.fieldEnd", laid_depository_record_fieldEnd), ("depository/record.fieldSize", laid_depository_record_fieldSize), ("depository/record.fieldBase", laid_depository_record_fieldBase), ("depository/record.fieldBaseOf", laid_depository_record_fieldBaseOf), ("depository/record.fieldNext", laid_depository_record_fieldNext), ("unicode/utf8.first", laid_unicode_utf8_first)] }
def TableEmptySaid : Prop := tableEmptyRow.holds Tryz.pinned (OpenSpec.ofChange tableEmptySpec)

/-- ITS FALSE NEIGHBOUR: 'it returns false'. Refute it at one input. -/
def tableEmptyWrong : ChangeSpec := { name := "tableEmpty", fn := fun _ => fun
  | [d1, d2] => { results := [.lit (.bool false)], args := [d1, d2] }
  | _ => none }
def TableEmptyWrongFalsely : Prop := tableEmptyRow.holds Tryz.pinned (OpenSpec.ofChange tableEmptyWrong)

/-- 'depositorylaw11.TableOpens': WHATEVER THE INPUT: true; the input reads as it did. -/
def tableOpensSpec : ChangeSpec := { name := "tableOpens", fn := fun _ => fun
  | [d1, d2] => { results := [.lit (.bool true)], args := [d1, d2] }
  | _ => none }
def tableOpensRow : OpenClaim := { program := "ythepfneloomngaagreatdoor", sum := "fe9bf4ce4b89ee0ceb8ebc26a684e690b5e6dcfb20a84c86a3769fae6fc61b6b", func := "depository/depositorylaw11.TableOpens", spec := "tableOpens", inPlace := ["internal/abi.NoEscape", "internal/bytealg.MakeNoZero", "internal/bytealg.IndexByteString", "internal/bytealg.IndexString"], unfollowed := true, recurses := true, named := ["depository/record.fieldLSN", "depository/record.fieldSequence", "depository/record.fieldLinks", "depository/record.fieldFirst", "depository/record.fieldFlags", "depository/record.fieldEnd", "depository/record.fieldSize", "depository/record.fieldBase", "depository/record.fieldBaseOf", "depository/record.fieldNext", "unicode/utf8.first", "unicode/utf8.acceptRanges", "internal/bytealg.MaxLen"], apart := false, laid := [("unicode/utf8.acceptRanges", laid_unicode_utf8_acceptRanges), ("depository/record.fieldLSN", laid_depository_record_fieldLSN), ("depository/record.fieldSequence", laid_depository_record_fieldSequence), ("depository/record.fieldLinks", laid_depository_record_fieldLinks), ("depository/record.fieldFirst", laid_depository_record_fieldFirst), ("depository/record.fieldFlags", laid_depository_record_fieldFlags), ("depository/record.fieldEnd", laid_depository_record_fieldEnd), ("depository/record.fieldSize", laid_depository_record_fieldSize), ("depository/record.fieldBase", laid_depository_record_fieldBase), ("depository/record.fieldBaseOf", laid_depository_record_fieldBaseOf), ("depository/record.fieldNext", laid_depository_record_fieldNext), ("unicode/utf8.first", laid_unicode_utf8_first)] }
def TableOpensSaid : Prop := tableOpensRow.holds Tryz.pinned (OpenSpec.ofChange tableOpensSpec)

/-- ITS FALSE NEIGHBOUR: 'it returns false'. Refute it at one input. -/
def tableOpensWrong : ChangeSpec := { name := "tableOpens", fn := fun _ => fun
  | [d1, d2] => { results := [.lit (.bool false)], args := [d1, d2] }
  | _ => none }
def TableOpensWrongFalsely : Prop := tableOpensRow.holds Tryz.pinned (OpenSpec.ofChange tableOpensWrong)

/-- 'depositorylaw11.TableWrites': WHATEVER THE INPUT: true; the input reads as it did. -/
def tableWritesSpec : ChangeSpec := { name := "tableWrites", fn := fun _ => fun
  | [d1, d2, d3] => { results := [.lit (.bool true)], args := [d1, d2, d3] }
  | _ => none }
def tableWritesRow : OpenClaim := { program := "ythepfneloomngaagreatdoor", sum := "fe9bf4ce4b89ee0ceb8ebc26a684e690b5e6dcfb20a84c86a3769fae6fc61b6b", func := "depository/depositorylaw11.TableWrites", spec := "tableWrites", inPlace := ["internal/abi.NoEscape", "internal/bytealg.MakeNoZero", "internal/bytealg.IndexByteString", "internal/bytealg.IndexString"], unfollowed := true, recurses := true, named := ["depository/record.fieldLSN", "depository/record.fieldSequence", "depository/record.fieldLinks", "depository/record.fieldFirst", "depository/record.fieldFlags", "depository/record.fieldEnd", "depository/record.fieldSize", "depository/record.fieldBase", "depository/record.fieldBaseOf", "depository/record.fieldNext", "unicode/utf8.first", "unicode/utf8.acceptRanges", "internal/bytealg.MaxLen"], apart := false, laid := [("unicode/utf8.acceptRanges", laid_unicode_utf8_acceptRanges), ("depository/record.fieldLSN", laid_depository_record_fieldLSN), ("depository/record.fieldSequence", laid_depository_record_fieldSequence), ("depository/record.fieldLinks", laid_depository_record_fieldLinks), ("depository/record.fieldFirst", laid_depository_record_fieldFirst), ("depository/record.fieldFlags", laid_depository_record_fieldFlags), ("depository/record.fieldEnd", laid_depository_record_fieldEnd), ("depository/record.fieldSize", laid_depository_record_fieldSize), ("depository/record.fieldBase", laid_depository_record_fieldBase), ("depository/record.fieldBaseOf", laid_depository_record_fieldBaseOf), ("depository/record.fieldNext", laid_depository_record_fieldNext), ("unicode/utf8.first", laid_unicode_utf8_first)] }
def TableWritesSaid : Prop := tableWritesRow.holds Tryz.pinned (OpenSpec.ofChange tableWritesSpec)

/-- ITS FALSE NEIGHBOUR: 'it returns false'. Refute it at one input. -/
def tableWritesWrong : ChangeSpec := { name := "tableWrites", fn := fun _ => fun
  | [d1, d2, d3] => { results := [.lit (.bool false)], args := [d1, d2, d3] }
  | _ => none }
def TableWritesWrongFalsely : Prop := tableWritesRow.holds Tryz.pinned (OpenSpec.ofChange tableWritesWrong)

/-- 'depositorylaw11.TableGrows': WHATEVER THE INPUT: true; the input reads as it did. -/
def tableGrowsSpec : ChangeSpec := { name := "tableGrows", fn := fun _ => fun
  | [d1, d2, d3] => { results := [.lit (.bool true)], args := [d1, d2, d3] }
  | _ => none }
def tableGrowsRow : OpenClaim := { program := "ythepfneloomngaagreatdoor", sum := "fe9bf4ce4b89ee0ceb8ebc26a684e690b5e6dcfb20a84c86a3769fae6fc61b6b", func := "depository/depositorylaw11.TableGrows", spec := "tableGrows", inPlace := ["internal/abi.NoEscape", "internal/bytealg.MakeNoZero", "internal/bytealg.IndexByteString", "internal/bytealg.IndexString"], unfollowed := true, recurses := true, named := ["depository/record.fieldLSN", "depository/record.fieldSequence", "depository/record.fieldLinks", "depository/record.fieldFirst", "depository/record.fieldFlags", "depository/record.fieldEnd", "depository/record.fieldSize", "depository/record.fieldBase", "depository/record.fieldBaseOf", "depository/record.fieldNext", "unicode/utf8.first", "unicode/utf8.acceptRanges", "internal/bytealg.MaxLen"], apart := false, laid := [("unicode/utf8.acceptRanges", laid_unicode_utf8_acceptRanges), ("depository/record.fieldLSN", laid_depository_record_fieldLSN), ("depository/record.fieldSequence", laid_depository_record_fieldSequence), ("depository/record.fieldLinks", laid_depository_record_fieldLinks), ("depository/record.fieldFirst", laid_depository_record_fieldFirst), ("depository/record.fieldFlags", laid_depository_record_fieldFlags), ("depository/record.fieldEnd", laid_depository_record_fieldEnd), ("depository/record.fieldSize", laid_depository_record_fieldSize), ("depository/record.fieldBase", laid_depository_record_fieldBase), ("depository/record.fieldBaseOf", laid_depository_record_fieldBaseOf), ("depository/record.fieldNext", laid_depository_record_fieldNext), ("unicode/utf8.first", laid_unicode_utf8_first)] }
def TableGrowsSaid : Prop := tableGrowsRow.holds Tryz.pinned (OpenSpec.ofChange tableGrowsSpec)

/-- ITS FALSE NEIGHBOUR: 'it returns false'. Refute it at one input. -/
def tableGrowsWrong : ChangeSpec := { name := "tableGrows", fn := fun _ => fun
  | [d1, d2, d3] => { results := [.lit (.bool false)], args := [d1, d2, d3] }
  | _ => none }
def TableGrowsWrongFalsely : Prop := tableGrowsRow.holds Tryz.pinned (OpenSpec.ofChange tableGrowsWrong)

/- THE SECOND FORM. 'bulk': how many values and letters a reading holds, each counted each time it is reached (what is shared counts as often as it is met; a slice's spare places count too). A statement '..UptoSaid' is the law's where the arguments, and the package variables that the reading takes, are together of bulk at most 1048576: NARROWER than '..Said'. Prove '..Said' where nothing that the law and all that it calls make is longer than what came in: it says more and counts as full. Else prove '..UptoSaid'. A law counts once. -/
mutual
def uptoBulk {H : Type} : DataW H → Nat
  | .lit (.string bytes) => bytes.length + 1
  | .lit _ => 1
  | .nil => 1
  | .ptr d => uptoBulk d + 1
  | .slice elems spare => uptoBulkAll elems + uptoBulkAll spare + 1
  | .agg parts => uptoBulkAll parts + 1
  | .iface _ d => uptoBulk d + 1
  | .map entries => uptoBulkEntries entries + 1
  | .held _ => 1
def uptoBulkAll {H : Type} : List (DataW H) → Nat
  | [] => 0
  | d :: r => uptoBulk d + uptoBulkAll r
def uptoBulkEntries {H : Type} : List (Lit × DataW H) → Nat
  | [] => 0
  | x :: r => uptoBulkEntry x + uptoBulkEntries r
def uptoBulkEntry {H : Type} : Lit × DataW H → Nat
  | (.string bytes, d) => bytes.length + uptoBulk d + 1
  | (_, d) => uptoBulk d + 1
 end
def uptoSmall : (H : Type) → List (DataW H) → Bool := fun _ ds => decide (uptoBulkAll ds ≤ 1048576)
def OpenSpec.upto (s : _root_.Go.ChangeSpec) : _root_.Go.OpenSpec := { _root_.Go.OpenSpec.ofChange s with cond := some uptoSmall }

/-- 'depositorylaw11.TableBoots', WHERE WHAT IT READS IS OF BULK AT MOST 1048576: true; the input reads as it did. -/
def tableBootsUptoRow : OpenClaim := { program := "ythepfneloomngaagreatdoor", sum := "fe9bf4ce4b89ee0ceb8ebc26a684e690b5e6dcfb20a84c86a3769fae6fc61b6b", func := "depository/depositorylaw11.TableBoots", spec := "tableBoots", inPlace := ["internal/abi.NoEscape", "internal/bytealg.MakeNoZero", "internal/bytealg.IndexByteString", "internal/bytealg.IndexString"], unfollowed := true, recurses := true, named := ["depository/record.fieldLSN", "depository/record.fieldSequence", "depository/record.fieldLinks", "depository/record.fieldFirst", "depository/record.fieldFlags", "depository/record.fieldEnd", "depository/record.fieldSize", "depository/record.fieldBase", "depository/record.fieldBaseOf", "depository/record.fieldNext", "unicode/utf8.first", "unicode/utf8.acceptRanges", "internal/bytealg.MaxLen"], apart := false, laid := [("unicode/utf8.acceptRanges", laid_unicode_utf8_acceptRanges), ("depository/record.fieldLSN", laid_depository_record_fieldLSN), ("depository/record.fieldSequence", laid_depository_record_fieldSequence), ("depository/record.fieldLinks", laid_depository_record_fieldLinks), ("depository/record.fieldFirst", laid_depository_record_fieldFirst), ("depository/record.fieldFlags", laid_depository_record_fieldFlags), ("depository/record.fieldEnd", laid_depository_record_fieldEnd), ("depository/record.fieldSize", laid_depository_record_fieldSize), ("depository/record.fieldBase", laid_depository_record_fieldBase), ("depository/record.fieldBaseOf", laid_depository_record_fieldBaseOf), ("depository/record.fieldNext", laid_depository_record_fieldNext), ("unicode/utf8.first", laid_unicode_utf8_first)], narrowed := true }
def TableBootsUptoSaid : Prop := tableBootsUptoRow.holds Tryz.pinned (OpenSpec.upto tableBootsSpec)

/-- 'depositorylaw11.TableMirrors', WHERE WHAT IT READS IS OF BULK AT MOST 1048576: true; the input reads as it did. -/
def tableMirrorsUptoRow : OpenClaim := { program := "ythepfneloomngaagreatdoor", sum := "fe9bf4ce4b89ee0ceb8ebc26a684e690b5e6dcfb20a84c86a3769fae6fc61b6b", func := "depository/depositorylaw11.TableMirrors", spec := "tableMirrors", inPlace := ["internal/abi.NoEscape", "internal/bytealg.MakeNoZero", "internal/bytealg.IndexByteString", "internal/bytealg.IndexString"], unfollowed := true, recurses := true, named := ["depository/record.fieldLSN", "depository/record.fieldSequence", "depository/record.fieldLinks", "depository/record.fieldFirst", "depository/record.fieldFlags", "depository/record.fieldEnd", "depository/record.fieldSize", "depository/record.fieldBase", "depository/record.fieldBaseOf", "depository/record.fieldNext", "unicode/utf8.first", "unicode/utf8.acceptRanges", "internal/bytealg.MaxLen"], apart := false, laid := [("unicode/utf8.acceptRanges", laid_unicode_utf8_acceptRanges), ("depository/record.fieldLSN", laid_depository_record_fieldLSN), ("depository/record.fieldSequence", laid_depository_record_fieldSequence), ("depository/record.fieldLinks", laid_depository_record_fieldLinks), ("depository/record.fieldFirst", laid_depository_record_fieldFirst), ("depository/record.fieldFlags", laid_depository_record_fieldFlags), ("depository/record.fieldEnd", laid_depository_record_fieldEnd), ("depository/record.fieldSize", laid_depository_record_fieldSize), ("depository/record.fieldBase", laid_depository_record_fieldBase), ("depository/record.fieldBaseOf", laid_depository_record_fieldBaseOf), ("depository/record.fieldNext", laid_depository_record_fieldNext), ("unicode/utf8.first", laid_unicode_utf8_first)], narrowed := true }
def TableMirrorsUptoSaid : Prop := tableMirrorsUptoRow.holds Tryz.pinned (OpenSpec.upto tableMirrorsSpec)

/-- 'depositorylaw11.TableReads', WHERE WHAT IT READS IS OF BULK AT MOST 1048576: true; the input reads as it did. -/
def tableReadsUptoRow : OpenClaim := { program := "ythepfneloomngaagreatdoor", sum := "fe9bf4ce4b89ee0ceb8ebc26a684e690b5e6dcfb20a84c86a3769fae6fc61b6b", func := "depository/depositorylaw11.TableReads", spec := "tableReads", inPlace := ["internal/abi.NoEscape", "internal/bytealg.MakeNoZero", "internal/bytealg.IndexByteString", "internal/bytealg.IndexString"], unfollowed := true, recurses := true, named := ["depository/record.fieldLSN", "depository/record.fieldSequence", "depository/record.fieldLinks", "depository/record.fieldFirst", "depository/record.fieldFlags", "depository/record.fieldEnd", "depository/record.fieldSize", "depository/record.fieldBase", "depository/record.fieldBaseOf", "depository/record.fieldNext", "unicode/utf8.first", "unicode/utf8.acceptRanges", "internal/bytealg.MaxLen"], apart := false, laid := [("unicode/utf8.acceptRanges", laid_unicode_utf8_acceptRanges), ("depository/record.fieldLSN", laid_depository_record_fieldLSN), ("depository/record.fieldSequence", laid_depository_record_fieldSequence), ("depository/record.fieldLinks", laid_depository_record_fieldLinks), ("depository/record.fieldFirst", laid_depository_record_fieldFirst), ("depository/record.fieldFlags", laid_depository_record_fieldFlags), ("depository/record.fieldEnd", laid_depository_record_fieldEnd), ("depository/record.fieldSize", laid_depository_record_fieldSize), ("depository/record.fieldBase", laid_depository_record_fieldBase), ("depository/record.fieldBaseOf", laid_depository_record_fieldBaseOf), ("depository/record.fieldNext", laid_depository_record_fieldNext), ("unicode/utf8.first", laid_unicode_utf8_first)], narrowed := true }
def TableReadsUptoSaid : Prop := tableReadsUptoRow.holds Tryz.pinned (OpenSpec.upto tableReadsSpec)

/-- 'depositorylaw11.TableDisks', WHERE WHAT IT READS IS OF BULK AT MOST 1048576: true; the input reads as it did. -/
def tableDisksUptoRow : OpenClaim := { program := "ythepfneloomngaagreatdoor", sum := "fe9bf4ce4b89ee0ceb8ebc26a684e690b5e6dcfb20a84c86a3769fae6fc61b6b", func := "depository/depositorylaw11.TableDisks", spec := "tableDisks", inPlace := ["internal/abi.NoEscape", "internal/bytealg.MakeNoZero", "internal/bytealg.IndexByteString", "internal/bytealg.IndexString"], unfollowed := true, recurses := true, named := ["depository/record.fieldLSN", "depository/record.fieldSequence", "depository/record.fieldLinks", "depository/record.fieldFirst", "depository/record.fieldFlags", "depository/record.fieldEnd", "depository/record.fieldSize", "depository/record.fieldBase", "depository/record.fieldBaseOf", "depository/record.fieldNext", "unicode/utf8.first", "unicode/utf8.acceptRanges", "internal/bytealg.MaxLen"], apart := false, laid := [("unicode/utf8.acceptRanges", laid_unicode_utf8_acceptRanges), ("depository/record.fieldLSN", laid_depository_record_fieldLSN), ("depository/record.fieldSequence", laid_depository_record_fieldSequence), ("depository/record.fieldLinks", laid_depository_record_fieldLinks), ("depository/record.fieldFirst", laid_depository_record_fieldFirst), ("depository/record.fieldFlags", laid_depository_record_fieldFlags), ("depository/record.fieldEnd", laid_depository_record_fieldEnd), ("depository/record.fieldSize", laid_depository_record_fieldSize), ("depository/record.fieldBase", laid_depository_record_fieldBase), ("depository/record.fieldBaseOf", laid_depository_record_fieldBaseOf), ("depository/record.fieldNext", laid_depository_record_fieldNext), ("unicode/utf8.first", laid_unicode_utf8_first)], narrowed := true }
def TableDisksUptoSaid : Prop := tableDisksUptoRow.holds Tryz.pinned (OpenSpec.upto tableDisksSpec)

/-- 'depositorylaw11.TableEmpty', WHERE WHAT IT READS IS OF BULK AT MOST 1048576: true; the input reads as it did. -/
def tableEmptyUptoRow : OpenClaim := { program := "ythepfneloomngaagreatdoor", sum := "fe9bf4ce4b89ee0ceb8ebc26a684e690b5e6dcfb20a84c86a3769fae6fc61b6b", func := "depository/depositorylaw11.TableEmpty", spec := "tableEmpty", inPlace := ["internal/abi.NoEscape", "internal/bytealg.MakeNoZero", "internal/bytealg.IndexByteString", "internal/bytealg.IndexString"], unfollowed := true, recurses := true, named := ["depository/record.fieldLSN", "depository/record.fieldSequence", "depository/record.fieldLinks", "depository/record.fieldFirst", "depository/record.fieldFlags", "depository/record.fieldEnd", "depository/record.fieldSize", "depository/record.fieldBase", "depository/record.fieldBaseOf", "depository/record.fieldNext", "unicode/utf8.first", "unicode/utf8.acceptRanges", "internal/bytealg.MaxLen"], apart := false, laid := [("unicode/utf8.acceptRanges", laid_unicode_utf8_acceptRanges), ("depository/record.fieldLSN", laid_depository_record_fieldLSN), ("depository/record.fieldSequence", laid_depository_record_fieldSequence), ("depository/record.fieldLinks", laid_depository_record_fieldLinks), ("depository/record.fieldFirst", laid_depository_record_fieldFirst), ("depository/record.fieldFlags", laid_depository_record_fieldFlags), ("depository/record.fieldEnd", laid_depository_record_fieldEnd), ("depository/record.fieldSize", laid_depository_record_fieldSize), ("depository/record.fieldBase", laid_depository_record_fieldBase), ("depository/record.fieldBaseOf", laid_depository_record_fieldBaseOf), ("depository/record.fieldNext", laid_depository_record_fieldNext), ("unicode/utf8.first", laid_unicode_utf8_first)], narrowed := true }
def TableEmptyUptoSaid : Prop := tableEmptyUptoRow.holds Tryz.pinned (OpenSpec.upto tableEmptySpec)

/-- 'depositorylaw11.TableOpens', WHERE WHAT IT READS IS OF BULK AT MOST 1048576: true; the input reads as it did. -/
def tableOpensUptoRow : OpenClaim := { program := "ythepfneloomngaagreatdoor", sum := "fe9bf4ce4b89ee0ceb8ebc26a684e690b5e6dcfb20a84c86a3769fae6fc61b6b", func := "depository/depositorylaw11.TableOpens", spec := "tableOpens", inPlace := ["internal/abi.NoEscape", "internal/bytealg.MakeNoZero", "internal/bytealg.IndexByteString", "internal/bytealg.IndexString"], unfollowed := true, recurses := true, named := ["depository/record.fieldLSN", "depository/record.fieldSequence", "depository/record.fieldLinks", "depository/record.fieldFirst", "depository/record.fieldFlags", "depository/record.fieldEnd", "depository/record.fieldSize", "depository/record.fieldBase", "depository/record.fieldBaseOf", "depository/record.fieldNext", "unicode/utf8.first", "unicode/utf8.acceptRanges", "internal/bytealg.MaxLen"], apart := false, laid := [("unicode/utf8.acceptRanges", laid_unicode_utf8_acceptRanges), ("depository/record.fieldLSN", laid_depository_record_fieldLSN), ("depository/record.fieldSequence", laid_depository_record_fieldSequence), ("depository/record.fieldLinks", laid_depository_record_fieldLinks), ("depository/record.fieldFirst", laid_depository_record_fieldFirst), ("depository/record.fieldFlags", laid_depository_record_fieldFlags), ("depository/record.fieldEnd", laid_depository_record_fieldEnd), ("depository/record.fieldSize", laid_depository_record_fieldSize), ("depository/record.fieldBase", laid_depository_record_fieldBase), ("depository/record.fieldBaseOf", laid_depository_record_fieldBaseOf), ("depository/record.fieldNext", laid_depository_record_fieldNext), ("unicode/utf8.first", laid_unicode_utf8_first)], narrowed := true }
def TableOpensUptoSaid : Prop := tableOpensUptoRow.holds Tryz.pinned (OpenSpec.upto tableOpensSpec)

/-- 'depositorylaw11.TableWrites', WHERE WHAT IT READS IS OF BULK AT MOST 1048576: true; the input reads as it did. -/
def tableWritesUptoRow : OpenClaim := { program := "ythepfneloomngaagreatdoor", sum := "fe9bf4ce4b89ee0ceb8ebc26a684e690b5e6dcfb20a84c86a3769fae6fc61b6b", func := "depository/depositorylaw11.TableWrites", spec := "tableWrites", inPlace := ["internal/abi.NoEscape", "internal/bytealg.MakeNoZero", "internal/bytealg.IndexByteString", "internal/bytealg.IndexString"], unfollowed := true, recurses := true, named := ["depository/record.fieldLSN", "depository/record.fieldSequence", "depository/record.fieldLinks", "depository/record.fieldFirst", "depository/record.fieldFlags", "depository/record.fieldEnd", "depository/record.fieldSize", "depository/record.fieldBase", "depository/record.fieldBaseOf", "depository/record.fieldNext", "unicode/utf8.first", "unicode/utf8.acceptRanges", "internal/bytealg.MaxLen"], apart := false, laid := [("unicode/utf8.acceptRanges", laid_unicode_utf8_acceptRanges), ("depository/record.fieldLSN", laid_depository_record_fieldLSN), ("depository/record.fieldSequence", laid_depository_record_fieldSequence), ("depository/record.fieldLinks", laid_depository_record_fieldLinks), ("depository/record.fieldFirst", laid_depository_record_fieldFirst), ("depository/record.fieldFlags", laid_depository_record_fieldFlags), ("depository/record.fieldEnd", laid_depository_record_fieldEnd), ("depository/record.fieldSize", laid_depository_record_fieldSize), ("depository/record.fieldBase", laid_depository_record_fieldBase), ("depository/record.fieldBaseOf", laid_depository_record_fieldBaseOf), ("depository/record.fieldNext", laid_depository_record_fieldNext), ("unicode/utf8.first", laid_unicode_utf8_first)], narrowed := true }
def TableWritesUptoSaid : Prop := tableWritesUptoRow.holds Tryz.pinned (OpenSpec.upto tableWritesSpec)

/-- 'depositorylaw11.TableGrows', WHERE WHAT IT READS IS OF BULK AT MOST 1048576: true; the input reads as it did. -/
def tableGrowsUptoRow : OpenClaim := { program := "ythepfneloomngaagreatdoor", sum := "fe9bf4ce4b89ee0ceb8ebc26a684e690b5e6dcfb20a84c86a3769fae6fc61b6b", func := "depository/depositorylaw11.TableGrows", spec := "tableGrows", inPlace := ["internal/abi.NoEscape", "internal/bytealg.MakeNoZero", "internal/bytealg.IndexByteString", "internal/bytealg.IndexString"], unfollowed := true, recurses := true, named := ["depository/record.fieldLSN", "depository/record.fieldSequence", "depository/record.fieldLinks", "depository/record.fieldFirst", "depository/record.fieldFlags", "depository/record.fieldEnd", "depository/record.fieldSize", "depository/record.fieldBase", "depository/record.fieldBaseOf", "depository/record.fieldNext", "unicode/utf8.first", "unicode/utf8.acceptRanges", "internal/bytealg.MaxLen"], apart := false, laid := [("unicode/utf8.acceptRanges", laid_unicode_utf8_acceptRanges), ("depository/record.fieldLSN", laid_depository_record_fieldLSN), ("depository/record.fieldSequence", laid_depository_record_fieldSequence), ("depository/record.fieldLinks", laid_depository_record_fieldLinks), ("depository/record.fieldFirst", laid_depository_record_fieldFirst), ("depository/record.fieldFlags", laid_depository_record_fieldFlags), ("depository/record.fieldEnd", laid_depository_record_fieldEnd), ("depository/record.fieldSize", laid_depository_record_fieldSize), ("depository/record.fieldBase", laid_depository_record_fieldBase), ("depository/record.fieldBaseOf", laid_depository_record_fieldBaseOf), ("depository/record.fieldNext", laid_depository_record_fieldNext), ("unicode/utf8.first", laid_unicode_utf8_first)], narrowed := true }
def TableGrowsUptoSaid : Prop := tableGrowsUptoRow.holds Tryz.pinned (OpenSpec.upto tableGrowsSpec)

end Rows
end Go.Proofs.YthepfneloomngaaGreatDoor
