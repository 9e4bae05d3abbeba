/-
  NARROWER THAN 'FOR EVERY INPUT', by the rows' own cells (each row's printed sentence says how): OplocksErrors: laid · OplocksRuns: laid · OplocksCaches: laid · OplocksSteps: laid · OplocksStates: laid · OplocksStrings: laid · TopOplocksSafe: laid.
  DERIVED. THE GIVEN ROWS OF THIS SEAT. 7 by the template 'for every input the law returns true; each argument reads behind the call as it read before'; 0 by the template 'total and deterministic' (their statements: YtinageiefahjfaaGreatDoorTotals.lean).
  GIVEN WITH THE SEED: the statements are not yours to turn. If you find one false, say at which input.
  Laid BY PROGRAM, IN A SANDBOX (cutbox-rows.mjs): the forced cells as the released guide's own fill.sh prints them over the translation 95c6ebdee01e08d4… (all of the seat's roots in one cut). By AI agents, Wed Nov 11 2026. No macro, syntax, notation, axiom, sorry.
-/
import Derived.Test.YtinageiefahjfaaGreatDoorChecked
import GoSem.PinnedTables
import GoSem.Claim
import GoSem.ClaimJoined
import GoSem.ClaimMapViews
import Derived.JoinedTies
import Derived.KernelRfl
namespace Go.Proofs.YtinageiefahjfaaGreatDoor
/- THE CELL 'sum', in the pinned program and in every row, IS THE sha256 OF THE DUMP (.gsa) THAT YtinageiefahjfaaGreatDoorProg.lean LOADS. Nothing in Lean hashes anything: it is a label: what it is worth is what the hold of that sum in a sandbox is worth. -/
noncomputable def Tryz.pinned : Pinned := { name := "ytinageiefahjfaagreatdoor", sum := "95c6ebdee01e08d41fe13e3e43e0aa99173dc8ceef340ed5da80383766a5bc31", checked := Tryz.checked }
namespace Rows
def none {H : Type} : Left H := { results := [], args := [] }

/- WHAT THE LISTED PACKAGE-LEVEL VARIABLES READ AS WHEN THE CALL BEGINS. Each datum BY PROGRAM (the guide's laid-datum.mjs) off the statement by which the dump's own 'gosem.cut.vars' lays the variable. In a bare row this is a premise. The card (YtinageiefahjfaaGreatDoorCards.lean) ties it to the program's text. -/
def laid_math_bits_deBruijn32tab {H : Type} : DataW H := .agg [.lit (.int .u8 0), .lit (.int .u8 1), .lit (.int .u8 28), .lit (.int .u8 2), .lit (.int .u8 29), .lit (.int .u8 14), .lit (.int .u8 24), .lit (.int .u8 3), .lit (.int .u8 30), .lit (.int .u8 22), .lit (.int .u8 20), .lit (.int .u8 15), .lit (.int .u8 25), .lit (.int .u8 17), .lit (.int .u8 4), .lit (.int .u8 8), .lit (.int .u8 31), .lit (.int .u8 27), .lit (.int .u8 13), .lit (.int .u8 23), .lit (.int .u8 21), .lit (.int .u8 19), .lit (.int .u8 16), .lit (.int .u8 7), .lit (.int .u8 26), .lit (.int .u8 12), .lit (.int .u8 18), .lit (.int .u8 6), .lit (.int .u8 11), .lit (.int .u8 5), .lit (.int .u8 10), .lit (.int .u8 9)]
def laid_math_bits_deBruijn64tab {H : Type} : DataW H := .agg [.lit (.int .u8 0), .lit (.int .u8 1), .lit (.int .u8 56), .lit (.int .u8 2), .lit (.int .u8 57), .lit (.int .u8 49), .lit (.int .u8 28), .lit (.int .u8 3), .lit (.int .u8 61), .lit (.int .u8 58), .lit (.int .u8 42), .lit (.int .u8 50), .lit (.int .u8 38), .lit (.int .u8 29), .lit (.int .u8 17), .lit (.int .u8 4), .lit (.int .u8 62), .lit (.int .u8 47), .lit (.int .u8 59), .lit (.int .u8 36), .lit (.int .u8 45), .lit (.int .u8 43), .lit (.int .u8 51), .lit (.int .u8 22), .lit (.int .u8 53), .lit (.int .u8 39), .lit (.int .u8 33), .lit (.int .u8 30), .lit (.int .u8 24), .lit (.int .u8 18), .lit (.int .u8 12), .lit (.int .u8 5), .lit (.int .u8 63), .lit (.int .u8 55), .lit (.int .u8 48), .lit (.int .u8 27), .lit (.int .u8 60), .lit (.int .u8 41), .lit (.int .u8 37), .lit (.int .u8 16), .lit (.int .u8 46), .lit (.int .u8 35), .lit (.int .u8 44), .lit (.int .u8 21), .lit (.int .u8 52), .lit (.int .u8 32), .lit (.int .u8 23), .lit (.int .u8 11), .lit (.int .u8 54), .lit (.int .u8 26), .lit (.int .u8 40), .lit (.int .u8 15), .lit (.int .u8 34), .lit (.int .u8 20), .lit (.int .u8 31), .lit (.int .u8 10), .lit (.int .u8 25), .lit (.int .u8 14), .lit (.int .u8 19), .lit (.int .u8 9), .lit (.int .u8 13), .lit (.int .u8 8), .lit (.int .u8 7), .lit (.int .u8 6)]
def laid_internal_strconv_uint64pow10 {H : Type} : DataW H := .agg [.lit (.int .u64 1), .lit (.int .u64 10), .lit (.int .u64 100), .lit (.int .u64 1000), .lit (.int .u64 10000), .lit (.int .u64 100000), .lit (.int .u64 1000000), .lit (.int .u64 10000000), .lit (.int .u64 100000000), .lit (.int .u64 1000000000), .lit (.int .u64 10000000000), .lit (.int .u64 100000000000), .lit (.int .u64 1000000000000), .lit (.int .u64 10000000000000), .lit (.int .u64 100000000000000), .lit (.int .u64 1000000000000000), .lit (.int .u64 10000000000000000), .lit (.int .u64 100000000000000000), .lit (.int .u64 1000000000000000000), .lit (.int .u64 10000000000000000000)]
def laid_depository_oplocks_allows {H : Type} : DataW H := .agg [.lit (.int .i64 2), .lit (.int .i64 0), .lit (.int .i64 1), .lit (.int .i64 0)]
def laid_unicode_utf8_acceptRanges {H : Type} : DataW H := .agg [.agg [.lit (.int .u8 128), .lit (.int .u8 191)], .agg [.lit (.int .u8 160), .lit (.int .u8 191)], .agg [.lit (.int .u8 128), .lit (.int .u8 159)], .agg [.lit (.int .u8 144), .lit (.int .u8 191)], .agg [.lit (.int .u8 128), .lit (.int .u8 143)], .agg [.lit (.int .u8 0), .lit (.int .u8 0)], .agg [.lit (.int .u8 0), .lit (.int .u8 0)], .agg [.lit (.int .u8 0), .lit (.int .u8 0)], .agg [.lit (.int .u8 0), .lit (.int .u8 0)], .agg [.lit (.int .u8 0), .lit (.int .u8 0)], .agg [.lit (.int .u8 0), .lit (.int .u8 0)], .agg [.lit (.int .u8 0), .lit (.int .u8 0)], .agg [.lit (.int .u8 0), .lit (.int .u8 0)], .agg [.lit (.int .u8 0), .lit (.int .u8 0)], .agg [.lit (.int .u8 0), .lit (.int .u8 0)], .agg [.lit (.int .u8 0), .lit (.int .u8 0)]]
/-- One of Go's own tables, pinned by name: the form's constant. -/
def laid_unicode_utf8_first : DataW Unit := Go.Pinned.utf8First

/-- 'depositorylaw26.OplocksErrors': WHATEVER THE INPUT: true; the input reads as it did. -/
def oplocksErrorsSpec : ChangeSpec := { name := "oplocksErrors", fn := fun _ => fun
  | [d] => { results := [.lit (.bool true)], args := [d] }
  | _ => none }
def oplocksErrorsRow : OpenClaim := { program := "ytinageiefahjfaagreatdoor", sum := "95c6ebdee01e08d41fe13e3e43e0aa99173dc8ceef340ed5da80383766a5bc31", func := "depository/depositorylaw26.OplocksErrors", spec := "oplocksErrors", inPlace := ["slices.overlaps[depository/api.OplockGrant]", "internal/abi.NoEscape", "internal/bytealg.MakeNoZero"], unfollowed := true, recurses := true, named := ["depository/oplocks.allows", "internal/strconv.uint64pow10", "math/bits.deBruijn32tab", "math/bits.deBruijn64tab"], apart := false, laid := [("math/bits.deBruijn32tab", laid_math_bits_deBruijn32tab), ("math/bits.deBruijn64tab", laid_math_bits_deBruijn64tab), ("internal/strconv.uint64pow10", laid_internal_strconv_uint64pow10), ("depository/oplocks.allows", laid_depository_oplocks_allows)] }
def OplocksErrorsSaid : Prop := oplocksErrorsRow.holds Tryz.pinned (OpenSpec.ofChange oplocksErrorsSpec)

/-- ITS FALSE NEIGHBOUR: 'it returns false'. Refute it at one input. -/
def oplocksErrorsWrong : ChangeSpec := { name := "oplocksErrors", fn := fun _ => fun
  | [d] => { results := [.lit (.bool false)], args := [d] }
  | _ => none }
def OplocksErrorsWrongFalsely : Prop := oplocksErrorsRow.holds Tryz.pinned (OpenSpec.ofChange oplocksErrorsWrong)

/-- 'depositorylaw26.OplocksRuns': WHATEVER THE INPUT: true; the input reads as it did. -/
def oplocksRunsSpec : ChangeSpec := { name := "oplocksRuns", fn := fun _ => fun
  | [d] => { results := [.lit (.bool true)], args := [d] }
  | _ => none }
def oplocksRunsRow : OpenClaim := { program := "ytinageiefahjfaagreatdoor", sum := "95c6ebdee01e08d41fe13e3e43e0aa99173dc8ceef340ed5da80383766a5bc31", func := "depository/depositorylaw26.OplocksRuns", spec := "oplocksRuns", inPlace := ["slices.overlaps[depository/api.OplockGrant]", "internal/abi.NoEscape", "internal/bytealg.MakeNoZero"], unfollowed := true, recurses := true, named := ["depository/oplocks.allows", "internal/strconv.uint64pow10", "math/bits.deBruijn32tab", "math/bits.deBruijn64tab"], apart := false, laid := [("math/bits.deBruijn32tab", laid_math_bits_deBruijn32tab), ("math/bits.deBruijn64tab", laid_math_bits_deBruijn64tab), ("internal/strconv.uint64pow10", laid_internal_strconv_uint64pow10), ("depository/oplocks.allows", laid_depository_oplocks_allows)] }
def OplocksRunsSaid : Prop := oplocksRunsRow.holds Tryz.pinned (OpenSpec.ofChange oplocksRunsSpec)

/-- ITS FALSE NEIGHBOUR: 'it returns false'. Refute it at one input. -/
def oplocksRunsWrong : ChangeSpec := { name := "oplocksRuns", fn := fun _ => fun
  | [d] => { results := [.lit (.bool false)], args := [d] }
  | _ => none }
def OplocksRunsWrongFalsely : Prop := oplocksRunsRow.holds Tryz.pinned (OpenSpec.ofChange oplocksRunsWrong)

/-- 'depositorylaw26.OplocksCaches': WHATEVER THE INPUT: true; the input reads as it did. -/
def oplocksCachesSpec : ChangeSpec := { name := "oplocksCaches", fn := fun _ => fun
  | [d] => { results := [.lit (.bool true)], args := [d] }
  | _ => none }
def oplocksCachesRow : OpenClaim := { program := "ytinageiefahjfaagreatdoor", sum := "95c6ebdee01e08d41fe13e3e43e0aa99173dc8ceef340ed5da80383766a5bc31", func := "depository/depositorylaw26.OplocksCaches", spec := "oplocksCaches", inPlace := ["slices.overlaps[depository/api.OplockGrant]", "internal/abi.NoEscape", "internal/bytealg.MakeNoZero"], unfollowed := true, recurses := true, named := ["depository/oplocks.allows", "internal/strconv.uint64pow10", "math/bits.deBruijn32tab", "math/bits.deBruijn64tab"], apart := false, laid := [("math/bits.deBruijn32tab", laid_math_bits_deBruijn32tab), ("math/bits.deBruijn64tab", laid_math_bits_deBruijn64tab), ("internal/strconv.uint64pow10", laid_internal_strconv_uint64pow10), ("depository/oplocks.allows", laid_depository_oplocks_allows)] }
def OplocksCachesSaid : Prop := oplocksCachesRow.holds Tryz.pinned (OpenSpec.ofChange oplocksCachesSpec)

/-- ITS FALSE NEIGHBOUR: 'it returns false'. Refute it at one input. -/
def oplocksCachesWrong : ChangeSpec := { name := "oplocksCaches", fn := fun _ => fun
  | [d] => { results := [.lit (.bool false)], args := [d] }
  | _ => none }
def OplocksCachesWrongFalsely : Prop := oplocksCachesRow.holds Tryz.pinned (OpenSpec.ofChange oplocksCachesWrong)

/-- 'depositorylaw26.OplocksSteps': WHATEVER THE INPUT: true; the input reads as it did. -/
def oplocksStepsSpec : ChangeSpec := { name := "oplocksSteps", fn := fun _ => fun
  | [d1, d2] => { results := [.lit (.bool true)], args := [d1, d2] }
  | _ => none }
def oplocksStepsRow : OpenClaim := { program := "ytinageiefahjfaagreatdoor", sum := "95c6ebdee01e08d41fe13e3e43e0aa99173dc8ceef340ed5da80383766a5bc31", func := "depository/depositorylaw26.OplocksSteps", spec := "oplocksSteps", inPlace := ["slices.overlaps[depository/api.OplockGrant]", "internal/abi.NoEscape", "internal/bytealg.MakeNoZero"], unfollowed := true, recurses := true, named := ["depository/oplocks.allows", "internal/strconv.uint64pow10", "math/bits.deBruijn32tab", "math/bits.deBruijn64tab"], apart := false, laid := [("math/bits.deBruijn32tab", laid_math_bits_deBruijn32tab), ("math/bits.deBruijn64tab", laid_math_bits_deBruijn64tab), ("internal/strconv.uint64pow10", laid_internal_strconv_uint64pow10), ("depository/oplocks.allows", laid_depository_oplocks_allows)] }
def OplocksStepsSaid : Prop := oplocksStepsRow.holds Tryz.pinned (OpenSpec.ofChange oplocksStepsSpec)

/-- ITS FALSE NEIGHBOUR: 'it returns false'. Refute it at one input. -/
def oplocksStepsWrong : ChangeSpec := { name := "oplocksSteps", fn := fun _ => fun
  | [d1, d2] => { results := [.lit (.bool false)], args := [d1, d2] }
  | _ => none }
def OplocksStepsWrongFalsely : Prop := oplocksStepsRow.holds Tryz.pinned (OpenSpec.ofChange oplocksStepsWrong)

/-- 'depositorylaw26.OplocksStates': WHATEVER THE INPUT: true; the input reads as it did. -/
def oplocksStatesSpec : ChangeSpec := { name := "oplocksStates", fn := fun _ => fun
  | [d1, d2] => { results := [.lit (.bool true)], args := [d1, d2] }
  | _ => none }
def oplocksStatesRow : OpenClaim := { program := "ytinageiefahjfaagreatdoor", sum := "95c6ebdee01e08d41fe13e3e43e0aa99173dc8ceef340ed5da80383766a5bc31", func := "depository/depositorylaw26.OplocksStates", spec := "oplocksStates", inPlace := ["slices.overlaps[depository/api.OplockGrant]", "internal/abi.NoEscape", "internal/bytealg.MakeNoZero"], unfollowed := true, recurses := true, named := ["depository/oplocks.allows", "internal/strconv.uint64pow10", "math/bits.deBruijn32tab", "math/bits.deBruijn64tab"], apart := false, laid := [("math/bits.deBruijn32tab", laid_math_bits_deBruijn32tab), ("math/bits.deBruijn64tab", laid_math_bits_deBruijn64tab), ("internal/strconv.uint64pow10", laid_internal_strconv_uint64pow10), ("depository/oplocks.allows", laid_depository_oplocks_allows)] }
def OplocksStatesSaid : Prop := oplocksStatesRow.holds Tryz.pinned (OpenSpec.ofChange oplocksStatesSpec)

/-- ITS FALSE NEIGHBOUR: 'it returns false'. Refute it at one input. -/
def oplocksStatesWrong : ChangeSpec := { name := "oplocksStates", fn := fun _ => fun
  | [d1, d2] => { results := [.lit (.bool false)], args := [d1, d2] }
  | _ => none }
def OplocksStatesWrongFalsely : Prop := oplocksStatesRow.holds Tryz.pinned (OpenSpec.ofChange oplocksStatesWrong)

/-- 'depositorylaw26.OplocksStrings': WHATEVER THE INPUT: true; the input reads as it did. -/
def oplocksStringsSpec : ChangeSpec := { name := "oplocksStrings", fn := fun _ => fun
  | [d1, d2] => { results := [.lit (.bool true)], args := [d1, d2] }
  | _ => none }
def oplocksStringsRow : OpenClaim := { program := "ytinageiefahjfaagreatdoor", sum := "95c6ebdee01e08d41fe13e3e43e0aa99173dc8ceef340ed5da80383766a5bc31", func := "depository/depositorylaw26.OplocksStrings", spec := "oplocksStrings", inPlace := ["slices.overlaps[depository/api.OplockGrant]", "internal/abi.NoEscape", "internal/bytealg.MakeNoZero", "internal/bytealg.IndexByteString", "internal/bytealg.IndexString", "internal/bytealg.CountString"], unfollowed := true, recurses := true, named := ["depository/oplocks.allows", "internal/strconv.uint64pow10", "math/bits.deBruijn32tab", "math/bits.deBruijn64tab", "internal/bytealg.MaxLen", "unicode/utf8.first", "unicode/utf8.acceptRanges"], apart := false, laid := [("math/bits.deBruijn32tab", laid_math_bits_deBruijn32tab), ("math/bits.deBruijn64tab", laid_math_bits_deBruijn64tab), ("internal/strconv.uint64pow10", laid_internal_strconv_uint64pow10), ("unicode/utf8.acceptRanges", laid_unicode_utf8_acceptRanges), ("depository/oplocks.allows", laid_depository_oplocks_allows), ("unicode/utf8.first", laid_unicode_utf8_first)] }
def OplocksStringsSaid : Prop := oplocksStringsRow.holds Tryz.pinned (OpenSpec.ofChange oplocksStringsSpec)

/-- ITS FALSE NEIGHBOUR: 'it returns false'. Refute it at one input. -/
def oplocksStringsWrong : ChangeSpec := { name := "oplocksStrings", fn := fun _ => fun
  | [d1, d2] => { results := [.lit (.bool false)], args := [d1, d2] }
  | _ => none }
def OplocksStringsWrongFalsely : Prop := oplocksStringsRow.holds Tryz.pinned (OpenSpec.ofChange oplocksStringsWrong)

/-- 'depositorytop.TopOplocksSafe': WHATEVER THE INPUT: true; the input reads as it did. -/
def topOplocksSafeSpec : ChangeSpec := { name := "topOplocksSafe", fn := fun _ => fun
  | [d] => { results := [.lit (.bool true)], args := [d] }
  | _ => none }
def topOplocksSafeRow : OpenClaim := { program := "ytinageiefahjfaagreatdoor", sum := "95c6ebdee01e08d41fe13e3e43e0aa99173dc8ceef340ed5da80383766a5bc31", func := "depository/depositorytop.TopOplocksSafe", spec := "topOplocksSafe", inPlace := ["slices.overlaps[depository/api.OplockGrant]", "slices.overlaps[depository/api.HandleFile]"], unfollowed := true, recurses := true, named := ["depository/oplocks.allows"], apart := false, laid := [("depository/oplocks.allows", laid_depository_oplocks_allows)] }
def TopOplocksSafeSaid : Prop := topOplocksSafeRow.holds Tryz.pinned (OpenSpec.ofChange topOplocksSafeSpec)

/-- ITS FALSE NEIGHBOUR: 'it returns false'. Refute it at one input. -/
def topOplocksSafeWrong : ChangeSpec := { name := "topOplocksSafe", fn := fun _ => fun
  | [d] => { results := [.lit (.bool false)], args := [d] }
  | _ => none }
def TopOplocksSafeWrongFalsely : Prop := topOplocksSafeRow.holds Tryz.pinned (OpenSpec.ofChange topOplocksSafeWrong)

/- THE SECOND FORM. 'bulk': how many values and letters a reading holds, each counted each time it is reached (what is shared counts as often as it is met; a slice's spare places count too). A statement '..UptoSaid' is the law's where the arguments, and the package variables that the reading takes, are together of bulk at most 1048576: NARROWER than '..Said'. Prove '..Said' where nothing that the law and all that it calls make is longer than what came in: it says more and counts as full. Else prove '..UptoSaid'. A law counts once. -/
mutual
def uptoBulk {H : Type} : DataW H → Nat
  | .lit (.string bytes) => bytes.length + 1
  | .lit _ => 1
  | .nil => 1
  | .ptr d => uptoBulk d + 1
  | .slice elems spare => uptoBulkAll elems + uptoBulkAll spare + 1
  | .agg parts => uptoBulkAll parts + 1
  | .iface _ d => uptoBulk d + 1
  | .map entries => uptoBulkEntries entries + 1
  | .held _ => 1
def uptoBulkAll {H : Type} : List (DataW H) → Nat
  | [] => 0
  | d :: r => uptoBulk d + uptoBulkAll r
def uptoBulkEntries {H : Type} : List (Lit × DataW H) → Nat
  | [] => 0
  | x :: r => uptoBulkEntry x + uptoBulkEntries r
def uptoBulkEntry {H : Type} : Lit × DataW H → Nat
  | (.string bytes, d) => bytes.length + uptoBulk d + 1
  | (_, d) => uptoBulk d + 1
 end
def uptoSmall : (H : Type) → List (DataW H) → Bool := fun _ ds => decide (uptoBulkAll ds ≤ 1048576)
def OpenSpec.upto (s : _root_.Go.ChangeSpec) : _root_.Go.OpenSpec := { _root_.Go.OpenSpec.ofChange s with cond := some uptoSmall }

/-- 'depositorylaw26.OplocksErrors', WHERE WHAT IT READS IS OF BULK AT MOST 1048576: true; the input reads as it did. -/
def oplocksErrorsUptoRow : OpenClaim := { program := "ytinageiefahjfaagreatdoor", sum := "95c6ebdee01e08d41fe13e3e43e0aa99173dc8ceef340ed5da80383766a5bc31", func := "depository/depositorylaw26.OplocksErrors", spec := "oplocksErrors", inPlace := ["slices.overlaps[depository/api.OplockGrant]", "internal/abi.NoEscape", "internal/bytealg.MakeNoZero"], unfollowed := true, recurses := true, named := ["depository/oplocks.allows", "internal/strconv.uint64pow10", "math/bits.deBruijn32tab", "math/bits.deBruijn64tab"], apart := false, laid := [("math/bits.deBruijn32tab", laid_math_bits_deBruijn32tab), ("math/bits.deBruijn64tab", laid_math_bits_deBruijn64tab), ("internal/strconv.uint64pow10", laid_internal_strconv_uint64pow10), ("depository/oplocks.allows", laid_depository_oplocks_allows)], narrowed := true }
def OplocksErrorsUptoSaid : Prop := oplocksErrorsUptoRow.holds Tryz.pinned (OpenSpec.upto oplocksErrorsSpec)

/-- 'depositorylaw26.OplocksRuns', WHERE WHAT IT READS IS OF BULK AT MOST 1048576: true; the input reads as it did. -/
def oplocksRunsUptoRow : OpenClaim := { program := "ytinageiefahjfaagreatdoor", sum := "95c6ebdee01e08d41fe13e3e43e0aa99173dc8ceef340ed5da80383766a5bc31", func := "depository/depositorylaw26.OplocksRuns", spec := "oplocksRuns", inPlace := ["slices.overlaps[depository/api.OplockGrant]", "internal/abi.NoEscape", "internal/bytealg.MakeNoZero"], unfollowed := true, recurses := true, named := ["depository/oplocks.allows", "internal/strconv.uint64pow10", "math/bits.deBruijn32tab", "math/bits.deBruijn64tab"], apart := false, laid := [("math/bits.deBruijn32tab", laid_math_bits_deBruijn32tab), ("math/bits.deBruijn64tab", laid_math_bits_deBruijn64tab), ("internal/strconv.uint64pow10", laid_internal_strconv_uint64pow10), ("depository/oplocks.allows", laid_depository_oplocks_allows)], narrowed := true }
def OplocksRunsUptoSaid : Prop := oplocksRunsUptoRow.holds Tryz.pinned (OpenSpec.upto oplocksRunsSpec)

/-- 'depositorylaw26.OplocksCaches', WHERE WHAT IT READS IS OF BULK AT MOST 1048576: true; the input reads as it did. -/
def oplocksCachesUptoRow : OpenClaim := { program := "ytinageiefahjfaagreatdoor", sum := "95c6ebdee01e08d41fe13e3e43e0aa99173dc8ceef340ed5da80383766a5bc31", func := "depository/depositorylaw26.OplocksCaches", spec := "oplocksCaches", inPlace := ["slices.overlaps[depository/api.OplockGrant]", "internal/abi.NoEscape", "internal/bytealg.MakeNoZero"], unfollowed := true, recurses := true, named := ["depository/oplocks.allows", "internal/strconv.uint64pow10", "math/bits.deBruijn32tab", "math/bits.deBruijn64tab"], apart := false, laid := [("math/bits.deBruijn32tab", laid_math_bits_deBruijn32tab), ("math/bits.deBruijn64tab", laid_math_bits_deBruijn64tab), ("internal/strconv.uint64pow10", laid_internal_strconv_uint64pow10), ("depository/oplocks.allows", laid_depository_oplocks_allows)], narrowed := true }
def OplocksCachesUptoSaid : Prop := oplocksCachesUptoRow.holds Tryz.pinned (OpenSpec.upto oplocksCachesSpec)

/-- 'depositorylaw26.OplocksSteps', WHERE WHAT IT READS IS OF BULK AT MOST 1048576: true; the input reads as it did. -/
def oplocksStepsUptoRow : OpenClaim := { program := "ytinageiefahjfaagreatdoor", sum := "95c6ebdee01e08d41fe13e3e43e0aa99173dc8ceef340ed5da80383766a5bc31", func := "depository/depositorylaw26.OplocksSteps", spec := "oplocksSteps", inPlace := ["slices.overlaps[depository/api.OplockGrant]", "internal/abi.NoEscape", "internal/bytealg.MakeNoZero"], unfollowed := true, recurses := true, named := ["depository/oplocks.allows", "internal/strconv.uint64pow10", "math/bits.deBruijn32tab", "math/bits.deBruijn64tab"], apart := false, laid := [("math/bits.deBruijn32tab", laid_math_bits_deBruijn32tab), ("math/bits.deBruijn64tab", laid_math_bits_deBruijn64tab), ("internal/strconv.uint64pow10", laid_internal_strconv_uint64pow10), ("depository/oplocks.allows", laid_depository_oplocks_allows)], narrowed := true }
def OplocksStepsUptoSaid : Prop := oplocksStepsUptoRow.holds Tryz.pinned (OpenSpec.upto oplocksStepsSpec)

/-- 'depositorylaw26.OplocksStates', WHERE WHAT IT READS IS OF BULK AT MOST 1048576: true; the input reads as it did. -/
def oplocksStatesUptoRow : OpenClaim := { program := "ytinageiefahjfaagreatdoor", sum := "95c6ebdee01e08d41fe13e3e43e0aa99173dc8ceef340ed5da80383766a5bc31", func := "depository/depositorylaw26.OplocksStates", spec := "oplocksStates", inPlace := ["slices.overlaps[depository/api.OplockGrant]", "internal/abi.NoEscape", "internal/bytealg.MakeNoZero"], unfollowed := true, recurses := true, named := ["depository/oplocks.allows", "internal/strconv.uint64pow10", "math/bits.deBruijn32tab", "math/bits.deBruijn64tab"], apart := false, laid := [("math/bits.deBruijn32tab", laid_math_bits_deBruijn32tab), ("math/bits.deBruijn64tab", laid_math_bits_deBruijn64tab), ("internal/strconv.uint64pow10", laid_internal_strconv_uint64pow10), ("depository/oplocks.allows", laid_depository_oplocks_allows)], narrowed := true }
def OplocksStatesUptoSaid : Prop := oplocksStatesUptoRow.holds Tryz.pinned (OpenSpec.upto oplocksStatesSpec)

/-- 'depositorylaw26.OplocksStrings', WHERE WHAT IT READS IS OF BULK AT MOST 1048576: true; the input reads as it did. -/
def oplocksStringsUptoRow : OpenClaim := { program := "ytinageiefahjfaagreatdoor", sum := "95c6ebdee01e08d41fe13e3e43e0aa99173dc8ceef340ed5da80383766a5bc31", func := "depository/depositorylaw26.OplocksStrings", spec := "oplocksStrings", inPlace := ["slices.overlaps[depository/api.OplockGrant]", "internal/abi.NoEscape", "internal/bytealg.MakeNoZero", "internal/bytealg.IndexByteString", "internal/bytealg.IndexString", "internal/bytealg.CountString"], unfollowed := true, recurses := true, named := ["depository/oplocks.allows", "internal/strconv.uint64pow10", "math/bits.deBruijn32tab", "math/bits.deBruijn64tab", "internal/bytealg.MaxLen", "unicode/utf8.first", "unicode/utf8.acceptRanges"], apart := false, laid := [("math/bits.deBruijn32tab", laid_math_bits_deBruijn32tab), ("math/bits.deBruijn64tab", laid_math_bits_deBruijn64tab), ("internal/strconv.uint64pow10", laid_internal_strconv_uint64pow10), ("unicode/utf8.acceptRanges", laid_unicode_utf8_acceptRanges), ("depository/oplocks.allows", laid_depository_oplocks_allows), ("unicode/utf8.first", laid_unicode_utf8_first)], narrowed := true }
def OplocksStringsUptoSaid : Prop := oplocksStringsUptoRow.holds Tryz.pinned (OpenSpec.upto oplocksStringsSpec)

/-- 'depositorytop.TopOplocksSafe', WHERE WHAT IT READS IS OF BULK AT MOST 1048576: true; the input reads as it did. -/
def topOplocksSafeUptoRow : OpenClaim := { program := "ytinageiefahjfaagreatdoor", sum := "95c6ebdee01e08d41fe13e3e43e0aa99173dc8ceef340ed5da80383766a5bc31", func := "depository/depositorytop.TopOplocksSafe", spec := "topOplocksSafe", inPlace := ["slices.overlaps[depository/api.OplockGrant]", "slices.overlaps[depository/api.HandleFile]"], unfollowed := true, recurses := true, named := ["depository/oplocks.allows"], apart := false, laid := [("depository/oplocks.allows", laid_depository_oplocks_allows)], narrowed := true }
def TopOplocksSafeUptoSaid : Prop := topOplocksSafeUptoRow.holds Tryz.pinned (OpenSpec.upto topOplocksSafeSpec)

end Rows
end Go.Proofs.YtinageiefahjfaaGreatDoor
