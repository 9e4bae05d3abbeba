/-
  DERIVED. GIVEN WITH THE SEED: THE PROGRAM's TIES (one call each: nine closed facts by the kernel) AND EACH ROW's TIE, after the 31st guide's Derived/Test/Toyas{Tie, Card}.lean. No idea stands in it: it is a product of the set-up. Laid BY PROGRAM, IN A SANDBOX (cutbox-door.mjs). By AI agents, Wed Nov 11 2026. No macro, syntax, notation, axiom, sorry.
-/
import Derived.Test.YtalhnjjchkmfeabGreatDoorRows
import Derived.LaidByTextLater
import Derived.SevenTiedAt
import Derived.LaidSub
import Derived.LaidOnce
namespace Go.Proofs.YtalhnjjchkmfeabGreatDoor
open Go
set_option maxRecDepth 100000
theorem seatTie1 : Tryz.prog.laidByTextLater [("unicode/utf8.acceptRanges", Rows.laid_unicode_utf8_acceptRanges), ("depository/record.fieldLSN", Rows.laid_depository_record_fieldLSN), ("depository/record.fieldSequence", Rows.laid_depository_record_fieldSequence), ("depository/record.fieldLinks", Rows.laid_depository_record_fieldLinks), ("depository/record.fieldFirst", Rows.laid_depository_record_fieldFirst), ("depository/record.fieldFlags", Rows.laid_depository_record_fieldFlags), ("depository/record.fieldEnd", Rows.laid_depository_record_fieldEnd), ("depository/record.fieldSize", Rows.laid_depository_record_fieldSize), ("depository/record.fieldBase", Rows.laid_depository_record_fieldBase), ("depository/record.fieldBaseOf", Rows.laid_depository_record_fieldBaseOf), ("depository/record.fieldNext", Rows.laid_depository_record_fieldNext)] [.data, .wider, .wider, .wider, .wider, .wider, .wider, .wider, .wider, .wider, .wider] true :=
  Program.laidByTextLater_by_one 69 8 33 (by kernel_rfl) (by kernel_rfl) (by kernel_rfl) (by kernel_rfl) (by kernel_rfl) (by kernel_rfl) (fun _ _ => by kernel_rfl)
theorem pin_laid_unicode_utf8_first : Tryz.pinned.checked.prog.pinnedFits "unicode/utf8.first" = true := by kernel_rfl
theorem noOwnUnsafe : Tryz.pinned.checked.prog.headLifts.contains "ownunsafe" = false := by kernel_rfl
theorem fits1 : Tryz.pinned.checked.prog.listedFits [("unicode/utf8.acceptRanges", Rows.laid_unicode_utf8_acceptRanges), ("depository/record.fieldLSN", Rows.laid_depository_record_fieldLSN), ("depository/record.fieldSequence", Rows.laid_depository_record_fieldSequence), ("depository/record.fieldLinks", Rows.laid_depository_record_fieldLinks), ("depository/record.fieldFirst", Rows.laid_depository_record_fieldFirst), ("depository/record.fieldFlags", Rows.laid_depository_record_fieldFlags), ("depository/record.fieldEnd", Rows.laid_depository_record_fieldEnd), ("depository/record.fieldSize", Rows.laid_depository_record_fieldSize), ("depository/record.fieldBase", Rows.laid_depository_record_fieldBase), ("depository/record.fieldBaseOf", Rows.laid_depository_record_fieldBaseOf), ("depository/record.fieldNext", Rows.laid_depository_record_fieldNext), ("unicode/utf8.first", Rows.laid_unicode_utf8_first)] = true := by
  unfold Program.listedFits
  rw [noOwnUnsafe]
  kernel_rfl
theorem tie : Tryz.prog.laidByTextLater [("unicode/utf8.acceptRanges", Rows.laid_unicode_utf8_acceptRanges), ("depository/record.fieldLSN", Rows.laid_depository_record_fieldLSN), ("depository/record.fieldSequence", Rows.laid_depository_record_fieldSequence), ("depository/record.fieldLinks", Rows.laid_depository_record_fieldLinks), ("depository/record.fieldFirst", Rows.laid_depository_record_fieldFirst), ("depository/record.fieldFlags", Rows.laid_depository_record_fieldFlags), ("depository/record.fieldEnd", Rows.laid_depository_record_fieldEnd), ("depository/record.fieldSize", Rows.laid_depository_record_fieldSize), ("depository/record.fieldBase", Rows.laid_depository_record_fieldBase), ("depository/record.fieldBaseOf", Rows.laid_depository_record_fieldBaseOf), ("depository/record.fieldNext", Rows.laid_depository_record_fieldNext)] [.data, .wider, .wider, .wider, .wider, .wider, .wider, .wider, .wider, .wider, .wider] true :=
  Program.laidByTextLater.sub seatTie1 ["unicode/utf8.acceptRanges", "depository/record.fieldLSN", "depository/record.fieldSequence", "depository/record.fieldLinks", "depository/record.fieldFirst", "depository/record.fieldFlags", "depository/record.fieldEnd", "depository/record.fieldSize", "depository/record.fieldBase", "depository/record.fieldBaseOf", "depository/record.fieldNext"] (by kernel_rfl) (by kernel_rfl)
theorem tableWrites_row_tie : Rows.tableWritesRow.laidByTextAt .later Tryz.pinned [.data, .wider, .wider, .wider, .wider, .wider, .wider, .wider, .wider, .wider, .wider, .pinned] true :=
  OpenClaim.laidByTextAt_pinned rfl rfl tie rfl rfl rfl rfl (fun y hy _e => by
    simp only [Rows.tableWritesRow, List.zip_cons_cons, List.zip_nil_right, List.mem_cons, List.mem_nil_iff, or_false] at hy
    rcases hy with rfl | rfl | rfl | rfl | rfl | rfl | rfl | rfl | rfl | rfl | rfl | rfl
    · cases _e
    · cases _e
    · cases _e
    · cases _e
    · cases _e
    · cases _e
    · cases _e
    · cases _e
    · cases _e
    · cases _e
    · cases _e
    · exact ⟨pin_laid_unicode_utf8_first, by kernel_rfl⟩) fits1
theorem tableWritesUpto_row_tie : Rows.tableWritesUptoRow.laidByTextAt .later Tryz.pinned [.data, .wider, .wider, .wider, .wider, .wider, .wider, .wider, .wider, .wider, .wider, .pinned] true :=
  OpenClaim.laidByTextAt_pinned rfl rfl tie rfl rfl rfl rfl (fun y hy _e => by
    simp only [Rows.tableWritesUptoRow, List.zip_cons_cons, List.zip_nil_right, List.mem_cons, List.mem_nil_iff, or_false] at hy
    rcases hy with rfl | rfl | rfl | rfl | rfl | rfl | rfl | rfl | rfl | rfl | rfl | rfl
    · cases _e
    · cases _e
    · cases _e
    · cases _e
    · cases _e
    · cases _e
    · cases _e
    · cases _e
    · cases _e
    · cases _e
    · cases _e
    · exact ⟨pin_laid_unicode_utf8_first, by kernel_rfl⟩) fits1
end Go.Proofs.YtalhnjjchkmfeabGreatDoor
