/- Part. Conditions: none. -/
import Derived.Test.YtalhnjjchkmfeabGreatDoorTa
import Derived.Shelf.SlSortCmp.WholeK
namespace Go.Proofs.YtalhnjjchkmfeabGreatDoor
set_option linter.unusedSimpArgs false
set_option linter.unusedVariables false
open Go.Sort
section
variable {α:Type} [Inhabited α]
