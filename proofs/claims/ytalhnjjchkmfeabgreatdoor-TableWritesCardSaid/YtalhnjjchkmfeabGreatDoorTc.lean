/- Part. Conditions: none. -/
import Derived.Test.YtalhnjjchkmfeabGreatDoorChecked
import Derived.WalkKit
import Derived.Laws.Cover1
import Derived.Deep.RegionHeld3
import Derived.Sort.Grow
import Derived.Deep.Draws
import Derived.Test.YtalhnjjchkmfeabGreatDoorMk
namespace Go.Proofs.YtalhnjjchkmfeabGreatDoor
set_option linter.unusedSimpArgs false
set_option linter.unusedVariables false
open Go.RowKit Go.Sort
