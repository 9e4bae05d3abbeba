/- Part. Conditions: none. -/
import Derived.Test.YtalhnjjchkmfeabGreatDoorMj
import Derived.Test.YtalhnjjchkmfeabGreatDoorTc
import Derived.Test.YtalhnjjchkmfeabGreatDoorRm
namespace Go.Proofs.YtalhnjjchkmfeabGreatDoor
set_option linter.unusedSimpArgs false
set_option linter.unusedVariables false
open Go.Sort
