/- Part. Conditions: none. -/
import Derived.Test.YtalhnjjchkmfeabGreatDoorUw
import Derived.Test.YtalhnjjchkmfeabGreatDoorTg
namespace Go.Proofs.YtalhnjjchkmfeabGreatDoor
set_option linter.unusedSimpArgs false
set_option linter.unusedVariables false
set_option maxRecDepth 4000
variable {G:aE}{bb:Bool}
