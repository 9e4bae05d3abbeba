/- Part. Conditions: none. -/
import Derived.Test.YtalhnjjchkmfeaaGreatDoorUw
import Derived.Test.YtalhnjjchkmfeaaGreatDoorTg
namespace Go.Proofs.YtalhnjjchkmfeaaGreatDoor
set_option linter.unusedSimpArgs false
set_option linter.unusedVariables false
set_option maxRecDepth 4000
variable {G:aF}{bb:Bool}
