/- Part. Conditions: none. -/
import Derived.Test.YtgdjbbnicgfohacGreatDoorUw
import Derived.Test.YtgdjbbnicgfohacGreatDoorTg
namespace Go.Proofs.YtgdjbbnicgfohacGreatDoor
set_option linter.unusedSimpArgs false
set_option linter.unusedVariables false
set_option maxRecDepth 4000
variable {G:aF}{bb:Bool}
