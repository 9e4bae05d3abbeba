/- Part. Conditions: none. -/
import Derived.Test.YtgdjbbnicgfohabGreatDoorUw
import Derived.Test.YtgdjbbnicgfohabGreatDoorTg
namespace Go.Proofs.YtgdjbbnicgfohabGreatDoor
set_option linter.unusedSimpArgs false
set_option linter.unusedVariables false
set_option maxRecDepth 4000
variable {G:aF}{bb:Bool}
