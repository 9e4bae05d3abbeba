/- A bigger base: what a table answers it answers over a bigger base too. Conditions: none. -/
import Derived.Test.YtmmafhopnkkeeaaGreatDoorNd
namespace Go.Proofs.YtmmafhopnkkeeaaGreatDoor
set_option linter.unusedSimpArgs false
set_option linter.unusedVariables false
end Go.Proofs.YtmmafhopnkkeeaaGreatDoor
