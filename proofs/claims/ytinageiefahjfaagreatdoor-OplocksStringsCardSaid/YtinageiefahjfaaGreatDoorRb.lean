/- Accepted files have no error; what stays of files in runs. Conditions: none. -/
import Derived.Test.YtinageiefahjfaaGreatDoorRa
namespace Go.Proofs.YtinageiefahjfaaGreatDoor
set_option linter.unusedSimpArgs false
set_option linter.unusedVariables false
end Go.Proofs.YtinageiefahjfaaGreatDoor
