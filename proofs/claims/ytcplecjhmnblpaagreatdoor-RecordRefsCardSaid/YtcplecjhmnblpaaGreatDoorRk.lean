/- strings.Join as a base contract. Conditions: none. -/
import Derived.Test.YtcplecjhmnblpaaGreatDoorTa
import Derived.Test.YtcplecjhmnblpaaGreatDoorRj
namespace Go.Proofs.YtcplecjhmnblpaaGreatDoor
set_option linter.unusedSimpArgs false
set_option linter.unusedVariables false
open Go.RowKit
end Go.Proofs.YtcplecjhmnblpaaGreatDoor
