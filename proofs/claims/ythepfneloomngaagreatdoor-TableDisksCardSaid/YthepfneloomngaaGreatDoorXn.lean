/- TableDisks starts no goroutine. Conditions: none. -/
import Derived.Test.YthepfneloomngaaGreatDoorRows
import Derived.Test.YthepfneloomngaaGreatDoorCards
import Derived.Test.YthepfneloomngaaGreatDoorTie
namespace Go.Proofs.YthepfneloomngaaGreatDoor
open Go
set_option maxRecDepth 100000
theorem D3:false=Rows.tableDisksRow.goesBy Tryz.pinned.checked.prog:=by kernel_rfl
end Go.Proofs.YthepfneloomngaaGreatDoor
