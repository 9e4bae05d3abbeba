/- What the frames over the base of records share. Conditions: none. -/
import Derived.Test.YtcplecjhmnblpaaGreatDoorSq
import Derived.Test.YtcplecjhmnblpaaGreatDoorSz
import Derived.Test.YtcplecjhmnblpaaGreatDoorRk
import Derived.Test.YtcplecjhmnblpaaGreatDoorTf
namespace Go.Proofs.YtcplecjhmnblpaaGreatDoor
set_option linter.unusedSimpArgs false
set_option linter.unusedVariables false
set_option maxRecDepth 4000
section
variable {G:Glob} {bb:Bool}
end
section
variable {G:Glob} {bb:Bool}
end
section
variable {G:Glob} {bb:Bool}
theorem okA_strL {m:Nat} {av:AV} (h:okA Tryz.prog (m+1) 9 av):∃ l:List Int,av=sv l∧Byts l∧l.length≤9223372036854775807:=by
 obtain ⟨s,rfl,hs⟩:=okA_string Tryz.underlying9 h
 obtain ⟨l,h1,rfl⟩:=str_all s
 rw [str_size] at hs
 exact ⟨l,rfl,h1,by unfold maxLen at hs;omega⟩
end
end Go.Proofs.YtcplecjhmnblpaaGreatDoor
