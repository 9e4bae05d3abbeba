/- Part. Conditions: none. -/
import Derived.Test.YtalhnjjchkmfeaaGreatDoorVo
namespace Go.Proofs.YtalhnjjchkmfeaaGreatDoor
set_option linter.unusedSimpArgs false
set_option linter.unusedVariables false
set_option maxRecDepth 4000
section
variable {G:aF}{bb:Bool}
theorem Yb{l:L aX}(h:(mU l).2=0):gP l=cE l:=by
 have a:=Dv h;exact Du l (fun r b=>(a.el r b).2.2) (by have:=a.sum;omega)
end
section
variable {G:aF}{bb:Bool}
end
section
variable {G:aF}{bb:Bool}
theorem aVo(l:L aI)(k:Nat)(a:k<l.length):(l.take (k+1)).map aI.e=(l.take k).map aI.e++[l[k].e]:=by
 rw[bAB a,bAg];rfl
