/- Part. Conditions: none. -/
import Derived.Test.YtgdjbbnicgfohabGreatDoorVo
namespace Go.Proofs.YtgdjbbnicgfohabGreatDoor
set_option linter.unusedSimpArgs false
set_option linter.unusedVariables false
set_option maxRecDepth 4000
section
variable {G:aF}{bb:Bool}
theorem Yc{l:L aW}(h:(mT l).2=0):gQ l=cC l:=by
 have a:=Dr h;exact Dq l (fun r b=>(a.el r b).2.2) (by have:=a.sum;omega)
end
section
variable {G:aF}{bb:Bool}
end
section
variable {G:aF}{bb:Bool}
theorem aVs(l:L aJ)(k:Nat)(a:k<l.length):(l.take (k+1)).map aJ.e=(l.take k).map aJ.e++[l[k].e]:=by
 rw[bAA a,bAh];rfl
