/- The chapter's examples: the calls that they make, run. Conditions: none. -/
import Derived.Test.YtginjcpblgpcoaaLv
import Derived.Test.YtginjcpblgpcoaaCa
namespace Go.Proofs.Ytginjcpblgpcoaa
def G0 : Glob := fun _ => none
def tvi (n : Int) : TV := .one (.dc (.raw (.int .i64 n)))
def tvl (es : List (List DC)) : TV := .one (.dc (.slc es))
def tvs (l : List UInt8) : TV := .one (.dc (.raw (.string ⟨⟨l⟩⟩)))
def vs (l : List UInt8) : AV := .one (.dc (.raw (.string ⟨⟨l⟩⟩)))
def three : List (List DC) := [[ci 5, ci 3], [ci (-1), ci 2], [ci 4, ci 1]]
theorem three_q : QC Try.prog G0 44 [] (vl three) := QC.run tbl_ok 40 (by kernel_rfl)
theorem ex_encode : QC Try.prog G0 30 [vl three] (.tup [tvs [17, 3, 5, 1, 2, 17, 1, 255, 0], tvi 0]) := QC.run tbl_ok 2000 (by kernel_rfl)
theorem ex_place : QC Try.prog G0 11 [vl three, vi 1] (.tup [.agg [.dc (ci 6), .dc (ci 2)], tvi 0]) := QC.run tbl_ok 2000 (by kernel_rfl)
theorem ex_cut : QC Try.prog G0 26 [vl three, vi 2, vi 3] (.tup [tvl [[ci 7, ci 1], [ci (-1), ci 2]], tvi 0]) := QC.run tbl_ok 2000 (by kernel_rfl)
end Go.Proofs.Ytginjcpblgpcoaa
