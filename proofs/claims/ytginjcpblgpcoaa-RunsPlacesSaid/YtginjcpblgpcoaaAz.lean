/- The chapter's examples: the calls that they make, run (the last part), and the examples. Conditions: none. -/
import Derived.Test.YtginjcpblgpcoaaAx
namespace Go.Proofs.Ytginjcpblgpcoaa
theorem ex_f1 : QC Try.prog G0 45 [vl [[ci 7, ci 1], [ci (-1), ci 2]]] (vs [55, 43, 49, 32, 45, 43, 50]) := QC.run tbl_ok 2000 (by kernel_rfl)
theorem ex_f2 : QC Try.prog G0 45 [vl [[ci 5, ci 5], [ci 4, ci 1]]] (vs [53, 43, 53, 32, 52, 43, 49]) := QC.run tbl_ok 2000 (by kernel_rfl)
theorem ex_f3 : QC Try.prog G0 45 [vl [[ci 4, ci 2], [ci 7, ci 1]]] (vs [52, 43, 50, 32, 55, 43, 49]) := QC.run tbl_ok 2000 (by kernel_rfl)
end Go.Proofs.Ytginjcpblgpcoaa
