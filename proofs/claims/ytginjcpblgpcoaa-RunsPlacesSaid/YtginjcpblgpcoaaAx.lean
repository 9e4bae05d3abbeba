/- The chapter's examples: the calls that they make, run (the second part), and the examples. Conditions: none. -/
import Derived.Test.YtginjcpblgpcoaaAw
namespace Go.Proofs.Ytginjcpblgpcoaa
theorem rp1 : QC Try.prog G0 47 [vl [[.slc [[ci 8, ci 2]]]]] (vi 0) := QC.run tbl_ok 2000 (by kernel_rfl)
theorem rp2 : QC Try.prog G0 51 [vl [[ci 8, ci 2]]] (vi 2) := QC.run tbl_ok 2000 (by kernel_rfl)
theorem rp3 : QC Try.prog G0 52 [vl three, vi 3, vl [[ci 8, ci 2]], vi 2] (vi 0) := QC.run tbl_ok 2000 (by kernel_rfl)
theorem rp4 : QC Try.prog G0 54 [vl three, vi 0, vi 3] (vl [[ci 5, ci 3]]) := QC.run tbl_ok 2000 (by kernel_rfl)
theorem rp5 : QC Try.prog G0 51 [vl three] (vi 6) := QC.run tbl_ok 2000 (by kernel_rfl)
theorem rp6 : QC Try.prog G0 54 [vl three, vi 5, vi 6] (vl [[ci 4, ci 1]]) := QC.run tbl_ok 2000 (by kernel_rfl)
theorem rp7 : QC Try.prog G0 53 [vl [[.slc [[ci 5, ci 3]]], [.slc [[ci 8, ci 2]]], [.slc [[ci 4, ci 1]]]]] (.tup [tvl [[ci 5, ci 5], [ci 4, ci 1]], tvi 0]) := QC.run tbl_ok 2000 (by kernel_rfl)
def rpM : Memo := [(47, [vl [[.slc [[ci 8, ci 2]]]]], vi 0), (51, [vl [[ci 8, ci 2]]], vi 2), (52, [vl three, vi 3, vl [[ci 8, ci 2]], vi 2], vi 0), (54, [vl three, vi 0, vi 3], vl [[ci 5, ci 3]]),
  (51, [vl three], vi 6), (54, [vl three, vi 5, vi 6], vl [[ci 4, ci 1]]), (53, [vl [[.slc [[ci 5, ci 3]]], [.slc [[ci 8, ci 2]]], [.slc [[ci 4, ci 1]]]]], .tup [tvl [[ci 5, ci 5], [ci 4, ci 1]], tvi 0])]
theorem rpM_ok : ∀ e ∈ rpM, okF Try.prog e.1 = true ∧ QC Try.prog G0 e.1 e.2.1 e.2.2 := by
  intro e he
  simp only [rpM, List.mem_cons, List.not_mem_nil, or_false] at he
  rcases he with rfl | rfl | rfl | rfl | rfl | rfl | rfl
  · exact ⟨by kernel_rfl, rp1⟩
  · exact ⟨by kernel_rfl, rp2⟩
  · exact ⟨by kernel_rfl, rp3⟩
  · exact ⟨by kernel_rfl, rp4⟩
  · exact ⟨by kernel_rfl, rp5⟩
  · exact ⟨by kernel_rfl, rp6⟩
  · exact ⟨by kernel_rfl, rp7⟩
theorem ex_replaced : QC Try.prog G0 16 [vl three, vi 3, vl [[ci 8, ci 2]]] (.tup [tvl [[ci 5, ci 5], [ci 4, ci 1]], tvi 0]) := QC.memo rpM_ok 200 tbl_ok (f := 16) rfl (by kernel_rfl)
end Go.Proofs.Ytginjcpblgpcoaa
