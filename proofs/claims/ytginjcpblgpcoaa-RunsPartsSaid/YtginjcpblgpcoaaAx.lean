/- The chapter's examples: the calls that they make, run (the last part), and the examples. Conditions: none. -/
import Derived.Test.YtginjcpblgpcoaaLv
import Derived.Test.YtginjcpblgpcoaaCa
import Derived.Test.YtginjcpblgpcoaaBi
import Derived.KernelRfl
namespace Go.Proofs.Ytginjcpblgpcoaa
def G0 : Glob := fun _ => none
def tvi (n : Int) : TV := .one (.dc (.raw (.int .i64 n)))
def tvl (es : List (List DC)) : TV := .one (.dc (.slc es))
def tvs (l : List UInt8) : TV := .one (.dc (.raw (.string ⟨⟨l⟩⟩)))
def vs (l : List UInt8) : AV := .one (.dc (.raw (.string ⟨⟨l⟩⟩)))
def three : List (List DC) := [[ci 5, ci 3], [ci (-1), ci 2], [ci 4, ci 1]]
theorem three_q : QC Try.prog G0 44 [] (vl three) := QC.run tbl_ok 40 (by kernel_rfl)
theorem ex_encode : QC Try.prog G0 30 [vl three] (.tup [tvs [17, 3, 5, 1, 2, 17, 1, 255, 0], tvi 0]) := QC.run tbl_ok 2000 (by kernel_rfl)
theorem ex_place : QC Try.prog G0 11 [vl three, vi 1] (.tup [.agg [.dc (ci 6), .dc (ci 2)], tvi 0]) := QC.run tbl_ok 2000 (by kernel_rfl)
theorem rp1 : QC Try.prog G0 47 [vl [[.slc [[ci 8, ci 2]]]]] (vi 0) := QC.run tbl_ok 2000 (by kernel_rfl)
theorem rp2 : QC Try.prog G0 51 [vl [[ci 8, ci 2]]] (vi 2) := QC.run tbl_ok 2000 (by kernel_rfl)
theorem rp3 : QC Try.prog G0 52 [vl three, vi 3, vl [[ci 8, ci 2]], vi 2] (vi 0) := QC.run tbl_ok 2000 (by kernel_rfl)
theorem rp4 : QC Try.prog G0 54 [vl three, vi 0, vi 3] (vl [[ci 5, ci 3]]) := QC.run tbl_ok 2000 (by kernel_rfl)
theorem rp5 : QC Try.prog G0 51 [vl three] (vi 6) := QC.run tbl_ok 2000 (by kernel_rfl)
theorem rp6 : QC Try.prog G0 54 [vl three, vi 5, vi 6] (vl [[ci 4, ci 1]]) := QC.run tbl_ok 2000 (by kernel_rfl)
theorem cutEx : cutV [⟨5, 3⟩, ⟨-1, 2⟩, ⟨4, 1⟩] 2 3 = ([⟨7, 1⟩, ⟨-1, 2⟩], 0) := by kernel_rfl
theorem ex_cut : QC Try.prog G0 26 [vl three, vi 2, vi 3] (.tup [tvl [[ci 7, ci 1], [ci (-1), ci 2]], tvi 0]) := by
  have h := cut_q (G := G0) [⟨5, 3⟩, ⟨-1, 2⟩, ⟨4, 1⟩] 2 3 (by simp)
  rw [cutEx] at h
  exact h
theorem madeEx : madeV [[⟨5, 3⟩], [⟨8, 2⟩], [⟨4, 1⟩]] = ([⟨5, 5⟩, ⟨4, 1⟩], 0) := by kernel_rfl
theorem madeVol : ∀ r ∈ addL [] ([[⟨5, 3⟩], [⟨8, 2⟩], [⟨4, 1⟩]] : List (List Run)).flatten, Vol r := by
  have e : addL [] ([[⟨5, 3⟩], [⟨8, 2⟩], [⟨4, 1⟩]] : List (List Run)).flatten = [⟨5, 5⟩, ⟨4, 1⟩] := by kernel_rfl
  rw [e]
  intro r hr
  simp only [List.mem_cons, List.not_mem_nil, or_false] at hr
  rcases hr with rfl | rfl <;> (right; simp)
theorem rp7 : QC Try.prog G0 53 [vl [[.slc [[ci 5, ci 3]]], [.slc [[ci 8, ci 2]]], [.slc [[ci 4, ci 1]]]]] (.tup [tvl [[ci 5, ci 5], [ci 4, ci 1]], tvi 0]) := by
  have h := made_q (G := G0) [[⟨5, 3⟩], [⟨8, 2⟩], [⟨4, 1⟩]] (by simp) ⟨by simp, by simp [lenR], by simp⟩ madeVol
  rw [madeEx] at h
  exact h
def rpM : Memo := [(47, [vl [[.slc [[ci 8, ci 2]]]]], vi 0), (51, [vl [[ci 8, ci 2]]], vi 2), (52, [vl three, vi 3, vl [[ci 8, ci 2]], vi 2], vi 0), (54, [vl three, vi 0, vi 3], vl [[ci 5, ci 3]]),
  (51, [vl three], vi 6), (54, [vl three, vi 5, vi 6], vl [[ci 4, ci 1]]), (53, [vl [[.slc [[ci 5, ci 3]]], [.slc [[ci 8, ci 2]]], [.slc [[ci 4, ci 1]]]]], .tup [tvl [[ci 5, ci 5], [ci 4, ci 1]], tvi 0])]
theorem rpM_ok : ∀ e ∈ rpM, okF Try.prog e.1 = true ∧ QC Try.prog G0 e.1 e.2.1 e.2.2 := by
  intro e he
  simp only [rpM, List.mem_cons, List.not_mem_nil, or_false] at he
  rcases he with rfl | rfl | rfl | rfl | rfl | rfl | rfl
  · exact ⟨by kernel_rfl, rp1⟩
  · exact ⟨by kernel_rfl, rp2⟩
  · exact ⟨by kernel_rfl, rp3⟩
  · exact ⟨by kernel_rfl, rp4⟩
  · exact ⟨by kernel_rfl, rp5⟩
  · exact ⟨by kernel_rfl, rp6⟩
  · exact ⟨by kernel_rfl, rp7⟩
theorem ex_replaced : QC Try.prog G0 16 [vl three, vi 3, vl [[ci 8, ci 2]]] (.tup [tvl [[ci 5, ci 5], [ci 4, ci 1]], tvi 0]) := QC.memo rpM_ok 200 tbl_ok (f := 16) rfl (by kernel_rfl)
theorem ex_f1 : QC Try.prog G0 45 [vl [[ci 7, ci 1], [ci (-1), ci 2]]] (vs [55, 43, 49, 32, 45, 43, 50]) := QC.run tbl_ok 2000 (by kernel_rfl)
theorem ex_f2 : QC Try.prog G0 45 [vl [[ci 5, ci 5], [ci 4, ci 1]]] (vs [53, 43, 53, 32, 52, 43, 49]) := QC.run tbl_ok 2000 (by kernel_rfl)
theorem ex_f3 : QC Try.prog G0 45 [vl [[ci 4, ci 2], [ci 7, ci 1]]] (vs [52, 43, 50, 32, 55, 43, 49]) := QC.run tbl_ok 2000 (by kernel_rfl)
end Go.Proofs.Ytginjcpblgpcoaa
