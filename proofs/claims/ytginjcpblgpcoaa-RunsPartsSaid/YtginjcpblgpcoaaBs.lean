/- The examples hold; the first law. Conditions: none. -/
import Derived.Test.YtginjcpblgpcoaaBr
import Derived.Test.YtginjcpblgpcoaaAx
import Derived.KernelRfl
namespace Go.Proofs.Ytginjcpblgpcoaa
set_option maxRecDepth 20000
theorem freedEx : freedV [⟨5, 3⟩, ⟨-1, 2⟩, ⟨4, 1⟩] [⟨6, 1⟩] = ([⟨4, 2⟩, ⟨7, 1⟩], 0) := by kernel_rfl
theorem ex_freed : QC Try.prog G0 18 [vl three, vl [[ci 6, ci 1]]] (.tup [tvl [[ci 4, ci 2], [ci 7, ci 1]], tvi 0]) := by
  have h := freedBy_q (G := G0) [⟨5, 3⟩, ⟨-1, 2⟩, ⟨4, 1⟩] [⟨6, 1⟩] (by simp) (by simp)
  rw [freedEx] at h
  exact h
def exM : Memo := [(44, [], vl three), (30, [vl three], .tup [tvs [17, 3, 5, 1, 2, 17, 1, 255, 0], tvi 0]), (11, [vl three, vi 1], .tup [.agg [.dc (ci 6), .dc (ci 2)], tvi 0]),
  (26, [vl three, vi 2, vi 3], .tup [tvl [[ci 7, ci 1], [ci (-1), ci 2]], tvi 0]), (16, [vl three, vi 3, vl [[ci 8, ci 2]]], .tup [tvl [[ci 5, ci 5], [ci 4, ci 1]], tvi 0]),
  (18, [vl three, vl [[ci 6, ci 1]]], .tup [tvl [[ci 4, ci 2], [ci 7, ci 1]], tvi 0]), (45, [vl [[ci 7, ci 1], [ci (-1), ci 2]]], vs [55, 43, 49, 32, 45, 43, 50]),
  (45, [vl [[ci 5, ci 5], [ci 4, ci 1]]], vs [53, 43, 53, 32, 52, 43, 49]), (45, [vl [[ci 4, ci 2], [ci 7, ci 1]]], vs [52, 43, 50, 32, 55, 43, 49])]
theorem exM_ok : ∀ e ∈ exM, okF Try.prog e.1 = true ∧ QC Try.prog G0 e.1 e.2.1 e.2.2 := by
  intro e he
  simp only [exM, List.mem_cons, List.not_mem_nil, or_false] at he
  rcases he with rfl | rfl | rfl | rfl | rfl | rfl | rfl | rfl | rfl
  · exact ⟨by kernel_rfl, three_q⟩
  · exact ⟨by kernel_rfl, ex_encode⟩
  · exact ⟨by kernel_rfl, ex_place⟩
  · exact ⟨by kernel_rfl, ex_cut⟩
  · exact ⟨by kernel_rfl, ex_replaced⟩
  · exact ⟨by kernel_rfl, ex_freed⟩
  · exact ⟨by kernel_rfl, ex_f1⟩
  · exact ⟨by kernel_rfl, ex_f2⟩
  · exact ⟨by kernel_rfl, ex_f3⟩
/-- the examples hold -/
theorem awake_q : QC Try.prog G0 9 [] (vb true) := QC.memo exM_ok 100 tbl_ok (f := 9) rfl (by kernel_rfl)
end Go.Proofs.Ytginjcpblgpcoaa
