/- Results of changes. Conditions: none. -/
import Derived.Test.YtginjcpblgpcoaaVe
namespace Go.Proofs.Ytginjcpblgpcoaa
set_option maxRecDepth 4000
set_option linter.unusedSimpArgs false
set_option linter.unusedVariables false
variable {G : Glob} {B : CallT}
def objsD (R : List Run) : List AObj := if doneE R = 0 then [.box [.dc (.slc (R.map Run.e))], .dead] else [.box [.bld 1 R.length], .arr 0 2 (R.map Run.e)]
theorem done_v (R : List Run) (hv : ∀ r ∈ R, Vol r) (hl : R.length ≤ 100000) :
    EV G (Tb B) 72 [.one (.ptr 0 0)] [.box [.bld 1 R.length], .arr 0 2 (R.map Run.e)] = some (.tup [.one (.dc (.slc ((if doneE R = 0 then R else []).map Run.e))), .one (.dc (ci (doneE R)))], objsD R) := by
  refine EV_run rfl ?_
  simp (disch := omega) only [go_sem, Nat.reduceAdd, Nat.reduceSub, Nat.reduceMul, Nat.reduceLeDiff, Nat.reduceEqDiff, h72c, List.length_map, List.map_replicate, U0_box]
  rw [EL_loop (fun k => ⟨(.one (.ptr 0 0) :: jk 3 (.one (.ptr 2 0) :: vb (frK R k) :: jk 6 (.one (.bld 1 R.length) :: vi R.length :: vi k :: jk 35 []))), [.box [.bld 1 R.length], .arr 0 2 (R.map Run.e), bx (intoL U0 (R.take k))]⟩) R.length ?_ ?_]
  · have hd : doneE R = firstE [if frK R R.length = true then 0 else 23, if lenW R ≤ 4096 ∧ (R.length : Int) ≤ 64 then 0 else 8] := rfl
    unfold objsD
    by_cases h1 : lenW R ≤ 4096
    all_goals by_cases h2 : (R.length : Int) ≤ 64
    all_goals
      simp only [h1, h2, true_and, and_true, if_true, if_false, and_false, false_and] at hd
      by_cases hz : doneE R = 0
    all_goals
      rw [hd] at hz
      simp only [hd]
      simp (disch := omega) only [go_sem, Nat.reduceAdd, Nat.reduceSub, Nat.reduceMul, Nat.reduceLeDiff, Nat.reduceEqDiff, h72l0, List.length_map, unless_v, length_v, h1, h2, first2]
    all_goals first | done | (simp only [hz]; done) | (simp only [if_pos hz, hz]; done) | simp only [if_neg hz]
  · rfl
  · intro k hk
    have h0 : (intoL U0 (R.take k)).length = 512 := by rw [intoL_len]; exact U0_len
    have hf := frK_succ R k hk
    have hT := take_v (G := G) (B := B) (intoL U0 (R.take k)) R[k] h0 (hv _ (List.getElem_mem hk))
    rw [intoL_take U0 R k hk]
    cases hfr : R[k].fresh (intoL U0 (R.take k))
    all_goals
      rw [hfr] at hT
      simp only [hfr, Bool.true_and, Bool.false_and] at hf
      simp (disch := omega) only [go_sem, Nat.reduceAdd, Nat.reduceSub, Nat.reduceMul, Nat.reduceLeDiff, Nat.reduceEqDiff, h72l0, List.length_map, Run.e, hT, hf]
theorem made_v (L : List (List Run)) (hL : L.length ≤ 1000) (h : Fine L.flatten) (hv : ∀ r ∈ addL [] L.flatten, Vol r) :
    EV G (Tb B) 53 [vl (L.map sl1)] [] = some (.tup [.one (.dc (.slc ((madeV L).1.map Run.e))), .one (.dc (ci (madeV L).2))], []) := by
  refine EV_run rfl ?_
  simp (disch := omega) only [go_sem, Nat.reduceAdd, Nat.reduceSub, Nat.reduceMul, Nat.reduceLeDiff, Nat.reduceEqDiff, h53c, List.length_map]
  rw [EL_loop (fun k => ⟨(jk 4 (.one (.ptr 0 0) :: jk 2 (vl (L.map sl1) :: vi L.length :: vi k :: jk 9 []))), [.box [.bld 1 (addL [] (L.take k).flatten).length], .arr 0 2 ((addL [] (L.take k).flatten).map Run.e)]⟩) L.length ?_ ?_]
  · rw [List.take_length]
    have hlR : (addL [] L.flatten).length ≤ 100000 := h.add.len
    have hd := done_v (G := G) (B := B) (addL [] L.flatten) hv hlR
    unfold madeV
    unfold objsD at hd
    generalize addL [] L.flatten = R at hd ⊢
    by_cases h0 : doneE R = 0
    all_goals simp only [h0, if_true, if_false] at hd ⊢
    all_goals simp (disch := omega) only [go_sem, Nat.reduceAdd, Nat.reduceSub, Nat.reduceMul, Nat.reduceLeDiff, Nat.reduceEqDiff, h53l0, List.length_map, hd, h0]
  · rfl
  · intro k hk
    obtain ⟨n, hn⟩ := flat_take (L := L) k
    have hF : Fine (addL [] (L.take k).flatten) := by rw [hn]; exact (h.take n).add
    have hx : (L.take (k + 1)).flatten = (L.take k).flatten ++ L[k] := by rw [List.take_succ_eq_append_getElem hk]; simp only [List.flatten_append, List.flatten_cons, List.flatten_nil, List.append_nil]
    have hT := addAll_v (G := G) (B := B) (addL [] (L.take k).flatten) L[k] hF (h.flat _ (List.getElem_mem hk))
    rw [hx, addL_app]
    simp (disch := omega) only [go_sem, Nat.reduceAdd, Nat.reduceSub, Nat.reduceMul, Nat.reduceLeDiff, Nat.reduceEqDiff, h53l0, List.length_map, sl1, hT]
theorem part_v (l : List Run) (a c : Int) (hl : Fine l) (ha : 0 ≤ a ∧ a ≤ 1000000000) (hc : 0 ≤ c ∧ c ≤ 1000000000) : EV G (Tb B) 54 [runsV l, vi a, vi c] [] = some (runsV (partR l a c), []) := by
  refine EV_run rfl ?_
  have hln := hl.len
  simp (disch := omega) only [go_sem, Nat.reduceAdd, Nat.reduceSub, Nat.reduceMul, Nat.reduceLeDiff, Nat.reduceEqDiff, h54c, List.length_map]
  rw [EL_loop (fun k => ⟨(jk 1 (vi (partK l a c k).1 :: vi (partK l a c k).2.1 :: jk 4 (.one (.bld 0 (partK l a c k).2.2.length) :: jk 5 (runsV l :: vi l.length :: vi k :: jk 37 [])))), [.arr 0 2 ((partK l a c k).2.2.map Run.e)]⟩) l.length ?_ ?_]
  · rw [partR_eq]
    simp (disch := omega) only [go_sem, Nat.reduceAdd, Nat.reduceSub, Nat.reduceMul, Nat.reduceLeDiff, Nat.reduceEqDiff, h54l0, List.length_map]
  · rfl
  · intro k hk
    have hx := partK_succ l a c k hk
    have hb := partK_ok l a c ha.1 hc.1 (fun r hr => (hl.el r hr).2.2) k (by omega)
    have h1 := hl.el _ (List.getElem_mem hk)
    have h2 := hl.n_le (List.getElem_mem hk)
    rw [hx]
    generalize partK l a c k = s at hb ⊢
    obtain ⟨s1, s2, R⟩ := s
    simp only at hb
    simp only [pst]
    by_cases c1 : l[k].n < s1
    · by_cases c2 : l[k].n - l[k].n < s2
      all_goals simp (disch := omega) only [go_sem, Nat.reduceAdd, Nat.reduceSub, Nat.reduceMul, Nat.reduceLeDiff, Nat.reduceEqDiff, h54l0, List.length_map, Run.e, isHole_v]
    · by_cases c2 : l[k].n - s1 < s2
      · by_cases c3 : l[k].n - s1 = 0
        · simp (disch := omega) only [go_sem, Nat.reduceAdd, Nat.reduceSub, Nat.reduceMul, Nat.reduceLeDiff, Nat.reduceEqDiff, h54l0, List.length_map, Run.e, isHole_v]
        · by_cases c4 : l[k].s = -1
          all_goals simp (disch := omega) only [go_sem, Nat.reduceAdd, Nat.reduceSub, Nat.reduceMul, Nat.reduceLeDiff, Nat.reduceEqDiff, h54l0, List.length_map, Run.e, isHole_v, map_snoc, List.length_append]
      · by_cases c3 : s2 = 0
        · simp (disch := omega) only [go_sem, Nat.reduceAdd, Nat.reduceSub, Nat.reduceMul, Nat.reduceLeDiff, Nat.reduceEqDiff, h54l0, List.length_map, Run.e, isHole_v]
        · by_cases c4 : l[k].s = -1
          all_goals simp (disch := omega) only [go_sem, Nat.reduceAdd, Nat.reduceSub, Nat.reduceMul, Nat.reduceLeDiff, Nat.reduceEqDiff, h54l0, List.length_map, Run.e, isHole_v, map_snoc, List.length_append]
end Go.Proofs.Ytginjcpblgpcoaa
