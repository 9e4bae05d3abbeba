/- Lists that are made. Conditions: none. -/
import Derived.Test.YtginjcpblgpcoaaVd
namespace Go.Proofs.Ytginjcpblgpcoaa
set_option maxRecDepth 4000
set_option linter.unusedSimpArgs false
set_option linter.unusedVariables false
variable {G : Glob} {B : CallT}
def sl1 (l : List Run) : List DC := [.slc (l.map Run.e)]
theorem errs_at (L : List (List Run)) (k : Nat) (hk : k < L.length) : ((L.map fun l => (chk l).2).getD k 0) = (chk L[k]).2 := by simp [List.getD_eq_getElem?_getD, List.getElem?_eq_getElem hk]
theorem runsErr_v (L : List (List Run)) (hL : L.length ≤ 1000) : EV G (Tb B) 47 [vl (L.map sl1)] [] = some (vi (errsE L), []) := by
  refine EV_run rfl ?_
  simp (disch := omega) only [go_sem, Nat.reduceAdd, Nat.reduceSub, Nat.reduceMul, Nat.reduceLeDiff, Nat.reduceEqDiff, h47c, List.length_map]
  rw [EL_fst (fun k => ⟨(jk 7 (vl (L.map sl1) :: vi L.length :: vi k :: jk 12 [])), []⟩) (fun k => (L.map fun l => (chk l).2).getD k 0 ≠ 0) L.length ?_ ?_]
  rotate_left
  · rfl
  · intro k hk hn
    have h1 := hn k (Nat.le_refl _)
    rw [errs_at L k hk] at h1
    simp (disch := omega) only [go_sem, Nat.reduceAdd, Nat.reduceSub, Nat.reduceMul, Nat.reduceLeDiff, Nat.reduceEqDiff, h47l0, List.length_map, sl1, check_v]
  obtain ⟨hk, hp, hn⟩ := ix_spec (fun k => (L.map fun l => (chk l).2).getD k 0 ≠ 0) L.length
  generalize ix (fun k => (L.map fun l => (chk l).2).getD k 0 ≠ 0) L.length = k at *
  unfold errsE
  rcases hp with rfl | ⟨hk', hp⟩
  · rw [firstE_none _ (by simpa using hn)]
    simp (disch := omega) only [go_sem, Nat.reduceAdd, Nat.reduceSub, Nat.reduceMul, Nat.reduceLeDiff, Nat.reduceEqDiff, h47l0, List.length_map]
  · rw [firstE_at _ k (by simpa using hk') hn hp]
    rw [errs_at L k hk'] at hp
    simp (disch := omega) only [go_sem, Nat.reduceAdd, Nat.reduceSub, Nat.reduceMul, Nat.reduceLeDiff, Nat.reduceEqDiff, h47l0, List.length_map, sl1, check_v, List.getElem_map]
theorem errs1_v (a : List Run) : EV G (Tb B) 47 [vl [[.slc (a.map Run.e)]]] [] = some (vi (errsE [a]), []) := runsErr_v [a] (by simp)
theorem errs2_v (a b : List Run) : EV G (Tb B) 47 [vl [[.slc (a.map Run.e)], [.slc (b.map Run.e)]]] [] = some (vi (errsE [a, b]), []) := runsErr_v [a, b] (by simp)
theorem map_snoc (l : List Run) (s n : Int) : l.map Run.e ++ [[.raw (.int .i64 s), .raw (.int .i64 n)]] = (l ++ [(⟨s, n⟩ : Run)]).map Run.e := by simp [Run.e, ci]
theorem e_len (r : Run) : (Run.e r).length = 2 := rfl
theorem all_run (l : List Run) : allLen 2 (l.map Run.e) = true := allLen_map e_len l
attribute [go_sem] all_run
theorem add_v (R : List Run) (r : Run) (hR : Good R) (hr : 0 ≤ r.n ∧ r.n ≤ 1000000000) : EV G (Tb B) 78 [.one (.ptr 0 0), r.v] [.box [.bld 1 R.length], .arr 0 2 (R.map Run.e)] = some (.tup [], [.box [.bld 1 (addR R r).length], .arr 0 2 ((addR R r).map Run.e)]) := by
  refine EV_run rfl ?_
  have hn := hR.len
  by_cases h0 : R = []
  · subst h0
    simp only [List.length_nil, List.map_nil, addR_nil]
    simp (disch := omega) only [go_sem, Nat.reduceAdd, Nat.reduceSub, Nat.reduceMul, Nat.reduceLeDiff, Nat.reduceEqDiff, h78c, List.map_cons, List.map_nil, Run.e]
  · obtain ⟨R', q, hR', hget, hpos, hset⟩ := snoc_facts h0
    have hq := (hR' ▸ hR).last
    have ha := addR_snoc R' q r
    rw [← hR'] at ha
    have hnn : R.length = R'.length + 1 := by simp [hR']
    cases hj : joinsB q r
    · rw [hj] at ha
      simp (disch := omega) only [go_sem, Nat.reduceAdd, Nat.reduceSub, Nat.reduceMul, Nat.reduceLeDiff, Nat.reduceEqDiff, h78c, List.length_map, joins_v, hj, ha, Run.e, hget, map_snoc, List.length_append]
    · rw [hj] at ha
      have hb : -9223372036854775808 ≤ q.n + r.n ∧ q.n + r.n ≤ 9223372036854775807 := by have := hr; omega
      simp (disch := omega) only [go_sem, Nat.reduceAdd, Nat.reduceSub, Nat.reduceMul, Nat.reduceLeDiff, Nat.reduceEqDiff, h78c, List.length_map, joins_v, hj, ha, Run.e, hget, hset, List.length_append, ← hnn]
theorem addAll_v (R l : List Run) (hR : Fine R) (hl : Fine l) : EV G (Tb B) 60 [.one (.ptr 0 0), runsV l] [.box [.bld 1 R.length], .arr 0 2 (R.map Run.e)] = some (.tup [], [.box [.bld 1 (addL R l).length], .arr 0 2 ((addL R l).map Run.e)]) := by
  refine EV_run rfl ?_
  have hln := hl.len
  simp (disch := omega) only [go_sem, Nat.reduceAdd, Nat.reduceSub, Nat.reduceMul, Nat.reduceLeDiff, Nat.reduceEqDiff, h60c, List.length_map]
  rw [EL_loop (fun k => ⟨(.one (.ptr 0 0) :: jk 5 (runsV l :: vi l.length :: vi k :: jk 7 [])), [.box [.bld 1 (addL R (l.take k)).length], .arr 0 2 ((addL R (l.take k)).map Run.e)]⟩) l.length ?_ ?_]
  · simp (disch := omega) only [go_sem, Nat.reduceAdd, Nat.reduceSub, Nat.reduceMul, Nat.reduceLeDiff, Nat.reduceEqDiff, h60l0, List.take_length]
  · rfl
  · intro k hk
    have hG := addL_goodK hR hl k
    have h1 := hl.el _ (List.getElem_mem hk)
    have h2 := hl.n_le (List.getElem_mem hk)
    have hT := add_v (G := G) (B := B) (addL R (l.take k)) l[k] hG (by omega)
    rw [addL_take R l k hk]
    simp (disch := omega) only [go_sem, Nat.reduceAdd, Nat.reduceSub, Nat.reduceMul, Nat.reduceLeDiff, Nat.reduceEqDiff, h60l0, List.length_map, Run.e, hT]
end Go.Proofs.Ytginjcpblgpcoaa
