/- The reference's lists. Conditions: none. -/
import Derived.Test.YtginjcpblgpcoaaVh
namespace Go.Proofs.Ytginjcpblgpcoaa
set_option maxRecDepth 4000
set_option linter.unusedSimpArgs false
set_option linter.unusedVariables false
variable {G : Glob} {B : CallT}
theorem copyRuns_v (l : List Run) (hl : l.length ≤ 1000000) : EV G (Tb B) 12 [runsV l] [] = some (.one (.bld 0 l.length), [.arr 0 2 (l.map Run.e)]) := by
  refine EV_run rfl ?_
  simp (disch := omega) only [go_sem, Nat.reduceAdd, Nat.reduceSub, Nat.reduceMul, Nat.reduceLeDiff, Nat.reduceEqDiff, h12c, List.length_map, List.take_zero]
theorem copyInts_v (l : List Int) (hl : l.length ≤ 1000000) : EV G (Tb B) 23 [vl (el l)] [] = some (.one (.bld 0 l.length), [.arr 0 1 (el l)]) := by
  refine EV_run rfl ?_
  have ha : allLen 1 (el l) = true := allLen_map (f := ci1) (fun _ => rfl) l
  simp (disch := omega) only [go_sem, Nat.reduceAdd, Nat.reduceSub, Nat.reduceMul, Nat.reduceLeDiff, Nat.reduceEqDiff, h23c, List.length_map, List.take_zero, ha]
theorem sameRuns_v (a b : List Run) (hl : a.length ≤ 1000000) : EV G (Tb B) 43 [runsV a, runsV b] [] = some (vb (decide (a = b)), []) := by
  refine EV_run rfl ?_
  by_cases h : (a.length : Int) = b.length
  · simp (disch := omega) only [go_sem, Nat.reduceAdd, Nat.reduceSub, Nat.reduceMul, Nat.reduceLeDiff, Nat.reduceEqDiff, h43c, List.length_map, h]
    have h : a.length = b.length := by omega
    rw [EL_fst (fun k => ⟨(runsV a :: runsV b :: jk 3 (vi k :: jk 20 [])), []⟩) (fun k => a.getD k ⟨0, 0⟩ ≠ b.getD k ⟨0, 0⟩) a.length ?_ ?_]
    rotate_left
    · rfl
    · intro k hk hn
      have h1 := hn k (Nat.le_refl _)
      rw [runAt a k hk, runAt b k (by omega), Classical.not_not, run_eq] at h1
      simp (disch := omega) only [go_sem, Nat.reduceAdd, Nat.reduceSub, Nat.reduceMul, Nat.reduceLeDiff, Nat.reduceEqDiff, h43l0, List.length_map, Run.e]
    obtain ⟨hk, hp, hn⟩ := ix_spec (fun k => a.getD k ⟨0, 0⟩ ≠ b.getD k ⟨0, 0⟩) a.length
    generalize ix (fun k => a.getD k ⟨0, 0⟩ ≠ b.getD k ⟨0, 0⟩) a.length = k at *
    rcases hp with hp | ⟨hk', hp⟩
    · have hz : a = b := List.ext_getElem h (fun i h1 h2 => by
        have := hn i (by omega)
        rwa [runAt a i h1, runAt b i h2, Classical.not_not] at this)
      simp (disch := omega) only [go_sem, Nat.reduceAdd, Nat.reduceSub, Nat.reduceMul, Nat.reduceLeDiff, Nat.reduceEqDiff, h43l0, List.length_map]
      simp [hz]
    · rw [runAt a k hk', runAt b k (by omega)] at hp
      have hz : ¬ a = b := fun e => by subst e; exact hp rfl
      rw [ne_eq, run_eq] at hp
      simp (disch := omega) only [go_sem, Nat.reduceAdd, Nat.reduceSub, Nat.reduceMul, Nat.reduceLeDiff, Nat.reduceEqDiff, h43l0, List.length_map, Run.e]
      simp [hz]
  · simp (disch := omega) only [go_sem, Nat.reduceAdd, Nat.reduceSub, Nat.reduceMul, Nat.reduceLeDiff, Nat.reduceEqDiff, h43c, List.length_map]
    have : ¬ a = b := fun e => h (by rw [e])
    simp [this]
theorem has_v (l : List Int) (c : Int) (hl : l.length ≤ 1000000) : EV G (Tb B) 57 [vl (el l), vi c] [] = some (vb (decide (c ∈ l)), []) := by
  refine EV_run rfl ?_
  simp (disch := omega) only [go_sem, Nat.reduceAdd, Nat.reduceSub, Nat.reduceMul, Nat.reduceLeDiff, Nat.reduceEqDiff, h57c, List.length_map]
  rw [EL_fst (fun k => ⟨(vl (el l) :: vi c :: jk 3 (vi k :: jk 12 [])), []⟩) (fun k => l.getD k 0 = c) l.length ?_ ?_]
  rotate_left
  · rfl
  · intro k hk hn
    have h1 := hn k (Nat.le_refl _)
    rw [getD_at l k hk] at h1
    simp (disch := omega) only [go_sem, Nat.reduceAdd, Nat.reduceSub, Nat.reduceMul, Nat.reduceLeDiff, Nat.reduceEqDiff, h57l0, List.length_map, ci1]
  obtain ⟨hk, hp, hn⟩ := ix_spec (fun k => l.getD k 0 = c) l.length
  generalize ix (fun k => l.getD k 0 = c) l.length = k at *
  rcases hp with rfl | ⟨hk', hp⟩
  · have hz : ¬ c ∈ l := fun hc => by
      obtain ⟨j, hj, rfl⟩ := List.mem_iff_getElem.1 hc
      exact hn j hj (getD_at l j hj)
    simp (disch := omega) only [go_sem, Nat.reduceAdd, Nat.reduceSub, Nat.reduceMul, Nat.reduceLeDiff, Nat.reduceEqDiff, h57l0, List.length_map]
    simp [hz]
  · rw [getD_at l k hk'] at hp
    have hz : c ∈ l := by rw [← hp]; exact List.getElem_mem hk'
    simp (disch := omega) only [go_sem, Nat.reduceAdd, Nat.reduceSub, Nat.reduceMul, Nat.reduceLeDiff, Nat.reduceEqDiff, h57l0, List.length_map, ci1]
    simp [hz]
theorem same_v (l : List Run) (e : Int) (w : List Run) (c : Int) (hl : l.length ≤ 1000000) : EV G (Tb B) 19 [runsV l, vi e, runsV w, vi c] [] = some (vb (decide (e = c ∧ (c ≠ 0 ∧ l = [] ∨ c = 0 ∧ l = w))), []) := by
  refine EV_run rfl ?_
  have hl0 : (l.length : Int) = 0 ↔ l = [] := by rw [← List.length_eq_zero_iff]; omega
  by_cases h1 : e = c
  · by_cases h2 : c = 0
    · simp (disch := omega) only [go_sem, Nat.reduceAdd, Nat.reduceSub, Nat.reduceMul, Nat.reduceLeDiff, Nat.reduceEqDiff, h19c, List.length_map, sameRuns_v]
      simp [h1, h2]
    · by_cases h3 : l = []
      · have h4 : (l.length : Int) = 0 := hl0.2 h3
        simp (disch := omega) only [go_sem, Nat.reduceAdd, Nat.reduceSub, Nat.reduceMul, Nat.reduceLeDiff, Nat.reduceEqDiff, h19c, List.length_map]
        simp [h1, h2, h3]
      · have h4 : ¬ (l.length : Int) = 0 := fun e => h3 (hl0.1 e)
        simp (disch := omega) only [go_sem, Nat.reduceAdd, Nat.reduceSub, Nat.reduceMul, Nat.reduceLeDiff, Nat.reduceEqDiff, h19c, List.length_map]
        simp [h1, h2, h3]
  · simp (disch := omega) only [go_sem, Nat.reduceAdd, Nat.reduceSub, Nat.reduceMul, Nat.reduceLeDiff, Nat.reduceEqDiff, h19c, List.length_map]
    simp [h1]
theorem join_v (l : List Run) (hl : Fine l) : EV G (Tb B) 29 [runsV l] [] = some (runsV (addL [] l), []) := by
  refine EV_run rfl ?_
  have hln := hl.len
  simp (disch := omega) only [go_sem, Nat.reduceAdd, Nat.reduceSub, Nat.reduceMul, Nat.reduceLeDiff, Nat.reduceEqDiff, h29c, List.length_map]
  rw [EL_loop (fun k => ⟨(runsV l :: jk 2 (.one (.bld 0 (addL [] (l.take k)).length) :: vi k :: jk 48 [])), [.arr 0 2 ((addL [] (l.take k)).map Run.e)]⟩) l.length ?_ ?_]
  · simp (disch := omega) only [go_sem, Nat.reduceAdd, Nat.reduceSub, Nat.reduceMul, Nat.reduceLeDiff, Nat.reduceEqDiff, h29l0, List.length_map, List.take_length]
  · rfl
  · intro k hk
    have hG := addL_goodK Fine.nil hl k
    have h1 := hl.el _ (List.getElem_mem hk)
    have h2 := hl.n_le (List.getElem_mem hk)
    rw [addL_take [] l k hk]
    generalize addL [] (l.take k) = R at hG ⊢
    have hn := hG.len
    by_cases h0 : R = []
    · subst h0
      simp only [List.length_nil, List.map_nil, addR_nil]
      simp (disch := omega) only [go_sem, Nat.reduceAdd, Nat.reduceSub, Nat.reduceMul, Nat.reduceLeDiff, Nat.reduceEqDiff, h29l0, List.length_map, Run.e]
    · obtain ⟨R', q, hR', hget, hpos, hset⟩ := snoc_facts h0
      have hq := (hR' ▸ hG).last
      have ha := addR_snoc R' q l[k]
      rw [← hR'] at ha
      have hnn : R.length = (R' ++ [(⟨q.s, q.n + l[k].n⟩ : Run)]).length := by simp [hR']
      cases hj : joinsB q l[k]
      · rw [hj] at ha
        simp (disch := omega) only [go_sem, Nat.reduceAdd, Nat.reduceSub, Nat.reduceMul, Nat.reduceLeDiff, Nat.reduceEqDiff, h29l0, List.length_map, joins_r, hj, ha, Run.e, hget, map_snoc, List.length_append]
      · rw [hj] at ha
        simp (disch := omega) only [go_sem, Nat.reduceAdd, Nat.reduceSub, Nat.reduceMul, Nat.reduceLeDiff, Nat.reduceEqDiff, h29l0, List.length_map, joins_r, hj, ha, Run.e, hget, hset]
        rw [hnn]
theorem resE_v (l : List Run) (hl : Fine l) (hn : l.length ≤ 1000) : EV G (Tb B) 24 [runsV l] [] = some (vi (resE l), []) := by
  refine EV_run rfl ?_
  have hbd : ∀ (j : Nat) q, l[j]? = some q → -9223372036854775808 ≤ q.s + q.n ∧ q.s + q.n ≤ 9223372036854775807 := fun j q hq => by
    have h1 := hl.el q (List.mem_of_getElem? hq)
    have h2 := hl.n_le (List.mem_of_getElem? hq)
    omega
  simp (disch := omega) only [go_sem, Nat.reduceAdd, Nat.reduceSub, Nat.reduceMul, Nat.reduceLeDiff, Nat.reduceEqDiff, h24c, List.length_map]
  rw [EL_fst (fun k => ⟨(runsV l :: jk 2 (vi k :: jk 18 [])), []⟩) (fun k => ((l.take k).any fun q => sharesB q (l.getD k ⟨0, 0⟩)) = true) l.length ?_ ?_]
  rotate_left
  · rfl
  · intro k hk hn
    have h1 := hn k (Nat.le_refl _)
    rw [runAt l k hk] at h1
    have hD := doubled_v (G := G) (B := B) l k hk (by omega) (fun j q _ => hbd j q)
    rw [(by simpa using h1 : ((l.take k).any fun q => sharesB q l[k]) = false)] at hD
    simp (disch := omega) only [go_sem, Nat.reduceAdd, Nat.reduceSub, Nat.reduceMul, Nat.reduceLeDiff, Nat.reduceEqDiff, h24l0, List.length_map, hD]
  obtain ⟨hk, hp, hm⟩ := ix_spec (fun k => ((l.take k).any fun q => sharesB q (l.getD k ⟨0, 0⟩)) = true) l.length
  generalize ix (fun k => ((l.take k).any fun q => sharesB q (l.getD k ⟨0, 0⟩)) = true) l.length = k at *
  rcases hp with rfl | ⟨hk', hp⟩
  · have hz : dupR l = false := by
      unfold dupR
      rw [List.any_eq_false]
      intro i hi
      exact hm i (by simpa using hi)
    have hw : lenW l = lenR l := lenW_eq l (fun r hr => (hl.el r hr).2.2) (by have := hl.sum; omega)
    unfold resE
    by_cases h1 : lenR l > 4096
    · simp (disch := omega) only [go_sem, Nat.reduceAdd, Nat.reduceSub, Nat.reduceMul, Nat.reduceLeDiff, Nat.reduceEqDiff, h24l0, List.length_map, length_r, hw, hz]
    · by_cases h2 : (addL [] l).length > 64
      all_goals simp (disch := omega) only [go_sem, Nat.reduceAdd, Nat.reduceSub, Nat.reduceMul, Nat.reduceLeDiff, Nat.reduceEqDiff, h24l0, List.length_map, length_r, hw, hz, join_v l hl]
  · have hz : dupR l = true := by
      unfold dupR
      rw [List.any_eq_true]
      exact ⟨k, by simpa using hk', hp⟩
    rw [runAt l k hk'] at hp
    have hD := doubled_v (G := G) (B := B) l k hk' (by omega) (fun j q _ => hbd j q)
    rw [hp] at hD
    simp (disch := omega) only [go_sem, Nat.reduceAdd, Nat.reduceSub, Nat.reduceMul, Nat.reduceLeDiff, Nat.reduceEqDiff, h24l0, List.length_map, hD, resE, hz]
theorem from_v (c : List Int) (h : ∀ x ∈ c, -1 ≤ x ∧ x ≤ 1000) (hl : c.length ≤ 100000) : EV G (Tb B) 25 [vl (el c)] [] = some (runsV (fromC c), []) := by
  refine EV_run rfl ?_
  simp (disch := omega) only [go_sem, Nat.reduceAdd, Nat.reduceSub, Nat.reduceMul, Nat.reduceLeDiff, Nat.reduceEqDiff, h25c, List.length_map]
  rw [EL_loop (fun k => ⟨(vl (el c) :: jk 2 (.one (.bld 0 (units (c.take k)).length) :: vi k :: jk 16 [])), [.arr 0 2 ((units (c.take k)).map Run.e)]⟩) c.length ?_ ?_]
  · simp (disch := omega) only [go_sem, Nat.reduceAdd, Nat.reduceSub, Nat.reduceMul, Nat.reduceLeDiff, Nat.reduceEqDiff, h25l0, List.length_map, List.take_length, join_v (units c) (units_fine c h hl), fromC]
  · rfl
  · intro k hk
    have hx : units (c.take (k + 1)) = units (c.take k) ++ [⟨c[k], 1⟩] := by rw [List.take_succ_eq_append_getElem hk]; simp only [units, List.map_append, List.map_cons, List.map_nil]
    have hul : (units (c.take k)).length = k := by simp [units]; omega
    rw [hx]
    generalize units (c.take k) = U at hul ⊢
    simp (disch := omega) only [go_sem, Nat.reduceAdd, Nat.reduceSub, Nat.reduceMul, Nat.reduceLeDiff, Nat.reduceEqDiff, h25l0, List.length_map, ci1, map_snoc, List.length_append]
end Go.Proofs.Ytginjcpblgpcoaa
