/- Clusters, extents. Conditions: none. -/
import Derived.Test.YtginjcpblgpcoaaVi
namespace Go.Proofs.Ytginjcpblgpcoaa
set_option maxRecDepth 4000
set_option linter.unusedSimpArgs false
set_option linter.unusedVariables false
variable {G : Glob} {B : CallT}
theorem snoc1 (c : List Int) (x : Int) : c.map ci1 ++ [[.raw (.int .i64 x)]] = (c ++ [x]).map ci1 := by simp [ci1]
theorem all_ints (l : List Int) : allLen 1 (l.map ci1) = true := allLen_map (f := ci1) (fun _ => rfl) l
attribute [go_sem] all_ints
theorem clO_round (r : Run) (C : List Int) (j : Nat) (l : List Run) (k : Nat) (hk : k < l.length) (hr : l[k] = r) (hj : j < r.n.toNat) (h : -1 ≤ r.s ∧ r.s ≤ 1000) (hC : C.length + r.n.toNat ≤ 200000000) (hl : l.length ≤ 1000000) :
    rnK [0, 2, 0, 0] 1 (EC (EV G (Tb B)) G h22l0 ⟨(runsV l :: jk 2 (.one (.bld 0 (C ++ clO r j).length) :: vi k :: vi j :: jk 35 [])), [.arr 0 1 (el (C ++ clO r j))]⟩) = some ⟨(runsV l :: jk 2 (.one (.bld 0 (C ++ clO r (j + 1)).length) :: vi k :: vi (j + 1 : Nat) :: jk 35 [])), [.arr 0 1 (el (C ++ clO r (j + 1)))]⟩ := by
  have hlen : (C ++ clO r j).length = C.length + j := by simp [clO]
  rw [clO_succ, ← List.append_assoc]
  generalize C ++ clO r j = D at hlen ⊢
  subst hr
  by_cases hs : l[k].s = -1
  all_goals simp (disch := omega) only [go_sem, Nat.reduceAdd, Nat.reduceSub, Nat.reduceMul, Nat.reduceLeDiff, Nat.reduceEqDiff, h22l0, List.length_map, Run.e, hs, snoc1, List.length_append]
theorem clusters_v (l : List Run) (hl : Fine l) : EV G (Tb B) 22 [runsV l] [] = some (vl (el (clR l)), []) := by
  refine EV_run rfl ?_
  have hln := hl.len
  simp (disch := omega) only [go_sem, Nat.reduceAdd, Nat.reduceSub, Nat.reduceMul, Nat.reduceLeDiff, Nat.reduceEqDiff, h22c, List.length_map]
  rw [EL_loop (fun k => ⟨(runsV l :: jk 2 (.one (.bld 0 (clR (l.take k)).length) :: vi k :: jk 36 [])), [.arr 0 1 (el (clR (l.take k)))]⟩) l.length ?_ ?_]
  · simp (disch := omega) only [go_sem, Nat.reduceAdd, Nat.reduceSub, Nat.reduceMul, Nat.reduceLeDiff, Nat.reduceEqDiff, h22l1, List.length_map, List.take_length]
  · rfl
  · intro k hk
    have h1 := hl.el _ (List.getElem_mem hk)
    have h2 := hl.n_le (List.getElem_mem hk)
    have h3 := clR_len (l.take k) (fun r hr => (hl.el r (List.mem_of_mem_take hr)).2.2)
    have h4 := lenR_le_take l k (fun r hr => (hl.el r hr).2.2)
    have h5 := hl.sum
    rw [clR_take l k hk]
    generalize clR (l.take k) = C at h3 ⊢
    simp (disch := omega) only [go_sem, Nat.reduceAdd, Nat.reduceSub, Nat.reduceMul, Nat.reduceLeDiff, Nat.reduceEqDiff, h22l1, List.length_map]
    rw [EL_loop (fun j => ⟨(runsV l :: jk 2 (.one (.bld 0 (C ++ clO l[k] j).length) :: vi k :: vi j :: jk 35 [])), [.arr 0 1 (el (C ++ clO l[k] j))]⟩) l[k].n.toNat ?_ ?_]
    · have hx : ((l[k].n.toNat : Nat) : Int) = l[k].n := by omega
      simp (disch := omega) only [go_sem, Nat.reduceAdd, Nat.reduceSub, Nat.reduceMul, Nat.reduceLeDiff, Nat.reduceEqDiff, h22l0, List.length_map, Run.e, hx]
    · simp [clO, jk]
    · intro j hj
      exact clO_round l[k] C j l k hk rfl hj (by omega) (by omega) (by omega)
def extC (a b : List Run) (k : Nat) : List Int := ((List.range k).filter fun (c : Nat) => decide ((c : Int) ∈ clR a ∧ ¬ (c : Int) ∈ clR b)).map Int.ofNat
theorem extC_succ (a b : List Run) (k : Nat) : extC a b (k + 1) = if (k : Int) ∈ clR a ∧ ¬ (k : Int) ∈ clR b then extC a b k ++ [(k : Int)] else extC a b k := by
  unfold extC
  rw [List.range_succ, List.filter_append, List.map_append]
  by_cases h : (k : Int) ∈ clR a ∧ ¬ (k : Int) ∈ clR b
  · rw [if_pos h]; simp [h]
  · rw [if_neg h]
    have : decide ((k : Int) ∈ clR a ∧ ¬ (k : Int) ∈ clR b) = false := decide_eq_false h
    simp [List.filter_cons, this]
    exact fun h1 => Classical.byContradiction fun h2 => h ⟨h1, h2⟩
theorem extC_len (a b : List Run) (k : Nat) : (extC a b k).length ≤ k := by
  unfold extC
  rw [List.length_map]
  exact Nat.le_trans (List.length_filter_le _ _) (by simp)
theorem extC_mem (a b : List Run) (k : Nat) : ∀ x ∈ extC a b k, -1 ≤ x ∧ x ≤ k := by
  intro x hx
  unfold extC at hx
  simp only [List.mem_map, List.mem_filter, List.mem_range] at hx
  obtain ⟨c, ⟨h1, _⟩, rfl⟩ := hx
  simp only [Int.ofNat_eq_natCast]; omega
theorem extents_r (a b : List Run) (ha : Fine a) (hb : Fine b) (hla : (clR a).length ≤ 1000000) (hlb : (clR b).length ≤ 1000000) : EV G (Tb B) 20 [runsV a, runsV b] [] = some (runsV (fromC (extC a b 512)), []) := by
  refine EV_run rfl ?_
  simp (disch := omega) only [go_sem, Nat.reduceAdd, Nat.reduceSub, Nat.reduceMul, Nat.reduceLeDiff, Nat.reduceEqDiff, h20c, List.length_map, clusters_v a ha, clusters_v b hb]
  rw [EL_loop (fun k => ⟨(jk 5 (vl (el (clR a)) :: vl (el (clR b)) :: .one (.bld 0 (extC a b k).length) :: vi k :: jk 23 [])), [.arr 0 1 (el (extC a b k))]⟩) 512 ?_ ?_]
  · have hF := from_v (G := G) (B := B) (extC a b 512) (fun x hx => by have := extC_mem a b 512 x hx; omega) (by have := extC_len a b 512; omega)
    simp (disch := omega) only [go_sem, Nat.reduceAdd, Nat.reduceSub, Nat.reduceMul, Nat.reduceLeDiff, Nat.reduceEqDiff, h20l0, List.length_map, hF]
  · rfl
  · intro k hk
    have hl := extC_len a b k
    rw [extC_succ]
    generalize extC a b k = E at hl ⊢
    by_cases h1 : (k : Int) ∈ clR a
    · by_cases h2 : (k : Int) ∈ clR b
      all_goals
        simp only [h1, h2, not_true_eq_false, not_false_eq_true, and_false, and_self, if_true, if_false]
        simp (disch := omega) only [go_sem, Nat.reduceAdd, Nat.reduceSub, Nat.reduceMul, Nat.reduceLeDiff, Nat.reduceEqDiff, h20l0, List.length_map, has_v _ _ hla, has_v _ _ hlb, h1, h2, snoc1, List.length_append]
    · simp only [h1, false_and, if_false]
      simp (disch := omega) only [go_sem, Nat.reduceAdd, Nat.reduceSub, Nat.reduceMul, Nat.reduceLeDiff, Nat.reduceEqDiff, h20l0, List.length_map, has_v _ _ hla, has_v _ _ hlb, h1]
theorem frz_bx (id : Nat) (es : List (List DC)) (U : List Bool) : (U.map bC).map (frzC id es) = U.map bC := by
  induction U with
  | nil => rfl
  | cons b U ih => rw [List.map_cons, List.map_cons, ih]; rfl
attribute [go_sem] frz_bx
theorem takeAll_v (U : List Bool) (l : List Run) (hU : U.length = 512) (hv : ∀ r ∈ l, Vol r) (hl : l.length ≤ 1000000) : EV G (Tb B) 55 [.one (.ptr 0 0), runsV l] [bx U] = some (.tup [], [bx (intoL U l)]) := by
  refine EV_run rfl ?_
  simp (disch := omega) only [go_sem, Nat.reduceAdd, Nat.reduceSub, Nat.reduceMul, Nat.reduceLeDiff, Nat.reduceEqDiff, h55c, List.length_map]
  rw [EL_loop (fun k => ⟨(.one (.ptr 0 0) :: jk 5 (runsV l :: vi l.length :: vi k :: jk 7 [])), [bx (intoL U (l.take k))]⟩) l.length ?_ ?_]
  · simp (disch := omega) only [go_sem, Nat.reduceAdd, Nat.reduceSub, Nat.reduceMul, Nat.reduceLeDiff, Nat.reduceEqDiff, h55l0, List.length_map, List.take_length]
  · rfl
  · intro k hk
    have hT := take_v (G := G) (B := B) (intoL U (l.take k)) l[k] (by rw [intoL_len]; exact hU) (hv _ (List.getElem_mem hk))
    rw [intoL_take U l k hk]
    simp (disch := omega) only [go_sem, Nat.reduceAdd, Nat.reduceSub, Nat.reduceMul, Nat.reduceLeDiff, Nat.reduceEqDiff, h55l0, List.length_map, Run.e, hT]
theorem extents_v (U : List Bool) (hU : U.length = 512) : EV G (Tb B) 56 [.one (.ptr 0 0)] [bx U] = some (runsV (exR U 512), [bx U]) := by
  refine EV_run rfl ?_
  simp (disch := omega) only [go_sem, Nat.reduceAdd, Nat.reduceSub, Nat.reduceMul, Nat.reduceLeDiff, Nat.reduceEqDiff, h56c]
  rw [EL_loop (fun k => ⟨(jk 3 (.one (.ptr 1 0) :: jk 2 (.one (.ptr 0 0) :: vi k :: jk 12 []))), [bx U, .box [.bld 2 (exR U k).length], .arr 0 2 ((exR U k).map Run.e)]⟩) 512 ?_ ?_]
  · simp (disch := omega) only [go_sem, Nat.reduceAdd, Nat.reduceSub, Nat.reduceMul, Nat.reduceLeDiff, Nat.reduceEqDiff, h56l0]
  · rfl
  · intro k hk
    have hG := exR_good U k (by omega)
    have hT := add_v (G := G) (B := B) (exR U k) ⟨k, 1⟩ hG (by simp)
    have hgd : U.getD k false = U[k]'(by omega) := by simp [List.getD_eq_getElem?_getD, List.getElem?_eq_getElem (show k < U.length by omega)]
    rw [exR]
    cases hu : U[k]'(by omega)
    all_goals rw [hgd, hu]
    all_goals simp (disch := omega) only [go_sem, Nat.reduceAdd, Nat.reduceSub, Nat.reduceMul, Nat.reduceLeDiff, Nat.reduceEqDiff, h56l0, List.length_map, load_bx, hu, hT]
theorem less_at (U V : List Bool) (k : Nat) (hk : k < U.length) : (lessR U V k)[k]'(by rw [lessR_len]; exact hk) = U.getD k false := by
  have := lessR_get U V k k (Nat.le_refl _)
  rw [List.getD_eq_getElem?_getD, List.getElem?_eq_getElem (by rw [lessR_len]; exact hk)] at this
  exact this
theorem freedBy_v (a b : List Run) : EV G (Tb B) 18 [runsV a, runsV b] [] = some (.tup [.one (.dc (.slc ((freedV a b).1.map Run.e))), .one (.dc (ci (freedV a b).2))], []) := by
  refine EV_run rfl ?_
  unfold freedV
  by_cases h : errsE [a, b] = 0
  · have h12 : (chk a).2 = 0 ∧ (chk b).2 = 0 := by
      rw [errs2] at h; split at h
      · exact ⟨by assumption, h⟩
      · exact absurd h (by assumption)
    have hla := chk_len h12.1
    have hlb := chk_len h12.2
    have hA := takeAll_v (G := G) (B := B) U0 a U0_len (fun r hr => (chk_vol h12.1 r hr).1) (by omega)
    have hB := takeAll_v (G := G) (B := B) U0 b U0_len (fun r hr => (chk_vol h12.2 r hr).1) (by omega)
    have lA : (intoL U0 a).length = 512 := by rw [intoL_len]; exact U0_len
    have lB : (intoL U0 b).length = 512 := by rw [intoL_len]; exact U0_len
    generalize hUA : intoL U0 a = A at hA lA ⊢
    generalize hUB : intoL U0 b = VB at hB lB ⊢
    simp (disch := omega) only [go_sem, Nat.reduceAdd, Nat.reduceSub, Nat.reduceMul, Nat.reduceLeDiff, Nat.reduceEqDiff, h18c, errs2_v, h, hA, hB, List.map_replicate, U0_box]
    rw [EL_loop (fun k => ⟨(jk 7 (.one (.ptr 0 0) :: .one (.ptr 1 0) :: jk 12 (vi k :: jk 15 []))), [bx (lessR A VB k), bx VB]⟩) 512 ?_ ?_]
    · have hX := extents_v (G := G) (B := B) (lessR A VB 512) (by rw [lessR_len]; exact lA)
      simp (disch := omega) only [go_sem, Nat.reduceAdd, Nat.reduceSub, Nat.reduceMul, Nat.reduceLeDiff, Nat.reduceEqDiff, h18l0, hX, h]
    · rfl
    · intro k hk
      have hL := lessR_len A VB k
      have h1 := less_at A VB k (by omega)
      have h2 : VB.getD k false = VB[k]'(by omega) := by simp [List.getD_eq_getElem?_getD, List.getElem?_eq_getElem (show k < VB.length by omega)]
      rw [lessR, h2]
      cases hu : A.getD k false
      all_goals rw [hu] at h1
      all_goals simp (disch := omega) only [go_sem, Nat.reduceAdd, Nat.reduceSub, Nat.reduceMul, Nat.reduceLeDiff, Nat.reduceEqDiff, h18l0, load_bx, put_bx, h1]
  · simp (disch := omega) only [go_sem, Nat.reduceAdd, Nat.reduceSub, Nat.reduceMul, Nat.reduceLeDiff, Nat.reduceEqDiff, h18c, errs2_v, h]
end Go.Proofs.Ytginjcpblgpcoaa
