/- The law RunsHalves. Conditions: none. -/
import Derived.Test.YtginjcpblgpcoaaVu
import Derived.Test.YtginjcpblgpcoaaVo
namespace Go.Proofs.Ytginjcpblgpcoaa
set_option maxRecDepth 4000
set_option linter.unusedSimpArgs false
set_option linter.unusedVariables false
variable {G : Glob} {B : CallT}
theorem tmod_eq (n m : Int) (hm : 0 < m) : n % m = if n.tmod m < 0 then n.tmod m + m else n.tmod m := by
  have h1 := Int.emod_nonneg n (show m ≠ 0 by omega)
  have h2 := Int.emod_lt_of_pos n hm
  have h3 := Int.tmod_eq_emod (a := n) (b := m)
  split at h3
  · rw [if_neg (by omega)]; omega
  · rw [if_pos (by omega)]; omega
theorem modB_v (n m : Int) (hm : 0 < m ∧ m ≤ 4611686018427387904) : EV G (Tb B) 42 [vi n, vi m] [] = some (vi (n % m), []) := by
  refine EV_run rfl ?_
  have h1 := Int.emod_nonneg n (show m ≠ 0 by omega)
  have h2 := Int.emod_lt_of_pos n hm.1
  have h3 := tmod_eq n m hm.1
  by_cases c : n.tmod m < 0
  · rw [if_pos c] at h3
    simp (disch := omega) only [go_sem, Nat.reduceAdd, Nat.reduceSub, Nat.reduceMul, Nat.reduceLeDiff, Nat.reduceEqDiff, h42c, h3]
  · rw [if_neg c] at h3
    simp (disch := omega) only [go_sem, Nat.reduceAdd, Nat.reduceSub, Nat.reduceMul, Nat.reduceLeDiff, Nat.reduceEqDiff, h42c, h3]
theorem atR_to (l : List Run) (a : Int) : ∀ k, k ≤ l.length → (∀ j, j < k → ¬ a - lenR (l.take j) < (l.getD j ⟨0, 0⟩).n) → atR l a = atR (l.drop k) (a - lenR (l.take k)) ∧ leftR l a = leftR (l.drop k) (a - lenR (l.take k))
  | 0, _, _ => by simp [lenR]
  | k + 1, hk, h => by
    obtain ⟨h1, h2⟩ := atR_to l a k (by omega) (fun j hj => h j (by omega))
    have h3 := h k (by omega)
    rw [runAt l k hk] at h3
    rw [h1, h2, atR_at _ hk, leftR_at _ hk, if_neg h3, if_neg h3, lenR_take l k hk, Int.sub_sub]
    exact ⟨rfl, rfl⟩
theorem placeOf_in (l : List Run) (a : Int) (h : (chk l).2 = 0) (ha : 0 ≤ a ∧ a < lenR l) :
    EV G (Tb B) 11 [runsV l, vi a] [] = some (.tup [.agg [.dc (ci (atR l a)), .dc (ci (leftR l a))], .one (.dc (ci 0))], []) := by
  refine EV_run rfl ?_
  have hE := errs1 l
  have hl := chk_len h
  have hC := lenC h
  have hrg := chk_rg h
  have hf2 : firstE [(0 : Int), 0] = 0 := rfl
  simp (disch := omega) only [go_sem, Nat.reduceAdd, Nat.reduceSub, Nat.reduceMul, Nat.reduceLeDiff, Nat.reduceEqDiff, h11c, errs1_v, hE, h, unless_v, first2, hf2, List.length_map]
  rw [EL_fst (fun k => ⟨(jk 1 (vi (a - lenR (l.take k)) :: jk 2 (.one (.ptr 0 0) :: jk 17 (runsV l :: vi l.length :: vi k :: jk 27 [])))), [.box [.dc (ci 0), .dc (ci 0)]]⟩) (fun k => a - lenR (l.take k) < (l.getD k ⟨0, 0⟩).n) l.length ?_ ?_]
  rotate_left
  · simp only [List.take_zero, lenR, List.map_nil, List.sum_nil, Int.sub_zero]
    rfl
  · intro k hk hn
    have h1 := hn k (Nat.le_refl _)
    have hb := lenT (l := l) (k := k) (by omega) hrg
    have hn2 := rE_n (hrg l[k] (List.getElem_mem hk))
    rw [runAt l k hk] at h1
    rw [lenR_take l k hk]
    have e1 : a - (lenR (l.take k) + l[k].n) = a - lenR (l.take k) - l[k].n := by omega
    simp (disch := omega) only [go_sem, Nat.reduceAdd, Nat.reduceSub, Nat.reduceMul, Nat.reduceLeDiff, Nat.reduceEqDiff, h11l0, List.length_map, Run.e, e1]
  obtain ⟨hk, hp, hn⟩ := ix_spec (fun k => a - lenR (l.take k) < (l.getD k ⟨0, 0⟩).n) l.length
  generalize ix (fun k => a - lenR (l.take k) < (l.getD k ⟨0, 0⟩).n) l.length = k at *
  obtain ⟨t1, t2⟩ := atR_to l a k hk hn
  rcases hp with rfl | ⟨hk', hp⟩
  · exfalso
    have key : ∀ k, k ≤ l.length → (∀ j, j < k → ¬ a - lenR (l.take j) < (l.getD j ⟨0, 0⟩).n) → lenR (l.take k) ≤ a := by
      intro k
      induction k with
      | zero => intro _ _; simp [lenR]; omega
      | succ k ih =>
        intro hk hh
        have := hh k (by omega)
        rw [runAt l k hk] at this
        rw [lenR_take l k hk]; omega
    have := key l.length (Nat.le_refl _) hn
    rw [List.take_length] at this
    omega
  · have hb := lenT (l := l) (k := k) (by omega) hrg
    have hn2 := rE_n (hrg l[k] (List.getElem_mem hk'))
    have ha0 : 0 ≤ a - lenR (l.take k) := by
      by_cases h0 : k = 0
      · subst h0; simp [lenR]; omega
      · have h5 := hn (k - 1) (by omega)
        rw [runAt l (k - 1) (by omega)] at h5
        have h6 := lenR_take l (k - 1) (by omega)
        rw [show k - 1 + 1 = k by omega] at h6
        omega
    rw [runAt l k hk'] at hp
    rw [t1, t2, atR_at _ hk', leftR_at _ hk', if_pos hp, if_pos hp]
    by_cases hs : l[k].s = -1
    · rw [if_pos hs]
      simp (disch := omega) only [go_sem, Nat.reduceAdd, Nat.reduceSub, Nat.reduceMul, Nat.reduceLeDiff, Nat.reduceEqDiff, h11l0, List.length_map, Run.e, isHole_v, hs]
    · rw [if_neg hs]
      simp (disch := omega) only [go_sem, Nat.reduceAdd, Nat.reduceSub, Nat.reduceMul, Nat.reduceLeDiff, Nat.reduceEqDiff, h11l0, List.length_map, Run.e, isHole_v, hs]
theorem sameRefl (l : List Run) (hl : l.length ≤ 1000000) : EV G (Tb B) 43 [runsV l, runsV l] [] = some (vb true, []) := by
  rw [sameRuns_v l l hl]; simp
set_option maxHeartbeats 4000000 in
theorem RunsHalves_v (l by' : List Run) (at' : Int) : EV G (Tb baseD) 8 [runsV l, runsV by', vi at'] [] = some (vb true, []) := by
  refine EV_run rfl ?_
  by_cases hl : (l.length : Int) ≤ 80
  · by_cases h : (chk l).2 = 0
    · have hn := lenC h
      have hcl := cl_len h
      have hll := chk_len h
      have hi1 := Int.emod_nonneg at' (show lenR l + 1 ≠ 0 by omega)
      have hi2 := Int.emod_lt_of_pos at' (show 0 < lenR l + 1 by omega)
      have hM := modB_v (G := G) (B := baseD) at' (lenR l + 1) (by omega)
      generalize at' % (lenR l + 1) = i at *
      -- the halves
      have hA := cutV_eq h (x := 0) (y := i) (by omega) (by omega) (by omega)
      have hAc := chk_cut h (x := 0) (y := i) (by omega) (by omega) (by omega)
      have hB := cutV_eq h (x := i) (y := lenR l - i) (by omega) (by omega) (by omega)
      have hBc := chk_cut h (x := i) (y := lenR l - i) (by omega) (by omega) (by omega)
      have e1 : ((clR l).take (0 + i).toNat).drop (0 : Int).toNat = (clR l).take i.toNat := by simp
      have e2 : ((clR l).take (i + (lenR l - i)).toNat).drop i.toNat = (clR l).drop i.toNat := by
        rw [List.take_of_length_le (by omega)]
      rw [e1] at hA hAc
      rw [e2] at hB hBc
      have hclA : clR (fromC ((clR l).take i.toNat)) = (clR l).take i.toNat := clR_fromC (fun x hx => cl_ok h x (List.mem_of_mem_take hx))
      have hclB : clR (fromC ((clR l).drop i.toNat)) = (clR l).drop i.toNat := clR_fromC (fun x hx => cl_ok h x (List.mem_of_mem_drop hx))
      have hJ := halves h hAc hBc (by rw [hclA, hclB, List.take_append_drop])
      have hsec := second_half h hi1
      have hlenB : lenR (fromC ((clR l).drop i.toNat)) = lenR l - i := by
        rw [← cl_len hBc, hclB, List.length_drop]; omega
      have hvv := rE_vol (chk_rg h)
      have hat := dropR_at (l := l) hi1 (fun r hr => ⟨(hvv r hr).2.1, (hvv r hr).2.2.2⟩)
      rw [← hsec] at hat
      have hAl := chk_len hAc
      have hBl := chk_len hBc
      have hS := sameRefl (G := G) (B := baseD) l (by omega)
      -- the extents
      have hX1 := ext_chk h
      have hX2 := fromC_le (extC l [] 512)
      have hX2' := extC_len l [] 512
      have hX3 : lenW (fromC (extC l [] 512)) = allocR l := by
        rw [lenW_chk hX1, ← cl_len hX1, clR_fromC (ext_cl l)]
        exact ext_len h
      have hX4 := chk_len hX1
      have hXv := extentsOf_v (G := G) (B := baseD) l
      rw [h, if_pos rfl] at hXv
      -- what is inserted
      have hIb : (chk by').2 = 0 → _ := fun hb => back_eq h hb (i := i) (by omega)
      generalize fromC ((clR l).take i.toNat) = A at *
      generalize fromC ((clR l).drop i.toNat) = Bq at *
      generalize fromC (extC l [] 512) = X at *
      by_cases hin : i < lenR l
      · have hp1 := placeOf_in (G := G) (B := baseD) l i h (by omega)
        have hp2 := placeOf_in (G := G) (B := baseD) Bq 0 hBc (by omega)
        rw [hat.1, hat.2] at hp2
        simp (disch := omega) only [go_sem, Nat.reduceAdd, Nat.reduceSub, Nat.reduceMul, Nat.reduceLeDiff, Nat.reduceEqDiff, h8c, awakeD_v, few_v, copyRuns_v, err_r, h, lengthOf_v, within_r, hM, cut_v, hA, hB, joined_v, hJ, hS, hp1, hp2]
        by_cases hb : (by'.length : Int) ≤ 80
        · by_cases hbc : (chk by').2 = 0
          · obtain ⟨hI1, hI2⟩ := hIb hbc
            have hbw : lenW by' = lenR by' := lenW_chk hbc
            have hbl := lenC hbc
            have hbn := chk_len hbc
            have hbc2 := cl_len hbc
            have hMl : (fromC ((clR l).take i.toNat ++ clR by' ++ (clR l).drop i.toNat)).length ≤ 20000 := by
              refine Nat.le_trans (fromC_le _) ?_
              simp only [List.length_append, List.length_take, List.length_drop]
              omega
            have hv := resE_vals (fromC ((clR l).take i.toNat ++ clR by' ++ (clR l).drop i.toNat))
            generalize fromC ((clR l).take i.toNat ++ clR by' ++ (clR l).drop i.toNat) = M at *
            by_cases hr : resE M = 0
            · rw [if_pos hr] at hI1
              have hR := hI2 hr
              simp (disch := omega) only [go_sem, Nat.reduceAdd, Nat.reduceSub, Nat.reduceMul, Nat.reduceLeDiff, Nat.reduceEqDiff, few_v, copyRuns_v, err_r, h, hS, hXv, allocatedIn_v, hX1, length_r, hX3, List.length_map, hbc, inserted_v, hI1, removed_v, hR, hbw]
            · rw [if_neg hr] at hI1
              rcases hv with hv | hv | hv
              · exact absurd hv hr
              · rw [hv] at hI1
                simp (disch := omega) only [go_sem, Nat.reduceAdd, Nat.reduceSub, Nat.reduceMul, Nat.reduceLeDiff, Nat.reduceEqDiff, few_v, copyRuns_v, err_r, h, hS, hXv, allocatedIn_v, hX1, length_r, hX3, List.length_map, hbc, inserted_v, hI1]
              · rw [hv] at hI1
                simp (disch := omega) only [go_sem, Nat.reduceAdd, Nat.reduceSub, Nat.reduceMul, Nat.reduceLeDiff, Nat.reduceEqDiff, few_v, copyRuns_v, err_r, h, hS, hXv, allocatedIn_v, hX1, length_r, hX3, List.length_map, hbc, inserted_v, hI1]
          · simp (disch := omega) only [go_sem, Nat.reduceAdd, Nat.reduceSub, Nat.reduceMul, Nat.reduceLeDiff, Nat.reduceEqDiff, few_v, copyRuns_v, err_r, h, hS, hXv, allocatedIn_v, hX1, length_r, hX3, List.length_map, hbc]
        · simp (disch := omega) only [go_sem, Nat.reduceAdd, Nat.reduceSub, Nat.reduceMul, Nat.reduceLeDiff, Nat.reduceEqDiff, few_v, copyRuns_v, err_r, h, hS, hXv, allocatedIn_v, hX1, length_r, hX3, List.length_map]
      · simp (disch := omega) only [go_sem, Nat.reduceAdd, Nat.reduceSub, Nat.reduceMul, Nat.reduceLeDiff, Nat.reduceEqDiff, h8c, awakeD_v, few_v, copyRuns_v, err_r, h, lengthOf_v, within_r, hM, cut_v, hA, hB, joined_v, hJ, hS]
        by_cases hb : (by'.length : Int) ≤ 80
        · by_cases hbc : (chk by').2 = 0
          · obtain ⟨hI1, hI2⟩ := hIb hbc
            have hbw : lenW by' = lenR by' := lenW_chk hbc
            have hbl := lenC hbc
            have hbn := chk_len hbc
            have hbc2 := cl_len hbc
            have hMl : (fromC ((clR l).take i.toNat ++ clR by' ++ (clR l).drop i.toNat)).length ≤ 20000 := by
              refine Nat.le_trans (fromC_le _) ?_
              simp only [List.length_append, List.length_take, List.length_drop]
              omega
            have hv := resE_vals (fromC ((clR l).take i.toNat ++ clR by' ++ (clR l).drop i.toNat))
            generalize fromC ((clR l).take i.toNat ++ clR by' ++ (clR l).drop i.toNat) = M at *
            by_cases hr : resE M = 0
            · rw [if_pos hr] at hI1
              have hR := hI2 hr
              simp (disch := omega) only [go_sem, Nat.reduceAdd, Nat.reduceSub, Nat.reduceMul, Nat.reduceLeDiff, Nat.reduceEqDiff, few_v, copyRuns_v, err_r, h, hS, hXv, allocatedIn_v, hX1, length_r, hX3, List.length_map, hbc, inserted_v, hI1, removed_v, hR, hbw]
            · rw [if_neg hr] at hI1
              rcases hv with hv | hv | hv
              · exact absurd hv hr
              · rw [hv] at hI1
                simp (disch := omega) only [go_sem, Nat.reduceAdd, Nat.reduceSub, Nat.reduceMul, Nat.reduceLeDiff, Nat.reduceEqDiff, few_v, copyRuns_v, err_r, h, hS, hXv, allocatedIn_v, hX1, length_r, hX3, List.length_map, hbc, inserted_v, hI1]
              · rw [hv] at hI1
                simp (disch := omega) only [go_sem, Nat.reduceAdd, Nat.reduceSub, Nat.reduceMul, Nat.reduceLeDiff, Nat.reduceEqDiff, few_v, copyRuns_v, err_r, h, hS, hXv, allocatedIn_v, hX1, length_r, hX3, List.length_map, hbc, inserted_v, hI1]
          · simp (disch := omega) only [go_sem, Nat.reduceAdd, Nat.reduceSub, Nat.reduceMul, Nat.reduceLeDiff, Nat.reduceEqDiff, few_v, copyRuns_v, err_r, h, hS, hXv, allocatedIn_v, hX1, length_r, hX3, List.length_map, hbc]
        · simp (disch := omega) only [go_sem, Nat.reduceAdd, Nat.reduceSub, Nat.reduceMul, Nat.reduceLeDiff, Nat.reduceEqDiff, few_v, copyRuns_v, err_r, h, hS, hXv, allocatedIn_v, hX1, length_r, hX3, List.length_map]
    · simp (disch := omega) only [go_sem, Nat.reduceAdd, Nat.reduceSub, Nat.reduceMul, Nat.reduceLeDiff, Nat.reduceEqDiff, h8c, awakeD_v, few_v, err_r, h]
  · simp (disch := omega) only [go_sem, Nat.reduceAdd, Nat.reduceSub, Nat.reduceMul, Nat.reduceLeDiff, Nat.reduceEqDiff, h8c, awakeD_v, few_v]
end Go.Proofs.Ytginjcpblgpcoaa
