/- The law RunsChanges, where the runs are runlists. Conditions: none. -/
import Derived.Test.YtginjcpblgpcoaaVl
namespace Go.Proofs.Ytginjcpblgpcoaa
set_option maxRecDepth 4000
set_option linter.unusedSimpArgs false
set_option linter.unusedVariables false
variable {G : Glob} {B : CallT}
theorem tkA {α : Type} (a b : List α) : List.take (a.length + b.length) (a ++ b) = a ++ b := List.take_of_length_le (by simp)
theorem tkB {α : Type} (a b c : List α) : List.take (a.length + b.length + c.length) (a ++ b ++ c) = a ++ b ++ c := List.take_of_length_le (by simp; omega)
theorem same_eq (l : List Run) (hl : l.length ≤ 1000000) : EV G (Tb baseC) 19 [runsV l, vi 0, runsV l, vi 0] [] = some (vb true, []) := by
  rw [same_v l 0 l 0 hl]; simp
structure Two (l b : List Run) : Prop where
  h1 : (chk l).2 = 0
  h2 : (chk b).2 = 0
theorem Two.lens {l b : List Run} (h : Two l b) : l.length ≤ 64 ∧ b.length ≤ 64 ∧ ((clR l).length : Int) = lenR l ∧ ((clR b).length : Int) = lenR b ∧ (0 ≤ lenR l ∧ lenR l ≤ 4096) ∧ 0 ≤ lenR b ∧ lenR b ≤ 4096 :=
  ⟨chk_len h.1, chk_len h.2, cl_len h.1, cl_len h.2, lenC h.1, lenC h.2⟩
theorem Two.ext {l b : List Run} (h : Two l b) : EV G (Tb baseC) 20 [runsV l, runsV b] [] = some (runsV (fromC (extC l b 512)), []) := by
  have := h.lens
  exact extents_r l b (chk_fine h.1) (chk_fine h.2) (by omega) (by omega)
theorem fromC_len (c : List Int) : (fromC c).length ≤ c.length := by
  have key : ∀ (l R : List Run), (addL R l).length ≤ R.length + l.length := by
    intro l
    induction l with
    | nil => intro R; exact Nat.le_refl _
    | cons r l ih => intro R; have := ih (addR R r); have := addR_length R r; simp only [List.length_cons]; show (addL (addR R r) l).length ≤ _; omega
  have := key (units c) []
  simpa [units, fromC] using this
theorem Two.sameX {l b : List Run} (h : Two l b) : EV G (Tb baseC) 19 [runsV (fromC (extC l b 512)), vi 0, runsV (fromC (extC l b 512)), vi 0] [] = some (vb true, []) :=
  same_eq _ (by have := fromC_len (extC l b 512); have := extC_len l b 512; omega)
set_option maxHeartbeats 4000000 in
theorem c4_range (l b : List Run) (a : Int) (h : Two l b) (ha : ¬ (0 ≤ a ∧ a ≤ 4096)) : EV G (Tb baseC) 4 [runsV l, runsV b, vi a] [] = some (vb true, []) := by
  refine EV_run rfl ?_
  have hl := h.lens
  have hN : repN b = lenR b := by rw [repN, if_pos h.h2]
  have hF := freed_eq h.1 h.2
  have hI : insertedV l a b = ([], 2) := by rw [insertedV, changeE_eq h.1 h.2 _ _ (by omega), if_neg ha]; rfl
  have hR : replacedV l a b = ([], 2) := by rw [replacedV, hN, changeE_eq h.1 h.2 _ _ (by omega), if_neg ha]; rfl
  have h1 := h.h1
  have h2 := h.h2
  simp (disch := omega) only [go_sem, Nat.reduceAdd, Nat.reduceSub, Nat.reduceMul, Nat.reduceLeDiff, Nat.reduceEqDiff, h4c, awake_v, few_v, copyRuns_v, replaced_v, inserted_v, freedBy_v, err_r, hF, hI, hR, h1, h2, same_nn, h.ext, h.sameX, within_r]
set_option maxHeartbeats 4000000 in
theorem c4_end (l b : List Run) (a : Int) (h : Two l b) (ha : 0 ≤ a ∧ a ≤ 4096) (hz : a > lenR l) : EV G (Tb baseC) 4 [runsV l, runsV b, vi a] [] = some (vb true, []) := by
  refine EV_run rfl ?_
  have hl := h.lens
  have hN : repN b = lenR b := by rw [repN, if_pos h.h2]
  have hF := freed_eq h.1 h.2
  have hE1 : changeE l a b 0 = 37 := by rw [changeE_eq h.1 h.2 _ _ (by omega), if_pos ha, if_pos (by omega)]
  have hI : insertedV l a b = ([], 37) := by rw [insertedV, hE1]; rfl
  have hE2 : changeE l a b (lenR b) = 37 := by rw [changeE_eq h.1 h.2 _ _ (by omega), if_pos ha, if_pos (by omega)]
  have hR : replacedV l a b = ([], 37) := by rw [replacedV, hN, hE2]; rfl
  have h1 := h.h1
  have h2 := h.h2
  simp (disch := omega) only [go_sem, Nat.reduceAdd, Nat.reduceSub, Nat.reduceMul, Nat.reduceLeDiff, Nat.reduceEqDiff, h4c, awake_v, few_v, copyRuns_v, replaced_v, inserted_v, freedBy_v, err_r, hF, hI, hR, h1, h2, same_nn, h.ext, h.sameX, within_r, clusters_v l (chk_fine h.1), clusters_v b (chk_fine h.2), List.length_map]
theorem cl_bd {l b : List Run} (h : Two l b) (m n : Nat) : (∀ x ∈ (clR l).take m ++ clR b ++ (clR l).drop n, -1 ≤ x ∧ x ≤ 1000) ∧ ((clR l).take m ++ clR b ++ (clR l).drop n).length ≤ 100000 := by
  have hl := h.lens
  refine ⟨fun x hx => ?_, by simp only [List.length_append, List.length_take, List.length_drop]; omega⟩
  simp only [List.mem_append] at hx
  rcases hx with (hx | hx) | hx
  · exact cl_bound h.1 x (List.mem_of_mem_take hx)
  · exact cl_bound h.2 x hx
  · exact cl_bound h.1 x (List.mem_of_mem_drop hx)
set_option maxHeartbeats 8000000 in
theorem c4_in (l b : List Run) (m : Nat) (h : Two l b) (ha : m ≤ 4096) (hz : (m : Int) ≤ lenR l) : EV G (Tb baseC) 4 [runsV l, runsV b, vi m] [] = some (vb true, []) := by
  refine EV_run rfl ?_
  have hl := h.lens
  have hN : repN b = lenR b := by rw [repN, if_pos h.h2]
  have hF := freed_eq h.1 h.2
  have h1 := h.h1
  have h2 := h.h2
  obtain ⟨e1, f1, g1⟩ := made_eq (a := m) (n := 0) h1 h2 (by omega) (by omega) rfl
  have hE1 : changeE l m b 0 = 0 := by rw [changeE_eq h.1 h.2 _ _ (by omega), if_pos (by omega), if_neg (by omega)]
  have hI : insertedV l m b = madeV [partR l 0 m, b, partR l (m + 0) (lenR l)] := by rw [insertedV, hE1, Int.add_zero]; rfl
  rw [e1] at hI
  simp only [Int.add_zero, Int.toNat_natCast] at hI f1 g1
  have hb := cl_bd h m m
  have hW := from_v (G := G) (B := baseC) _ hb.1 hb.2
  have hRs := resE_v (G := G) (B := baseC) _ f1 g1
  have hSm := same_eq (G := G) (fromC ((clR l).take m ++ clR b ++ (clR l).drop m)) (by omega)
  have hT : ((clR l).take m).length = m := by rw [List.length_take]; omega
  have hD : ((clR l).drop m).length = (clR l).length - m := List.length_drop
  generalize hA : (clR l).take m = A at *
  generalize hB : (clR l).drop m = B at *
  by_cases hn : (m : Int) + lenR b > lenR l
  · have hE2 : changeE l m b (lenR b) = 37 := by rw [changeE_eq h.1 h.2 _ _ (by omega), if_pos (by omega), if_pos (by omega)]
    have hR : replacedV l m b = ([], 37) := by rw [replacedV, hN, hE2]; rfl
    by_cases hc : resE (fromC (A ++ clR b ++ B)) = 0
    · rw [if_pos hc] at hI
      simp (disch := omega) only [go_sem, Nat.reduceAdd, Nat.reduceSub, Nat.reduceMul, Nat.reduceLeDiff, Nat.reduceEqDiff, h4c, awake_v, few_v, copyRuns_v, replaced_v, inserted_v, freedBy_v, err_r, hF, hI, hR, h1, h2, same_nn, h.ext, h.sameX, within_r, clusters_v l (chk_fine h.1), clusters_v b (chk_fine h.2), List.length_map, mtake, mdrop, hA, hB, mapp, mall, tk2, tk3, copyInts_v, hW, hRs, hSm, hc, List.length_append, Option.map_none, List.take_length, tkA, tkB]
    · rw [if_neg hc] at hI
      simp (disch := omega) only [go_sem, Nat.reduceAdd, Nat.reduceSub, Nat.reduceMul, Nat.reduceLeDiff, Nat.reduceEqDiff, h4c, awake_v, few_v, copyRuns_v, replaced_v, inserted_v, freedBy_v, err_r, hF, hI, hR, h1, h2, same_nn, h.ext, h.sameX, within_r, clusters_v l (chk_fine h.1), clusters_v b (chk_fine h.2), List.length_map, mtake, mdrop, hA, hB, mapp, mall, tk2, tk3, copyInts_v, hW, hRs, hSm, hc, List.length_append, Option.map_none, List.take_length, tkA, tkB]
  · have hlb : ((m : Int) + (clR b).length).toNat = m + (clR b).length := by omega
    obtain ⟨e2, f2, g2⟩ := made_eq (l := l) (b := b) (a := m) (n := (clR b).length) h1 h2 (by omega) (by omega) rfl
    have hE2 : changeE l m b (clR b).length = 0 := by rw [changeE_eq h.1 h.2 _ _ (by omega), if_pos (by omega), if_neg (by omega)]
    have hN2 : repN b = (clR b).length := by omega
    have hR : replacedV l m b = madeV [partR l 0 m, b, partR l (m + (clR b).length) (lenR l)] := by rw [replacedV, hN2, hE2]; rfl
    rw [e2] at hR
    simp only [hlb, Int.toNat_natCast, hA] at hR f2 g2
    have hb2 := cl_bd h m (m + (clR b).length)
    rw [hA] at hb2
    have hW2 := from_v (G := G) (B := baseC) _ hb2.1 hb2.2
    have hRs2 := resE_v (G := G) (B := baseC) _ f2 g2
    have hSm2 := same_eq (G := G) (fromC (A ++ clR b ++ (clR l).drop (m + (clR b).length))) (by omega)
    have hD2 : ((clR l).drop (m + (clR b).length)).length = (clR l).length - (m + (clR b).length) := List.length_drop
    generalize hC : (clR l).drop (m + (clR b).length) = C at *
    by_cases hc : resE (fromC (A ++ clR b ++ B)) = 0
    · rw [if_pos hc] at hI
      by_cases hc2 : resE (fromC (A ++ clR b ++ C)) = 0
      · rw [if_pos hc2] at hR
        simp (disch := omega) only [go_sem, Nat.reduceAdd, Nat.reduceSub, Nat.reduceMul, Nat.reduceLeDiff, Nat.reduceEqDiff, h4c, awake_v, few_v, copyRuns_v, replaced_v, inserted_v, freedBy_v, err_r, hF, hI, hR, h1, h2, same_nn, h.ext, h.sameX, within_r, clusters_v l (chk_fine h.1), clusters_v b (chk_fine h.2), List.length_map, mtake, mdrop, hA, hB, mapp, mall, tk2, tk3, copyInts_v, hW, hRs, hSm, hc, List.length_append, Option.map_none, List.take_length, tkA, tkB, hlb, hC, hW2, hRs2, hSm2, hc2]
      · rw [if_neg hc2] at hR
        simp (disch := omega) only [go_sem, Nat.reduceAdd, Nat.reduceSub, Nat.reduceMul, Nat.reduceLeDiff, Nat.reduceEqDiff, h4c, awake_v, few_v, copyRuns_v, replaced_v, inserted_v, freedBy_v, err_r, hF, hI, hR, h1, h2, same_nn, h.ext, h.sameX, within_r, clusters_v l (chk_fine h.1), clusters_v b (chk_fine h.2), List.length_map, mtake, mdrop, hA, hB, mapp, mall, tk2, tk3, copyInts_v, hW, hRs, hSm, hc, List.length_append, Option.map_none, List.take_length, tkA, tkB, hlb, hC, hW2, hRs2, hSm2, hc2]
    · rw [if_neg hc] at hI
      by_cases hc2 : resE (fromC (A ++ clR b ++ C)) = 0
      · rw [if_pos hc2] at hR
        simp (disch := omega) only [go_sem, Nat.reduceAdd, Nat.reduceSub, Nat.reduceMul, Nat.reduceLeDiff, Nat.reduceEqDiff, h4c, awake_v, few_v, copyRuns_v, replaced_v, inserted_v, freedBy_v, err_r, hF, hI, hR, h1, h2, same_nn, h.ext, h.sameX, within_r, clusters_v l (chk_fine h.1), clusters_v b (chk_fine h.2), List.length_map, mtake, mdrop, hA, hB, mapp, mall, tk2, tk3, copyInts_v, hW, hRs, hSm, hc, List.length_append, Option.map_none, List.take_length, tkA, tkB, hlb, hC, hW2, hRs2, hSm2, hc2]
      · rw [if_neg hc2] at hR
        simp (disch := omega) only [go_sem, Nat.reduceAdd, Nat.reduceSub, Nat.reduceMul, Nat.reduceLeDiff, Nat.reduceEqDiff, h4c, awake_v, few_v, copyRuns_v, replaced_v, inserted_v, freedBy_v, err_r, hF, hI, hR, h1, h2, same_nn, h.ext, h.sameX, within_r, clusters_v l (chk_fine h.1), clusters_v b (chk_fine h.2), List.length_map, mtake, mdrop, hA, hB, mapp, mall, tk2, tk3, copyInts_v, hW, hRs, hSm, hc, List.length_append, Option.map_none, List.take_length, tkA, tkB, hlb, hC, hW2, hRs2, hSm2, hc2]
theorem RunsChanges_v (l b : List Run) (a : Int) : EV G (Tb baseC) 4 [runsV l, runsV b, vi a] [] = some (vb true, []) := by
  by_cases hl : (l.length : Int) ≤ 80
  · by_cases hb : (b.length : Int) ≤ 80
    · by_cases h : errsE [l, b] = 0
      · have hT : Two l b := by
          rw [errs2] at h
          split at h
          · exact ⟨by assumption, h⟩
          · exact absurd h (by assumption)
        by_cases ha : 0 ≤ a ∧ a ≤ 4096
        · by_cases hz : a > lenR l
          · exact c4_end l b a hT ha hz
          · have := c4_in (G := G) l b a.toNat hT (by omega) (by omega)
            rwa [show ((a.toNat : Nat) : Int) = a by omega] at this
        · exact c4_range l b a hT ha
      · exact c4_err l b a hl hb h
    · refine EV_run rfl ?_
      simp (disch := omega) only [go_sem, Nat.reduceAdd, Nat.reduceSub, Nat.reduceMul, Nat.reduceLeDiff, Nat.reduceEqDiff, h4c, awake_v, few_v]
  · refine EV_run rfl ?_
    simp (disch := omega) only [go_sem, Nat.reduceAdd, Nat.reduceSub, Nat.reduceMul, Nat.reduceLeDiff, Nat.reduceEqDiff, h4c, awake_v, few_v]
end Go.Proofs.Ytginjcpblgpcoaa
