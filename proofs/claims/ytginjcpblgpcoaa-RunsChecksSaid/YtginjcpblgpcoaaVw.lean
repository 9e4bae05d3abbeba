/- The law RunsChecks. Conditions: none. -/
import Derived.Test.YtginjcpblgpcoaaVu
namespace Go.Proofs.Ytginjcpblgpcoaa
set_option maxRecDepth 4000
set_option linter.unusedSimpArgs false
set_option linter.unusedVariables false
variable {G : Glob} {B : CallT}
theorem sameEq (l : List Run) (hl : l.length ≤ 1000000) : EV G (Tb B) 19 [runsV l, vi 0, runsV l, vi 0] [] = some (vb true, []) := by
  rw [same_v l 0 l 0 hl]; simp
theorem sameNN (e c : Int) : EV G (Tb B) 19 [vl [], vi e, vl [], vi c] [] = some (vb (decide (e = c)), []) := by
  have := same_v (G := G) (B := B) [] e [] c (by simp)
  rw [show runsV [] = vl [] from rfl] at this
  rw [this]
  by_cases h : e = c
  · by_cases hc : c = 0 <;> simp [h, hc]
  · simp [h]
theorem canon_len {l : List Run} (h : canonE l = 0) : ¬ l.length > 64 ∧ ∀ r ∈ l, rangeE r.s r.n = 0 := by
  unfold canonE at h
  split at h
  · cases h
  · rename_i h1
    split at h
    · rename_i h2; exact ⟨h1, h2⟩
    · cases h
theorem addL_length (l R : List Run) : (addL R l).length ≤ R.length + l.length := by
  induction l generalizing R with
  | nil => exact Nat.le_refl _
  | cons r l ih => have := ih (addR R r); have := addR_length R r; simp only [List.length_cons]; show (addL (addR R r) l).length ≤ _; omega
theorem fromC_le (c : List Int) : (fromC c).length ≤ c.length := by
  have := addL_length (units c) []
  simpa [units, fromC] using this
set_option maxHeartbeats 4000000 in
theorem RunsChecks_v (l : List Run) : EV G (Tb baseD) 7 [runsV l] [] = some (vb true, []) := by
  refine EV_run rfl ?_
  by_cases hl : (l.length : Int) ≤ 80
  · by_cases hc : canonE l = 0
    · have hV : canonV l = (addL [] l, 0) := by rw [canonV, if_pos hc]
      obtain ⟨c1, c2⟩ := canon_len hc
      have hF := rg_fine c1 c2
      have hJ := join_v (G := G) (B := baseD) l hF
      have hS := sameEq (G := G) (B := baseD) (addL [] l) (by have := hF.add.len; omega)
      by_cases h : (chk l).2 = 0
      · have hw : lenW l = lenR l := lenW_chk h
        have hX := extents_r (G := G) (B := baseD) l [] (chk_fine h) Fine.nil (by have := cl_len h; have := lenC h; omega) (by simp [clR])
        have hS2 := sameEq (G := G) (B := baseD) (fromC (extC l [] 512)) (by have := fromC_le (extC l [] 512); have := extC_len l [] 512; omega)
        have hAl := allocated_r (G := G) (B := baseD) l h
        rw [show runsV [] = vl [] from rfl] at hX
        simp (disch := omega) only [go_sem, Nat.reduceAdd, Nat.reduceSub, Nat.reduceMul, Nat.reduceLeDiff, Nat.reduceEqDiff, h7c, awakeD_v, few_v, copyRuns_v, check_v, canonical_v, lengthOf_v, allocatedIn_v, extentsOf_v, check_r, ← chk_eq, canonErr_v, hc, hV, hJ, hS, h, hw, length_r, hX, hS2, hAl]
      · simp (disch := omega) only [go_sem, Nat.reduceAdd, Nat.reduceSub, Nat.reduceMul, Nat.reduceLeDiff, Nat.reduceEqDiff, h7c, awakeD_v, few_v, copyRuns_v, check_v, canonical_v, lengthOf_v, allocatedIn_v, extentsOf_v, check_r, ← chk_eq, canonErr_v, hc, hV, hJ, hS, h, sameNN]
    · have hV : canonV l = ([], canonE l) := by rw [canonV, if_neg hc]
      by_cases h : (chk l).2 = 0
      · have hw : lenW l = lenR l := lenW_chk h
        have hX := extents_r (G := G) (B := baseD) l [] (chk_fine h) Fine.nil (by have := cl_len h; have := lenC h; omega) (by simp [clR])
        have hS2 := sameEq (G := G) (B := baseD) (fromC (extC l [] 512)) (by have := fromC_le (extC l [] 512); have := extC_len l [] 512; omega)
        have hAl := allocated_r (G := G) (B := baseD) l h
        rw [show runsV [] = vl [] from rfl] at hX
        simp (disch := omega) only [go_sem, Nat.reduceAdd, Nat.reduceSub, Nat.reduceMul, Nat.reduceLeDiff, Nat.reduceEqDiff, h7c, awakeD_v, few_v, copyRuns_v, check_v, canonical_v, lengthOf_v, allocatedIn_v, extentsOf_v, check_r, ← chk_eq, canonErr_v, hc, hV, sameNN, h, hw, length_r, hX, hS2, hAl]
      · simp (disch := omega) only [go_sem, Nat.reduceAdd, Nat.reduceSub, Nat.reduceMul, Nat.reduceLeDiff, Nat.reduceEqDiff, h7c, awakeD_v, few_v, copyRuns_v, check_v, canonical_v, lengthOf_v, allocatedIn_v, extentsOf_v, check_r, ← chk_eq, canonErr_v, hc, hV, h, sameNN]
  · simp (disch := omega) only [go_sem, Nat.reduceAdd, Nat.reduceSub, Nat.reduceMul, Nat.reduceLeDiff, Nat.reduceEqDiff, h7c, awakeD_v, few_v]
end Go.Proofs.Ytginjcpblgpcoaa
