/- The law RunsChanges. Conditions: none. -/
import Derived.Test.YtginjcpblgpcoaaVk
namespace Go.Proofs.Ytginjcpblgpcoaa
set_option maxRecDepth 4000
set_option linter.unusedSimpArgs false
set_option linter.unusedVariables false
variable {G : Glob} {B : CallT}
/-- the examples hold: shown apart -/
def baseC : CallT := fun f args hp => match f, args, hp with
  | 9, [], [] => some (vb true, [])
  | _, _, _ => none
theorem awake_v : EV G (Tb baseC) 9 [] [] = some (vb true, []) := EV_base rfl rfl
theorem same_n (l : List Run) (e c : Int) (hl : l.length ≤ 1000000) : EV G (Tb baseC) 19 [runsV l, vi e, vl [], vi c] [] = some (vb (decide (e = c ∧ (c ≠ 0 ∧ l = [] ∨ c = 0 ∧ l = []))), []) := same_v l e [] c hl
theorem same_nn (e c : Int) : EV G (Tb baseC) 19 [vl [], vi e, vl [], vi c] [] = some (vb (decide (e = c)), []) := by
  have := same_v (G := G) (B := baseC) [] e [] c (by simp)
  rw [show runsV [] = vl [] from rfl] at this
  rw [this]
  by_cases h : e = c
  · by_cases hc : c = 0 <;> simp [h, hc]
  · simp [h]
attribute [go_sem] List.getElem?_nil
theorem mtake (c : List Int) (n : Nat) : (c.map ci1).take n = (c.take n).map ci1 := List.map_take.symm
theorem mdrop (c : List Int) (n : Nat) : (c.map ci1).drop n = (c.drop n).map ci1 := List.map_drop.symm
theorem mapp (a b : List Int) : a.map ci1 ++ b.map ci1 = (a ++ b).map ci1 := List.map_append.symm
theorem mall (c : List Int) : ((c.map ci1).all fun e => decide (e.length = 1)) = true := el_all c
theorem tk2 {α β : Type} {f : α → β} (a b : List α) : List.take (a.length + b.length) ((a ++ b).map f) = (a ++ b).map f := List.take_of_length_le (by simp)
theorem tk3 {α β : Type} {f : α → β} (a b c : List α) : List.take (a.length + b.length + c.length) ((a ++ b ++ c).map f) = (a ++ b ++ c).map f := List.take_of_length_le (by simp; omega)
set_option maxHeartbeats 4000000 in
theorem c4_err (l b : List Run) (at' : Int) (hl : (l.length : Int) ≤ 80) (hb : (b.length : Int) ≤ 80) (h : errsE [l, b] ≠ 0) : EV G (Tb baseC) 4 [runsV l, runsV b, vi at'] [] = some (vb true, []) := by
  refine EV_run rfl ?_
  have hF : freedV l b = ([], errsE [l, b]) := by rw [freedV, if_pos h]
  have hI : insertedV l at' b = ([], errsE [l, b]) := by rw [insertedV, changeE_err h, if_pos h]
  have hR : replacedV l at' b = ([], errsE [l, b]) := by rw [replacedV, changeE_err h, if_pos h]
  have hE := errs2 l b
  by_cases h1 : (chk l).2 = 0
  all_goals simp only [h1, if_true, if_false] at hE
  all_goals rw [hE] at h hF hI hR
  all_goals simp (disch := omega) only [go_sem, Nat.reduceAdd, Nat.reduceSub, Nat.reduceMul, Nat.reduceLeDiff, Nat.reduceEqDiff, h4c, awake_v, few_v, copyRuns_v, replaced_v, inserted_v, freedBy_v, err_r, hF, hI, hR, h1, same_nn]
end Go.Proofs.Ytginjcpblgpcoaa
