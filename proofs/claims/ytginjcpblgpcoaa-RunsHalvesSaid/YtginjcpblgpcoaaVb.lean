/- Small contracts. Conditions: none. -/
import Derived.Test.YtginjcpblgpcoaaCb
import Derived.Test.YtginjcpblgpcoaaVa
namespace Go.Proofs.Ytginjcpblgpcoaa
set_option maxRecDepth 4000
set_option linter.unusedSimpArgs false
set_option linter.unusedVariables false
variable {G : Glob} {B : CallT}
theorem within_v (n lo hi : Int) : EV G (Tb B) 77 [vi n, vi lo, vi hi] [] = some (vb (decide (lo ≤ n ∧ n ≤ hi)), []) := by
  refine EV_run rfl ?_
  by_cases h : lo ≤ n
  all_goals simp (disch := omega) only [go_sem, Nat.reduceAdd, Nat.reduceSub, Nat.reduceMul, Nat.reduceLeDiff, Nat.reduceEqDiff, h77c]
  all_goals simp [h]
theorem isHole_v (s n : Int) : EV G (Tb B) 49 [rn s n] [] = some (vb (decide (s = -1)), []) := by
  refine EV_run rfl ?_
  simp (disch := omega) only [go_sem, Nat.reduceAdd, Nat.reduceSub, Nat.reduceMul, Nat.reduceLeDiff, Nat.reduceEqDiff, h49c]
theorem unless_v (b : Bool) (e : Int) : EV G (Tb B) 48 [vb b, vi e] [] = some (vi (if b = true then 0 else e), []) := by
  refine EV_run rfl ?_
  cases b
  all_goals simp (disch := omega) only [go_sem, Nat.reduceAdd, Nat.reduceSub, Nat.reduceMul, Nat.reduceLeDiff, Nat.reduceEqDiff, h48c]
  all_goals rfl
theorem few_v (l : List Run) : EV G (Tb B) 10 [runsV l] [] = some (vb (decide ((l.length : Int) ≤ 80)), []) := by
  refine EV_run rfl ?_
  simp (disch := omega) only [go_sem, Nat.reduceAdd, Nat.reduceSub, Nat.reduceMul, Nat.reduceLeDiff, Nat.reduceEqDiff, h10c, List.length_map]
/-- the first of some numbers at which something holds, or none -/
theorem fstN (p : Nat → Prop) : ∀ n : Nat, (∀ k, k < n → ¬ p k) ∨ ∃ j, j < n ∧ p j ∧ ∀ k, k < j → ¬ p k
  | 0 => .inl (fun k h => by omega)
  | n + 1 => by
    rcases fstN p n with h | ⟨j, h1, h2, h3⟩
    · by_cases hp : p n
      · exact .inr ⟨n, by omega, hp, h⟩
      · exact .inl (fun k hk => by
          by_cases he : k = n
          · subst he; exact hp
          · exact h k (by omega))
    · exact .inr ⟨j, by omega, h2, h3⟩
theorem firstE_at (l : List Int) (j : Nat) (hj : j < l.length) (h : ∀ k, k < j → ¬ l.getD k 0 ≠ 0) (h1 : l.getD j 0 ≠ 0) : firstE l = l[j] := by
  have h2 : l.getD j 0 = l[j] := by simp [List.getD_eq_getElem?_getD, List.getElem?_eq_getElem hj]
  rw [firstE_drop l j (fun k hk => by have := h k hk; omega), List.drop_eq_getElem_cons hj, firstE, if_neg (by rw [← h2]; exact h1)]
theorem firstE_none (l : List Int) (h : ∀ k, k < l.length → ¬ l.getD k 0 ≠ 0) : firstE l = 0 := by
  rw [firstE_drop l l.length (fun k hk => by have := h k hk; omega), List.drop_length]; rfl
theorem getD_at (l : List Int) (k : Nat) (h : k < l.length) : l.getD k 0 = l[k] := by simp [List.getD_eq_getElem?_getD, List.getElem?_eq_getElem h]
theorem first_v (l : List Int) (hl : l.length ≤ 1000) : EV G (Tb B) 46 [vl (el l)] [] = some (vi (firstE l), []) := by
  refine EV_run rfl ?_
  simp (disch := omega) only [go_sem, Nat.reduceAdd, Nat.reduceSub, Nat.reduceMul, Nat.reduceLeDiff, Nat.reduceEqDiff, h46c, List.length_map]
  have round : ∀ k (hk : k < l.length), ¬ l.getD k 0 ≠ 0 → rnK [5, 0, 0] 0 (EC (EV G (Tb B)) G h46l0 ⟨(jk 5 (vl (el l) :: vi l.length :: vi k :: jk 7 [])), []⟩) = some ⟨(jk 5 (vl (el l) :: vi l.length :: vi (k + 1 : Nat) :: jk 7 [])), []⟩ := fun k hk hz => by
    rw [getD_at l k hk] at hz
    simp (disch := omega) only [go_sem, Nat.reduceAdd, Nat.reduceSub, Nat.reduceMul, Nat.reduceLeDiff, Nat.reduceEqDiff, h46l0, List.length_map, ci1]
  rcases fstN (fun k => l.getD k 0 ≠ 0) l.length with h | ⟨j, hj, h1, h2⟩
  · rw [EL_loop (fun k => ⟨(jk 5 (vl (el l) :: vi l.length :: vi k :: jk 7 [])), []⟩) l.length ?_ ?_]
    · rw [firstE_none l h]
      simp (disch := omega) only [go_sem, Nat.reduceAdd, Nat.reduceSub, Nat.reduceMul, Nat.reduceLeDiff, Nat.reduceEqDiff, h46l0]
    · rfl
    · exact fun k hk => round k hk (h k hk)
  · rw [EL_loop (fun k => ⟨(jk 5 (vl (el l) :: vi l.length :: vi k :: jk 7 [])), []⟩) j ?_ ?_]
    · rw [firstE_at l j hj h2 h1]
      rw [getD_at l j hj] at h1
      simp (disch := omega) only [go_sem, Nat.reduceAdd, Nat.reduceSub, Nat.reduceMul, Nat.reduceLeDiff, Nat.reduceEqDiff, h46l0, ci1]
    · rfl
    · exact fun k hk => round k (by omega) (h2 k hk)
theorem rangeErr_v (s n : Int) : EV G (Tb B) 69 [rn s n] [] = some (vi (rangeE s n), []) := by
  refine EV_run rfl ?_
  by_cases h1 : s = -1
  · by_cases h2 : 1 ≤ n ∧ n ≤ 4096
    all_goals simp (disch := omega) only [go_sem, Nat.reduceAdd, Nat.reduceSub, Nat.reduceMul, Nat.reduceLeDiff, Nat.reduceEqDiff, h69c, isHole_v, within_v, unless_v, rangeE]
  · by_cases h2 : 0 ≤ s ∧ s ≤ 511
    · by_cases h3 : 1 ≤ n ∧ n ≤ 512 - s
      all_goals simp (disch := omega) only [go_sem, Nat.reduceAdd, Nat.reduceSub, Nat.reduceMul, Nat.reduceLeDiff, Nat.reduceEqDiff, h69c, isHole_v, within_v, unless_v, rangeE]
    · simp (disch := omega) only [go_sem, Nat.reduceAdd, Nat.reduceSub, Nat.reduceMul, Nat.reduceLeDiff, Nat.reduceEqDiff, h69c, isHole_v, within_v, unless_v, rangeE]
end Go.Proofs.Ytginjcpblgpcoaa
