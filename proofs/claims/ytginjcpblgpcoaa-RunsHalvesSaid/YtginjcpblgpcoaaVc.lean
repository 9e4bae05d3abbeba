/- Contracts of the program's runs. Conditions: none. -/
import Derived.Test.YtginjcpblgpcoaaVb
namespace Go.Proofs.Ytginjcpblgpcoaa
set_option maxRecDepth 4000
set_option linter.unusedSimpArgs false
set_option linter.unusedVariables false
variable {G : Glob} {B : CallT}
theorem first2 (a b : Int) : EV G (Tb B) 46 [vl [[ci a], [ci b]]] [] = some (vi (firstE [a, b]), []) := first_v [a, b] (by simp)
theorem first3 (a b c : Int) : EV G (Tb B) 46 [vl [[ci a], [ci b], [ci c]]] [] = some (vi (firstE [a, b, c]), []) := first_v [a, b, c] (by simp)
theorem length_v (l : List Run) (hl : l.length ≤ 1000000) : EV G (Tb B) 51 [runsV l] [] = some (vi (lenW l), []) := by
  refine EV_run rfl ?_
  simp (disch := omega) only [go_sem, Nat.reduceAdd, Nat.reduceSub, Nat.reduceMul, Nat.reduceLeDiff, Nat.reduceEqDiff, h51c, List.length_map]
  rw [EL_loop (fun k => ⟨(jk 3 (vi (lenW (l.take k)) :: jk 2 (runsV l :: vi l.length :: vi k :: jk 9 []))), []⟩) l.length ?_ ?_]
  · simp (disch := omega) only [go_sem, Nat.reduceAdd, Nat.reduceSub, Nat.reduceMul, Nat.reduceLeDiff, Nat.reduceEqDiff, h51l0, List.take_length]
  · rfl
  · intro k hk
    rw [lenW_take l k hk]
    simp (disch := omega) only [go_sem, Nat.reduceAdd, Nat.reduceSub, Nat.reduceMul, Nat.reduceLeDiff, Nat.reduceEqDiff, h51l0, List.length_map, Run.e]
theorem joins_v (q r : Run) (h : -9223372036854775808 ≤ q.s + q.n ∧ q.s + q.n ≤ 9223372036854775807) : EV G (Tb B) 70 [q.v, r.v] [] = some (vb (joinsB q r), []) := by
  refine EV_run rfl ?_
  unfold joinsB
  by_cases h1 : q.s = -1
  all_goals by_cases h2 : r.s = -1
  all_goals simp (disch := omega) only [go_sem, Nat.reduceAdd, Nat.reduceSub, Nat.reduceMul, Nat.reduceLeDiff, Nat.reduceEqDiff, h70c, isHole_v, h1, h2]
  all_goals simp [h1, h2]
theorem bC_at (U : List Bool) (k : Nat) (h : k < U.length) : (U.map bC)[k]? = some (bC U[k]) := by simp [h]
theorem load_bx (U : List Bool) (k : Nat) (h : k < U.length) : ((U.map bC).drop k).take 1 = [.dc (.raw (.bool U[k]))] := box_load U k _ (List.getElem?_eq_getElem h)
theorem put_bx (U : List Bool) (k : Nat) (b : Bool) (h : k < U.length) : putAt (U.map bC) k [.dc (.raw (.bool b))] = (U.set k b).map bC := box_put U k b h
theorem ct_bx (m : Nat) (U : List Bool) : ctCs m (U.map bC) = U.map bC := by rw [ctCs_eq, killM]
theorem kl_bx (m : Nat) (U : List Bool) : klCs m (U.map bC) = U.map bC := by rw [klCs_eq, killM]
theorem ids_bx (U : List Bool) : idsL (U.map bC) = [] := by
  induction U with
  | nil => rfl
  | cons b U ih => rw [List.map_cons, idsL, ih]; rfl
theorem kp_bx (J : List Nat) (U : List Bool) : kpCs J (U.map bC) = true := by
  induction U with
  | nil => rfl
  | cons b U ih => rw [List.map_cons, kpCs, ih]; rfl
theorem ka_bx (A : List Nat) (U : List Bool) : kaCs A (U.map bC) = U.map bC := by rw [kaCs_eq, killM]
theorem rn_bx (ρ : Nat → Nat) (U : List Bool) : (U.map bC).map (renC ρ) = U.map bC := by
  induction U with
  | nil => rfl
  | cons b U ih => rw [List.map_cons, List.map_cons, ih]; rfl
attribute [go_sem] killM ct_bx kl_bx ids_bx kp_bx ka_bx rn_bx
theorem take_v (U : List Bool) (r : Run) (hU : U.length = 512) (h : Vol r) : EV G (Tb B) 71 [.one (.ptr 0 0), r.v] [bx U] = some (vb (r.fresh U), [bx (r.into U)]) := by
  refine EV_run rfl ?_
  rcases h with ⟨h1, _⟩ | ⟨h1, h2, h3⟩
  · simp (disch := omega) only [go_sem, Nat.reduceAdd, Nat.reduceSub, Nat.reduceMul, Nat.reduceLeDiff, Nat.reduceEqDiff, h71c, isHole_v, Run.fresh, Run.into]
  · obtain ⟨s, hs⟩ : ∃ s : Nat, r.s = s := ⟨r.s.toNat, by omega⟩
    obtain ⟨n, hn⟩ : ∃ n : Nat, r.n = n := ⟨r.n.toNat, by omega⟩
    simp (disch := omega) only [go_sem, Nat.reduceAdd, Nat.reduceSub, Nat.reduceMul, Nat.reduceLeDiff, Nat.reduceEqDiff, h71c, isHole_v, Run.fresh, Run.into, hs, hn]
    rw [EL_loop (fun k => ⟨(.one (.ptr 0 0) :: jk 2 (.one (.ptr 1 0) :: jk 1 (vb (freshR U s k) :: vi (s + k : Nat) :: jk 27 []))), [bx (setR U s k), .box [.dc (ci s), .dc (ci n)]]⟩) n ?_ ?_]
    · simp (disch := omega) only [go_sem, Nat.reduceAdd, Nat.reduceSub, Nat.reduceMul, Nat.reduceLeDiff, Nat.reduceEqDiff, h71l0]
    · rfl
    · intro k hk
      have hl := setR_len U s k
      rw [freshR_succ, setR]
      have getE : (setR U s k)[s + k]'(by omega) = U.getD (s + k) false := by
        have := setR_get U s k (s + k) (Nat.le_refl _)
        rw [List.getElem?_eq_getElem (by omega)] at this
        rw [List.getD_eq_getElem?_getD, ← this]; rfl
      cases hf : freshR U s k
      all_goals simp (disch := omega) only [go_sem, Nat.reduceAdd, Nat.reduceSub, Nat.reduceMul, Nat.reduceLeDiff, Nat.reduceEqDiff, h71l0, load_bx, put_bx, getE]
end Go.Proofs.Ytginjcpblgpcoaa
