/- The check of runs. Conditions: none. -/
import Derived.Test.YtginjcpblgpcoaaVc
namespace Go.Proofs.Ytginjcpblgpcoaa
set_option maxRecDepth 4000
set_option linter.unusedSimpArgs false
set_option linter.unusedVariables false
variable {G : Glob} {B : CallT}
theorem U0_box : List.replicate 512 (Cel.dc (.raw (.bool false))) = U0.map bC := by rw [U0, List.map_replicate]; rfl
theorem chkL_to (l : List Run) (k : Nat) (hk : k ≤ l.length) (h : ∀ j, j < k → ¬ stepE (prevK l j) (Uk l j) (l.getD j ⟨0, 0⟩) ≠ 0) : chkL l l none U0 0 = chkL l (l.drop k) (prevK l k) (Uk l k) k := by
  induction k with
  | zero => rfl
  | succ k ih =>
    have e : l.getD k ⟨0, 0⟩ = l[k] := by simp [List.getD_eq_getElem?_getD, List.getElem?_eq_getElem (show k < l.length by omega)]
    have := h k (Nat.lt_succ_self k)
    rw [e] at this
    rw [ih (by omega) (fun j hj => h j (by omega)), chkL_at (by omega), if_neg this, Uk_succ l k (by omega)]
    simp [prevK, List.getElem?_eq_getElem (show k < l.length by omega)]
theorem runAt (l : List Run) (k : Nat) (h : k < l.length) : l.getD k ⟨0, 0⟩ = l[k] := by simp [List.getD_eq_getElem?_getD, List.getElem?_eq_getElem h]
theorem rE_vol1 {r : Run} (h : rangeE r.s r.n = 0) : Vol r := by
  rcases rangeE_ok h with ⟨h1, h2, h3⟩ | ⟨s, n, h1, h2, h3, h4⟩
  · exact .inl ⟨h1, by omega⟩
  · exact .inr ⟨by omega, by omega, by omega⟩
theorem stepE_rg {l : List Run} {k : Nat} (U : List Bool) (hk : k < l.length) (h : ¬ stepE (prevK l k) U (l.getD k ⟨0, 0⟩) ≠ 0) : rangeE l[k].s l[k].n = 0 ∧ ¬ (0 < k ∧ joinsB (l[k-1]'(by omega)) l[k] = true) ∧ l[k].fresh U = true := by
  rw [runAt l k hk, stepE_at U hk] at h
  by_cases h1 : rangeE l[k].s l[k].n ≠ 0
  · rw [if_pos h1] at h; exact absurd h1 h
  · rw [if_neg h1] at h
    by_cases h2 : 0 < k ∧ joinsB (l[k-1]'(by omega)) l[k] = true
    · rw [if_pos h2] at h; exact absurd (by decide) h
    · rw [if_neg h2] at h
      cases h3 : l[k].fresh U
      · rw [h3] at h; exact absurd (by decide) h
      · exact ⟨by omega, h2, rfl⟩
theorem check_v (l : List Run) : EV G (Tb B) 34 [runsV l] [] = some (.tup [.one (.dc (ci (chk l).1)), .one (.dc (ci (chk l).2))], []) := by
  refine EV_run rfl ?_
  by_cases hl : (l.length : Int) > 64
  · simp only [chk, if_pos hl]
    simp (disch := omega) only [go_sem, Nat.reduceAdd, Nat.reduceSub, Nat.reduceMul, Nat.reduceLeDiff, Nat.reduceEqDiff, h34c, List.length_map]
  · simp only [chk, if_neg hl]
    simp (disch := omega) only [go_sem, Nat.reduceAdd, Nat.reduceSub, Nat.reduceMul, Nat.reduceLeDiff, Nat.reduceEqDiff, h34c, List.length_map, List.map_replicate, U0_box]
    rw [EL_fst (fun k => ⟨(runsV l :: jk 3 (.one (.ptr 0 0) :: jk 6 (runsV l :: vi l.length :: vi k :: jk 31 []))), [bx (Uk l k)]⟩) (fun k => stepE (prevK l k) (Uk l k) (l.getD k ⟨0, 0⟩) ≠ 0) l.length ?_ ?_]
    rotate_left
    · rfl
    · intro k hk hn
      obtain ⟨h1, h2, h3⟩ := stepE_rg _ hk (hn k (Nat.le_refl _))
      have hv := rE_vol1 h1
      have hU := Uk_len l k
      have hT := take_v (G := G) (B := B) (Uk l k) l[k] hU hv
      rw [h3] at hT
      rw [Uk_succ l k hk]
      by_cases h0 : 0 < k
      · have hj : joinsB (l[k-1]'(by omega)) l[k] = false := by simpa [h0] using h2
        have hb : rangeE (l[k-1]'(by omega)).s (l[k-1]'(by omega)).n = 0 := (stepE_rg _ (by omega) (hn (k-1) (by omega))).1
        have hb2 := bd_of hb
        simp (disch := omega) only [go_sem, Nat.reduceAdd, Nat.reduceSub, Nat.reduceMul, Nat.reduceLeDiff, Nat.reduceEqDiff, h34l0, List.length_map, Run.e, rangeErr_v, h1, joins_v, hj, hT]
      · simp (disch := omega) only [go_sem, Nat.reduceAdd, Nat.reduceSub, Nat.reduceMul, Nat.reduceLeDiff, Nat.reduceEqDiff, h34l0, List.length_map, Run.e, rangeErr_v, h1, hT]
    obtain ⟨hk, hp, hn⟩ := ix_spec (fun k => stepE (prevK l k) (Uk l k) (l.getD k ⟨0, 0⟩) ≠ 0) l.length
    generalize ix (fun k => stepE (prevK l k) (Uk l k) (l.getD k ⟨0, 0⟩) ≠ 0) l.length = k at *
    have hrg : ∀ (j : Nat) r, j < k → l[j]? = some r → rangeE r.s r.n = 0 := fun j r hj hr => by
      have hlt : j < l.length := by omega
      have := (stepE_rg _ hlt (hn j hj)).1
      rw [List.getElem?_eq_getElem hlt] at hr; injection hr with hr; rwa [hr] at this
    rw [chkL_to l k hk hn]
    rcases hp with rfl | ⟨hk', hp⟩
    · have hr := rg_all hrg
      have hw : lenW l = lenR l := lenW_eq l (fun r hm => by have := rE_n (hr r hm); omega) (by
        have := (lenT (l := l) (k := l.length) (by omega) hr).2
        rw [lenR_all] at this; omega)
      rw [List.drop_length, chkL]
      simp (disch := omega) only [go_sem, Nat.reduceAdd, Nat.reduceSub, Nat.reduceMul, Nat.reduceLeDiff, Nat.reduceEqDiff, h34l0, List.length_map, length_v, unless_v, hw]
    · have hU := Uk_len l k
      rw [runAt l k hk'] at hp
      rw [chkL_at hk', if_pos hp]
      rw [stepE_at _ hk'] at hp ⊢
      by_cases h1 : rangeE l[k].s l[k].n = 0
      · have hT := take_v (G := G) (B := B) (Uk l k) l[k] hU (rE_vol1 h1)
        by_cases h2 : 0 < k ∧ joinsB (l[k-1]'(by omega)) l[k] = true
        · have hb2 := bd_of (hrg (k-1) (l[k-1]'(by omega)) (by omega) (List.getElem?_eq_getElem _))
          simp (disch := omega) only [go_sem, Nat.reduceAdd, Nat.reduceSub, Nat.reduceMul, Nat.reduceLeDiff, Nat.reduceEqDiff, h34l0, List.length_map, Run.e, rangeErr_v, h1, joins_v, h2]
        · have h3 : l[k].fresh (Uk l k) = false := by
            simp only [h1, ne_eq, not_true_eq_false, if_false, if_neg h2] at hp
            cases h : l[k].fresh (Uk l k)
            · rfl
            · rw [h] at hp; simp at hp
          rw [h3] at hT
          by_cases h0 : 0 < k
          · have hj : joinsB (l[k-1]'(by omega)) l[k] = false := by simpa [h0] using h2
            have hb2 := bd_of (hrg (k-1) (l[k-1]'(by omega)) (by omega) (List.getElem?_eq_getElem _))
            simp (disch := omega) only [go_sem, Nat.reduceAdd, Nat.reduceSub, Nat.reduceMul, Nat.reduceLeDiff, Nat.reduceEqDiff, h34l0, List.length_map, Run.e, rangeErr_v, h1, joins_v, hj, hT, h3]
          · simp (disch := omega) only [go_sem, Nat.reduceAdd, Nat.reduceSub, Nat.reduceMul, Nat.reduceLeDiff, Nat.reduceEqDiff, h34l0, List.length_map, Run.e, rangeErr_v, h1, hT, h3]
      · simp (disch := omega) only [go_sem, Nat.reduceAdd, Nat.reduceSub, Nat.reduceMul, Nat.reduceLeDiff, Nat.reduceEqDiff, h34l0, List.length_map, Run.e, rangeErr_v]
end Go.Proofs.Ytginjcpblgpcoaa
