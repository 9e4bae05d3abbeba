/- The reference's checks. Conditions: none. -/
import Derived.Test.YtginjcpblgpcoaaVg
namespace Go.Proofs.Ytginjcpblgpcoaa
set_option maxRecDepth 4000
set_option linter.unusedSimpArgs false
set_option linter.unusedVariables false
variable {G : Glob} {B : CallT}
theorem within_r (n lo hi : Int) : EV G (Tb B) 21 [vi n, vi lo, vi hi] [] = some (vb (decide (lo ≤ n ∧ n ≤ hi)), []) := by
  refine EV_run rfl ?_
  by_cases h : lo ≤ n
  all_goals simp (disch := omega) only [go_sem, Nat.reduceAdd, Nat.reduceSub, Nat.reduceMul, Nat.reduceLeDiff, Nat.reduceEqDiff, h21c]
  all_goals simp [h]
theorem isRun_v (s n : Int) : EV G (Tb B) 75 [rn s n] [] = some (vb (decide (rangeE s n = 0)), []) := by
  refine EV_run rfl ?_
  by_cases h1 : s = -1
  · by_cases h2 : 1 ≤ n ∧ n ≤ 4096
    all_goals simp (disch := omega) only [go_sem, Nat.reduceAdd, Nat.reduceSub, Nat.reduceMul, Nat.reduceLeDiff, Nat.reduceEqDiff, h75c, within_r, rangeE]
    all_goals simp [h2]
  · by_cases h2 : 0 ≤ s ∧ s ≤ 511
    · by_cases h3 : 1 ≤ n ∧ n ≤ 512 - s
      all_goals simp (disch := omega) only [go_sem, Nat.reduceAdd, Nat.reduceSub, Nat.reduceMul, Nat.reduceLeDiff, Nat.reduceEqDiff, h75c, within_r, rangeE]
      all_goals simp [h3]
    · simp (disch := omega) only [go_sem, Nat.reduceAdd, Nat.reduceSub, Nat.reduceMul, Nat.reduceLeDiff, Nat.reduceEqDiff, h75c, within_r, rangeE]
      simp
theorem joins_r (q r : Run) (h : -9223372036854775808 ≤ q.s + q.n ∧ q.s + q.n ≤ 9223372036854775807) : EV G (Tb B) 61 [q.v, r.v] [] = some (vb (joinsB q r), []) := by
  refine EV_run rfl ?_
  unfold joinsB
  by_cases h1 : q.s = -1
  all_goals by_cases h2 : r.s = -1
  all_goals simp (disch := omega) only [go_sem, Nat.reduceAdd, Nat.reduceSub, Nat.reduceMul, Nat.reduceLeDiff, Nat.reduceEqDiff, h61c]
  all_goals simp [h1, h2, eq_comm]
theorem shares_v (q r : Run) (h : -9223372036854775808 ≤ q.s + q.n ∧ q.s + q.n ≤ 9223372036854775807) (h' : -9223372036854775808 ≤ r.s + r.n ∧ r.s + r.n ≤ 9223372036854775807) : EV G (Tb B) 79 [q.v, r.v] [] = some (vb (sharesB q r), []) := by
  refine EV_run rfl ?_
  unfold sharesB
  by_cases h1 : q.s = -1
  · simp (disch := omega) only [go_sem, Nat.reduceAdd, Nat.reduceSub, Nat.reduceMul, Nat.reduceLeDiff, Nat.reduceEqDiff, h79c]
    simp [h1]
  · by_cases h2 : r.s = -1
    · simp (disch := omega) only [go_sem, Nat.reduceAdd, Nat.reduceSub, Nat.reduceMul, Nat.reduceLeDiff, Nat.reduceEqDiff, h79c]
      simp [h1, h2]
    · by_cases h3 : q.s < r.s + r.n
      all_goals simp (disch := omega) only [go_sem, Nat.reduceAdd, Nat.reduceSub, Nat.reduceMul, Nat.reduceLeDiff, Nat.reduceEqDiff, h79c]
      all_goals simp [h1, h2, h3, (by simpa using h1 : (q.s != -1) = true), (by simpa using h2 : (r.s != -1) = true)]
theorem length_r (l : List Run) (hl : l.length ≤ 1000000) : EV G (Tb B) 14 [runsV l] [] = some (vi (lenW l), []) := by
  refine EV_run rfl ?_
  simp (disch := omega) only [go_sem, Nat.reduceAdd, Nat.reduceSub, Nat.reduceMul, Nat.reduceLeDiff, Nat.reduceEqDiff, h14c, List.length_map]
  rw [EL_loop (fun k => ⟨(runsV l :: jk 2 (vi (lenW (l.take k)) :: vi k :: jk 14 [])), []⟩) l.length ?_ ?_]
  · simp (disch := omega) only [go_sem, Nat.reduceAdd, Nat.reduceSub, Nat.reduceMul, Nat.reduceLeDiff, Nat.reduceEqDiff, h14l0, List.length_map, List.take_length]
  · rfl
  · intro k hk
    rw [lenW_take l k hk]
    simp (disch := omega) only [go_sem, Nat.reduceAdd, Nat.reduceSub, Nat.reduceMul, Nat.reduceLeDiff, Nat.reduceEqDiff, h14l0, List.length_map, Run.e]
theorem any_succ (l : List Run) (k : Nat) (r : Run) (hk : k < l.length) : ((l.take (k + 1)).any fun q => sharesB q r) = (((l.take k).any fun q => sharesB q r) || sharesB l[k] r) := by
  rw [List.take_succ_eq_append_getElem hk, List.any_append]; simp
theorem doubled_v (l : List Run) (i : Nat) (hi : i < l.length) (hl : l.length ≤ 1000) (hb : ∀ (j : Nat) q, j ≤ i → l[j]? = some q → -9223372036854775808 ≤ q.s + q.n ∧ q.s + q.n ≤ 9223372036854775807) :
    EV G (Tb B) 58 [runsV l, vi i] [] = some (vb ((l.take i).any fun q => sharesB q l[i]), []) := by
  refine EV_run rfl ?_
  simp (disch := omega) only [go_sem, Nat.reduceAdd, Nat.reduceSub, Nat.reduceMul, Nat.reduceLeDiff, Nat.reduceEqDiff, h58c, List.length_map]
  have hbi := hb i l[i] (Nat.le_refl _) (List.getElem?_eq_getElem hi)
  rw [EL_fst (fun k => ⟨(runsV l :: vi i :: jk 3 (vi k :: jk 14 [])), []⟩) (fun k => sharesB (l.getD k ⟨0, 0⟩) l[i] = true) i ?_ ?_]
  rotate_left
  · rfl
  · intro k hk hn
    have h1 := hn k (Nat.le_refl _)
    rw [runAt l k (by omega)] at h1
    have h1 : sharesB l[k] l[i] = false := by simpa using h1
    have hbk := hb k l[k] (by omega) (List.getElem?_eq_getElem _)
    simp (disch := omega) only [go_sem, Nat.reduceAdd, Nat.reduceSub, Nat.reduceMul, Nat.reduceLeDiff, Nat.reduceEqDiff, h58l0, List.length_map, Run.e, shares_v, h1]
  obtain ⟨hk, hp, hn⟩ := ix_spec (fun k => sharesB (l.getD k ⟨0, 0⟩) l[i] = true) i
  generalize ix (fun k => sharesB (l.getD k ⟨0, 0⟩) l[i] = true) i = k at *
  rcases hp with rfl | ⟨hk', hp⟩
  · have hz : ((l.take k).any fun q => sharesB q l[k]) = false := by
      rw [List.any_eq_false]
      intro q hq
      obtain ⟨j, hj, rfl⟩ := List.mem_iff_getElem.1 hq
      have hj2 : j < k := by simp at hj; omega
      have := hn j hj2
      rw [runAt l j (by omega)] at this
      simpa using this
    simp (disch := omega) only [go_sem, Nat.reduceAdd, Nat.reduceSub, Nat.reduceMul, Nat.reduceLeDiff, Nat.reduceEqDiff, h58l0, List.length_map, hz]
  · rw [runAt l k (by omega)] at hp
    have hz : ((l.take i).any fun q => sharesB q l[i]) = true := by
      rw [List.any_eq_true]
      exact ⟨l[k], List.mem_iff_getElem.2 ⟨k, by simp; omega, by simp⟩, hp⟩
    have hbk := hb k l[k] (by omega) (List.getElem?_eq_getElem _)
    simp (disch := omega) only [go_sem, Nat.reduceAdd, Nat.reduceSub, Nat.reduceMul, Nat.reduceLeDiff, Nat.reduceEqDiff, h58l0, List.length_map, Run.e, shares_v, hp, hz]
theorem rchkL_to (l : List Run) (k : Nat) (hk : k ≤ l.length) (h : ∀ j, j < k → ¬ stepR l j (l.getD j ⟨0, 0⟩) ≠ 0) : rchkL l l 0 = rchkL l (l.drop k) k := by
  induction k with
  | zero => rfl
  | succ k ih =>
    have := h k (Nat.lt_succ_self k)
    rw [runAt l k (by omega)] at this
    rw [ih (by omega) (fun j hj => h j (by omega)), rchkL_at (by omega), if_neg this]
theorem stepR_rg {l : List Run} {k : Nat} (hk : k < l.length) (h : ¬ stepR l k (l.getD k ⟨0, 0⟩) ≠ 0) : rangeE l[k].s l[k].n = 0 ∧ ¬ (0 < k ∧ joinsB (l[k-1]'(by omega)) l[k] = true) ∧ ((l.take k).any fun q => sharesB q l[k]) = false := by
  rw [runAt l k hk, stepR_at hk] at h
  by_cases h1 : rangeE l[k].s l[k].n ≠ 0
  · rw [if_pos h1] at h; exact absurd (by decide) h
  · rw [if_neg h1] at h
    by_cases h2 : 0 < k ∧ joinsB (l[k-1]'(by omega)) l[k] = true
    · rw [if_pos h2] at h; exact absurd (by decide) h
    · rw [if_neg h2] at h
      cases h3 : (l.take k).any fun q => sharesB q l[k]
      · exact ⟨by omega, h2, rfl⟩
      · rw [h3] at h; exact absurd (by decide) h
theorem check_r (l : List Run) : EV G (Tb B) 39 [runsV l] [] = some (.tup [.one (.dc (ci (rchk l).1)), .one (.dc (ci (rchk l).2))], []) := by
  refine EV_run rfl ?_
  by_cases hl : (l.length : Int) > 64
  · simp only [rchk, if_pos hl]
    simp (disch := omega) only [go_sem, Nat.reduceAdd, Nat.reduceSub, Nat.reduceMul, Nat.reduceLeDiff, Nat.reduceEqDiff, h39c, List.length_map]
  · simp only [rchk, if_neg hl]
    simp (disch := omega) only [go_sem, Nat.reduceAdd, Nat.reduceSub, Nat.reduceMul, Nat.reduceLeDiff, Nat.reduceEqDiff, h39c, List.length_map]
    rw [EL_fst (fun k => ⟨(runsV l :: jk 3 (vi k :: jk 38 [])), []⟩) (fun k => stepR l k (l.getD k ⟨0, 0⟩) ≠ 0) l.length ?_ ?_]
    rotate_left
    · rfl
    · intro k hk hn
      obtain ⟨h1, h2, h3⟩ := stepR_rg hk (hn k (Nat.le_refl _))
      have hbd : ∀ (j : Nat) q, j ≤ k → l[j]? = some q → -9223372036854775808 ≤ q.s + q.n ∧ q.s + q.n ≤ 9223372036854775807 := fun j q hj hq => by
        have hlt : j < l.length := by omega
        have := bd_of (stepR_rg hlt (hn j hj)).1
        rw [List.getElem?_eq_getElem hlt] at hq; injection hq with hq; rwa [hq] at this
      have hD := doubled_v (G := G) (B := B) l k hk (by omega) hbd
      rw [h3] at hD
      by_cases h0 : 0 < k
      · have hj : joinsB (l[k-1]'(by omega)) l[k] = false := by simpa [h0] using h2
        have hb2 := hbd (k-1) (l[k-1]'(by omega)) (by omega) (List.getElem?_eq_getElem _)
        simp (disch := omega) only [go_sem, Nat.reduceAdd, Nat.reduceSub, Nat.reduceMul, Nat.reduceLeDiff, Nat.reduceEqDiff, h39l0, List.length_map, Run.e, isRun_v, h1, joins_r, hj, hD]
      · simp (disch := omega) only [go_sem, Nat.reduceAdd, Nat.reduceSub, Nat.reduceMul, Nat.reduceLeDiff, Nat.reduceEqDiff, h39l0, List.length_map, Run.e, isRun_v, h1, hD]
    obtain ⟨hk, hp, hn⟩ := ix_spec (fun k => stepR l k (l.getD k ⟨0, 0⟩) ≠ 0) l.length
    generalize ix (fun k => stepR l k (l.getD k ⟨0, 0⟩) ≠ 0) l.length = k at *
    have hrg : ∀ (j : Nat) r, j < k → l[j]? = some r → rangeE r.s r.n = 0 := fun j r hj hr => by
      have hlt : j < l.length := by omega
      have := (stepR_rg hlt (hn j hj)).1
      rw [List.getElem?_eq_getElem hlt] at hr; injection hr with hr; rwa [hr] at this
    rw [rchkL_to l k hk hn]
    rcases hp with rfl | ⟨hk', hp⟩
    · have hr := rg_all hrg
      have hw : lenW l = lenR l := lenW_eq l (fun r hm => by have := rE_n (hr r hm); omega) (by
        have := (lenT (l := l) (k := l.length) (by omega) hr).2
        rw [lenR_all] at this; omega)
      rw [List.drop_length, rchkL]
      by_cases h4 : lenR l > 4096
      all_goals simp (disch := omega) only [go_sem, Nat.reduceAdd, Nat.reduceSub, Nat.reduceMul, Nat.reduceLeDiff, Nat.reduceEqDiff, h39l0, List.length_map, length_r, hw]
    · rw [runAt l k hk'] at hp
      rw [rchkL_at hk', if_pos hp]
      rw [stepR_at hk'] at hp ⊢
      by_cases h1 : rangeE l[k].s l[k].n = 0
      · have hbd : ∀ (j : Nat) q, j ≤ k → l[j]? = some q → -9223372036854775808 ≤ q.s + q.n ∧ q.s + q.n ≤ 9223372036854775807 := fun j q hj hq => by
          by_cases he : j = k
          · subst he; rw [List.getElem?_eq_getElem hk'] at hq; injection hq with hq; rw [← hq]; exact bd_of h1
          · exact bd_of (hrg j q (by omega) hq)
        have hD := doubled_v (G := G) (B := B) l k hk' (by omega) hbd
        by_cases h2 : 0 < k ∧ joinsB (l[k-1]'(by omega)) l[k] = true
        · have hb2 := hbd (k-1) (l[k-1]'(by omega)) (by omega) (List.getElem?_eq_getElem _)
          simp (disch := omega) only [go_sem, Nat.reduceAdd, Nat.reduceSub, Nat.reduceMul, Nat.reduceLeDiff, Nat.reduceEqDiff, h39l0, List.length_map, Run.e, isRun_v, h1, joins_r, h2]
        · have h3 : ((l.take k).any fun q => sharesB q l[k]) = true := by
            simp only [h1, ne_eq, not_true_eq_false, if_false, if_neg h2] at hp
            cases h : (l.take k).any fun q => sharesB q l[k]
            · rw [h] at hp; simp at hp
            · rfl
          rw [h3] at hD
          by_cases h0 : 0 < k
          · have hj : joinsB (l[k-1]'(by omega)) l[k] = false := by simpa [h0] using h2
            have hb2 := hbd (k-1) (l[k-1]'(by omega)) (by omega) (List.getElem?_eq_getElem _)
            simp (disch := omega) only [go_sem, Nat.reduceAdd, Nat.reduceSub, Nat.reduceMul, Nat.reduceLeDiff, Nat.reduceEqDiff, h39l0, List.length_map, Run.e, isRun_v, h1, joins_r, hj, hD, h3]
          · simp (disch := omega) only [go_sem, Nat.reduceAdd, Nat.reduceSub, Nat.reduceMul, Nat.reduceLeDiff, Nat.reduceEqDiff, h39l0, List.length_map, Run.e, isRun_v, h1, hD, h3]
      · simp (disch := omega) only [go_sem, Nat.reduceAdd, Nat.reduceSub, Nat.reduceMul, Nat.reduceLeDiff, Nat.reduceEqDiff, h39l0, List.length_map, Run.e, isRun_v]
theorem err_r (l : List Run) : EV G (Tb B) 13 [runsV l] [] = some (vi (chk l).2, []) := by
  refine EV_run rfl ?_
  simp (disch := omega) only [go_sem, Nat.reduceAdd, Nat.reduceSub, Nat.reduceMul, Nat.reduceLeDiff, Nat.reduceEqDiff, h13c, check_r, chk_eq]
end Go.Proofs.Ytginjcpblgpcoaa
