/- Contracts for RunsChecks and RunsHalves. Conditions: none. -/
import Derived.Test.YtginjcpblgpcoaaVk
import Derived.Test.YtginjcpblgpcoaaVt
namespace Go.Proofs.Ytginjcpblgpcoaa
set_option maxRecDepth 4000
set_option linter.unusedSimpArgs false
set_option linter.unusedVariables false
variable {G : Glob} {B : CallT}
attribute [go_sem] List.getElem?_nil
/-- runs joined, or the error -/
def canonE (l : List Run) : Int := if l.length > 64 then 8 else if ∀ r ∈ l, rangeE r.s r.n = 0 then resE l else 2
theorem canonE_pos {l : List Run} (h : ¬ l.length > 64) (hr : ∀ r ∈ l, rangeE r.s r.n = 0) : canonE l = resE l := by rw [canonE, if_neg h, if_pos hr]
theorem canonE_neg {l : List Run} (h : ¬ l.length > 64) {k : Nat} (hk : k < l.length) (hr : rangeE l[k].s l[k].n ≠ 0) : canonE l = 2 := by
  rw [canonE, if_neg h, if_neg (fun hh => hr (hh _ (List.getElem_mem hk)))]
def canonV (l : List Run) : List Run × Int := if canonE l = 0 then (addL [] l, 0) else ([], canonE l)
theorem rg_fine {l : List Run} (h : ¬ l.length > 64) (hr : ∀ r ∈ l, rangeE r.s r.n = 0) : Fine l := by
  have hs : ∀ l : List Run, (∀ r ∈ l, rangeE r.s r.n = 0) → lenR l ≤ 4096 * l.length := by
    intro l
    induction l with
    | nil => intro _; simp [lenR]
    | cons r l ih =>
      intro h
      have h1 := ih (fun q hq => h q (List.mem_cons_of_mem _ hq))
      have h2 := rE_n (h r List.mem_cons_self)
      have e1 : lenR (r :: l) = r.n + lenR l := by simp [lenR]
      rw [e1, List.length_cons]; omega
  have := hs l hr
  exact ⟨fun q hq => by have := rE_n (hr q hq); omega, by omega, by omega⟩
theorem rg_at (l : List Run) (k : Nat) (hk : k < l.length) : rangeE (l.getD k ⟨0, 0⟩).s (l.getD k ⟨0, 0⟩).n = rangeE l[k].s l[k].n := by rw [runAt l k hk]
theorem rg_of (l : List Run) (h : ∀ j, j < l.length → ¬ rangeE (l.getD j ⟨0, 0⟩).s (l.getD j ⟨0, 0⟩).n ≠ 0) : ∀ r ∈ l, rangeE r.s r.n = 0 := by
  intro r hr
  obtain ⟨j, hj, rfl⟩ := List.mem_iff_getElem.1 hr
  have := h j hj
  rw [rg_at l j hj] at this
  exact Classical.not_not.1 this
theorem canonErr_v (l : List Run) : EV G (Tb B) 40 [runsV l] [] = some (vi (canonE l), []) := by
  refine EV_run rfl ?_
  by_cases h : l.length > 64
  · rw [canonE, if_pos h]
    simp (disch := omega) only [go_sem, Nat.reduceAdd, Nat.reduceSub, Nat.reduceMul, Nat.reduceLeDiff, Nat.reduceEqDiff, h40c, List.length_map]
  · simp (disch := omega) only [go_sem, Nat.reduceAdd, Nat.reduceSub, Nat.reduceMul, Nat.reduceLeDiff, Nat.reduceEqDiff, h40c, List.length_map]
    rw [EL_fst (fun k => ⟨(runsV l :: jk 2 (vi k :: jk 17 [])), []⟩) (fun k => rangeE (l.getD k ⟨0, 0⟩).s (l.getD k ⟨0, 0⟩).n ≠ 0) l.length ?_ ?_]
    rotate_left
    · rfl
    · intro k hk hn
      have h1 := hn k (Nat.le_refl _)
      rw [rg_at l k hk] at h1
      have h1 := Classical.not_not.1 h1
      simp (disch := omega) only [go_sem, Nat.reduceAdd, Nat.reduceSub, Nat.reduceMul, Nat.reduceLeDiff, Nat.reduceEqDiff, h40l0, List.length_map, Run.e, isRun_v, h1]
    obtain ⟨hk, hp, hn⟩ := ix_spec (fun k => rangeE (l.getD k ⟨0, 0⟩).s (l.getD k ⟨0, 0⟩).n ≠ 0) l.length
    generalize ix (fun k => rangeE (l.getD k ⟨0, 0⟩).s (l.getD k ⟨0, 0⟩).n ≠ 0) l.length = k at *
    rcases hp with rfl | ⟨hk', hp⟩
    · have hr := rg_of l hn
      rw [canonE_pos h hr]
      have hR := resE_v (G := G) (B := B) l (rg_fine h hr) (by omega)
      simp (disch := omega) only [go_sem, Nat.reduceAdd, Nat.reduceSub, Nat.reduceMul, Nat.reduceLeDiff, Nat.reduceEqDiff, h40l0, List.length_map, hR]
    · rw [rg_at l k hk'] at hp
      rw [canonE_neg h hk' hp]
      simp (disch := omega) only [go_sem, Nat.reduceAdd, Nat.reduceSub, Nat.reduceMul, Nat.reduceLeDiff, Nat.reduceEqDiff, h40l0, List.length_map, Run.e, isRun_v, hp]
theorem canonical_v (l : List Run) : EV G (Tb B) 35 [runsV l] [] = some (.tup [.one (.dc (.slc ((canonV l).1.map Run.e))), .one (.dc (ci (canonV l).2))], []) := by
  refine EV_run rfl ?_
  by_cases h : l.length > 64
  · have hV : canonV l = ([], 8) := by rw [canonV, canonE, if_pos h]; rfl
    rw [hV]
    simp (disch := omega) only [go_sem, Nat.reduceAdd, Nat.reduceSub, Nat.reduceMul, Nat.reduceLeDiff, Nat.reduceEqDiff, h35c, List.length_map]
  · simp (disch := omega) only [go_sem, Nat.reduceAdd, Nat.reduceSub, Nat.reduceMul, Nat.reduceLeDiff, Nat.reduceEqDiff, h35c, List.length_map]
    rw [EL_fst (fun k => ⟨(runsV l :: jk 10 (runsV l :: vi l.length :: vi k :: jk 14 [])), []⟩) (fun k => rangeE (l.getD k ⟨0, 0⟩).s (l.getD k ⟨0, 0⟩).n ≠ 0) l.length ?_ ?_]
    rotate_left
    · rfl
    · intro k hk hn
      have h1 := hn k (Nat.le_refl _)
      rw [rg_at l k hk] at h1
      have h1 := Classical.not_not.1 h1
      simp (disch := omega) only [go_sem, Nat.reduceAdd, Nat.reduceSub, Nat.reduceMul, Nat.reduceLeDiff, Nat.reduceEqDiff, h35l0, List.length_map, Run.e, rangeErr_v, h1]
    obtain ⟨hk, hp, hn⟩ := ix_spec (fun k => rangeE (l.getD k ⟨0, 0⟩).s (l.getD k ⟨0, 0⟩).n ≠ 0) l.length
    generalize ix (fun k => rangeE (l.getD k ⟨0, 0⟩).s (l.getD k ⟨0, 0⟩).n ≠ 0) l.length = k at *
    rcases hp with rfl | ⟨hk', hp⟩
    · have hr := rg_of l hn
      have hF := rg_fine h hr
      have hA := addAll_v (G := G) (B := B) [] l Fine.nil hF
      have hvl := rE_vol hr
      have hD := done_v (G := G) (B := B) (addL [] l) (addL_vol (by simp) (fun q hq => (hvl q hq).1)) hF.add.len
      have hE := done_res hr hF
      rw [hE] at hD
      unfold objsD at hD
      rw [hE] at hD
      rw [canonV, canonE_pos h hr]
      simp only [List.length_nil, List.map_nil] at hA
      by_cases h0 : resE l = 0
      all_goals simp only [h0, if_true, if_false] at hD ⊢
      all_goals simp (disch := omega) only [go_sem, Nat.reduceAdd, Nat.reduceSub, Nat.reduceMul, Nat.reduceLeDiff, Nat.reduceEqDiff, h35l0, List.length_map, hA, hD, h0]
    · rw [rg_at l k hk'] at hp
      have hV : canonV l = ([], 2) := by rw [canonV, canonE_neg h hk' hp]; rfl
      have h2 : rangeE l[k].s l[k].n = 2 := by rcases rangeE_two l[k].s l[k].n with h | h; exact absurd h hp; exact h
      rw [hV]
      simp (disch := omega) only [go_sem, Nat.reduceAdd, Nat.reduceSub, Nat.reduceMul, Nat.reduceLeDiff, Nat.reduceEqDiff, h35l0, List.length_map, Run.e, rangeErr_v, h2]
theorem lengthOf_v (l : List Run) (hl : l.length ≤ 1000000) : EV G (Tb B) 36 [runsV l] [] = some (.tup [.one (.dc (ci (if (chk l).2 = 0 then lenR l else 0))), .one (.dc (ci (chk l).2))], []) := by
  refine EV_run rfl ?_
  have hE := errs1 l
  by_cases h : (chk l).2 = 0
  · have hw : lenW l = lenR l := lenW_chk h
    simp (disch := omega) only [go_sem, Nat.reduceAdd, Nat.reduceSub, Nat.reduceMul, Nat.reduceLeDiff, Nat.reduceEqDiff, h36c, errs1_v, hE, h, length_v, hw]
  · simp (disch := omega) only [go_sem, Nat.reduceAdd, Nat.reduceSub, Nat.reduceMul, Nat.reduceLeDiff, Nat.reduceEqDiff, h36c, errs1_v, hE, h]
/-- the clusters in no hole -/
def allocR (l : List Run) : Int := lenR (l.filter fun r => !decide (r.s = -1))
theorem allocR_snoc (l : List Run) (k : Nat) (hk : k < l.length) : allocR (l.take (k + 1)) = if l[k].s = -1 then allocR (l.take k) else allocR (l.take k) + l[k].n := by
  rw [List.take_succ_eq_append_getElem hk, allocR, List.filter_append, lenR_app]
  by_cases h : l[k].s = -1
  · simp [h, allocR, lenR]
  · simp [h, allocR, lenR]
theorem allocR_bd {l : List Run} (h : ∀ r ∈ l, 0 ≤ r.n) (k : Nat) : 0 ≤ allocR (l.take k) ∧ allocR (l.take k) ≤ lenR l := by
  have key : ∀ l : List Run, (∀ r ∈ l, 0 ≤ r.n) → 0 ≤ allocR l ∧ allocR l ≤ lenR l := by
    intro l
    induction l with
    | nil => intro _; simp [allocR, lenR]
    | cons r l ih =>
      intro h
      have h1 := ih (fun q hq => h q (List.mem_cons_of_mem _ hq))
      have h2 := h r List.mem_cons_self
      have e1 : lenR (r :: l) = r.n + lenR l := by simp [lenR]
      by_cases hs : r.s = -1
      · have e2 : allocR (r :: l) = allocR l := by simp [allocR, hs]
        omega
      · have e2 : allocR (r :: l) = r.n + allocR l := by simp [allocR, hs, lenR]
        omega
  have h1 := key (l.take k) (fun r hr => h r (List.mem_of_mem_take hr))
  have h2 := lenR_le_take l k h
  omega
theorem allocated_r (l : List Run) (h : (chk l).2 = 0) : EV G (Tb B) 41 [runsV l] [] = some (vi (allocR l), []) := by
  refine EV_run rfl ?_
  have hl := chk_len h
  have hC := lenC h
  have hn : ∀ r ∈ l, 0 ≤ r.n := fun r hr => ((chk_fine h).el r hr).2.2
  simp (disch := omega) only [go_sem, Nat.reduceAdd, Nat.reduceSub, Nat.reduceMul, Nat.reduceLeDiff, Nat.reduceEqDiff, h41c, List.length_map]
  rw [EL_loop (fun k => ⟨(runsV l :: jk 2 (vi (allocR (l.take k)) :: vi k :: jk 20 [])), []⟩) l.length ?_ ?_]
  · simp (disch := omega) only [go_sem, Nat.reduceAdd, Nat.reduceSub, Nat.reduceMul, Nat.reduceLeDiff, Nat.reduceEqDiff, h41l0, List.length_map, List.take_length]
  · rfl
  · intro k hk
    have hb := allocR_bd hn k
    have h1 := rE_n (chk_rg h l[k] (List.getElem_mem hk))
    rw [allocR_snoc l k hk]
    by_cases hs : l[k].s = -1
    all_goals simp (disch := omega) only [go_sem, Nat.reduceAdd, Nat.reduceSub, Nat.reduceMul, Nat.reduceLeDiff, Nat.reduceEqDiff, h41l0, List.length_map, Run.e, hs]
theorem isHole_r (r : Run) : EV G (Tb B) 49 [r.v] [] = some (vb (decide (r.s = -1)), []) := isHole_v r.s r.n
theorem allocatedIn_v (l : List Run) (hl : l.length ≤ 1000000) : EV G (Tb baseD) 37 [runsV l] [] = some (.tup [.one (.dc (ci (if (chk l).2 = 0 then allocR l else 0))), .one (.dc (ci (chk l).2))], []) := by
  refine EV_run rfl ?_
  have hE := errs1 l
  by_cases h : (chk l).2 = 0
  · have hD := deleteFunc_v (G := G) (B := baseD) (fun r => decide (r.s = -1)) 49 isHole_r l hl
    have hL := length_v (G := G) (B := baseD) (l.filter fun r => !decide (r.s = -1)) (by have := List.length_filter_le (fun r : Run => !decide (r.s = -1)) l; omega)
    have hw : lenW (l.filter fun r => !decide (r.s = -1)) = allocR l := lenW_eq _ (fun r hr => ((chk_fine h).el r (List.mem_filter.1 hr).1).2.2) (by
      have := (allocR_bd (l := l) (fun r hr => ((chk_fine h).el r hr).2.2) l.length).2
      rw [List.take_length] at this
      have := lenC h
      change allocR l ≤ _
      omega)
    have hT : ((l.filter fun r => !decide (r.s = -1)).map Run.e ++ List.replicate (l.length - (l.filter fun r => !decide (r.s = -1)).length) [ci 0, ci 0]).take (l.filter fun r => !decide (r.s = -1)).length = (l.filter fun r => !decide (r.s = -1)).map Run.e := by
      rw [List.take_left' (by simp)]
    rw [hw] at hL
    have hlen : (l.filter fun r => !decide (r.s = -1)).length ≤ ((l.filter fun r => !decide (r.s = -1)).map Run.e ++ List.replicate (l.length - (l.filter fun r => !decide (r.s = -1)).length) [ci 0, ci 0]).length := by simp
    generalize (l.filter fun r => !decide (r.s = -1)) = L at hD hL hT hlen
    simp (disch := omega) only [go_sem, Nat.reduceAdd, Nat.reduceSub, Nat.reduceMul, Nat.reduceLeDiff, Nat.reduceEqDiff, h37c, errs1_v, hE, h, clone_v, hD, hL, hT, hlen]
  · simp (disch := omega) only [go_sem, Nat.reduceAdd, Nat.reduceSub, Nat.reduceMul, Nat.reduceLeDiff, Nat.reduceEqDiff, h37c, errs1_v, hE, h]
theorem extentsOf_v (l : List Run) : EV G (Tb B) 38 [runsV l] [] = some (.tup [.one (.dc (.slc ((if (chk l).2 = 0 then fromC (extC l [] 512) else []).map Run.e))), .one (.dc (ci (chk l).2))], []) := by
  refine EV_run rfl ?_
  have hE := errs1 l
  by_cases h : (chk l).2 = 0
  · have hl := chk_len h
    have hv : ∀ r ∈ l, Vol r := fun r hr => (chk_vol h r hr).1
    have hA := takeAll_v (G := G) (B := B) U0 l U0_len hv (by omega)
    have lA : (intoL U0 l).length = 512 := by rw [intoL_len]; exact U0_len
    have hX := extents_v (G := G) (B := B) (intoL U0 l) lA
    have hx : exR (intoL U0 l) 512 = fromC (extC l [] 512) := by
      refine exR_from _ l [] 512 (fun j hj => ?_)
      rw [intoL_getD_vol U0 l U0_len hv, U0_getD, Bool.eq_iff_iff, decide_eq_true_eq, mem_cl hv]
      simp [clR]
    rw [hx] at hX
    simp (disch := omega) only [go_sem, Nat.reduceAdd, Nat.reduceSub, Nat.reduceMul, Nat.reduceLeDiff, Nat.reduceEqDiff, h38c, errs1_v, hE, h, hA, hX, List.map_replicate, U0_box]
  · simp (disch := omega) only [go_sem, Nat.reduceAdd, Nat.reduceSub, Nat.reduceMul, Nat.reduceLeDiff, Nat.reduceEqDiff, h38c, errs1_v, hE, h]
end Go.Proofs.Ytginjcpblgpcoaa
