/- Parts that are cut, joined, removed, replaced, inserted. Conditions: none. -/
import Derived.Test.YtginjcpblgpcoaaVf
namespace Go.Proofs.Ytginjcpblgpcoaa
set_option maxRecDepth 4000
set_option linter.unusedSimpArgs false
set_option linter.unusedVariables false
variable {G : Glob} {B : CallT}
theorem made1_v (a : List Run) (h : Fine [a].flatten) (hv : ∀ r ∈ addL [] [a].flatten, Vol r) : EV G (Tb B) 53 [vl [[.slc (a.map Run.e)]]] [] = some (.tup [.one (.dc (.slc ((madeV [a]).1.map Run.e))), .one (.dc (ci (madeV [a]).2))], []) := made_v [a] (by simp) h hv
theorem made2_v (a b : List Run) (h : Fine [a, b].flatten) (hv : ∀ r ∈ addL [] [a, b].flatten, Vol r) : EV G (Tb B) 53 [vl [[.slc (a.map Run.e)], [.slc (b.map Run.e)]]] [] = some (.tup [.one (.dc (.slc ((madeV [a, b]).1.map Run.e))), .one (.dc (ci (madeV [a, b]).2))], []) := made_v [a, b] (by simp) h hv
theorem made3_v (a b c : List Run) (h : Fine [a, b, c].flatten) (hv : ∀ r ∈ addL [] [a, b, c].flatten, Vol r) : EV G (Tb B) 53 [vl [[.slc (a.map Run.e)], [.slc (b.map Run.e)], [.slc (c.map Run.e)]]] [] = some (.tup [.one (.dc (.slc ((madeV [a, b, c]).1.map Run.e))), .one (.dc (ci (madeV [a, b, c]).2))], []) := made_v [a, b, c] (by simp) h hv
theorem cutErr_v (l : List Run) (a c : Int) (hl : l.length ≤ 1000000) : EV G (Tb B) 59 [runsV l, vi a, vi c] [] = some (vi (cutE l a c), []) := by
  refine EV_run rfl ?_
  unfold cutE
  by_cases h1 : 0 ≤ a ∧ a ≤ 4096
  all_goals by_cases h2 : 0 ≤ c ∧ c ≤ 4096
  all_goals simp (disch := omega) only [go_sem, Nat.reduceAdd, Nat.reduceSub, Nat.reduceMul, Nat.reduceLeDiff, Nat.reduceEqDiff, h59c, errs1_v, within_v, unless_v, length_v, first3]
def changeE (l : List Run) (at' : Int) (b : List Run) (n : Int) : Int := firstE [errsE [l, b], if 0 ≤ at' ∧ at' ≤ 4096 then 0 else 2, if at' ≤ IntKind.i64.wrap (lenW l - n) then 0 else 37]
theorem changeErr_v (l b : List Run) (a n : Int) (hl : l.length ≤ 1000000) : EV G (Tb B) 52 [runsV l, vi a, runsV b, vi n] [] = some (vi (changeE l a b n), []) := by
  refine EV_run rfl ?_
  unfold changeE
  by_cases h1 : 0 ≤ a ∧ a ≤ 4096
  all_goals simp (disch := omega) only [go_sem, Nat.reduceAdd, Nat.reduceSub, Nat.reduceMul, Nat.reduceLeDiff, Nat.reduceEqDiff, h52c, errs2_v, within_v, unless_v, length_v, first3]
theorem cut_v (l : List Run) (a c : Int) (hl : l.length ≤ 1000000) : EV G (Tb B) 26 [runsV l, vi a, vi c] [] = some (.tup [.one (.dc (.slc ((cutV l a c).1.map Run.e))), .one (.dc (ci (cutV l a c).2))], []) := by
  refine EV_run rfl ?_
  unfold cutV
  by_cases h : cutE l a c = 0
  · obtain ⟨h1, h2, h3, h4⟩ := cutE_ok h
    have hF := part_fine h1 (a := a) (c := c) h2.1 ⟨h3.1, by omega⟩
    have hV : ∀ r ∈ addL [] (partR l a c), Vol r := addL_vol (by simp) (fun q hq => ((part_all h1 h2.1 h3.1).1 q hq).1)
    have hP := part_v (G := G) (B := B) l a c (chk_fine h1) ⟨h2.1, by omega⟩ ⟨h3.1, by omega⟩
    have hM := made1_v (G := G) (B := B) (partR l a c) (by simpa using hF) (by simpa using hV)
    simp (disch := omega) only [go_sem, Nat.reduceAdd, Nat.reduceSub, Nat.reduceMul, Nat.reduceLeDiff, Nat.reduceEqDiff, h26c, cutErr_v, hP, hM, h]
  · simp (disch := omega) only [go_sem, Nat.reduceAdd, Nat.reduceSub, Nat.reduceMul, Nat.reduceLeDiff, Nat.reduceEqDiff, h26c, cutErr_v, h]
theorem joined_v (a b : List Run) : EV G (Tb B) 28 [runsV a, runsV b] [] = some (.tup [.one (.dc (.slc ((joinedV a b).1.map Run.e))), .one (.dc (ci (joinedV a b).2))], []) := by
  refine EV_run rfl ?_
  unfold joinedV
  by_cases h : errsE [a, b] = 0
  · have h12 : (chk a).2 = 0 ∧ (chk b).2 = 0 := by
      rw [errs2] at h; split at h
      · exact ⟨by assumption, h⟩
      · exact absurd h (by assumption)
    have hF : Fine [a, b].flatten := errsE_flat (by simp [h12.1, h12.2]) (by simp)
    have hV : ∀ r ∈ addL [] [a, b].flatten, Vol r := addL_vol (by simp) (fun q hq => by
      simp only [List.flatten_cons, List.flatten_nil, List.append_nil, List.mem_append] at hq
      rcases hq with hq | hq
      · exact (chk_vol h12.1 q hq).1
      · exact (chk_vol h12.2 q hq).1)
    have hM := made2_v (G := G) (B := B) a b hF hV
    simp (disch := omega) only [go_sem, Nat.reduceAdd, Nat.reduceSub, Nat.reduceMul, Nat.reduceLeDiff, Nat.reduceEqDiff, h28c, errs2_v, hM, h]
  · simp (disch := omega) only [go_sem, Nat.reduceAdd, Nat.reduceSub, Nat.reduceMul, Nat.reduceLeDiff, Nat.reduceEqDiff, h28c, errs2_v, h]
theorem removed_v (l : List Run) (a c : Int) (hl : l.length ≤ 1000000) : EV G (Tb B) 27 [runsV l, vi a, vi c] [] = some (.tup [.one (.dc (.slc ((removedV l a c).1.map Run.e))), .one (.dc (ci (removedV l a c).2))], []) := by
  refine EV_run rfl ?_
  unfold removedV
  by_cases h : cutE l a c = 0
  · obtain ⟨h1, h2, h3, h4⟩ := cutE_ok h
    have hF := chk_fine h1
    have hb := lenC h1
    have hw : lenW l = lenR l := lenW_eq l (fun r hr => (hF.el r hr).2.2) (by omega)
    have hP := part_v (G := G) (B := B) l 0 a hF (by omega) ⟨h2.1, by omega⟩
    have hQ := part_v (G := G) (B := B) l (a + c) (lenR l) hF (by omega) (by omega)
    have hF1 := part_fine h1 (a := 0) (c := a) (by omega) ⟨h2.1, by omega⟩
    have hF2 := part_fine h1 (a := a + c) (c := lenR l) (by omega) (by omega)
    have hA := addAll_v (G := G) (B := B) [] (partR l 0 a) Fine.nil hF1
    have hB := addAll_v (G := G) (B := B) (addL [] (partR l 0 a)) (partR l (a + c) (lenR l)) hF1.add hF2
    rw [List.length_nil, List.map_nil] at hA
    rw [addL_app]
    simp (disch := omega) only [go_sem, Nat.reduceAdd, Nat.reduceSub, Nat.reduceMul, Nat.reduceLeDiff, Nat.reduceEqDiff, h27c, cutErr_v, hP, hQ, hA, hB, h, length_v, hw]
  · simp (disch := omega) only [go_sem, Nat.reduceAdd, Nat.reduceSub, Nat.reduceMul, Nat.reduceLeDiff, Nat.reduceEqDiff, h27c, cutErr_v, h]
theorem changeE_ok {l b : List Run} {a n : Int} (h : changeE l a b n = 0) (hn : 0 ≤ n ∧ n ≤ 4096) : (chk l).2 = 0 ∧ (chk b).2 = 0 ∧ (0 ≤ a ∧ a ≤ 4096) ∧ a + n ≤ lenR l := by
  simp only [changeE, errs2, firstE] at h
  have h1 : (chk l).2 = 0 := by
    by_cases h1 : (chk l).2 = 0
    · exact h1
    · rw [if_neg h1] at h; rw [if_neg h1] at h; exact absurd h h1
  rw [if_pos h1] at h
  have h2 : (chk b).2 = 0 := by
    by_cases h2 : (chk b).2 = 0
    · exact h2
    · rw [if_neg h2] at h; exact absurd h h2
  rw [if_pos h2] at h
  have hb := lenC h1
  have hF := chk_fine h1
  have hw : lenW l = lenR l := lenW_eq l (fun r hr => (hF.el r hr).2.2) (by omega)
  by_cases h3 : 0 ≤ a ∧ a ≤ 4096
  · simp only [h3, if_true, and_self, hw] at h
    rw [wrap64 (by omega)] at h
    by_cases h4 : a ≤ lenR l - n
    · exact ⟨h1, h2, h3, by omega⟩
    · simp [h4] at h
  · simp [h3] at h
def insertedV (l : List Run) (a : Int) (b : List Run) : List Run × Int := if changeE l a b 0 ≠ 0 then ([], changeE l a b 0) else madeV [partR l 0 a, b, partR l a (lenR l)]
def repN (b : List Run) : Int := if (chk b).2 = 0 then lenR b else 0
def replacedV (l : List Run) (a : Int) (b : List Run) : List Run × Int := if changeE l a b (repN b) ≠ 0 then ([], changeE l a b (repN b)) else madeV [partR l 0 a, b, partR l (a + repN b) (lenR l)]
theorem lenW_chk {l : List Run} (h : (chk l).2 = 0) : lenW l = lenR l := lenW_eq l (fun r hr => ((chk_fine h).el r hr).2.2) (by have := lenC h; omega)
theorem three_ok {l b : List Run} {a n : Int} (h1 : (chk l).2 = 0) (h2 : (chk b).2 = 0) (ha : 0 ≤ a ∧ a ≤ 4096) (hn : 0 ≤ n) :
    Fine [partR l 0 a, b, partR l (a + n) (lenR l)].flatten ∧ ∀ r ∈ addL [] [partR l 0 a, b, partR l (a + n) (lenR l)].flatten, Vol r := by
  have hb := lenC h1
  have hF1 := part_fine h1 (a := 0) (c := a) (by omega) (by omega)
  have hF2 := part_fine h1 (a := a + n) (c := lenR l) (by omega) (by omega)
  have hFb := chk_fine h2
  have hlb := lenC h2
  have e : [partR l 0 a, b, partR l (a + n) (lenR l)].flatten = partR l 0 a ++ (b ++ partR l (a + n) (lenR l)) := by simp
  have s1 := (part_all h1 (a := 0) (c := a) (by omega) ha.1)
  have s2 := (part_all h1 (a := a + n) (c := lenR l) (by omega) hb.1)
  rw [e]
  refine ⟨⟨fun q hq => ?_, ?_, ?_⟩, addL_vol (by simp) (fun q hq => ?_)⟩
  · simp only [List.mem_append] at hq
    rcases hq with hq | hq | hq
    · exact hF1.el q hq
    · exact hFb.el q hq
    · exact hF2.el q hq
  · rw [lenR_app, lenR_app]; omega
  · have := chk_len h1; have := chk_len h2; simp only [List.length_append]; omega
  · simp only [List.mem_append] at hq
    rcases hq with hq | hq | hq
    · exact (s1.1 q hq).1
    · exact (chk_vol h2 q hq).1
    · exact (s2.1 q hq).1
theorem inserted_v (l b : List Run) (a : Int) (hl : l.length ≤ 1000000) : EV G (Tb B) 17 [runsV l, vi a, runsV b] [] = some (.tup [.one (.dc (.slc ((insertedV l a b).1.map Run.e))), .one (.dc (ci (insertedV l a b).2))], []) := by
  refine EV_run rfl ?_
  unfold insertedV
  by_cases h : changeE l a b 0 = 0
  · obtain ⟨h1, h2, h3, h4⟩ := changeE_ok h (by omega)
    have hF := chk_fine h1
    have hb := lenC h1
    have hw := lenW_chk h1
    have hP := part_v (G := G) (B := B) l 0 a hF (by omega) (by omega)
    have hQ := part_v (G := G) (B := B) l a (lenR l) hF (by omega) (by omega)
    have h5 := three_ok h1 h2 h3 (n := 0) (by omega)
    rw [Int.add_zero] at h5
    have hM := made3_v (G := G) (B := B) (partR l 0 a) b (partR l a (lenR l)) h5.1 h5.2
    simp (disch := omega) only [go_sem, Nat.reduceAdd, Nat.reduceSub, Nat.reduceMul, Nat.reduceLeDiff, Nat.reduceEqDiff, h17c, changeErr_v, hP, hQ, hM, h, length_v, hw]
  · simp (disch := omega) only [go_sem, Nat.reduceAdd, Nat.reduceSub, Nat.reduceMul, Nat.reduceLeDiff, Nat.reduceEqDiff, h17c, changeErr_v, h]
theorem replaced_v (l b : List Run) (a : Int) (hl : l.length ≤ 1000000) (hb : b.length ≤ 1000000) : EV G (Tb B) 16 [runsV l, vi a, runsV b] [] = some (.tup [.one (.dc (.slc ((replacedV l a b).1.map Run.e))), .one (.dc (ci (replacedV l a b).2))], []) := by
  refine EV_run rfl ?_
  have hbn : 0 ≤ repN b ∧ repN b ≤ 4096 := by
    unfold repN; split
    · rename_i h; exact lenC h
    · omega
  by_cases h : changeE l a b (repN b) = 0
  · obtain ⟨h1, h2, h3, h4⟩ := changeE_ok h hbn
    have hF := chk_fine h1
    have hbl := lenC h1
    have hw := lenW_chk h1
    have hw2 := lenW_chk h2
    have hP := part_v (G := G) (B := B) l 0 a hF (by omega) (by omega)
    have hQ := part_v (G := G) (B := B) l (a + repN b) (lenR l) hF (by omega) (by omega)
    have h5 := three_ok h1 h2 h3 (n := repN b) (by omega)
    have hM := made3_v (G := G) (B := B) (partR l 0 a) b (partR l (a + repN b) (lenR l)) h5.1 h5.2
    have hN : repN b = lenR b := by rw [repN, if_pos h2]
    have he : errsE [b] = 0 := by rw [errs1]; exact h2
    unfold replacedV
    rw [hN] at h hM hQ ⊢
    simp (disch := omega) only [go_sem, Nat.reduceAdd, Nat.reduceSub, Nat.reduceMul, Nat.reduceLeDiff, Nat.reduceEqDiff, h16c, errs1_v, he, changeErr_v, hP, hQ, hM, h, length_v, hw, hw2]
  · unfold replacedV
    by_cases h2 : (chk b).2 = 0
    · have hN : repN b = lenR b := by rw [repN, if_pos h2]
      have he : errsE [b] = 0 := by rw [errs1]; exact h2
      have hw2 := lenW_chk h2
      rw [hN] at h ⊢
      simp (disch := omega) only [go_sem, Nat.reduceAdd, Nat.reduceSub, Nat.reduceMul, Nat.reduceLeDiff, Nat.reduceEqDiff, h16c, errs1_v, he, changeErr_v, h, length_v, hw2]
    · have hN : repN b = 0 := by rw [repN, if_neg h2]
      have he : ¬ errsE [b] = 0 := by rw [errs1]; exact h2
      rw [hN] at h ⊢
      simp (disch := omega) only [go_sem, Nat.reduceAdd, Nat.reduceSub, Nat.reduceMul, Nat.reduceLeDiff, Nat.reduceEqDiff, h16c, errs1_v, he, changeErr_v, h]
end Go.Proofs.Ytginjcpblgpcoaa
