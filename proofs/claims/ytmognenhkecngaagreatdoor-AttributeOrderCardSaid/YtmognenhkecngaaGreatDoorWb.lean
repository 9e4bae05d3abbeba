/- Where a key is; AttributeOrder returns true, by its contract. Conditions: none. -/
import Derived.Test.YtmognenhkecngaaGreatDoorUz
import Derived.Test.YtmognenhkecngaaGreatDoorUm
namespace Go.Proofs.YtmognenhkecngaaGreatDoor
section
set_option maxRecDepth 4000
set_option linter.unusedSimpArgs false
set_option linter.unusedVariables false
variable {G : Glob} {bb : Bool}
theorem each_v (l : List Att) (hW : ∀ a ∈ l, a.W) (hl : l.length ≤ 1000) (i : Nat) (hi : i < l.length) : EV G (Tb (bs bb)) 85 [vl (l.map Att.e), vi i] [] = some (vi (sngE l i), []) := by
  refine EV_run rfl ?_
  have q := errR_v (G := G) (bb := bb) l[i] (hW _ (List.getElem_mem hi))
  unfold sngE dupA
  rw [getDA l i hi]
  by_cases c : errA l[i] = 0
  · rw [c] at q
    rw [c, firstE_0]
    simp (disch := omega) only [go_sem, Nat.reduceAdd, Nat.reduceSub, Nat.reduceMul, Nat.reduceLeDiff, Nat.reduceEqDiff, h85c, List.length_map, ixA, Att.e, q]
    rw [EL_fst (fun k => ⟨(vl (l.map Att.e) :: vi i :: jk 4 (vi k :: jk 24 [])), []⟩) (fun k => (l.getD k Att.nil).id = l[i].id) i ?_ ?_]
    rotate_left
    · rfl
    · intro k hk hn
      have h1 := hn k (Nat.le_refl _)
      rw [getDA l k (by omega)] at h1
      simp (disch := omega) only [go_sem, Nat.reduceAdd, Nat.reduceSub, Nat.reduceMul, Nat.reduceLeDiff, Nat.reduceEqDiff, h85l0, List.length_map, ixA, Att.e, h1]
    obtain ⟨hk, hp, hn⟩ := ix_spec (fun k => (l.getD k Att.nil).id = l[i].id) i
    generalize ix (fun k => (l.getD k Att.nil).id = l[i].id) i = k at *
    rcases hp with rfl | ⟨hk', hp⟩
    · have e : ((l.take k).any fun a => decide (a.id = l[k].id)) = false := by
        rw [List.any_eq_false]
        intro x hx
        obtain ⟨j, hj, rfl⟩ := List.getElem_of_mem hx
        rw [List.length_take] at hj
        have := hn j (by omega)
        rw [getDA l j (by omega)] at this
        simpa using this
      rw [e]
      simp (disch := omega) only [go_sem, Nat.reduceAdd, Nat.reduceSub, Nat.reduceMul, Nat.reduceLeDiff, Nat.reduceEqDiff, h85l0, List.length_map]
      rfl
    · rw [getDA l k (by omega)] at hp
      have e : ((l.take i).any fun a => decide (a.id = l[i].id)) = true := by
        rw [List.any_eq_true]
        refine ⟨l[k], ?_, decide_eq_true hp⟩
        rw [List.mem_take_iff_getElem]
        exact ⟨k, by omega, rfl⟩
      rw [e]
      simp (disch := omega) only [go_sem, Nat.reduceAdd, Nat.reduceSub, Nat.reduceMul, Nat.reduceLeDiff, Nat.reduceEqDiff, h85l0, List.length_map, ixA, Att.e, eq_true hp]
      rfl
  · rw [firstE_n _ _ c]
    simp (disch := omega) only [go_sem, Nat.reduceAdd, Nat.reduceSub, Nat.reduceMul, Nat.reduceLeDiff, Nat.reduceEqDiff, h85c, List.length_map, ixA, Att.e, q, c]
theorem ordE_0 {l : List Att} {k : Nat} (h0 : k ≠ 0) (hk : k < l.length) (h : ordE l k = 0) : sngE l k = 0 ∧ cmpA l[k - 1] l[k] ≤ 0 ∧ (keyB l[k - 1] l[k] = true → l[k].ty = 48) := by
  unfold ordE at h
  rw [if_neg h0, getDA l (k - 1) (by omega), getDA l k hk] at h
  by_cases c1 : sngE l k = 0
  · rw [c1, firstE_0] at h
    by_cases c2 : cmpA l[k - 1] l[k] ≤ 0
    · rw [decide_eq_true c2, un_t, firstE_0] at h
      refine ⟨c1, c2, fun hb => ?_⟩
      rw [hb] at h
      by_cases c3 : l[k].ty = 48
      · exact c3
      · rw [decide_eq_false c3] at h
        exact absurd h (by simp [un, firstE])
    · rw [decide_eq_false c2] at h
      exact absurd h (by simp [un, firstE])
  · rw [firstE_n _ _ c1] at h
    exact absurd h c1
theorem keyB_t {a b : Att} : keyB a b = true ↔ a.ty = b.ty ∧ a.nm = b.nm ∧ a.fi = b.fi := by simp [keyB]
set_option maxHeartbeats 4000000 in
theorem orderR_v (l : List Att) (hW : ∀ a ∈ l, a.W) (hl : l.length ≤ 1000) : EV G (Tb (bs bb)) 30 [vl (l.map Att.e)] [] = some (iiv (ordV l), []) := by
  refine EV_run rfl ?_
  unfold ordV
  by_cases c1 : l.length > 32
  · rw [if_pos c1]
    have d2 : 32 < (l.length : Int) := by omega
    simp (disch := omega) only [go_sem, Nat.reduceAdd, Nat.reduceSub, Nat.reduceMul, Nat.reduceLeDiff, Nat.reduceEqDiff, h30c, List.length_map, eq_true d2]
  rw [if_neg c1]
  have d2 : ¬ 32 < (l.length : Int) := by omega
  simp (disch := omega) only [go_sem, Nat.reduceAdd, Nat.reduceSub, Nat.reduceMul, Nat.reduceLeDiff, Nat.reduceEqDiff, h30c, List.length_map, d2]
  rw [EL_fst (fun k => ⟨(vl (l.map Att.e) :: jk 3 (vi k :: jk 58 [])), []⟩) (fun k => ordE l k ≠ 0) l.length ?_ ?_]
  rotate_left
  · rfl
  · intro k hk hn
    have hz := Classical.not_not.1 (hn k (Nat.le_refl _))
    have q := each_v (G := G) (bb := bb) l hW hl k hk
    by_cases h0 : k = 0
    · subst h0
      simp only [ordE, if_true] at hz
      rw [hz] at q
      have q0 : EV G (Tb (bs bb)) 85 [vl (l.map Att.e), vi 0] [] = some (vi 0, []) := q
      simp (disch := omega) only [go_sem, Nat.reduceAdd, Nat.reduceSub, Nat.reduceMul, Nat.reduceLeDiff, Nat.reduceEqDiff, h30l0, List.length_map, Att.e, str_nil, q0, Int.natCast_zero, Int.lt_irrefl, decide_false, Int.toNat_zero]
      rfl
    · have d0 : 0 < (k : Int) := by omega
      obtain ⟨z1, z2, z3⟩ := ordE_0 h0 hk hz
      rw [z1] at q
      have iP := ixP l k hk (by omega)
      have z4 : ¬ 0 < cmpA l[k - 1] l[k] := by omega
      have q1 := compareR_v (G := G) (bb := bb) l[k - 1] l[k]
      have q2 := key_v (G := G) (bb := bb) l[k - 1]
      have q3 := key_v (G := G) (bb := bb) l[k]
      have e := str_inj (hW _ (List.getElem_mem (show k - 1 < l.length by omega))).nm (hW _ (List.getElem_mem hk)).nm
      by_cases k1 : l[k - 1].ty = l[k].ty
      · by_cases k2 : l[k - 1].nm = l[k].nm
        · rw [eq_true k2] at e
          by_cases k3 : l[k - 1].fi = l[k].fi
          · have z5 := z3 (keyB_t.2 ⟨k1, k2, k3⟩)
            simp (disch := omega) only [go_sem, Nat.reduceAdd, Nat.reduceSub, Nat.reduceMul, Nat.reduceLeDiff, Nat.reduceEqDiff, h30l0, beqS, List.length_map, ixA, iP, Att.e, str_nil, q, eq_true d0, q1, q2, q3, z4, eq_true k1, e, eq_true k3, eq_true z5]
          · simp (disch := omega) only [go_sem, Nat.reduceAdd, Nat.reduceSub, Nat.reduceMul, Nat.reduceLeDiff, Nat.reduceEqDiff, h30l0, beqS, List.length_map, ixA, iP, Att.e, str_nil, q, eq_true d0, q1, q2, q3, z4, eq_true k1, e, k3]
        · rw [eq_false k2] at e
          simp (disch := omega) only [go_sem, Nat.reduceAdd, Nat.reduceSub, Nat.reduceMul, Nat.reduceLeDiff, Nat.reduceEqDiff, h30l0, beqS, List.length_map, ixA, iP, Att.e, str_nil, q, eq_true d0, q1, q2, q3, z4, eq_true k1, e]
      · simp (disch := omega) only [go_sem, Nat.reduceAdd, Nat.reduceSub, Nat.reduceMul, Nat.reduceLeDiff, Nat.reduceEqDiff, h30l0, beqS, List.length_map, ixA, iP, Att.e, str_nil, q, eq_true d0, q1, q2, q3, z4, k1]
  obtain ⟨hk, hp, hn⟩ := ix_spec (fun k => ordE l k ≠ 0) l.length
  generalize ix (fun k => ordE l k ≠ 0) l.length = k at *
  rcases hp with rfl | ⟨hk', hz⟩
  · rw [if_neg (Nat.lt_irrefl _)]
    simp (disch := omega) only [go_sem, Nat.reduceAdd, Nat.reduceSub, Nat.reduceMul, Nat.reduceLeDiff, Nat.reduceEqDiff, h30l0, List.length_map]
  · rw [if_pos hk']
    have q := each_v (G := G) (bb := bb) l hW hl k hk'
    by_cases h0 : k = 0
    · subst h0
      simp only [ordE, if_true] at hz ⊢
      have q0 : EV G (Tb (bs bb)) 85 [vl (l.map Att.e), vi 0] [] = some (vi (sngE l 0), []) := q
      generalize sngE l 0 = e at hz q0
      simp (disch := omega) only [go_sem, Nat.reduceAdd, Nat.reduceSub, Nat.reduceMul, Nat.reduceLeDiff, Nat.reduceEqDiff, h30l0, List.length_map, Att.e, str_nil, q0, Int.natCast_zero, Int.lt_irrefl, decide_false, Int.toNat_zero, hz]
    · have d0 : 0 < (k : Int) := by omega
      unfold ordE at hz ⊢
      rw [if_neg h0, getDA l (k - 1) (by omega), getDA l k hk'] at hz ⊢
      have iP := ixP l k hk' (by omega)
      have q1 := compareR_v (G := G) (bb := bb) l[k - 1] l[k]
      have q2 := key_v (G := G) (bb := bb) l[k - 1]
      have q3 := key_v (G := G) (bb := bb) l[k]
      have e := str_inj (hW _ (List.getElem_mem (show k - 1 < l.length by omega))).nm (hW _ (List.getElem_mem hk')).nm
      by_cases c2 : sngE l k = 0
      · rw [c2] at q hz ⊢
        rw [firstE_0] at hz ⊢
        by_cases c3 : cmpA l[k - 1] l[k] ≤ 0
        · have z4 : ¬ 0 < cmpA l[k - 1] l[k] := by omega
          rw [decide_eq_true c3, un_t, firstE_0] at hz ⊢
          cases hb : keyB l[k - 1] l[k] with
          | false =>
            rw [hb] at hz
            exact absurd (by simp [un, firstE]) hz
          | true =>
            rw [hb] at hz
            obtain ⟨k1, k2, k3⟩ := keyB_t.1 hb
            rw [eq_true k2] at e
            by_cases c4 : l[k].ty = 48
            · rw [decide_eq_true c4] at hz
              exact absurd (by simp [un, firstE]) hz
            · rw [decide_eq_false c4]
              simp (disch := omega) only [go_sem, Nat.reduceAdd, Nat.reduceSub, Nat.reduceMul, Nat.reduceLeDiff, Nat.reduceEqDiff, h30l0, beqS, List.length_map, ixA, iP, Att.e, str_nil, q, eq_true d0, q1, q2, q3, z4, eq_true k1, e, eq_true k3, c4]
              rfl
        · have z4 : 0 < cmpA l[k - 1] l[k] := by omega
          rw [decide_eq_false c3]
          simp (disch := omega) only [go_sem, Nat.reduceAdd, Nat.reduceSub, Nat.reduceMul, Nat.reduceLeDiff, Nat.reduceEqDiff, h30l0, beqS, List.length_map, ixA, iP, Att.e, str_nil, q, eq_true d0, q1, eq_true z4]
          rfl
      · rw [firstE_n _ _ c2]
        generalize sngE l k = x at c2 q
        simp (disch := omega) only [go_sem, Nat.reduceAdd, Nat.reduceSub, Nat.reduceMul, Nat.reduceLeDiff, Nat.reduceEqDiff, h30l0, List.length_map, ixA, Att.e, str_nil, q, c2]
end
section
set_option maxRecDepth 4000
set_option linter.unusedSimpArgs false
set_option linter.unusedVariables false
variable {G : Glob} {bb : Bool}
end
section
set_option maxRecDepth 4000
set_option linter.unusedSimpArgs false
set_option linter.unusedVariables false
variable {G : Glob} {B : CallT}
end
section
set_option maxRecDepth 4000
set_option linter.unusedSimpArgs false
set_option linter.unusedVariables false
variable {G : Glob} {bb : Bool}
end
section
set_option maxRecDepth 4000
set_option linter.unusedSimpArgs false
set_option linter.unusedVariables false
variable {G : Glob} {bb : Bool}
end
section
set_option maxRecDepth 4000
set_option linter.unusedSimpArgs false
set_option linter.unusedVariables false
variable {G : Glob} {bb : Bool}
def fewB (a : Att) : Bool := decide (a.rs.length ≤ 80) && (decide (a.va.length ≤ 500) && decide (a.nm.length ≤ 60))
theorem getD_lt {α : Type} (l : List α) (d : α) (k : Nat) (h : k < l.length) : l.getD k d = l[k] := by
  rw [List.getD_eq_getElem?_getD, List.getElem?_eq_getElem h]; rfl
theorem all_ix {α : Type} (l : List α) (d : α) (p : α → Bool) : (ix (fun k => p (l.getD k d) = false) l.length = l.length) ↔ l.all p = true := by
  obtain ⟨h1, h2, h3⟩ := ix_spec (fun k => p (l.getD k d) = false) l.length
  constructor
  · intro e
    rw [List.all_eq_true]
    intro x hx
    obtain ⟨k, hk, rfl⟩ := List.getElem_of_mem hx
    have := h3 k (by omega)
    have e1 := getD_lt l d k hk
    rw [e1] at this
    simpa using this
  · intro h
    rcases h2 with h2 | ⟨h2, h4⟩
    · exact h2
    · have e1 := getD_lt l d _ h2
      rw [e1] at h4
      rw [List.all_eq_true.1 h _ (List.getElem_mem h2)] at h4
      cases h4
theorem fews_v (l : List Att) (hl : l.length ≤ 9223372036854775807) : EV G (Tb (bs bb)) 25 [vl (l.map Att.e)] [] = some (vb (l.all fewB && decide (l.length ≤ 40)), []) := by
  refine EV_run rfl ?_
  simp (disch := omega) only [go_sem, Nat.reduceAdd, Nat.reduceSub, Nat.reduceMul, Nat.reduceLeDiff, Nat.reduceEqDiff, h25c]
  rw [EL_fst (fun k => ⟨(vl (l.map Att.e) :: jk 2 (vi k :: jk 15 [])), []⟩) (fun k => fewB (l.getD k Att.nil) = false) l.length ?_ ?_]
  rotate_left
  · rfl
  · intro k hk hn
    have h1 := hn k (Nat.le_refl _)
    rw [getDA l k hk] at h1
    have h2 : fewB l[k] = true := by simpa using h1
    have q := few_v (G := G) (bb := bb) l[k]
    unfold fewB at h2
    rw [h2] at q
    simp (disch := omega) only [go_sem, Nat.reduceAdd, Nat.reduceSub, Nat.reduceMul, Nat.reduceLeDiff, Nat.reduceEqDiff, h25l0, List.length_map, ixA, Att.e, q]
  have hx := all_ix l Att.nil fewB
  obtain ⟨hk, hp, hn⟩ := ix_spec (fun k => fewB (l.getD k Att.nil) = false) l.length
  generalize ix (fun k => fewB (l.getD k Att.nil) = false) l.length = k at *
  rcases hp with rfl | ⟨hk', hp⟩
  · rw [hx.1 rfl]
    by_cases c : l.length ≤ 40
    · have c' : (l.length : Int) ≤ 40 := by omega
      simp (disch := omega) only [go_sem, Nat.reduceAdd, Nat.reduceSub, Nat.reduceMul, Nat.reduceLeDiff, Nat.reduceEqDiff, h25l0, List.length_map, eq_true c']
      simp [c]
    · have c' : ¬ (l.length : Int) ≤ 40 := by omega
      simp (disch := omega) only [go_sem, Nat.reduceAdd, Nat.reduceSub, Nat.reduceMul, Nat.reduceLeDiff, Nat.reduceEqDiff, h25l0, List.length_map, c']
      simp [c]
  · have e : l.all fewB = false := by
      cases h : l.all fewB with
      | false => rfl
      | true => have := hx.2 h; omega
    rw [e]
    rw [getDA l k hk'] at hp
    have q := few_v (G := G) (bb := bb) l[k]
    unfold fewB at hp
    rw [hp] at q
    simp (disch := omega) only [go_sem, Nat.reduceAdd, Nat.reduceSub, Nat.reduceMul, Nat.reduceLeDiff, Nat.reduceEqDiff, h25l0, List.length_map, ixA, Att.e, q]
theorem takeA (l : List Att) (k : Nat) (hk : k < l.length) : (l.take (k + 1)).map Att.e = (l.take k).map Att.e ++ [l[k].e] := by
  rw [List.take_succ_eq_append_getElem hk, List.map_append]; rfl
theorem copyAs_v (l : List Att) (hl : l.length ≤ 1000) (hr : ∀ a ∈ l, a.rs.length ≤ 1000000) : EV G (Tb (bs bb)) 26 [vl (l.map Att.e)] [] = some (vl (l.map Att.e), []) := by
  refine EV_run rfl ?_
  simp (disch := omega) only [go_sem, Nat.reduceAdd, Nat.reduceSub, Nat.reduceMul, Nat.reduceLeDiff, Nat.reduceEqDiff, h26c]
  rw [EL_loop (fun k => ⟨(vl (l.map Att.e) :: jk 2 (.one (.bld 0 ((l.take k).map Att.e).length) :: vi k :: jk 15 [])), [.arr 0 11 ((l.take k).map Att.e)]⟩) l.length ?_ ?_]
  · simp (disch := omega) only [go_sem, Nat.reduceAdd, Nat.reduceSub, Nat.reduceMul, Nat.reduceLeDiff, Nat.reduceEqDiff, h26l0, List.length_map, List.take_length]
  · rfl
  · intro k hk
    have q := copyA_v (G := G) (bb := bb) l[k] (hr _ (List.getElem_mem hk))
    have hb : ((l.take k).map Att.e).length ≤ 1000 := by rw [List.length_map, List.length_take]; omega
    have hall := all_att (l.take k)
    rw [takeA l k hk]
    generalize (l.take k).map Att.e = C at hb hall ⊢
    simp (disch := omega) only [go_sem, Nat.reduceAdd, Nat.reduceSub, Nat.reduceMul, Nat.reduceLeDiff, Nat.reduceEqDiff, h26l0, List.length_map, ixA, Att.e, q, hall]
    rw [List.length_append]
    rfl
end
section
set_option maxRecDepth 4000
set_option linter.unusedSimpArgs false
set_option linter.unusedVariables false
variable {G : Glob} {bb : Bool}
theorem aw_v : EV G (Tb (bs true)) 11 [] [] = some (vb true, []) := EV_base rfl rfl
end
section
set_option maxRecDepth 4000
set_option linter.unusedSimpArgs false
set_option linter.unusedVariables false
variable {G : Glob} {bb : Bool}
noncomputable def fndV (l : List Att) (ty : Int) (nm : List Int) (fi : Int) : Int × Int := if (ordV l).2 ≠ 0 then (0, (ordV l).2) else (max 0 (idxV (isKey ty nm fi) l), un (decide (0 ≤ idxV (isKey ty nm fi) l)) 6)
theorem idxV_rg (p : Att → Bool) (l : List Att) : -1 ≤ idxV p l ∧ idxV p l ≤ l.length := by
  unfold idxV
  have := (ix_spec (fun k => p (l.getD k Att.nil) = true) l.length).1
  split <;> omega
theorem findIn_v (l : List Att) (hW : ∀ a ∈ l, a.W) (hl : l.length ≤ 1000) (ty : Int) (nm : List Int) (fi : Int) (hn : Byts nm) : EV G (Tb (bs bb)) 29 [vl (l.map Att.e), .agg (keyC ty nm fi)] [] = some (iiv (fndV l ty nm fi), []) := by
  refine EV_run rfl ?_
  have q := order_v (G := G) (bb := bb) l hW hl
  have q1 := idxK_v (G := G) (bb := bb) ty nm fi l (fun a ha => (hW a ha).nm) hn (by omega)
  have hr := idxV_rg (isKey ty nm fi) l
  unfold fndV
  generalize ordV l = x at q ⊢
  obtain ⟨i, e⟩ := x
  by_cases c : e = 0
  · rw [if_neg (fun h => h c)]
    generalize idxV (isKey ty nm fi) l = z at q1 hr ⊢
    simp (disch := omega) only [go_sem, Nat.reduceAdd, Nat.reduceSub, Nat.reduceMul, Nat.reduceLeDiff, Nat.reduceEqDiff, h29c, q, eq_true c, q1, mapM1, unless8_u, Option.map_some]
    rw [show (if z > 0 then z else 0) = max 0 z by split <;> omega]
  · rw [if_pos c]
    simp (disch := omega) only [go_sem, Nat.reduceAdd, Nat.reduceSub, Nat.reduceMul, Nat.reduceLeDiff, Nat.reduceEqDiff, h29c, q, c]
theorem findR_v (l : List Att) (hW : ∀ a ∈ l, a.W) (hl : l.length ≤ 1000) (ty : Int) (nm : List Int) (fi : Int) (hn : Byts nm) : EV G (Tb (bs bb)) 33 [vl (l.map Att.e), .agg (keyC ty nm fi)] [] = some (vi (idxV (isKey ty nm fi) l), []) := by
  refine EV_run rfl ?_
  unfold idxV
  simp (disch := omega) only [go_sem, Nat.reduceAdd, Nat.reduceSub, Nat.reduceMul, Nat.reduceLeDiff, Nat.reduceEqDiff, h33c, List.length_map]
  rw [EL_fst (fun k => ⟨(vl (l.map Att.e) :: jk 2 (.one (.ptr 0 0) :: jk 1 (vi k :: jk 14 []))), [.box (keyC ty nm fi)]⟩) (fun k => isKey ty nm fi (l.getD k Att.nil) = true) l.length ?_ ?_]
  rotate_left
  · rfl
  · intro k hk hn2
    have h3 := hn2 k (Nat.le_refl _)
    rw [getDA l k hk] at h3
    have q := key_v (G := G) (bb := bb) l[k]
    have e := str_inj (hW _ (List.getElem_mem hk)).nm hn
    unfold isKey at h3
    by_cases k1 : l[k].ty = ty
    · by_cases k2 : l[k].nm = nm
      · by_cases k3 : l[k].fi = fi
        · exact absurd (by simp [k1, k2, k3]) h3
        · rw [eq_true k2] at e
          simp (disch := omega) only [go_sem, Nat.reduceAdd, Nat.reduceSub, Nat.reduceMul, Nat.reduceLeDiff, Nat.reduceEqDiff, h33l0, beqS, List.length_map, ixA, Att.e, q, eq_true k1, e, k3]
      · rw [eq_false k2] at e
        simp (disch := omega) only [go_sem, Nat.reduceAdd, Nat.reduceSub, Nat.reduceMul, Nat.reduceLeDiff, Nat.reduceEqDiff, h33l0, beqS, List.length_map, ixA, Att.e, q, eq_true k1, e]
    · simp (disch := omega) only [go_sem, Nat.reduceAdd, Nat.reduceSub, Nat.reduceMul, Nat.reduceLeDiff, Nat.reduceEqDiff, h33l0, beqS, List.length_map, ixA, Att.e, q, k1]
  obtain ⟨hk, hp, hn2⟩ := ix_spec (fun k => isKey ty nm fi (l.getD k Att.nil) = true) l.length
  generalize ix (fun k => isKey ty nm fi (l.getD k Att.nil) = true) l.length = k at *
  rcases hp with rfl | ⟨hk', hp⟩
  · rw [if_pos rfl]
    simp (disch := omega) only [go_sem, Nat.reduceAdd, Nat.reduceSub, Nat.reduceMul, Nat.reduceLeDiff, Nat.reduceEqDiff, h33l0, List.length_map]
  · rw [if_neg (by omega)]
    rw [getDA l k hk'] at hp
    have q := key_v (G := G) (bb := bb) l[k]
    have e := str_inj (hW _ (List.getElem_mem hk')).nm hn
    simp only [isKey, Bool.and_eq_true, decide_eq_true_eq] at hp
    obtain ⟨k1, k2, k3⟩ := hp
    rw [eq_true k2] at e
    simp (disch := omega) only [go_sem, Nat.reduceAdd, Nat.reduceSub, Nat.reduceMul, Nat.reduceLeDiff, Nat.reduceEqDiff, h33l0, beqS, List.length_map, ixA, Att.e, q, eq_true k1, e, eq_true k3]
def cmpE (a b : Att) : Int × Int := if firstE [errA a, errA b] ≠ 0 then (0, firstE [errA a, errA b]) else (cmpA a b, 0)
theorem compareE_v (a b : Att) (ha : a.W) (hb : b.W) : EV G (Tb (bs bb)) 31 [a.v, b.v] [] = some (iiv (cmpE a b), []) := by
  refine EV_run rfl ?_
  have q := checkA_v (G := G) (bb := bb) a ha
  have q1 := checkA_v (G := G) (bb := bb) b hb
  have q2 := compare_v (G := G) (bb := bb) a b
  unfold cmpE
  by_cases c : firstE [errA a, errA b] = 0
  · rw [if_neg (fun h => h c)]
    simp (disch := omega) only [go_sem, Nat.reduceAdd, Nat.reduceSub, Nat.reduceMul, Nat.reduceLeDiff, Nat.reduceEqDiff, h31c, q, q1, q2, first8_2, eq_true c]
  · rw [if_pos c]
    simp (disch := omega) only [go_sem, Nat.reduceAdd, Nat.reduceSub, Nat.reduceMul, Nat.reduceLeDiff, Nat.reduceEqDiff, h31c, q, q1, first8_2, c]
set_option maxHeartbeats 4000000 in
theorem orders_v (l : List Att) (h1 : ∀ a ∈ l, Byts a.nm ∧ Byts a.va) (hl : l.length ≤ 9223372036854775807) (ty : Int) (nm : List Int) (fi : Int) (hn : Byts nm) : EV G (Tb (bs true)) 6 [vl (l.map Att.e), .agg (keyC ty nm fi)] [] = some (vb true, []) := by
  refine EV_run rfl ?_
  have q0 := fews_v (G := G) (bb := true) l hl
  have qw := aw_v (G := G)
  cases c0 : (l.all fewB && decide (l.length ≤ 40)) with
  | false =>
    rw [c0] at q0
    simp (disch := omega) only [go_sem, Nat.reduceAdd, Nat.reduceSub, Nat.reduceMul, Nat.reduceLeDiff, Nat.reduceEqDiff, h6c, qw, q0]
  | true =>
    rw [c0] at q0
    by_cases cn : (nm.length : Int) > 60
    · simp (disch := omega) only [go_sem, Nat.reduceAdd, Nat.reduceSub, Nat.reduceMul, Nat.reduceLeDiff, Nat.reduceEqDiff, h6c, qw, q0, eq_true cn]
    simp only [Bool.and_eq_true, decide_eq_true_eq, List.all_eq_true] at c0
    have hW : ∀ a ∈ l, a.W := fun a ha => by
      have h2 := c0.1 a ha
      simp only [fewB, Bool.and_eq_true, decide_eq_true_eq] at h2
      exact ⟨(h1 a ha).1, (h1 a ha).2, by omega, by omega, by omega⟩
    have q1 := copyAs_v (G := G) (bb := true) l (by omega) (fun a ha => by have := (hW a ha).rl; omega)
    have q2 := order_v (G := G) (bb := true) l hW (by omega)
    have q3 := findIn_v (G := G) (bb := true) l hW (by omega) ty nm fi hn
    have q4 := orderR_v (G := G) (bb := true) l hW (by omega)
    have q5 := findR_v (G := G) (bb := true) l hW (by omega) ty nm fi hn
    have hr := idxV_rg (isKey ty nm fi) l
    unfold fndV at q3
    generalize ordV l = x at q2 q3 q4
    obtain ⟨i, e⟩ := x
    generalize idxV (isKey ty nm fi) l = z at q3 q5 hr
    have fin : ∃ x y : Int, EV G (Tb (bs true)) 29 [vl (l.map Att.e), .agg (keyC ty nm fi)] [] = some (iiv (x, y), []) ∧ ((¬ e = 0 ∧ x = 0 ∧ y = e) ∨ (e = 0 ∧ z < 0 ∧ x = 0 ∧ y = 6) ∨ (e = 0 ∧ ¬ z < 0 ∧ x = z ∧ y = 0)) := by
      by_cases ce : e = 0
      · rw [if_neg (fun h => h ce)] at q3
        by_cases cz : z < 0
        · rw [decide_eq_false (by omega), un_f, show max 0 z = 0 by omega] at q3
          exact ⟨_, _, q3, .inr (.inl ⟨ce, cz, rfl, rfl⟩)⟩
        · rw [decide_eq_true (by omega), un_t, show max 0 z = z by omega] at q3
          exact ⟨_, _, q3, .inr (.inr ⟨ce, cz, rfl, rfl⟩)⟩
      · rw [if_pos ce] at q3
        exact ⟨_, _, q3, .inl ⟨ce, rfl, rfl⟩⟩
    clear q3
    obtain ⟨x, y, q3, fin⟩ := fin
    simp only [keyC] at q3 q5
    by_cases cl : (l.length : Int) > 1
    · have k0 : 0 < l.length := by omega
      have k1 : 1 < l.length := by omega
      have i0 : (l.map Att.e)[(0 : Nat)]? = some l[0].e := ixA l 0 k0
      have i1 : (l.map Att.e)[(1 : Nat)]? = some l[1].e := ixA l 1 k1
      have hW0 := hW _ (List.getElem_mem k0)
      have hW1 := hW _ (List.getElem_mem k1)
      have q6 := copyA_v (G := G) (bb := true) l[0] (by have := hW0.rl; omega)
      have q7 := copyA_v (G := G) (bb := true) l[1] (by have := hW1.rl; omega)
      have q8 := compareE_v (G := G) (bb := true) l[0] l[1] hW0 hW1
      have q9 := errR_v (G := G) (bb := true) l[0] hW0
      have q10 := errR_v (G := G) (bb := true) l[1] hW1
      have q11 := compareR_v (G := G) (bb := true) l[0] l[1]
      unfold cmpE at q8
      by_cases a0 : errA l[0] = 0
      · rw [a0] at q8 q9
        rw [firstE_0] at q8
        by_cases a1 : errA l[1] = 0
        · rw [a1] at q8 q10
          rw [if_neg (by decide)] at q8
          rcases fin with ⟨f1, f2, f3⟩ | ⟨f1, f4, f2, f3⟩ | ⟨f1, f4, f2, f3⟩
          · subst f2; subst f3
            simp (disch := omega) only [go_sem, Nat.reduceAdd, Nat.reduceSub, Nat.reduceMul, Nat.reduceLeDiff, Nat.reduceEqDiff, h6c, qw, q0, cn, q1, q2, q3, q4, List.length_map, eq_true cl, i0, i1, Att.e, q6, q7, q8, q9, q10, q11, f1, Int.toNat_zero, Int.toNat_one]
          · subst f1; subst f2; subst f3
            simp (disch := omega) only [go_sem, Nat.reduceAdd, Nat.reduceSub, Nat.reduceMul, Nat.reduceLeDiff, Nat.reduceEqDiff, h6c, qw, q0, cn, q1, q2, q3, q4, q5, List.length_map, eq_true cl, i0, i1, Att.e, q6, q7, q8, q9, q10, q11, eq_true f4, Int.toNat_zero, Int.toNat_one]
          · subst f1; subst f2; subst f3
            simp (disch := omega) only [go_sem, Nat.reduceAdd, Nat.reduceSub, Nat.reduceMul, Nat.reduceLeDiff, Nat.reduceEqDiff, h6c, qw, q0, cn, q1, q2, q3, q4, q5, List.length_map, eq_true cl, i0, i1, Att.e, q6, q7, q8, q9, q10, q11, f4, Int.toNat_zero, Int.toNat_one]
        · rw [firstE_n _ _ a1, if_pos a1] at q8
          generalize errA l[1] = w at a1 q8 q10
          rcases fin with ⟨f1, f2, f3⟩ | ⟨f1, f4, f2, f3⟩ | ⟨f1, f4, f2, f3⟩
          · subst f2; subst f3
            simp (disch := omega) only [go_sem, Nat.reduceAdd, Nat.reduceSub, Nat.reduceMul, Nat.reduceLeDiff, Nat.reduceEqDiff, h6c, qw, q0, cn, q1, q2, q3, q4, List.length_map, eq_true cl, i0, i1, Att.e, q6, q7, q8, q9, q10, a1, f1, Int.toNat_zero, Int.toNat_one]
          · subst f1; subst f2; subst f3
            simp (disch := omega) only [go_sem, Nat.reduceAdd, Nat.reduceSub, Nat.reduceMul, Nat.reduceLeDiff, Nat.reduceEqDiff, h6c, qw, q0, cn, q1, q2, q3, q4, q5, List.length_map, eq_true cl, i0, i1, Att.e, q6, q7, q8, q9, q10, a1, eq_true f4, Int.toNat_zero, Int.toNat_one]
          · subst f1; subst f2; subst f3
            simp (disch := omega) only [go_sem, Nat.reduceAdd, Nat.reduceSub, Nat.reduceMul, Nat.reduceLeDiff, Nat.reduceEqDiff, h6c, qw, q0, cn, q1, q2, q3, q4, q5, List.length_map, eq_true cl, i0, i1, Att.e, q6, q7, q8, q9, q10, a1, f4, Int.toNat_zero, Int.toNat_one]
      · rw [firstE_n _ _ a0, if_pos a0] at q8
        generalize errA l[0] = w at a0 q8 q9
        rcases fin with ⟨f1, f2, f3⟩ | ⟨f1, f4, f2, f3⟩ | ⟨f1, f4, f2, f3⟩
        · subst f2; subst f3
          simp (disch := omega) only [go_sem, Nat.reduceAdd, Nat.reduceSub, Nat.reduceMul, Nat.reduceLeDiff, Nat.reduceEqDiff, h6c, qw, q0, cn, q1, q2, q3, q4, List.length_map, eq_true cl, i0, i1, Att.e, q6, q7, q8, q9, a0, f1, Int.toNat_zero, Int.toNat_one]
        · subst f1; subst f2; subst f3
          simp (disch := omega) only [go_sem, Nat.reduceAdd, Nat.reduceSub, Nat.reduceMul, Nat.reduceLeDiff, Nat.reduceEqDiff, h6c, qw, q0, cn, q1, q2, q3, q4, q5, List.length_map, eq_true cl, i0, i1, Att.e, q6, q7, q8, q9, a0, eq_true f4, Int.toNat_zero, Int.toNat_one]
        · subst f1; subst f2; subst f3
          simp (disch := omega) only [go_sem, Nat.reduceAdd, Nat.reduceSub, Nat.reduceMul, Nat.reduceLeDiff, Nat.reduceEqDiff, h6c, qw, q0, cn, q1, q2, q3, q4, q5, List.length_map, eq_true cl, i0, i1, Att.e, q6, q7, q8, q9, a0, f4, Int.toNat_zero, Int.toNat_one]
    · rcases fin with ⟨f1, f2, f3⟩ | ⟨f1, f4, f2, f3⟩ | ⟨f1, f4, f2, f3⟩
      · subst f2; subst f3
        simp (disch := omega) only [go_sem, Nat.reduceAdd, Nat.reduceSub, Nat.reduceMul, Nat.reduceLeDiff, Nat.reduceEqDiff, h6c, qw, q0, cn, q1, q2, q3, q4, List.length_map, cl, f1]
      · subst f1; subst f2; subst f3
        simp (disch := omega) only [go_sem, Nat.reduceAdd, Nat.reduceSub, Nat.reduceMul, Nat.reduceLeDiff, Nat.reduceEqDiff, h6c, qw, q0, cn, q1, q2, q3, q4, q5, List.length_map, cl, eq_true f4]
      · subst f1; subst f2; subst f3
        simp (disch := omega) only [go_sem, Nat.reduceAdd, Nat.reduceSub, Nat.reduceMul, Nat.reduceLeDiff, Nat.reduceEqDiff, h6c, qw, q0, cn, q1, q2, q3, q4, q5, List.length_map, cl, f4]
end
end Go.Proofs.YtmognenhkecngaaGreatDoor
