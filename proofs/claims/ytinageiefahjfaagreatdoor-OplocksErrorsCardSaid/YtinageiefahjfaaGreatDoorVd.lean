/- The reference: searches; the errors of clients and of acts that wait. Conditions: none. -/
import Derived.Test.YtinageiefahjfaaGreatDoorUh
namespace Go.Proofs.YtinageiefahjfaaGreatDoor
section
set_option maxRecDepth 4000
set_option linter.unusedSimpArgs false
set_option linter.unusedVariables false
variable {G : Glob} {bb : Bool}
/-- a file in memory of its own -/
abbrev fileH (gs : List Gr) (ws : List Wt) : List AObj := [.box [.bld 1 gs.length, .bld 2 ws.length], .arr 0 3 (gs.map Gr.e), .arr 0 2 (ws.map Wt.e)]
def midE (gs : List Gr) (c m : Int) (k : Nat) : List (List DC) := ((gs.take k).map (brG c m) ++ gs.drop k).map Gr.e
def outE (gs : List Gr) (c m : Int) (k : Nat) : List (List DC) := ((gs.take k).flatMap (brB c m)).map Br.e
theorem midE_len (gs : List Gr) (c m : Int) (k : Nat) : (midE gs c m k).length = gs.length := by simp [midE]; omega
theorem midE_at {gs : List Gr} (c m : Int) {k : Nat} (hk : k < gs.length) : (midE gs c m k)[k]? = some [ci gs[k].c, ci gs[k].l, ci gs[k].t] := by
  unfold midE
  rw [List.getElem?_map, List.getElem?_append_right (by simp; omega)]
  simp only [List.length_map, List.length_take, List.getElem?_drop]
  rw [show k + (k - min k gs.length) = k by omega, List.getElem?_eq_getElem hk]; rfl
theorem midE_next {gs : List Gr} (c m : Int) {k : Nat} (hk : k < gs.length) : midE gs c m (k + 1) = (midE gs c m k).set k (brG c m gs[k]).e := by
  unfold midE
  rw [List.take_add_one, List.getElem?_eq_getElem hk, List.drop_eq_getElem_cons hk, Option.toList_some]
  simp only [List.map_append, List.append_assoc]
  rw [List.set_append, if_neg (by simp; omega)]
  simp only [List.length_map, List.length_take, List.map_cons, List.map_nil, List.cons_append, List.nil_append]
  rw [show k - min k gs.length = 0 by omega, List.set_cons_zero]
theorem outE_next {gs : List Gr} (c m : Int) {k : Nat} (hk : k < gs.length) : outE gs c m (k + 1) = outE gs c m k ++ (brB c m gs[k]).map Br.e := by
  unfold outE
  rw [List.take_add_one, List.getElem?_eq_getElem hk, Option.toList_some, List.flatMap_append, List.map_append, List.flatMap_cons, List.flatMap_nil, List.append_nil]
theorem brB_len (c m : Int) (g : Gr) : (brB c m g).length ≤ 1 := by
  unfold brB
  repeat' split
  all_goals simp
theorem outE_len (gs : List Gr) (c m : Int) : ∀ k, k ≤ gs.length → (outE gs c m k).length ≤ k
  | 0, _ => by simp [outE]
  | k + 1, hk => by
    rw [outE_next c m (show k < gs.length by omega), List.length_append, List.length_map]
    have := outE_len gs c m k (by omega)
    have := brB_len c m gs[k]
    omega
theorem midE_all (gs : List Gr) (c k : Int) : midE gs c (al k) gs.length = (brGs gs c k).map Gr.e := by simp [midE, brGs]
theorem outE_all (gs : List Gr) (c k : Int) : outE gs c (al k) gs.length = (brBs gs c k).map Br.e := by simp [outE, brBs]
theorem midE_0 (gs : List Gr) (c m : Int) : midE gs c m 0 = gs.map Gr.e := by simp [midE]
theorem outE_0 (gs : List Gr) (c m : Int) : outE gs c m 0 = [] := by simp [outE]
theorem set_get {α : Type} {l : List α} {k : Nat} {x : α} (h : k < l.length) : (l.set k x)[k]? = some x := by simp [h]
theorem set_sm {α : Type} {l : List α} {k : Nat} {x : α} (h : l[k]? = some x) : l.set k x = l := by
  apply List.ext_getElem?
  intro j
  by_cases hj : k = j
  · subst hj
    have hk : k < l.length := (List.getElem?_eq_some_iff.1 h).1
    rw [h]; simp [hk]
  · rw [List.getElem?_set_ne hj]
def brSt (gs : List Gr) (ws : List Wt) (c k m : Int) (es os : List (List DC)) (j : Nat) : AS :=
  ⟨(.one (.ptr 0 0) :: jk 2 (.one (.ptr 3 0) :: jk 1 (.one (.bld 4 os.length) :: vi m :: jk 11 (vi gs.length :: vi j :: jk 62 [])))), [.box [.bld 1 gs.length, .bld 2 ws.length], .arr 0 3 es, .arr 0 2 (ws.map Wt.e), .box [.dc (ci c), .dc (ci k)], .arr 0 2 os]⟩
theorem brk_round (gs : List Gr) (ws : List Wt) (c k m : Int) (hm : 0 ≤ m) (hl : gs.length ≤ 1000000) (es os : List (List DC)) (j : Nat) (hj : j < gs.length) (g : Gr) (he : es[j]? = some [ci g.c, ci g.l, ci g.t]) (hel : es.length = gs.length) (ho : os.length ≤ 1000000) :
    rnK [0, 2, 1, 0, 11, 0] 5 (EC (EV G (Tb (bs bb))) G h54l0 (brSt gs ws c k m es os j)) = some (brSt gs ws c k m (es.set j (brG c m g).e) (os ++ (brB c m g).map Br.e) (j + 1)) := by
  have hje : j < es.length := by omega
  have e1 := fun x => set_get (x := x) hje
  unfold brSt
  by_cases h1 : g.c = c
  · have a1 : brG c m g = g := by unfold brG; rw [if_pos (.inl h1)]
    have a2 : brB c m g = [] := by unfold brB; rw [if_pos (.inl h1)]
    rw [a1, a2, set_sm (x := g.e) he]
    simp (disch := omega) only [go_sem, Nat.reduceAdd, Nat.reduceSub, Nat.reduceMul, Nat.reduceLeDiff, Nat.reduceEqDiff, kpCs_d, idsL_d, renL_d, ctCs_d, killL_d, outJ_m, mapM1, mapM2, oneOf, Option.map_some, Option.map_none, Option.bind_some, all_gr, all_wt, List.getElem?_nil, List.length_map, h54l0, he, hel, eq_true h1, List.map_nil, List.append_nil]
  · by_cases h2 : g.l ≤ m
    · have a1 : brG c m g = g := by unfold brG; rw [if_pos (.inr h2)]
      have a2 : brB c m g = [] := by unfold brB; rw [if_pos (.inr h2)]
      rw [a1, a2, set_sm (x := g.e) he]
      simp (disch := omega) only [go_sem, Nat.reduceAdd, Nat.reduceSub, Nat.reduceMul, Nat.reduceLeDiff, Nat.reduceEqDiff, kpCs_d, idsL_d, renL_d, ctCs_d, killL_d, outJ_m, mapM1, mapM2, oneOf, Option.map_some, Option.map_none, Option.bind_some, all_gr, all_wt, List.getElem?_nil, List.length_map, h54l0, he, hel, h1, h2, List.map_nil, List.append_nil]
    · by_cases h3 : g.l = 1
      · have a1 : brG c m g = ⟨g.c, 0, 0⟩ := by unfold brG; rw [if_neg (by omega), if_pos h3]
        have a2 : brB c m g = [⟨g.c, 0⟩] := by unfold brB; rw [if_neg (by omega), if_pos h3]
        rw [a1, a2]
        simp (disch := omega) only [go_sem, Nat.reduceAdd, Nat.reduceSub, Nat.reduceMul, Nat.reduceLeDiff, Nat.reduceEqDiff, kpCs_d, idsL_d, renL_d, ctCs_d, killL_d, outJ_m, mapM1, mapM2, oneOf, Option.map_some, Option.map_none, Option.bind_some, all_gr, all_wt, List.getElem?_nil, List.length_map, h54l0, he, hel, h1, h2, eq_true h3, e1, List.set_set, List.length_set, Gr.e, Br.e, List.map_cons, List.map_nil, List.length_append, List.length_cons, List.length_nil, List.take_length]
      · by_cases h4 : g.t ≤ m
        · have a1 : brG c m g = g := by unfold brG; rw [if_neg (by omega), if_neg h3, if_pos h4]
          have a2 : brB c m g = [] := by unfold brB; rw [if_neg (by omega), if_neg h3, if_pos h4]
          rw [a1, a2, set_sm (x := g.e) he]
          simp (disch := omega) only [go_sem, Nat.reduceAdd, Nat.reduceSub, Nat.reduceMul, Nat.reduceLeDiff, Nat.reduceEqDiff, kpCs_d, idsL_d, renL_d, ctCs_d, killL_d, outJ_m, mapM1, mapM2, oneOf, Option.map_some, Option.map_none, Option.bind_some, all_gr, all_wt, List.getElem?_nil, List.length_map, h54l0, he, hel, h1, h2, h3, h4, List.map_nil, List.append_nil]
        · have a1 : brG c m g = ⟨g.c, g.l, m⟩ := by unfold brG; rw [if_neg (by omega), if_neg h3, if_neg h4]
          have a2 : brB c m g = [⟨g.c, m⟩] := by unfold brB; rw [if_neg (by omega), if_neg h3, if_neg h4]
          rw [a1, a2]
          simp (disch := omega) only [go_sem, Nat.reduceAdd, Nat.reduceSub, Nat.reduceMul, Nat.reduceLeDiff, Nat.reduceEqDiff, kpCs_d, idsL_d, renL_d, ctCs_d, killL_d, outJ_m, mapM1, mapM2, oneOf, Option.map_some, Option.map_none, Option.bind_some, all_gr, all_wt, List.getElem?_nil, List.length_map, h54l0, he, hel, h1, h2, h3, h4, e1, List.set_set, List.length_set, Gr.e, Br.e, List.map_cons, List.map_nil, List.length_append, List.length_cons, List.length_nil, List.take_length]
theorem brk_loop {st : AS} (gs : List Gr) (ws : List Wt) (c k : Int) (hl : gs.length ≤ 1000000) (h0 : st = brSt gs ws c k (al k) (gs.map Gr.e) [] 0) :
    EL (EV G (Tb (bs bb))) G h54l0 [0, 2, 1, 0, 11, 0] 5 st = fnK (EV G (Tb (bs bb))) G h54l0 [0, 2, 1, 0, 11, 0] 5 (EC (EV G (Tb (bs bb))) G h54l0 (brSt gs ws c k (al k) ((brGs gs c k).map Gr.e) ((brBs gs c k).map Br.e) gs.length)) := by
  subst h0
  have hm := (al_r k).1
  rw [← midE_all, ← outE_all]
  refine EL_loop (fun j => brSt gs ws c k (al k) (midE gs c (al k) j) (outE gs c (al k) j) j) gs.length ?_ ?_
  · rw [midE_0, outE_0]
  · intro j hj
    have h1 := outE_len gs c (al k) j (by omega)
    rw [midE_next c (al k) hj, outE_next c (al k) hj]
    exact brk_round gs ws c k (al k) hm hl _ _ j hj gs[j] (midE_at c (al k) hj) (midE_len ..) (by omega)
theorem brBs_len (gs : List Gr) (c k : Int) : (brBs gs c k).length ≤ gs.length := by
  have h := outE_len gs c (al k) gs.length (Nat.le_refl _)
  rw [outE_all, List.length_map] at h
  exact h
theorem breaks_v (hG : G 0 = some alD) (gs : List Gr) (ws : List Wt) (c k : Int) (hk : kOK k) (hl : gs.length ≤ 1000000) :
    EV G (Tb (bs bb)) 54 [.one (.ptr 0 0), (Wt.mk c k).v] (fileH gs ws) = some (vl ((brBs gs c k).map Br.e), fileH (brGs gs c k) ws) := by
  refine EV_run rfl ?_
  unfold alD at hG
  have hb := brBs_len gs c k
  have e0 := brGs_len gs c k
  rcases hk with rfl | rfl | rfl | rfl
  · simp (disch := omega) only [go_sem, Nat.reduceAdd, Nat.reduceSub, Nat.reduceMul, Nat.reduceLeDiff, Nat.reduceEqDiff, kpCs_d, idsL_d, renL_d, ctCs_d, killL_d, outJ_m, mapM1, mapM2, oneOf, Option.map_some, Option.map_none, Option.bind_some, all_gr, all_wt, List.getElem?_nil, List.length_map, h54c, hG, tn2, tn3, List.drop_succ_cons, List.drop_zero]
    rw [brk_loop gs ws c 0 hl ?_]
    rotate_left
    · rfl
    unfold brSt
    simp (disch := omega) only [go_sem, Nat.reduceAdd, Nat.reduceSub, Nat.reduceMul, Nat.reduceLeDiff, Nat.reduceEqDiff, kpCs_d, idsL_d, renL_d, ctCs_d, killL_d, outJ_m, mapM1, mapM2, oneOf, Option.map_some, Option.map_none, Option.bind_some, all_gr, all_wt, List.getElem?_nil, List.length_map, h54l0, e0, List.take_length]
    unfold fileH
    rw [e0]
  · simp (disch := omega) only [go_sem, Nat.reduceAdd, Nat.reduceSub, Nat.reduceMul, Nat.reduceLeDiff, Nat.reduceEqDiff, kpCs_d, idsL_d, renL_d, ctCs_d, killL_d, outJ_m, mapM1, mapM2, oneOf, Option.map_some, Option.map_none, Option.bind_some, all_gr, all_wt, List.getElem?_nil, List.length_map, h54c, hG, tn2, tn3, List.drop_succ_cons, List.drop_zero]
    rw [brk_loop gs ws c 1 hl ?_]
    rotate_left
    · rfl
    unfold brSt
    simp (disch := omega) only [go_sem, Nat.reduceAdd, Nat.reduceSub, Nat.reduceMul, Nat.reduceLeDiff, Nat.reduceEqDiff, kpCs_d, idsL_d, renL_d, ctCs_d, killL_d, outJ_m, mapM1, mapM2, oneOf, Option.map_some, Option.map_none, Option.bind_some, all_gr, all_wt, List.getElem?_nil, List.length_map, h54l0, e0, List.take_length]
    unfold fileH
    rw [e0]
  · simp (disch := omega) only [go_sem, Nat.reduceAdd, Nat.reduceSub, Nat.reduceMul, Nat.reduceLeDiff, Nat.reduceEqDiff, kpCs_d, idsL_d, renL_d, ctCs_d, killL_d, outJ_m, mapM1, mapM2, oneOf, Option.map_some, Option.map_none, Option.bind_some, all_gr, all_wt, List.getElem?_nil, List.length_map, h54c, hG, tn2, tn3, List.drop_succ_cons, List.drop_zero]
    rw [brk_loop gs ws c 2 hl ?_]
    rotate_left
    · rfl
    unfold brSt
    simp (disch := omega) only [go_sem, Nat.reduceAdd, Nat.reduceSub, Nat.reduceMul, Nat.reduceLeDiff, Nat.reduceEqDiff, kpCs_d, idsL_d, renL_d, ctCs_d, killL_d, outJ_m, mapM1, mapM2, oneOf, Option.map_some, Option.map_none, Option.bind_some, all_gr, all_wt, List.getElem?_nil, List.length_map, h54l0, e0, List.take_length]
    unfold fileH
    rw [e0]
  · simp (disch := omega) only [go_sem, Nat.reduceAdd, Nat.reduceSub, Nat.reduceMul, Nat.reduceLeDiff, Nat.reduceEqDiff, kpCs_d, idsL_d, renL_d, ctCs_d, killL_d, outJ_m, mapM1, mapM2, oneOf, Option.map_some, Option.map_none, Option.bind_some, all_gr, all_wt, List.getElem?_nil, List.length_map, h54c, hG, tn2, tn3, List.drop_succ_cons, List.drop_zero]
    rw [brk_loop gs ws c 3 hl ?_]
    rotate_left
    · rfl
    unfold brSt
    simp (disch := omega) only [go_sem, Nat.reduceAdd, Nat.reduceSub, Nat.reduceMul, Nat.reduceLeDiff, Nat.reduceEqDiff, kpCs_d, idsL_d, renL_d, ctCs_d, killL_d, outJ_m, mapM1, mapM2, oneOf, Option.map_some, Option.map_none, Option.bind_some, all_gr, all_wt, List.getElem?_nil, List.length_map, h54l0, e0, List.take_length]
    unfold fileH
    rw [e0]
end
section
set_option maxRecDepth 4000
set_option linter.unusedSimpArgs false
set_option linter.unusedVariables false
variable {G : Glob} {bb : Bool}
theorem allLen_gr : ∀ gs : List Gr, allLen 3 (gs.map Gr.e) = true
  | [] => rfl
  | g :: gs => by rw [List.map_cons, allLen, allLen_gr gs]; rfl
theorem allLen_wt : ∀ gs : List Wt, allLen 2 (gs.map Wt.e) = true
  | [] => rfl
  | g :: gs => by rw [List.map_cons, allLen, allLen_wt gs]; rfl
theorem clone_g (gs : List Gr) (hl : gs.length ≤ 1000000) : EV G (Tb (bs bb)) 109 [gsV gs] [] = some (.one (.bld 0 gs.length), [.arr 0 3 (gs.map Gr.e)]) := by
  refine EV_base rfl ?_
  show (if allLen 3 (gs.map Gr.e) = true ∧ (gs.map Gr.e).length * 24 ≤ 140737488355328 then some (AV.one (.bld 0 (gs.map Gr.e).length), [AObj.arr 0 3 (gs.map Gr.e)]) else none) = _
  rw [if_pos ⟨allLen_gr gs, by rw [List.length_map]; omega⟩, List.length_map]
theorem clone_w (ws : List Wt) (hl : ws.length ≤ 1000000) : EV G (Tb (bs bb)) 110 [wsV ws] [] = some (.one (.bld 0 ws.length), [.arr 0 2 (ws.map Wt.e)]) := by
  refine EV_base rfl ?_
  show (if allLen 2 (ws.map Wt.e) = true ∧ (ws.map Wt.e).length * 16 ≤ 140737488355328 then some (AV.one (.bld 0 (ws.map Wt.e).length), [AObj.arr 0 2 (ws.map Wt.e)]) else none) = _
  rw [if_pos ⟨allLen_wt ws, by rw [List.length_map]; omega⟩, List.length_map]
theorem copied_v (gs : List Gr) (ws : List Wt) (hg : gs.length ≤ 1000000) (hw : ws.length ≤ 1000000) : EV G (Tb (bs bb)) 47 [flV gs ws] [] = some (.one (.ptr 3 0), [.box [.dc (.slc (gs.map Gr.e)), .dc (.slc (ws.map Wt.e))], .arr 0 3 (gs.map Gr.e), .arr 0 2 (ws.map Wt.e), .box [.bld 1 gs.length, .bld 2 ws.length]]) := by
  refine EV_run rfl ?_
  simp (disch := omega) only [go_sem, Nat.reduceAdd, Nat.reduceSub, Nat.reduceMul, Nat.reduceLeDiff, Nat.reduceEqDiff, kpCs_d, idsL_d, renL_d, ctCs_d, killL_d, outJ_m, mapM1, mapM2, oneOf, Option.map_some, Option.map_none, Option.bind_some, all_gr, all_wt, List.getElem?_nil, List.length_map, h47c, clone_g, clone_w]
end
section
set_option maxRecDepth 4000
set_option linter.unusedSimpArgs false
set_option linter.unusedVariables false
variable {G : Glob} {bb : Bool}
/-- two new objects in either order -/
theorem meet_sw {n0 i j : Nat} {s s' : AS} (h1 : Nat.ble n0 i = true) (h2 : Nat.ble n0 j = true) (h3 : Nat.blt i s'.hp.length = true) (h4 : Nat.blt j s'.hp.length = true) (h : prm [(i, j)] s' = s) : meetE n0 (some s) (some s') = some s :=
  meetE_p [(i, j)] (fun x hx => by
    rw [List.mem_singleton] at hx
    subst hx
    exact ⟨Nat.le_of_ble_eq_true h1, Nat.le_of_ble_eq_true h2, Nat.le_of_ble_eq_true h3, Nat.le_of_ble_eq_true h4⟩) h
theorem meet23 {s s' : AS} (h3 : Nat.blt 2 s'.hp.length = true) (h4 : Nat.blt 3 s'.hp.length = true) (h : prm [(2, 3)] s' = s) : meetE 2 (some s) (some s') = some s := meet_sw rfl rfl h3 h4 h
theorem rwithin_v (n lo hi : Int) : EV G (Tb (bs bb)) 39 [vi n, vi lo, vi hi] [] = some (vb (wi n lo hi), []) := by
  refine EV_run rfl ?_
  unfold wi
  by_cases h : lo ≤ n
  all_goals simp (disch := omega) only [go_sem, Nat.reduceAdd, Nat.reduceSub, Nat.reduceMul, Nat.reduceLeDiff, Nat.reduceEqDiff, kpCs_d, idsL_d, renL_d, ctCs_d, killL_d, outJ_m, mapM1, mapM2, oneOf, Option.map_some, Option.map_none, Option.bind_some, all_gr, all_wt, List.getElem?_nil, List.length_map, h39c]
  all_goals simp [h]
theorem rclient_v (n : Int) : EV G (Tb (bs bb)) 121 [vi n] [] = some (vb (isCl n), []) := by
  refine EV_run rfl ?_
  simp (disch := omega) only [go_sem, Nat.reduceAdd, Nat.reduceSub, Nat.reduceMul, Nat.reduceLeDiff, Nat.reduceEqDiff, kpCs_d, idsL_d, renL_d, ctCs_d, killL_d, outJ_m, mapM1, mapM2, oneOf, Option.map_some, Option.map_none, Option.bind_some, all_gr, all_wt, List.getElem?_nil, List.length_map, h121c, rwithin_v]
  rfl
theorem rallows_v (k : Int) : EV G (Tb (bs bb)) 123 [vi k] [] = some (vi (al k), []) := by
  refine EV_run rfl ?_
  unfold al
  by_cases h1 : k = 0
  · simp (disch := omega) only [go_sem, Nat.reduceAdd, Nat.reduceSub, Nat.reduceMul, Nat.reduceLeDiff, Nat.reduceEqDiff, kpCs_d, idsL_d, renL_d, ctCs_d, killL_d, outJ_m, mapM1, mapM2, oneOf, Option.map_some, Option.map_none, Option.bind_some, all_gr, all_wt, List.getElem?_nil, List.length_map, h123c, eq_true h1]
  · by_cases h2 : k = 2
    · simp (disch := omega) only [go_sem, Nat.reduceAdd, Nat.reduceSub, Nat.reduceMul, Nat.reduceLeDiff, Nat.reduceEqDiff, kpCs_d, idsL_d, renL_d, ctCs_d, killL_d, outJ_m, mapM1, mapM2, oneOf, Option.map_some, Option.map_none, Option.bind_some, all_gr, all_wt, List.getElem?_nil, List.length_map, h123c, h1, eq_true h2]
    · simp (disch := omega) only [go_sem, Nat.reduceAdd, Nat.reduceSub, Nat.reduceMul, Nat.reduceLeDiff, Nat.reduceEqDiff, kpCs_d, idsL_d, renL_d, ctCs_d, killL_d, outJ_m, mapM1, mapM2, oneOf, Option.map_some, Option.map_none, Option.bind_some, all_gr, all_wt, List.getElem?_nil, List.length_map, h123c, h1, h2]
theorem rcopy_v (gs : List Gr) (ws : List Wt) (hg : gs.length ≤ 100000) (hw : ws.length ≤ 100000) : EV G (Tb (bs bb)) 13 [flV gs ws] [] = some (.agg [.bld 2 gs.length, .bld 3 ws.length], [.box [.dc (.slc (gs.map Gr.e)), .dc (.slc (ws.map Wt.e))], .box [.bld 2 gs.length, .bld 3 ws.length], .arr 0 3 (gs.map Gr.e), .arr 0 2 (ws.map Wt.e)]) := by
  refine EV_run rfl ?_
  simp (disch := omega) only [go_sem, Nat.reduceAdd, Nat.reduceSub, Nat.reduceMul, Nat.reduceLeDiff, Nat.reduceEqDiff, kpCs_d, idsL_d, renL_d, ctCs_d, killL_d, outJ_m, mapM1, mapM2, oneOf, Option.map_some, Option.map_none, Option.bind_some, all_gr, all_wt, List.getElem?_nil, List.length_map, h13c, allLen_gr, allLen_wt]
  repeat
    first
    | rw [meetE_e]
    | (rw [meet23 ?_ ?_ ?_]
       rotate_left
       · rfl
       · rfl
       · rfl)
  simp (disch := omega) only [go_sem, Nat.reduceAdd, Nat.reduceSub, Nat.reduceMul, Nat.reduceLeDiff, Nat.reduceEqDiff, kpCs_d, idsL_d, renL_d, ctCs_d, killL_d, outJ_m, mapM1, mapM2, oneOf, Option.map_some, Option.map_none, Option.bind_some, all_gr, all_wt, List.getElem?_nil, List.length_map]
end
section
set_option maxRecDepth 4000
set_option linter.unusedSimpArgs false
set_option linter.unusedVariables false
variable {G : Glob} {bb : Bool}
def rbSt (gs : List Gr) (ws : List Wt) (c m : Int) (es os : List (List DC)) (j : Nat) : AS :=
  ⟨(jk 1 (vi c :: jk 4 (.one (.ptr 1 0) :: jk 1 (.one (.ptr 6 0) :: .one (.bld 7 os.length) :: vi m :: vi j :: jk 62 [])))), [.box [.dc (.slc (gs.map Gr.e)), .dc (.slc (ws.map Wt.e))], .box [.dc (.raw (.slice none 0 0)), .dc (.raw (.slice none 0 0))], .box [.dc (.slc (gs.map Gr.e)), .dc (.slc (ws.map Wt.e))], .box [.bld 4 gs.length, .bld 5 ws.length], .arr 0 3 es, .arr 0 2 (ws.map Wt.e), .box [.bld 4 gs.length, .bld 5 ws.length], .arr 0 2 os]⟩
theorem rb_round (gs : List Gr) (ws : List Wt) (c m : Int) (hm : 0 ≤ m) (hl : gs.length ≤ 1000000) (es os : List (List DC)) (j : Nat) (hj : j < gs.length) (g : Gr) (he : es[j]? = some [ci g.c, ci g.l, ci g.t]) (hel : es.length = gs.length) (ho : os.length ≤ 1000000) :
    rnK [1, 4, 1, 0, 0, 0] 8 (EC (EV G (Tb (bs bb))) G h59l0 (rbSt gs ws c m es os j)) = some (rbSt gs ws c m (es.set j (brG c m g).e) (os ++ (brB c m g).map Br.e) (j + 1)) := by
  have hje : j < es.length := by omega
  have e1 := fun x => set_get (x := x) hje
  unfold rbSt
  by_cases h1 : g.c = c
  · have a1 : brG c m g = g := by unfold brG; rw [if_pos (.inl h1)]
    have a2 : brB c m g = [] := by unfold brB; rw [if_pos (.inl h1)]
    rw [a1, a2, set_sm (x := g.e) he]
    simp (disch := omega) only [go_sem, Nat.reduceAdd, Nat.reduceSub, Nat.reduceMul, Nat.reduceLeDiff, Nat.reduceEqDiff, kpCs_d, idsL_d, renL_d, ctCs_d, killL_d, outJ_m, mapM1, mapM2, oneOf, Option.map_some, Option.map_none, Option.bind_some, all_gr, all_wt, List.getElem?_nil, List.length_map, h59l0, he, hel, eq_true h1, List.map_nil, List.append_nil]
  · by_cases h2 : g.l ≤ m
    · have a1 : brG c m g = g := by unfold brG; rw [if_pos (.inr h2)]
      have a2 : brB c m g = [] := by unfold brB; rw [if_pos (.inr h2)]
      rw [a1, a2, set_sm (x := g.e) he]
      simp (disch := omega) only [go_sem, Nat.reduceAdd, Nat.reduceSub, Nat.reduceMul, Nat.reduceLeDiff, Nat.reduceEqDiff, kpCs_d, idsL_d, renL_d, ctCs_d, killL_d, outJ_m, mapM1, mapM2, oneOf, Option.map_some, Option.map_none, Option.bind_some, all_gr, all_wt, List.getElem?_nil, List.length_map, h59l0, he, hel, h1, h2, List.map_nil, List.append_nil]
    · by_cases h3 : g.l = 1
      · have a1 : brG c m g = ⟨g.c, 0, 0⟩ := by unfold brG; rw [if_neg (by omega), if_pos h3]
        have a2 : brB c m g = [⟨g.c, 0⟩] := by unfold brB; rw [if_neg (by omega), if_pos h3]
        rw [a1, a2]
        simp (disch := omega) only [go_sem, Nat.reduceAdd, Nat.reduceSub, Nat.reduceMul, Nat.reduceLeDiff, Nat.reduceEqDiff, kpCs_d, idsL_d, renL_d, ctCs_d, killL_d, outJ_m, mapM1, mapM2, oneOf, Option.map_some, Option.map_none, Option.bind_some, all_gr, all_wt, List.getElem?_nil, List.length_map, h59l0, he, hel, h1, h2, eq_true h3, e1, List.set_set, List.length_set, Gr.e, Br.e, List.map_cons, List.map_nil, List.length_append, List.length_cons, List.length_nil, List.take_length]
      · by_cases h4 : g.t ≤ m
        · have a1 : brG c m g = g := by unfold brG; rw [if_neg (by omega), if_neg h3, if_pos h4]
          have a2 : brB c m g = [] := by unfold brB; rw [if_neg (by omega), if_neg h3, if_pos h4]
          have h4' : ¬ g.t > m := by omega
          rw [a1, a2, set_sm (x := g.e) he]
          simp (disch := omega) only [go_sem, Nat.reduceAdd, Nat.reduceSub, Nat.reduceMul, Nat.reduceLeDiff, Nat.reduceEqDiff, kpCs_d, idsL_d, renL_d, ctCs_d, killL_d, outJ_m, mapM1, mapM2, oneOf, Option.map_some, Option.map_none, Option.bind_some, all_gr, all_wt, List.getElem?_nil, List.length_map, h59l0, he, hel, h1, h2, h3, h4', List.map_nil, List.append_nil]
        · have a1 : brG c m g = ⟨g.c, g.l, m⟩ := by unfold brG; rw [if_neg (by omega), if_neg h3, if_neg h4]
          have a2 : brB c m g = [⟨g.c, m⟩] := by unfold brB; rw [if_neg (by omega), if_neg h3, if_neg h4]
          have h4' : g.t > m := by omega
          rw [a1, a2]
          simp (disch := omega) only [go_sem, Nat.reduceAdd, Nat.reduceSub, Nat.reduceMul, Nat.reduceLeDiff, Nat.reduceEqDiff, kpCs_d, idsL_d, renL_d, ctCs_d, killL_d, outJ_m, mapM1, mapM2, oneOf, Option.map_some, Option.map_none, Option.bind_some, all_gr, all_wt, List.getElem?_nil, List.length_map, h59l0, he, hel, h1, h2, h3, h4', e1, List.set_set, List.length_set, Gr.e, Br.e, List.map_cons, List.map_nil, List.length_append, List.length_cons, List.length_nil, List.take_length]
theorem rb_loop {st : AS} (gs : List Gr) (ws : List Wt) (c k : Int) (hl : gs.length ≤ 1000000) (h0 : st = rbSt gs ws c (al k) (gs.map Gr.e) [] 0) :
    EL (EV G (Tb (bs bb))) G h59l0 [1, 4, 1, 0, 0, 0] 8 st = fnK (EV G (Tb (bs bb))) G h59l0 [1, 4, 1, 0, 0, 0] 8 (EC (EV G (Tb (bs bb))) G h59l0 (rbSt gs ws c (al k) ((brGs gs c k).map Gr.e) ((brBs gs c k).map Br.e) gs.length)) := by
  subst h0
  have hm := (al_r k).1
  rw [← midE_all, ← outE_all]
  refine EL_loop (fun j => rbSt gs ws c (al k) (midE gs c (al k) j) (outE gs c (al k) j) j) gs.length ?_ ?_
  · rw [midE_0, outE_0]
  · intro j hj
    have h1 := outE_len gs c (al k) j (by omega)
    rw [midE_next c (al k) hj, outE_next c (al k) hj]
    exact rb_round gs ws c (al k) hm hl _ _ j hj gs[j] (midE_at c (al k) hj) (midE_len ..) (by omega)
/-- what Broken leaves -/
abbrev brkH (gs : List Gr) (ws : List Wt) (c k : Int) : List AObj := [.box [.dc (.slc (gs.map Gr.e)), .dc (.slc (ws.map Wt.e))], .box [.bld 4 gs.length, .bld 5 ws.length], .box [.dc (.slc (gs.map Gr.e)), .dc (.slc (ws.map Wt.e))], .box [.bld 4 gs.length, .bld 5 ws.length], .arr 0 3 ((brGs gs c k).map Gr.e), .arr 0 2 (ws.map Wt.e), .box [.bld 4 gs.length, .bld 5 ws.length], .arr 0 2 ((brBs gs c k).map Br.e)]
theorem rbroken_v (gs : List Gr) (ws : List Wt) (c k : Int) (hl : gs.length ≤ 100000) (hw : ws.length ≤ 100000) :
    EV G (Tb (bs bb)) 59 [flV gs ws, vi c, vi k] [] = some (.tup [.agg [.bld 4 gs.length, .bld 5 ws.length], .one (.bld 7 (brBs gs c k).length)], brkH gs ws c k) := by
  refine EV_run rfl ?_
  have q := rcopy_v (G := G) (bb := bb) gs ws hl hw
  have e0 := brGs_len gs c k
  simp (disch := omega) only [go_sem, Nat.reduceAdd, Nat.reduceSub, Nat.reduceMul, Nat.reduceLeDiff, Nat.reduceEqDiff, kpCs_d, idsL_d, renL_d, ctCs_d, killL_d, outJ_m, mapM1, mapM2, oneOf, Option.map_some, Option.map_none, Option.bind_some, all_gr, all_wt, List.getElem?_nil, List.length_map, h59c, q, rallows_v]
  rw [rb_loop gs ws c k (by omega) ?_]
  rotate_left
  · rfl
  unfold rbSt
  simp (disch := omega) only [go_sem, Nat.reduceAdd, Nat.reduceSub, Nat.reduceMul, Nat.reduceLeDiff, Nat.reduceEqDiff, kpCs_d, idsL_d, renL_d, ctCs_d, killL_d, outJ_m, mapM1, mapM2, oneOf, Option.map_some, Option.map_none, Option.bind_some, all_gr, all_wt, List.getElem?_nil, List.length_map, h59l0, e0, List.take_length]
  try rfl
end
section
set_option maxRecDepth 4000
set_option linter.unusedSimpArgs false
set_option linter.unusedVariables false
variable {G : Glob} {bb : Bool}
theorem any_ix {α : Type} (p : α → Bool) (l : List α) (z : α) (k : Nat) (hp : k = l.length ∨ (k < l.length ∧ p (l.getD k z) = true)) (hn : ∀ j, j < k → ¬ p (l.getD j z) = true) : l.any p = decide (k < l.length) := by
  rcases hp with rfl | ⟨hk, hp⟩
  · rw [decide_eq_false (by omega), List.any_eq_false]
    intro x hx
    obtain ⟨j, hj, rfl⟩ := List.getElem_of_mem hx
    have := hn j hj
    rwa [getDz l z j hj] at this
  · rw [decide_eq_true hk, List.any_eq_true]
    rw [getDz l z k hk] at hp
    exact ⟨_, List.getElem_mem hk, hp⟩
theorem rwaits_v (k : Int) : EV G (Tb (bs bb)) 76 [vi k] [] = some (vb (isUs k), []) := by
  refine EV_run rfl ?_
  by_cases h1 : k = 0
  · simp (disch := omega) only [go_sem, Nat.reduceAdd, Nat.reduceSub, Nat.reduceMul, Nat.reduceLeDiff, Nat.reduceEqDiff, kpCs_d, idsL_d, renL_d, ctCs_d, killL_d, outJ_m, mapM1, mapM2, oneOf, Option.map_some, Option.map_none, Option.bind_some, all_gr, all_wt, List.getElem?_nil, List.length_map, h76c]
    simp [isUs, h1]
  · by_cases h2 : k = 2
    · simp (disch := omega) only [go_sem, Nat.reduceAdd, Nat.reduceSub, Nat.reduceMul, Nat.reduceLeDiff, Nat.reduceEqDiff, kpCs_d, idsL_d, renL_d, ctCs_d, killL_d, outJ_m, mapM1, mapM2, oneOf, Option.map_some, Option.map_none, Option.bind_some, all_gr, all_wt, List.getElem?_nil, List.length_map, h76c]
      simp [isUs, h2]
    · simp (disch := omega) only [go_sem, Nat.reduceAdd, Nat.reduceSub, Nat.reduceMul, Nat.reduceLeDiff, Nat.reduceEqDiff, kpCs_d, idsL_d, renL_d, ctCs_d, killL_d, outJ_m, mapM1, mapM2, oneOf, Option.map_some, Option.map_none, Option.bind_some, all_gr, all_wt, List.getElem?_nil, List.length_map, h76c]
      simp [isUs, h1, h2]
def hlP (c k : Int) (g : Gr) : Bool := decide (g.c ≠ c) && decide (g.l > al k)
theorem rheld_v (gs : List Gr) (ws : List Wt) (c k : Int) (hl : gs.length ≤ 100000) : EV G (Tb (bs bb)) 60 [flV gs ws, vi c, vi k] [] = some (vb (held gs c k), []) := by
  refine EV_run rfl ?_
  simp (disch := omega) only [go_sem, Nat.reduceAdd, Nat.reduceSub, Nat.reduceMul, Nat.reduceLeDiff, Nat.reduceEqDiff, kpCs_d, idsL_d, renL_d, ctCs_d, killL_d, outJ_m, mapM1, mapM2, oneOf, Option.map_some, Option.map_none, Option.bind_some, all_gr, all_wt, List.getElem?_nil, List.length_map, h60c]
  rw [EL_fst (fun j => ⟨(jk 1 (vi c :: vi k :: .one (.ptr 0 0) :: jk 3 (vi j :: jk 26 []))), [.box [.dc (.slc (gs.map Gr.e)), .dc (.slc (ws.map Wt.e))]]⟩) (fun j => hlP c k (gs.getD j ⟨0, 0, 0⟩) = true) gs.length ?_ ?_]
  rotate_left
  · rfl
  · intro j hj hn
    have h3 := hn j (Nat.le_refl _)
    rw [getDz gs _ j hj] at h3
    have eg : (gs.map Gr.e)[j]? = some [ci gs[j].c, ci gs[j].l, ci gs[j].t] := by rw [List.getElem?_map, List.getElem?_eq_getElem hj]; rfl
    generalize gs[j] = g at *
    unfold hlP at h3
    by_cases h1 : g.c = c
    · simp (disch := omega) only [go_sem, Nat.reduceAdd, Nat.reduceSub, Nat.reduceMul, Nat.reduceLeDiff, Nat.reduceEqDiff, kpCs_d, idsL_d, renL_d, ctCs_d, killL_d, outJ_m, mapM1, mapM2, oneOf, Option.map_some, Option.map_none, Option.bind_some, all_gr, all_wt, List.getElem?_nil, List.length_map, h60l0, eg, eq_true h1]
    · have h2 : ¬ g.l > al k := by simpa [h1] using h3
      simp (disch := omega) only [go_sem, Nat.reduceAdd, Nat.reduceSub, Nat.reduceMul, Nat.reduceLeDiff, Nat.reduceEqDiff, kpCs_d, idsL_d, renL_d, ctCs_d, killL_d, outJ_m, mapM1, mapM2, oneOf, Option.map_some, Option.map_none, Option.bind_some, all_gr, all_wt, List.getElem?_nil, List.length_map, h60l0, eg, h1, h2, rallows_v]
  obtain ⟨hk, hp, hn⟩ := ix_spec (fun j => hlP c k (gs.getD j ⟨0, 0, 0⟩) = true) gs.length
  generalize ix (fun j => hlP c k (gs.getD j ⟨0, 0, 0⟩) = true) gs.length = j at *
  have e : held gs c k = decide (j < gs.length) := any_ix (hlP c k) gs ⟨0, 0, 0⟩ j hp hn
  rw [e]
  rcases hp with rfl | ⟨hj, hp⟩
  · rw [decide_eq_false (by omega)]
    simp (disch := omega) only [go_sem, Nat.reduceAdd, Nat.reduceSub, Nat.reduceMul, Nat.reduceLeDiff, Nat.reduceEqDiff, kpCs_d, idsL_d, renL_d, ctCs_d, killL_d, outJ_m, mapM1, mapM2, oneOf, Option.map_some, Option.map_none, Option.bind_some, all_gr, all_wt, List.getElem?_nil, List.length_map, h60l0]
  · rw [decide_eq_true hj]
    rw [getDz gs _ j hj] at hp
    have eg : (gs.map Gr.e)[j]? = some [ci gs[j].c, ci gs[j].l, ci gs[j].t] := by rw [List.getElem?_map, List.getElem?_eq_getElem hj]; rfl
    generalize gs[j] = g at *
    unfold hlP at hp
    simp only [Bool.and_eq_true, decide_eq_true_eq] at hp
    obtain ⟨h1, h2⟩ := hp
    simp (disch := omega) only [go_sem, Nat.reduceAdd, Nat.reduceSub, Nat.reduceMul, Nat.reduceLeDiff, Nat.reduceEqDiff, kpCs_d, idsL_d, renL_d, ctCs_d, killL_d, outJ_m, mapM1, mapM2, oneOf, Option.map_some, Option.map_none, Option.bind_some, all_gr, all_wt, List.getElem?_nil, List.length_map, h60l0, eg, h1, h2, rallows_v]
noncomputable def atI (gs : List Gr) (c : Int) : Int := idxG (fun g => decide (g.c = c)) gs ⟨0, 0, 0⟩
noncomputable def wtI (ws : List Wt) (c : Int) : Int := idxG (fun g => decide (g.c = c)) ws ⟨0, 0⟩
theorem atI_in (gs : List Gr) (c : Int) : decide (0 ≤ atI gs c) = isIn gs c := idxG_pos _ _ _
theorem rat_v (gs : List Gr) (ws : List Wt) (c : Int) (hl : gs.length ≤ 100000) : EV G (Tb (bs bb)) 33 [flV gs ws, vi c] [] = some (vi (atI gs c), []) := by
  refine EV_run rfl ?_
  simp (disch := omega) only [go_sem, Nat.reduceAdd, Nat.reduceSub, Nat.reduceMul, Nat.reduceLeDiff, Nat.reduceEqDiff, kpCs_d, idsL_d, renL_d, ctCs_d, killL_d, outJ_m, mapM1, mapM2, oneOf, Option.map_some, Option.map_none, Option.bind_some, all_gr, all_wt, List.getElem?_nil, List.length_map, h33c]
  unfold atI idxG
  rw [EL_fst (fun j => ⟨(jk 1 (vi c :: .one (.ptr 0 0) :: jk 2 (vi j :: jk 16 []))), [.box [.dc (.slc (gs.map Gr.e)), .dc (.slc (ws.map Wt.e))]]⟩) (fun j => decide ((gs.getD j ⟨0, 0, 0⟩).c = c) = true) gs.length ?_ ?_]
  rotate_left
  · rfl
  · intro j hj hn
    have h3 := hn j (Nat.le_refl _)
    rw [getDz gs _ j hj] at h3
    have eg : (gs.map Gr.e)[j]? = some [ci gs[j].c, ci gs[j].l, ci gs[j].t] := by rw [List.getElem?_map, List.getElem?_eq_getElem hj]; rfl
    generalize gs[j] = g at *
    have h1 : ¬ g.c = c := by simpa using h3
    simp (disch := omega) only [go_sem, Nat.reduceAdd, Nat.reduceSub, Nat.reduceMul, Nat.reduceLeDiff, Nat.reduceEqDiff, kpCs_d, idsL_d, renL_d, ctCs_d, killL_d, outJ_m, mapM1, mapM2, oneOf, Option.map_some, Option.map_none, Option.bind_some, all_gr, all_wt, List.getElem?_nil, List.length_map, h33l0, eg, h1]
  obtain ⟨hk, hp, hn⟩ := ix_spec (fun j => decide ((gs.getD j ⟨0, 0, 0⟩).c = c) = true) gs.length
  generalize ix (fun j => decide ((gs.getD j ⟨0, 0, 0⟩).c = c) = true) gs.length = j at *
  rcases hp with rfl | ⟨hj, hp⟩
  · rw [if_pos rfl]
    simp (disch := omega) only [go_sem, Nat.reduceAdd, Nat.reduceSub, Nat.reduceMul, Nat.reduceLeDiff, Nat.reduceEqDiff, kpCs_d, idsL_d, renL_d, ctCs_d, killL_d, outJ_m, mapM1, mapM2, oneOf, Option.map_some, Option.map_none, Option.bind_some, all_gr, all_wt, List.getElem?_nil, List.length_map, h33l0]
  · rw [if_neg (by omega)]
    rw [getDz gs _ j hj] at hp
    have eg : (gs.map Gr.e)[j]? = some [ci gs[j].c, ci gs[j].l, ci gs[j].t] := by rw [List.getElem?_map, List.getElem?_eq_getElem hj]; rfl
    generalize gs[j] = g at *
    have h1 : g.c = c := by simpa using hp
    simp (disch := omega) only [go_sem, Nat.reduceAdd, Nat.reduceSub, Nat.reduceMul, Nat.reduceLeDiff, Nat.reduceEqDiff, kpCs_d, idsL_d, renL_d, ctCs_d, killL_d, outJ_m, mapM1, mapM2, oneOf, Option.map_some, Option.map_none, Option.bind_some, all_gr, all_wt, List.getElem?_nil, List.length_map, h33l0, eg, eq_true h1]
theorem rwaiting_v (gs : List Gr) (ws : List Wt) (c : Int) (hl : ws.length ≤ 100000) : EV G (Tb (bs bb)) 122 [flV gs ws, vi c] [] = some (vi (wtI ws c), []) := by
  refine EV_run rfl ?_
  simp (disch := omega) only [go_sem, Nat.reduceAdd, Nat.reduceSub, Nat.reduceMul, Nat.reduceLeDiff, Nat.reduceEqDiff, kpCs_d, idsL_d, renL_d, ctCs_d, killL_d, outJ_m, mapM1, mapM2, oneOf, Option.map_some, Option.map_none, Option.bind_some, all_gr, all_wt, List.getElem?_nil, List.length_map, h122c]
  unfold wtI idxG
  rw [EL_fst (fun j => ⟨(jk 1 (vi c :: .one (.ptr 0 0) :: jk 2 (vi j :: jk 16 []))), [.box [.dc (.slc (gs.map Gr.e)), .dc (.slc (ws.map Wt.e))]]⟩) (fun j => decide ((ws.getD j ⟨0, 0⟩).c = c) = true) ws.length ?_ ?_]
  rotate_left
  · rfl
  · intro j hj hn
    have h3 := hn j (Nat.le_refl _)
    rw [getDz ws _ j hj] at h3
    have eg : (ws.map Wt.e)[j]? = some [ci ws[j].c, ci ws[j].k] := by rw [List.getElem?_map, List.getElem?_eq_getElem hj]; rfl
    generalize ws[j] = g at *
    have h1 : ¬ g.c = c := by simpa using h3
    simp (disch := omega) only [go_sem, Nat.reduceAdd, Nat.reduceSub, Nat.reduceMul, Nat.reduceLeDiff, Nat.reduceEqDiff, kpCs_d, idsL_d, renL_d, ctCs_d, killL_d, outJ_m, mapM1, mapM2, oneOf, Option.map_some, Option.map_none, Option.bind_some, all_gr, all_wt, List.getElem?_nil, List.length_map, h122l0, eg, h1]
  obtain ⟨hk, hp, hn⟩ := ix_spec (fun j => decide ((ws.getD j ⟨0, 0⟩).c = c) = true) ws.length
  generalize ix (fun j => decide ((ws.getD j ⟨0, 0⟩).c = c) = true) ws.length = j at *
  rcases hp with rfl | ⟨hj, hp⟩
  · rw [if_pos rfl]
    simp (disch := omega) only [go_sem, Nat.reduceAdd, Nat.reduceSub, Nat.reduceMul, Nat.reduceLeDiff, Nat.reduceEqDiff, kpCs_d, idsL_d, renL_d, ctCs_d, killL_d, outJ_m, mapM1, mapM2, oneOf, Option.map_some, Option.map_none, Option.bind_some, all_gr, all_wt, List.getElem?_nil, List.length_map, h122l0]
  · rw [if_neg (by omega)]
    rw [getDz ws _ j hj] at hp
    have eg : (ws.map Wt.e)[j]? = some [ci ws[j].c, ci ws[j].k] := by rw [List.getElem?_map, List.getElem?_eq_getElem hj]; rfl
    generalize ws[j] = g at *
    have h1 : g.c = c := by simpa using hp
    simp (disch := omega) only [go_sem, Nat.reduceAdd, Nat.reduceSub, Nat.reduceMul, Nat.reduceLeDiff, Nat.reduceEqDiff, kpCs_d, idsL_d, renL_d, ctCs_d, killL_d, outJ_m, mapM1, mapM2, oneOf, Option.map_some, Option.map_none, Option.bind_some, all_gr, all_wt, List.getElem?_nil, List.length_map, h122l0, eg, eq_true h1]
end
end Go.Proofs.YtinageiefahjfaaGreatDoor
