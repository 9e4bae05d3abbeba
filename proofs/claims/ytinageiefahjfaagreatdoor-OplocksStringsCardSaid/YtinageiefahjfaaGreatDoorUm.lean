/- An act waits or is done. Conditions: none. -/
import Derived.Test.YtinageiefahjfaaGreatDoorUe
namespace Go.Proofs.YtinageiefahjfaaGreatDoor
set_option linter.unusedSimpArgs false
set_option linter.unusedVariables false
set_option maxRecDepth 4000
section
variable {G : Glob} {bb : Bool}
theorem each_at (e : Nat → Int) (n k : Nat) (h : k < n) : ((List.range n).map e).getD k 0 = e k := by
  rw [getD_at _ k (by simpa using h)]; simp
theorem each_r (e : Nat → Int) (n j : Nat) (hn : ∀ k, k < j → ¬ e k ≠ 0) (h3 : j = n ∨ (j < n ∧ e j ≠ 0)) : eachE 0 ((List.range n).map e) = if j = n then (0, 0) else ((j : Int), e j) := by
  rcases h3 with rfl | ⟨h3, h4⟩
  · rw [if_pos rfl]
    refine eachE_no _ 0 (fun k hk => ?_)
    have hk : k < j := by simpa using hk
    rw [each_at e j k hk]
    exact hn k hk
  · rw [if_neg (by omega), eachE_ix _ j 0 (fun k hk => by rw [each_at e n k (by omega)]; exact hn k hk) (by simpa using h3) (by rw [each_at e n j h3]; exact h4), each_at e n j h3, Nat.zero_add]
abbrev twoI (r : Int × Int) : AV := .tup [.one (.dc (.raw (.int .i64 r.1))), .one (.dc (.raw (.int .i64 r.2)))]
theorem eachG_v (fn : Nat) (ds : List DC) (e : Nat → Int) (gs : List Gr) (hl : gs.length ≤ 1000000) (hq : ∀ i (hi : i < gs.length), EV G (Tb (bs bb)) fn [vi i, gs[i].v, .one (.ref ds)] [] = some (vi (e i), [])) :
    EV G (Tb (bs bb)) 48 [gsV gs, .one (.fn fn [.ref ds])] [] = some (twoI (eachE 0 ((List.range gs.length).map e)), []) := by
  refine EV_run rfl ?_
  simp (disch := omega) only [go_sem, h48c]
  rw [EL_fst (fun k => ⟨(jk 1 (.one (.fn fn [.ref ds]) :: jk 7 (gsV gs :: vi gs.length :: vi k :: jk 13 []))), []⟩) (fun k => e k ≠ 0) gs.length ?_ ?_]
  rotate_left
  · rfl
  · intro k hk hn
    have h3 := hn k (Nat.le_refl _)
    have h4 : e k = 0 := by omega
    have q := hq k hk
    rw [h4] at q
    simp (disch := omega) only [go_sem, h48l0, Gr.e, q, List.getElem?_map, List.getElem?_eq_getElem hk]
  obtain ⟨hk, hp, hn⟩ := ix_spec (fun k => e k ≠ 0) gs.length
  generalize ix (fun k => e k ≠ 0) gs.length = k at *
  rw [each_r e gs.length k hn hp]
  rcases hp with rfl | ⟨hk', hp⟩
  · rw [if_pos rfl]
    simp (disch := omega) only [go_sem, h48l0]
  · rw [if_neg (by omega)]
    have q := hq k hk'
    simp (disch := omega) only [go_sem, h48l0, Gr.e, q, List.getElem?_map, List.getElem?_eq_getElem hk', hp]
theorem eachW_v (fn : Nat) (ds : List DC) (e : Nat → Int) (gs : List Wt) (hl : gs.length ≤ 1000000) (hq : ∀ i (hi : i < gs.length), EV G (Tb (bs bb)) fn [vi i, gs[i].v, .one (.ref ds)] [] = some (vi (e i), [])) :
    EV G (Tb (bs bb)) 51 [wsV gs, .one (.fn fn [.ref ds])] [] = some (twoI (eachE 0 ((List.range gs.length).map e)), []) := by
  refine EV_run rfl ?_
  simp (disch := omega) only [go_sem, h51c]
  rw [EL_fst (fun k => ⟨(jk 1 (.one (.fn fn [.ref ds]) :: jk 7 (wsV gs :: vi gs.length :: vi k :: jk 13 []))), []⟩) (fun k => e k ≠ 0) gs.length ?_ ?_]
  rotate_left
  · rfl
  · intro k hk hn
    have h3 := hn k (Nat.le_refl _)
    have h4 : e k = 0 := by omega
    have q := hq k hk
    rw [h4] at q
    simp (disch := omega) only [go_sem, h51l0, Wt.e, q, List.getElem?_map, List.getElem?_eq_getElem hk]
  obtain ⟨hk, hp, hn⟩ := ix_spec (fun k => e k ≠ 0) gs.length
  generalize ix (fun k => e k ≠ 0) gs.length = k at *
  rw [each_r e gs.length k hn hp]
  rcases hp with rfl | ⟨hk', hp⟩
  · rw [if_pos rfl]
    simp (disch := omega) only [go_sem, h51l0]
  · rw [if_neg (by omega)]
    have q := hq k hk'
    simp (disch := omega) only [go_sem, h51l0, Wt.e, q, List.getElem?_map, List.getElem?_eq_getElem hk', hp]
end
section
variable {G : Glob} {bb : Bool}
abbrev fileH (gs : List Gr) (ws : List Wt) : List AObj := [.box [.bld 1 gs.length, .bld 2 ws.length], .arr 0 3 (gs.map Gr.e), .arr 0 2 (ws.map Wt.e)]
def midE (gs : List Gr) (c m : Int) (k : Nat) : List (List DC) := ((gs.take k).map (brG c m) ++ gs.drop k).map Gr.e
def outE (gs : List Gr) (c m : Int) (k : Nat) : List (List DC) := ((gs.take k).flatMap (brB c m)).map Br.e
theorem midE_len (gs : List Gr) (c m : Int) (k : Nat) : (midE gs c m k).length = gs.length := by simp [midE]; omega
theorem midE_at {gs : List Gr} (c m : Int) {k : Nat} (hk : k < gs.length) : (midE gs c m k)[k]? = some [ci gs[k].c, ci gs[k].l, ci gs[k].t] := by
  unfold midE
  rw [List.getElem?_map, List.getElem?_append_right (by simp; omega)]
  simp only [List.length_map, List.length_take, List.getElem?_drop]
  rw [show k + (k - min k gs.length) = k by omega, List.getElem?_eq_getElem hk]; rfl
theorem midE_next {gs : List Gr} (c m : Int) {k : Nat} (hk : k < gs.length) : midE gs c m (k + 1) = (midE gs c m k).set k (brG c m gs[k]).e := by
  unfold midE
  rw [List.take_add_one, List.getElem?_eq_getElem hk, List.drop_eq_getElem_cons hk, Option.toList_some]
  simp only [List.map_append, List.append_assoc]
  rw [List.set_append, if_neg (by simp; omega)]
  simp only [List.length_map, List.length_take, List.map_cons, List.map_nil, List.cons_append, List.nil_append]
  rw [show k - min k gs.length = 0 by omega, List.set_cons_zero]
theorem outE_next {gs : List Gr} (c m : Int) {k : Nat} (hk : k < gs.length) : outE gs c m (k + 1) = outE gs c m k ++ (brB c m gs[k]).map Br.e := by
  unfold outE
  rw [List.take_add_one, List.getElem?_eq_getElem hk, Option.toList_some, List.flatMap_append, List.map_append, List.flatMap_cons, List.flatMap_nil, List.append_nil]
theorem brB_len (c m : Int) (g : Gr) : (brB c m g).length ≤ 1 := by
  unfold brB
  repeat' split
  all_goals simp
theorem outE_len (gs : List Gr) (c m : Int) : ∀ k, k ≤ gs.length → (outE gs c m k).length ≤ k
  | 0, _ => by simp [outE]
  | k + 1, hk => by
    rw [outE_next c m (show k < gs.length by omega), List.length_append, List.length_map]
    have := outE_len gs c m k (by omega)
    have := brB_len c m gs[k]
    omega
theorem midE_all (gs : List Gr) (c k : Int) : midE gs c (al k) gs.length = (brGs gs c k).map Gr.e := by simp [midE, brGs]
theorem outE_all (gs : List Gr) (c k : Int) : outE gs c (al k) gs.length = (brBs gs c k).map Br.e := by simp [outE, brBs]
theorem midE_0 (gs : List Gr) (c m : Int) : midE gs c m 0 = gs.map Gr.e := by simp [midE]
theorem outE_0 (gs : List Gr) (c m : Int) : outE gs c m 0 = [] := by simp [outE]
theorem set_get {α : Type} {l : List α} {k : Nat} {x : α} (h : k < l.length) : (l.set k x)[k]? = some x := by simp [h]
theorem set_sm {α : Type} {l : List α} {k : Nat} {x : α} (h : l[k]? = some x) : l.set k x = l := by
  apply List.ext_getElem?
  intro j
  by_cases hj : k = j
  · subst hj
    have hk : k < l.length := (List.getElem?_eq_some_iff.1 h).1
    rw [h]; simp [hk]
  · rw [List.getElem?_set_ne hj]
def brSt (gs : List Gr) (ws : List Wt) (c k m : Int) (es os : List (List DC)) (j : Nat) : AS :=
  ⟨(.one (.ptr 0 0) :: jk 2 (.one (.ptr 3 0) :: jk 1 (.one (.bld 4 os.length) :: vi m :: jk 11 (vi gs.length :: vi j :: jk 62 [])))), [.box [.bld 1 gs.length, .bld 2 ws.length], .arr 0 3 es, .arr 0 2 (ws.map Wt.e), .box [.dc (ci c), .dc (ci k)], .arr 0 2 os]⟩
theorem brk_round (gs : List Gr) (ws : List Wt) (c k m : Int) (hm : 0 ≤ m) (hl : gs.length ≤ 1000000) (es os : List (List DC)) (j : Nat) (hj : j < gs.length) (g : Gr) (he : es[j]? = some [ci g.c, ci g.l, ci g.t]) (hel : es.length = gs.length) (ho : os.length ≤ 1000000) :
    rnK [0, 2, 1, 0, 11, 0] 5 (EC (EV G (Tb (bs bb))) G h54l0 (brSt gs ws c k m es os j)) = some (brSt gs ws c k m (es.set j (brG c m g).e) (os ++ (brB c m g).map Br.e) (j + 1)) := by
  have hje : j < es.length := by omega
  have e1 := fun x => set_get (x := x) hje
  unfold brSt
  by_cases h1 : g.c = c
  · have a1 : brG c m g = g := by unfold brG; rw [if_pos (.inl h1)]
    have a2 : brB c m g = [] := by unfold brB; rw [if_pos (.inl h1)]
    rw [a1, a2, set_sm (x := g.e) he]
    simp (disch := omega) only [go_sem, h54l0, he, hel, eq_true h1, List.map_nil, List.append_nil]
  · by_cases h2 : g.l ≤ m
    · have a1 : brG c m g = g := by unfold brG; rw [if_pos (.inr h2)]
      have a2 : brB c m g = [] := by unfold brB; rw [if_pos (.inr h2)]
      rw [a1, a2, set_sm (x := g.e) he]
      simp (disch := omega) only [go_sem, h54l0, he, hel, h1, h2, List.map_nil, List.append_nil]
    · by_cases h3 : g.l = 1
      · have a1 : brG c m g = ⟨g.c, 0, 0⟩ := by unfold brG; rw [if_neg (by omega), if_pos h3]
        have a2 : brB c m g = [⟨g.c, 0⟩] := by unfold brB; rw [if_neg (by omega), if_pos h3]
        rw [a1, a2]
        simp (disch := omega) only [go_sem, h54l0, he, hel, h1, h2, eq_true h3, e1, List.set_set, List.length_set, Gr.e, Br.e, List.map_cons, List.map_nil, List.length_append, List.length_cons, List.length_nil, List.take_length]
      · by_cases h4 : g.t ≤ m
        · have a1 : brG c m g = g := by unfold brG; rw [if_neg (by omega), if_neg h3, if_pos h4]
          have a2 : brB c m g = [] := by unfold brB; rw [if_neg (by omega), if_neg h3, if_pos h4]
          rw [a1, a2, set_sm (x := g.e) he]
          simp (disch := omega) only [go_sem, h54l0, he, hel, h1, h2, h3, h4, List.map_nil, List.append_nil]
        · have a1 : brG c m g = ⟨g.c, g.l, m⟩ := by unfold brG; rw [if_neg (by omega), if_neg h3, if_neg h4]
          have a2 : brB c m g = [⟨g.c, m⟩] := by unfold brB; rw [if_neg (by omega), if_neg h3, if_neg h4]
          rw [a1, a2]
          simp (disch := omega) only [go_sem, h54l0, he, hel, h1, h2, h3, h4, e1, List.set_set, List.length_set, Gr.e, Br.e, List.map_cons, List.map_nil, List.length_append, List.length_cons, List.length_nil, List.take_length]
theorem brk_loop {st : AS} (gs : List Gr) (ws : List Wt) (c k : Int) (hl : gs.length ≤ 1000000) (h0 : st = brSt gs ws c k (al k) (gs.map Gr.e) [] 0) :
    EL (EV G (Tb (bs bb))) G h54l0 [0, 2, 1, 0, 11, 0] 5 st = fnK (EV G (Tb (bs bb))) G h54l0 [0, 2, 1, 0, 11, 0] 5 (EC (EV G (Tb (bs bb))) G h54l0 (brSt gs ws c k (al k) ((brGs gs c k).map Gr.e) ((brBs gs c k).map Br.e) gs.length)) := by
  subst h0
  have hm := (al_r k).1
  rw [← midE_all, ← outE_all]
  refine EL_loop (fun j => brSt gs ws c k (al k) (midE gs c (al k) j) (outE gs c (al k) j) j) gs.length ?_ ?_
  · rw [midE_0, outE_0]
  · intro j hj
    have h1 := outE_len gs c (al k) j (by omega)
    rw [midE_next c (al k) hj, outE_next c (al k) hj]
    exact brk_round gs ws c k (al k) hm hl _ _ j hj gs[j] (midE_at c (al k) hj) (midE_len ..) (by omega)
theorem brBs_len (gs : List Gr) (c k : Int) : (brBs gs c k).length ≤ gs.length := by
  have h := outE_len gs c (al k) gs.length (Nat.le_refl _)
  rw [outE_all, List.length_map] at h
  exact h
theorem breaks_v (hG : G 0 = some alD) (gs : List Gr) (ws : List Wt) (c k : Int) (hk : kOK k) (hl : gs.length ≤ 1000000) :
    EV G (Tb (bs bb)) 54 [.one (.ptr 0 0), (Wt.mk c k).v] (fileH gs ws) = some (vl ((brBs gs c k).map Br.e), fileH (brGs gs c k) ws) := by
  refine EV_run rfl ?_
  unfold alD at hG
  have hb := brBs_len gs c k
  have e0 := brGs_len gs c k
  rcases hk with rfl | rfl | rfl | rfl
  · simp (disch := omega) only [go_sem, h54c, hG, tn2, tn3, List.drop_succ_cons, List.drop_zero]
    rw [brk_loop gs ws c 0 hl ?_]
    rotate_left
    · rfl
    unfold brSt
    simp (disch := omega) only [go_sem, h54l0, e0, List.take_length]
    unfold fileH
    rw [e0]
  · simp (disch := omega) only [go_sem, h54c, hG, tn2, tn3, List.drop_succ_cons, List.drop_zero]
    rw [brk_loop gs ws c 1 hl ?_]
    rotate_left
    · rfl
    unfold brSt
    simp (disch := omega) only [go_sem, h54l0, e0, List.take_length]
    unfold fileH
    rw [e0]
  · simp (disch := omega) only [go_sem, h54c, hG, tn2, tn3, List.drop_succ_cons, List.drop_zero]
    rw [brk_loop gs ws c 2 hl ?_]
    rotate_left
    · rfl
    unfold brSt
    simp (disch := omega) only [go_sem, h54l0, e0, List.take_length]
    unfold fileH
    rw [e0]
  · simp (disch := omega) only [go_sem, h54c, hG, tn2, tn3, List.drop_succ_cons, List.drop_zero]
    rw [brk_loop gs ws c 3 hl ?_]
    rotate_left
    · rfl
    unfold brSt
    simp (disch := omega) only [go_sem, h54l0, e0, List.take_length]
    unfold fileH
    rw [e0]
end
section
variable {G : Glob} {bb : Bool}
theorem allLen_gr : ∀ gs : List Gr, allLen 3 (gs.map Gr.e) = true
  | [] => rfl
  | g :: gs => by rw [List.map_cons, allLen, allLen_gr gs]; rfl
theorem allLen_wt : ∀ gs : List Wt, allLen 2 (gs.map Wt.e) = true
  | [] => rfl
  | g :: gs => by rw [List.map_cons, allLen, allLen_wt gs]; rfl
theorem clone_g (gs : List Gr) (hl : gs.length ≤ 1000000) : EV G (Tb (bs bb)) 109 [gsV gs] [] = some (.one (.bld 0 gs.length), [.arr 0 3 (gs.map Gr.e)]) := by
  refine EV_base rfl ?_
  show (if allLen 3 (gs.map Gr.e) = true ∧ (gs.map Gr.e).length * 24 ≤ 140737488355328 then some (AV.one (.bld 0 (gs.map Gr.e).length), [AObj.arr 0 3 (gs.map Gr.e)]) else none) = _
  rw [if_pos ⟨allLen_gr gs, by rw [List.length_map]; omega⟩, List.length_map]
theorem clone_w (ws : List Wt) (hl : ws.length ≤ 1000000) : EV G (Tb (bs bb)) 110 [wsV ws] [] = some (.one (.bld 0 ws.length), [.arr 0 2 (ws.map Wt.e)]) := by
  refine EV_base rfl ?_
  show (if allLen 2 (ws.map Wt.e) = true ∧ (ws.map Wt.e).length * 16 ≤ 140737488355328 then some (AV.one (.bld 0 (ws.map Wt.e).length), [AObj.arr 0 2 (ws.map Wt.e)]) else none) = _
  rw [if_pos ⟨allLen_wt ws, by rw [List.length_map]; omega⟩, List.length_map]
theorem copied_v (gs : List Gr) (ws : List Wt) (hg : gs.length ≤ 1000000) (hw : ws.length ≤ 1000000) : EV G (Tb (bs bb)) 47 [flV gs ws] [] = some (.one (.ptr 3 0), [.box [.dc (.slc (gs.map Gr.e)), .dc (.slc (ws.map Wt.e))], .arr 0 3 (gs.map Gr.e), .arr 0 2 (ws.map Wt.e), .box [.bld 1 gs.length, .bld 2 ws.length]]) := by
  refine EV_run rfl ?_
  simp (disch := omega) only [go_sem, h47c, clone_g, clone_w]
end
section
variable {G : Glob} {bb : Bool}
theorem oth_e (gs : List Gr) (c : Int) : (gs.filter fun r => !(decide (r.c = c))) = othG gs c := by
  unfold othG
  congr 1
  funext g
  simp
theorem mayHave_v (gs : List Gr) (ws : List Wt) (a : Ac) (hl : gs.length ≤ 100000) : EV G (Tb (bs bb)) 125 [flR gs ws, a.v] [] = some (vb (mayH gs ws a), []) := by
  refine EV_run rfl ?_
  have q1 := clone_g (G := G) (bb := bb) gs (by omega)
  have q2 := deleteFunc_v (G := G) (bb := bb) (fun r => decide (r.c = a.c)) 173 a.k a.c a.l (fun r => p173_v a.k a.c a.l r) (fun r => p173_r a.k a.c a.l r) gs (by omega)
  rw [oth_e] at q2
  have hol : (othG gs a.c).length ≤ gs.length := List.length_filter_le _ _
  have q3 := fun lv => p174_v (G := G) (bb := bb) lv (othG gs a.c) (List.replicate (gs.length - (othG gs a.c).length) [ci 0, ci 0, ci 0]) (by omega)
  unfold mayH
  by_cases h0 : ws.length > 0
  · rw [if_pos h0]
    simp (disch := omega) only [go_sem, h125c, q1, q2, q3, h0]
  · rw [if_neg h0]
    by_cases h3 : a.l = 3
    · rw [if_pos h3]
      simp (disch := omega) only [go_sem, h125c, q1, q2, q3, h0, eq_true h3]
      rw [show decide (((othG gs a.c).length : Int) = 0) = decide ((othG gs a.c).length = 0) from decide_eq_decide.2 (by omega)]
    · rw [if_neg h3]
      by_cases h2 : a.l = 2
      · rw [if_pos h2]
        simp (disch := omega) only [go_sem, h125c, q1, q2, q3, h0, h3, eq_true h2]
        rfl
      · rw [if_neg h2]
        simp (disch := omega) only [go_sem, h125c, q1, q2, q3, h0, h3, h2]
        rfl
theorem usErr_e (gs : List Gr) (ws : List Wt) (a : Ac) : usErr gs ws a = firstE [ifE (wi a.k 0 5) 15, ifE (isCl a.c && lvOK a) 2, ifE (!isW ws a.c) 18, ifE (decide (a.k ≠ 0) || !isIn gs a.c) 5, ifE (decide (a.k = 0) || isIn gs a.c) 6] := rfl
set_option maxHeartbeats 2000000 in
theorem usualErr_v (gs : List Gr) (ws : List Wt) (hs : Srt gs) (a : Ac) (hg : gs.length ≤ 100000) (hl : ws.length ≤ 100000) : EV G (Tb (bs bb)) 124 [flR gs ws, a.v] [] = some (vi (usErr gs ws a), []) := by
  refine EV_run rfl ?_
  have q := anyW_v (G := G) (bb := bb) 171 [ci a.k, ci a.c, ci a.l] (fun b => decide (b.c = a.c)) ws (by omega) (fun b _ => p171_v a.k a.c a.l b)
  simp only [List.map_cons, List.map_nil] at q
  rw [show (ws.any fun b => decide (b.c = a.c)) = isW ws a.c from rfl] at q
  rw [usErr_e]
  have hlv : lvOK a = if a.k = 1 then wi a.l 1 3 else decide (a.l = 0) := rfl
  rw [hlv]
  cases h : isIn gs a.c with
  | true =>
    have g1 := grant_y (G := G) (bb := bb) ws hs hg a.c h
    cases hc : isCl a.c with
    | true =>
      by_cases hk : a.k = 0
      · have hk1 : ¬ a.k = 1 := by omega
        simp (disch := omega) only [go_sem, h124c, q, g1, isClient_v, within_u, unless_u, first5, eq_true hk, hk1, h, hc]
        try rfl
      · by_cases hk1 : a.k = 1
        · simp (disch := omega) only [go_sem, h124c, q, g1, isClient_v, within_u, unless_u, first5, hk, eq_true hk1, h, hc]
          try rfl
        · simp (disch := omega) only [go_sem, h124c, q, g1, isClient_v, within_u, unless_u, first5, hk, hk1, h, hc]
          try rfl
    | false =>
      by_cases hk : a.k = 0
      · have hk1 : ¬ a.k = 1 := by omega
        simp (disch := omega) only [go_sem, h124c, q, g1, isClient_v, within_u, unless_u, first5, eq_true hk, hk1, h, hc]
        try rfl
      · by_cases hk1 : a.k = 1
        · simp (disch := omega) only [go_sem, h124c, q, g1, isClient_v, within_u, unless_u, first5, hk, eq_true hk1, h, hc]
          try rfl
        · simp (disch := omega) only [go_sem, h124c, q, g1, isClient_v, within_u, unless_u, first5, hk, hk1, h, hc]
          try rfl
  | false =>
    have g1 := grant_n (G := G) (bb := bb) ws hs hg a.c h
    cases hc : isCl a.c with
    | true =>
      by_cases hk : a.k = 0
      · have hk1 : ¬ a.k = 1 := by omega
        simp (disch := omega) only [go_sem, h124c, q, g1, isClient_v, within_u, unless_u, first5, eq_true hk, hk1, h, hc]
        try rfl
      · by_cases hk1 : a.k = 1
        · simp (disch := omega) only [go_sem, h124c, q, g1, isClient_v, within_u, unless_u, first5, hk, eq_true hk1, h, hc]
          try rfl
        · simp (disch := omega) only [go_sem, h124c, q, g1, isClient_v, within_u, unless_u, first5, hk, hk1, h, hc]
          try rfl
    | false =>
      by_cases hk : a.k = 0
      · have hk1 : ¬ a.k = 1 := by omega
        simp (disch := omega) only [go_sem, h124c, q, g1, isClient_v, within_u, unless_u, first5, eq_true hk, hk1, h, hc]
        try rfl
      · by_cases hk1 : a.k = 1
        · simp (disch := omega) only [go_sem, h124c, q, g1, isClient_v, within_u, unless_u, first5, hk, eq_true hk1, h, hc]
          try rfl
        · simp (disch := omega) only [go_sem, h124c, q, g1, isClient_v, within_u, unless_u, first5, hk, hk1, h, hc]
          try rfl
end
section
variable {G : Glob} {bb : Bool}
theorem bneft : (false != true) = true := rfl
theorem bnett : (true != true) = false := rfl
theorem acErr_e (gs : List Gr) (ws : List Wt) (a : Ac) (h : usErr gs ws a = 0) : acErr gs ws a = if isIn gs a.c = true ∧ wrong (grE gs a.c) a = true then 20 else if a.k = 1 ∧ mayH gs ws a = false then 24 else if isUs a.k = true ∧ ws.length = 8 then 16 else 0 := by
  unfold acErr
  rw [if_neg (by omega)]
set_option maxHeartbeats 4000000 in
theorem actErr_v (gs : List Gr) (ws : List Wt) (hs : Srt gs) (a : Ac) (hg : gs.length ≤ 100000) (hl : ws.length ≤ 100000) : EV G (Tb (bs bb)) 63 [flR gs ws, a.v] [] = some (vi (acErr gs ws a), []) := by
  refine EV_run rfl ?_
  have q := usualErr_v (G := G) (bb := bb) gs ws hs a hg hl
  have q1 := mayHave_v (G := G) (bb := bb) gs ws a hg
  by_cases hu : usErr gs ws a = 0
  · rw [acErr_e gs ws a hu]
    rw [hu] at q
    have e8 : ((ws.length : Int) = 8) = (ws.length = 8) := propext ⟨by omega, by omega⟩
    cases h : isIn gs a.c with
    | true =>
      have g1 := grant_y (G := G) (bb := bb) ws hs hg a.c h
      generalize grE gs a.c = g at *
      have hw : wrong g a = if a.k = 4 then decide (g.t = g.l) else if a.k = 5 then false else if a.k = 1 then decide (g.t ≠ g.l) || decide (a.l ≤ g.l) else decide (g.t ≠ g.l) := rfl
      by_cases ht : g.t = g.l
      · by_cases k4 : a.k = 4
        · have k1 : ¬ a.k = 1 := by omega
          rw [hw, if_pos k4, decide_eq_true ht, if_pos ⟨rfl, rfl⟩]
          simp (disch := omega) only [go_sem, h63c, bneft, bnett, q, g1, Gr.e, eq_true ht, eq_true k4, k1]
        · by_cases k5 : a.k = 5
          · have k1 : ¬ a.k = 1 := by omega
            rw [hw, if_neg k4, if_pos k5, if_neg (by simp), if_neg (by omega)]
            have hus : isUs a.k = false := by unfold isUs; simp; omega
            rw [if_neg (by simp [hus])]
            simp (disch := omega) only [go_sem, h63c, bneft, bnett, q, g1, Gr.e, eq_true ht, k4, eq_true k5, k1, isUse_v, hus]
          · by_cases k1 : a.k = 1
            · by_cases hal : a.l ≤ g.l
              · rw [hw, if_neg k4, if_neg k5, if_pos k1, decide_eq_true hal, Bool.or_true, if_pos ⟨rfl, rfl⟩]
                simp (disch := omega) only [go_sem, h63c, bneft, bnett, q, g1, Gr.e, eq_true ht, k4, k5, eq_true k1, hal]
              · rw [hw, if_neg k4, if_neg k5, if_pos k1, decide_eq_false hal, Bool.or_false, if_neg (by simp [ht])]
                have hus : isUs a.k = false := by unfold isUs; simp; omega
                cases hm : mayH gs ws a with
                | true =>
                  rw [hm] at q1
                  rw [if_neg (by simp), if_neg (by simp [hus])]
                  simp (disch := omega) only [go_sem, h63c, bneft, bnett, q, g1, q1, Gr.e, eq_true ht, k4, k5, eq_true k1, hal, isUse_v, hus]
                | false =>
                  rw [hm] at q1
                  rw [if_pos ⟨k1, rfl⟩]
                  simp (disch := omega) only [go_sem, h63c, bneft, bnett, q, g1, q1, Gr.e, eq_true ht, k4, k5, eq_true k1, hal, isUse_v, hus]
            · rw [hw, if_neg k4, if_neg k5, if_neg k1, if_neg (by simp [ht]), if_neg (fun h => k1 h.1)]
              cases hus : isUs a.k with
              | true =>
                by_cases h8 : ws.length = 8
                · have h8' : (ws.length : Int) = 8 := by omega
                  rw [if_pos ⟨rfl, h8⟩]
                  simp (disch := omega) only [go_sem, h63c, bneft, bnett, q, g1, Gr.e, eq_true ht, k4, k5, k1, isUse_v, hus, eq_true h8']
                · have h8' : ¬ (ws.length : Int) = 8 := by omega
                  rw [if_neg (fun h => h8 h.2)]
                  simp (disch := omega) only [go_sem, h63c, bneft, bnett, q, g1, Gr.e, eq_true ht, k4, k5, k1, isUse_v, hus, h8']
              | false =>
                rw [if_neg (by simp)]
                simp (disch := omega) only [go_sem, h63c, bneft, bnett, q, g1, Gr.e, eq_true ht, k4, k5, k1, isUse_v, hus]
      · by_cases k4 : a.k = 4
        · have k1 : ¬ a.k = 1 := by omega
          rw [hw, if_pos k4, decide_eq_false ht, if_neg (by simp), if_neg (by omega)]
          have hus : isUs a.k = false := by unfold isUs; simp; omega
          rw [if_neg (by simp [hus])]
          simp (disch := omega) only [go_sem, h63c, bneft, bnett, q, g1, Gr.e, ht, eq_true k4, k1, isUse_v, hus]
        · by_cases k5 : a.k = 5
          · have k1 : ¬ a.k = 1 := by omega
            rw [hw, if_neg k4, if_pos k5, if_neg (by simp), if_neg (by omega)]
            have hus : isUs a.k = false := by unfold isUs; simp; omega
            rw [if_neg (by simp [hus])]
            simp (disch := omega) only [go_sem, h63c, bneft, bnett, q, g1, Gr.e, ht, k4, eq_true k5, k1, isUse_v, hus]
          · by_cases k1 : a.k = 1
            · rw [hw, if_neg k4, if_neg k5, if_pos k1, if_pos ⟨rfl, by simp [ht]⟩]
              simp (disch := omega) only [go_sem, h63c, bneft, bnett, q, g1, Gr.e, ht, k4, k5, eq_true k1]
            · rw [hw, if_neg k4, if_neg k5, if_neg k1, if_pos ⟨rfl, by simp [ht]⟩]
              simp (disch := omega) only [go_sem, h63c, bneft, bnett, q, g1, Gr.e, ht, k4, k5, k1]
    | false =>
      have g1 := grant_n (G := G) (bb := bb) ws hs hg a.c h
      rw [if_neg (by simp)]
      by_cases k1 : a.k = 1
      · have hus : isUs a.k = false := by unfold isUs; simp; omega
        cases hm : mayH gs ws a with
        | true =>
          rw [hm] at q1
          rw [if_neg (by simp), if_neg (by simp [hus])]
          simp (disch := omega) only [go_sem, h63c, bneft, bnett, q, g1, q1, eq_true k1, isUse_v, hus]
        | false =>
          rw [hm] at q1
          rw [if_pos ⟨k1, rfl⟩]
          simp (disch := omega) only [go_sem, h63c, bneft, bnett, q, g1, q1, eq_true k1, isUse_v, hus]
      · rw [if_neg (fun h => k1 h.1)]
        cases hus : isUs a.k with
        | true =>
          by_cases h8 : ws.length = 8
          · have h8' : (ws.length : Int) = 8 := by omega
            rw [if_pos ⟨rfl, h8⟩]
            simp (disch := omega) only [go_sem, h63c, bneft, bnett, q, g1, k1, isUse_v, hus, eq_true h8']
          · have h8' : ¬ (ws.length : Int) = 8 := by omega
            rw [if_neg (fun h => h8 h.2)]
            simp (disch := omega) only [go_sem, h63c, bneft, bnett, q, g1, k1, isUse_v, hus, h8']
        | false =>
          rw [if_neg (by simp)]
          simp (disch := omega) only [go_sem, h63c, bneft, bnett, q, g1, k1, isUse_v, hus]
  · have e : acErr gs ws a = usErr gs ws a := by unfold acErr; rw [if_pos hu]
    rw [e]
    simp (disch := omega) only [go_sem, h63c, bneft, bnett, q, hu]
end
section
variable {G : Glob} {bb : Bool}
theorem ins_map (gs : List Gr) (c : Int) : (insG gs c).map Gr.e = ((gs.map Gr.e).take (pos gs c)) ++ [ci c, ci 0, ci 0] :: (gs.map Gr.e).drop (pos gs c) := by
  simp [insG, Gr.e]
theorem ins_len (gs : List Gr) (c : Int) : (insG gs c).length = gs.length + 1 := by
  have := pos_le gs c
  simp [insG]; omega
theorem insert_v (gs : List Gr) (c : Int) (hl : gs.length ≤ 1000000) :
    EV G (Tb (bs bb)) 200 [.one (.bld 0 gs.length), vi (pos gs c : Nat), vl [[ci c, ci 0, ci 0]]] [.arr 0 3 (gs.map Gr.e)] = some (.one (.bld 0 (gs.length + 1)), [.arr 0 3 ((insG gs c).map Gr.e)]) := by
  have hp := pos_le gs c
  refine EV_base rfl ?_
  rw [show (Tb (bs bb)).base = bs bb from rfl]
  unfold bs
  rw [if_neg (by decide), if_neg (by decide), if_pos rfl]
  unfold insK
  simp only
  rw [if_pos ⟨trivial, by omega, by simpa using hp, by simp, by omega, rfl⟩, ins_map]
  simp only [Int.toNat_natCast, List.take_of_length_le (show (gs.map Gr.e).length ≤ gs.length by simp)]
theorem done_v (gs : List Gr) (ws : List Wt) (hs : Srt gs) (c k : Int) (hl : gs.length ≤ 100000) :
    EV G (Tb (bs bb)) 178 [.one (.ptr 0 0), (Wt.mk c k).v] (fileH gs ws) = some (.tup [], fileH (did gs c k) ws) := by
  refine EV_run rfl ?_
  have q := place_v (G := G) (bb := bb) ws hs hl c
  have q1 := insert_v (G := G) (bb := bb) gs c (by omega)
  have e1 := ins_len gs c
  unfold did
  by_cases hk : k = 0
  · cases h : isIn gs c with
    | true =>
      rw [if_neg (by simp)]
      rw [h] at q
      simp (disch := omega) only [go_sem, h178c, q, hk]
    | false =>
      rw [if_pos ⟨hk, rfl⟩]
      rw [h] at q
      simp (disch := omega) only [go_sem, h178c, q, hk, q1]
      unfold fileH
      rw [e1]
  · rw [if_neg (by simp [hk])]
    simp (disch := omega) only [go_sem, h178c, q, hk]
end
section
variable {G : Glob} {bb : Bool}
theorem did_len (gs : List Gr) (c k : Int) : (did gs c k).length ≤ gs.length + 1 := by
  unfold did
  split
  · rw [ins_len]; omega
  · omega
theorem Srt_br {gs : List Gr} (hs : Srt gs) (c k : Int) : Srt (brGs gs c k) := Srt_map (fun g => brG_c _ _ g) hs
theorem Srt_did {gs : List Gr} (hs : Srt gs) (c k : Int) : Srt (did gs c k) := by
  unfold did
  split
  · rename_i h; exact Srt_ins hs h.2
  · exact hs
abbrev twoA (d : Bool) (b : List Br) : AV := .tup [.one (.dc (.raw (.bool d))), .one (.dc (.slc (b.map Br.e)))]
theorem use_v (hG : G 0 = some alD) (gs : List Gr) (ws : List Wt) (hs : Srt gs) (c k : Int) (hk : kOK k) (hl : gs.length ≤ 100000) (hw : ws.length ≤ 100000) :
    EV G (Tb (bs bb)) 129 [.one (.ptr 0 0), (Wt.mk c k).v] (fileH gs ws) = some (twoA (useF gs ws c k).2.2.d (useF gs ws c k).2.2.b, fileH (useF gs ws c k).1 (useF gs ws c k).2.1) := by
  refine EV_run rfl ?_
  unfold useF
  have e1 := brGs_len gs c k
  by_cases h0 : ws.length = 0
  · rw [if_pos h0]
    have h0' : (ws.length : Int) = 0 := by omega
    have q1 := breaks_v (G := G) (bb := bb) hG gs ws c k hk (by omega)
    have q2 := held_v (G := G) (bb := bb) hG (brGs gs c k) ws c k hk (by omega)
    have q3 := done_v (G := G) (bb := bb) (brGs gs c k) ws (Srt_br hs c k) c k (by omega)
    simp only [fileH, e1] at q1 q3
    have tk : ((brGs gs c k).map Gr.e).take gs.length = (brGs gs c k).map Gr.e := List.take_of_length_le (by rw [List.length_map, e1]; omega)
    cases hh : held (brGs gs c k) c k with
    | true =>
      rw [if_pos rfl]
      rw [hh] at q2
      simp (disch := omega) only [go_sem, h129c, q1, q2, e1, tk, eq_true h0', fileH]
      obtain rfl := List.length_eq_zero_iff.1 h0
      rfl
    | false =>
      rw [if_neg (by simp)]
      rw [hh] at q2
      simp (disch := omega) only [go_sem, h129c, q1, q2, q3, e1, tk, eq_true h0', fileH]
      obtain rfl := List.length_eq_zero_iff.1 h0
      rfl
  · rw [if_neg h0]
    simp (disch := omega) only [go_sem, h129c, h0, fileH]
    rw [List.length_append, List.map_append]
    rfl
theorem fnK_of {call : CallT} {a : HC} {L : List Nat} {m : Nat} {r : Option (Exit × AS)} {s : AS} (h : rnK L m r = some s) : fnK call G a L m r = EL call G a L m s := by
  unfold rnK at h
  split at h
  · injection h with h; rw [← h]; rfl
  · cases h
theorem delW_v (w : Wt) (ws : List Wt) (hl : ws.length ≤ 1000000) : EV G (Tb (bs bb)) 179 [.one (.bld 0 (w :: ws).length), vi 0, vi 1] [.arr 0 2 ((w :: ws).map Wt.e)] = some (.one (.bld 0 ws.length), [.arr 0 2 (ws.map Wt.e)]) := by
  refine EV_base rfl ?_
  rw [show (Tb (bs bb)).base = bs bb from rfl]
  unfold bs
  rw [if_neg (by decide), if_pos rfl]
  unfold delK
  show (if _ then _ else _) = _
  rw [if_pos ⟨rfl, by omega, by omega, by simp, by simp, by simp; omega⟩]
  have e : (ws.map Wt.e).take ws.length = ws.map Wt.e := List.take_of_length_le (by simp)
  simp [e]
theorem delG_v (gs : List Gr) (i : Nat) (hi : i < gs.length) (hl : gs.length ≤ 1000000) : EV G (Tb (bs bb)) 128 [.one (.bld 0 gs.length), vi i, vi ((i : Int) + 1)] [.arr 0 3 (gs.map Gr.e)] = some (.one (.bld 0 (gs.length - 1)), [.arr 0 3 ((gs.take i ++ gs.drop (i + 1)).map Gr.e)]) := by
  refine EV_base rfl ?_
  rw [show (Tb (bs bb)).base = bs bb from rfl]
  unfold bs
  rw [if_pos rfl]
  unfold delK
  show (if _ then _ else _) = _
  rw [if_pos ⟨rfl, by omega, by omega, by simpa using hi, by simp, by simp; omega⟩]
  have e : (gs.map Gr.e).take gs.length = gs.map Gr.e := List.take_of_length_le (by simp)
  simp [e]
theorem allLen_br : ∀ gs : List Br, allLen 2 (gs.map Br.e) = true
  | [] => rfl
  | g :: gs => by rw [List.map_cons, allLen, allLen_br gs]; rfl
abbrev thrH (gs : List Gr) (ws : List Wt) (b : List Br) (f : List Wt) : List AObj := [.box [.bld 1 gs.length, .bld 2 ws.length], .arr 0 3 (gs.map Gr.e), .arr 0 2 (ws.map Wt.e), .arr 0 2 (b.map Br.e), .arr 0 2 (f.map Wt.e)]
def thrS (gs : List Gr) (ws : List Wt) (b : List Br) (f : List Wt) : AS := ⟨(.one (.ptr 0 0) :: jk 1 (.one (.bld 3 b.length) :: .one (.bld 4 f.length) :: jk 42 [])), thrH gs ws b f⟩
abbrev twoB (b : List Br) (f : List Wt) : AV := .tup [.one (.dc (.slc (b.map Br.e))), .one (.dc (.slc (f.map Wt.e)))]
theorem thr_key (hG : G 0 = some alD) : ∀ (ws : List Wt) (gs : List Gr) (b : List Br) (f : List Wt), Srt gs → (∀ w ∈ ws, kOK w.k) → gs.length + ws.length ≤ 1000 → b.length + 1000 * ws.length ≤ 10000000 → f.length + ws.length ≤ 1000000 →
    retZ false [RetV.tmp 2, RetV.tmp 3] 3 (sqK (EV G (Tb (bs bb))) G ((HC.region [Oo 44 (AI.mov (AArg.t 2)), Oo 45 (AI.mov (AArg.t 3)), Oo 2 (AI.mov (AArg.t 44)), Oo 3 (AI.mov (AArg.t 45))]).seq HC.ret) (blkK 0 (EL (EV G (Tb (bs bb))) G h127l0 [0, 1, 0] 5 (thrS gs ws b f)))) =
      some (twoB (b ++ (thr gs ws).2.2.1) (f ++ (thr gs ws).2.2.2), fileH (thr gs ws).1 (thr gs ws).2.1)
  | [], gs, b, f, hs, hk, hl, hb, hf => by
    rw [EL_unf, thr]
    unfold thrS
    simp only [List.append_nil]
    have hn : (([] : List Wt).length : Int) = 0 := rfl
    generalize ([] : List Wt) = W at *
    simp (disch := omega) only [go_sem, h127l0, eq_true hn, List.take_length]
  | w :: ws, gs, b, f, hs, hk, hl, hb, hf => by
    have hkw := hk w List.mem_cons_self
    have e1 := brGs_len gs w.c w.k
    have hbl := brBs_len gs w.c w.k
    have hdl := did_len (brGs gs w.c w.k) w.c w.k
    simp only [List.length_cons] at hl hb hf
    have q1 := breaks_v (G := G) (bb := bb) hG gs (w :: ws) w.c w.k hkw (by omega)
    have q2 := held_v (G := G) (bb := bb) hG (brGs gs w.c w.k) (w :: ws) w.c w.k hkw (by omega)
    have q3 := done_v (G := G) (bb := bb) (brGs gs w.c w.k) (w :: ws) (Srt_br hs w.c w.k) w.c w.k (by omega)
    have q4 := delW_v (G := G) (bb := bb) w ws (by omega)
    have e0 : ((w :: ws).map Wt.e)[0]? = some [ci w.c, ci w.k] := rfl
    have hn : ¬ (w :: ws).length = 0 := by simp
    have tk : ((brGs gs w.c w.k).map Gr.e).take gs.length = (brGs gs w.c w.k).map Gr.e := List.take_of_length_le (by rw [List.length_map, e1]; omega)
    have tk2 : List.take (b.length + (brBs gs w.c w.k).length) (b.map Br.e ++ (brBs gs w.c w.k).map Br.e) = (b ++ brBs gs w.c w.k).map Br.e := by
      rw [← List.map_append]; exact List.take_of_length_le (by simp)
    simp only [fileH, e1] at q1 q3
    have hWl : (w :: ws).length ≤ 1000 := by simp; omega
    cases hh : held (brGs gs w.c w.k) w.c w.k with
    | true =>
      rw [EL_unf, thr, if_pos hh]
      unfold thrS
      rw [hh] at q2
      generalize w :: ws = W at *
      simp (disch := omega) only [go_sem, h127l0, hn, e0, q1, q2, q3, q4, e1, tk, List.take_length, allLen_br, tk2, List.length_append, Nat.le_refl]
      unfold fileH
      rw [e1]
    | false =>
      have ih := thr_key hG ws (did (brGs gs w.c w.k) w.c w.k) (b ++ brBs gs w.c w.k) (f ++ [w]) (Srt_did (Srt_br hs w.c w.k) w.c w.k) (fun x hx => hk x (List.mem_cons_of_mem _ hx)) (by omega) (by rw [List.length_append]; omega) (by rw [List.length_append]; simp; omega)
      have hr : rnK [0, 1, 0] 5 (EC (EV G (Tb (bs bb))) G h127l0 (thrS gs (w :: ws) b f)) = some (thrS (did (brGs gs w.c w.k) w.c w.k) ws (b ++ brBs gs w.c w.k) (f ++ [w])) := by
        unfold thrS thrH
        rw [hh] at q2
        generalize w :: ws = W at *
        simp (disch := omega) only [go_sem, h127l0, hn, e0, q1, q2, q3, q4, e1, tk, List.take_length, allLen_br, tk2, List.length_append, Nat.le_refl, List.map_append, List.length_cons, List.length_nil, List.map_cons, List.map_nil, Wt.e]
      rw [EL_unf, fnK_of hr, ih, thr, if_neg (by rw [hh]; simp)]
      simp only [List.append_assoc, List.cons_append, List.nil_append]
theorem thr_v (hG : G 0 = some alD) (gs : List Gr) (ws : List Wt) (hs : Srt gs) (hk : ∀ w ∈ ws, kOK w.k) (hl : gs.length + ws.length ≤ 1000) :
    EV G (Tb (bs bb)) 127 [.one (.ptr 0 0)] (fileH gs ws) = some (twoB (thr gs ws).2.2.1 (thr gs ws).2.2.2, fileH (thr gs ws).1 (thr gs ws).2.1) := by
  refine EV_run rfl ?_
  have q := thr_key (bb := bb) hG ws gs [] [] hs hk (by omega) (by simp; omega) (by simp; omega)
  rw [List.nil_append, List.nil_append] at q
  rw [← q]
  simp (disch := omega) only [go_sem, h127c, fileH]
  rfl
end
end Go.Proofs.YtinageiefahjfaaGreatDoor
