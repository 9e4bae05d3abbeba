/- The reference: the errors of acts. Conditions: none. -/
import Derived.Test.YtinageiefahjfaaGreatDoorUi
namespace Go.Proofs.YtinageiefahjfaaGreatDoor
set_option linter.unusedSimpArgs false
set_option linter.unusedVariables false
set_option maxRecDepth 4000
section
variable {G : Glob} {bb : Bool}
theorem allLen_gr : ∀ gs : List Gr, allLen 3 (gs.map Gr.e) = true
  | [] => rfl
  | g :: gs => by rw [List.map_cons, allLen, allLen_gr gs]; rfl
theorem allLen_wt : ∀ gs : List Wt, allLen 2 (gs.map Wt.e) = true
  | [] => rfl
  | g :: gs => by rw [List.map_cons, allLen, allLen_wt gs]; rfl
theorem clone_g (gs : List Gr) (hl : gs.length ≤ 1000000) : EV G (Tb (bs bb)) 109 [gsV gs] [] = some (.one (.bld 0 gs.length), [.arr 0 3 (gs.map Gr.e)]) := by
  refine EV_base rfl ?_
  show (if allLen 3 (gs.map Gr.e) = true ∧ (gs.map Gr.e).length * 24 ≤ 140737488355328 then some (AV.one (.bld 0 (gs.map Gr.e).length), [AObj.arr 0 3 (gs.map Gr.e)]) else none) = _
  rw [if_pos ⟨allLen_gr gs, by rw [List.length_map]; omega⟩, List.length_map]
theorem clone_w (ws : List Wt) (hl : ws.length ≤ 1000000) : EV G (Tb (bs bb)) 110 [wsV ws] [] = some (.one (.bld 0 ws.length), [.arr 0 2 (ws.map Wt.e)]) := by
  refine EV_base rfl ?_
  show (if allLen 2 (ws.map Wt.e) = true ∧ (ws.map Wt.e).length * 16 ≤ 140737488355328 then some (AV.one (.bld 0 (ws.map Wt.e).length), [AObj.arr 0 2 (ws.map Wt.e)]) else none) = _
  rw [if_pos ⟨allLen_wt ws, by rw [List.length_map]; omega⟩, List.length_map]
theorem copied_v (gs : List Gr) (ws : List Wt) (hg : gs.length ≤ 1000000) (hw : ws.length ≤ 1000000) : EV G (Tb (bs bb)) 47 [flV gs ws] [] = some (.one (.ptr 3 0), [.box [.dc (.slc (gs.map Gr.e)), .dc (.slc (ws.map Wt.e))], .arr 0 3 (gs.map Gr.e), .arr 0 2 (ws.map Wt.e), .box [.bld 1 gs.length, .bld 2 ws.length]]) := by
  refine EV_run rfl ?_
  simp (disch := omega) only [go_sem, h47c, clone_g, clone_w]
end
section
variable {G : Glob} {bb : Bool}
theorem meet_sw {n0 i j : Nat} {s s' : AS} (h1 : Nat.ble n0 i = true) (h2 : Nat.ble n0 j = true) (h3 : Nat.blt i s'.hp.length = true) (h4 : Nat.blt j s'.hp.length = true) (h : prm [(i, j)] s' = s) : meetE n0 (some s) (some s') = some s :=
  meetE_p [(i, j)] (fun x hx => by
    rw [List.mem_singleton] at hx
    subst hx
    exact ⟨Nat.le_of_ble_eq_true h1, Nat.le_of_ble_eq_true h2, Nat.le_of_ble_eq_true h3, Nat.le_of_ble_eq_true h4⟩) h
theorem meet23 {s s' : AS} (h3 : Nat.blt 2 s'.hp.length = true) (h4 : Nat.blt 3 s'.hp.length = true) (h : prm [(2, 3)] s' = s) : meetE 2 (some s) (some s') = some s := meet_sw rfl rfl h3 h4 h
theorem rwithin_v (n lo hi : Int) : EV G (Tb (bs bb)) 39 [vi n, vi lo, vi hi] [] = some (vb (wi n lo hi), []) := by
  refine EV_run rfl ?_
  unfold wi
  by_cases h : lo ≤ n
  all_goals simp (disch := omega) only [go_sem, h39c]
  all_goals simp [h]
theorem rclient_v (n : Int) : EV G (Tb (bs bb)) 121 [vi n] [] = some (vb (isCl n), []) := by
  refine EV_run rfl ?_
  simp (disch := omega) only [go_sem, h121c, rwithin_v]
  rfl
theorem rallows_v (k : Int) : EV G (Tb (bs bb)) 123 [vi k] [] = some (vi (al k), []) := by
  refine EV_run rfl ?_
  unfold al
  by_cases h1 : k = 0
  · simp (disch := omega) only [go_sem, h123c, eq_true h1]
  · by_cases h2 : k = 2
    · simp (disch := omega) only [go_sem, h123c, h1, eq_true h2]
    · simp (disch := omega) only [go_sem, h123c, h1, h2]
theorem rcopy_v (gs : List Gr) (ws : List Wt) (hg : gs.length ≤ 100000) (hw : ws.length ≤ 100000) : EV G (Tb (bs bb)) 13 [flV gs ws] [] = some (.agg [.bld 2 gs.length, .bld 3 ws.length], [.box [.dc (.slc (gs.map Gr.e)), .dc (.slc (ws.map Wt.e))], .box [.bld 2 gs.length, .bld 3 ws.length], .arr 0 3 (gs.map Gr.e), .arr 0 2 (ws.map Wt.e)]) := by
  refine EV_run rfl ?_
  simp (disch := omega) only [go_sem, h13c, allLen_gr, allLen_wt]
  repeat
    first
    | rw [meetE_e]
    | (rw [meet23 ?_ ?_ ?_]
       rotate_left
       · rfl
       · rfl
       · rfl)
  simp (disch := omega) only [go_sem]
end
section
variable {G : Glob} {bb : Bool}
def rbSt (gs : List Gr) (ws : List Wt) (c m : Int) (es os : List (List DC)) (j : Nat) : AS :=
  ⟨(jk 1 (vi c :: jk 4 (.one (.ptr 1 0) :: jk 1 (.one (.ptr 6 0) :: .one (.bld 7 os.length) :: vi m :: vi j :: jk 62 [])))), [.box [.dc (.slc (gs.map Gr.e)), .dc (.slc (ws.map Wt.e))], .box [.dc (.raw (.slice none 0 0)), .dc (.raw (.slice none 0 0))], .box [.dc (.slc (gs.map Gr.e)), .dc (.slc (ws.map Wt.e))], .box [.bld 4 gs.length, .bld 5 ws.length], .arr 0 3 es, .arr 0 2 (ws.map Wt.e), .box [.bld 4 gs.length, .bld 5 ws.length], .arr 0 2 os]⟩
theorem rb_round (gs : List Gr) (ws : List Wt) (c m : Int) (hm : 0 ≤ m) (hl : gs.length ≤ 1000000) (es os : List (List DC)) (j : Nat) (hj : j < gs.length) (g : Gr) (he : es[j]? = some [ci g.c, ci g.l, ci g.t]) (hel : es.length = gs.length) (ho : os.length ≤ 1000000) :
    rnK [1, 4, 1, 0, 0, 0] 8 (EC (EV G (Tb (bs bb))) G h59l0 (rbSt gs ws c m es os j)) = some (rbSt gs ws c m (es.set j (brG c m g).e) (os ++ (brB c m g).map Br.e) (j + 1)) := by
  have hje : j < es.length := by omega
  have e1 := fun x => set_get (x := x) hje
  unfold rbSt
  by_cases h1 : g.c = c
  · have a1 : brG c m g = g := by unfold brG; rw [if_pos (.inl h1)]
    have a2 : brB c m g = [] := by unfold brB; rw [if_pos (.inl h1)]
    rw [a1, a2, set_sm (x := g.e) he]
    simp (disch := omega) only [go_sem, h59l0, he, hel, eq_true h1, List.map_nil, List.append_nil]
  · by_cases h2 : g.l ≤ m
    · have a1 : brG c m g = g := by unfold brG; rw [if_pos (.inr h2)]
      have a2 : brB c m g = [] := by unfold brB; rw [if_pos (.inr h2)]
      rw [a1, a2, set_sm (x := g.e) he]
      simp (disch := omega) only [go_sem, h59l0, he, hel, h1, h2, List.map_nil, List.append_nil]
    · by_cases h3 : g.l = 1
      · have a1 : brG c m g = ⟨g.c, 0, 0⟩ := by unfold brG; rw [if_neg (by omega), if_pos h3]
        have a2 : brB c m g = [⟨g.c, 0⟩] := by unfold brB; rw [if_neg (by omega), if_pos h3]
        rw [a1, a2]
        simp (disch := omega) only [go_sem, h59l0, he, hel, h1, h2, eq_true h3, e1, List.set_set, List.length_set, Gr.e, Br.e, List.map_cons, List.map_nil, List.length_append, List.length_cons, List.length_nil, List.take_length]
      · by_cases h4 : g.t ≤ m
        · have a1 : brG c m g = g := by unfold brG; rw [if_neg (by omega), if_neg h3, if_pos h4]
          have a2 : brB c m g = [] := by unfold brB; rw [if_neg (by omega), if_neg h3, if_pos h4]
          have h4' : ¬ g.t > m := by omega
          rw [a1, a2, set_sm (x := g.e) he]
          simp (disch := omega) only [go_sem, h59l0, he, hel, h1, h2, h3, h4', List.map_nil, List.append_nil]
        · have a1 : brG c m g = ⟨g.c, g.l, m⟩ := by unfold brG; rw [if_neg (by omega), if_neg h3, if_neg h4]
          have a2 : brB c m g = [⟨g.c, m⟩] := by unfold brB; rw [if_neg (by omega), if_neg h3, if_neg h4]
          have h4' : g.t > m := by omega
          rw [a1, a2]
          simp (disch := omega) only [go_sem, h59l0, he, hel, h1, h2, h3, h4', e1, List.set_set, List.length_set, Gr.e, Br.e, List.map_cons, List.map_nil, List.length_append, List.length_cons, List.length_nil, List.take_length]
theorem rb_loop {st : AS} (gs : List Gr) (ws : List Wt) (c k : Int) (hl : gs.length ≤ 1000000) (h0 : st = rbSt gs ws c (al k) (gs.map Gr.e) [] 0) :
    EL (EV G (Tb (bs bb))) G h59l0 [1, 4, 1, 0, 0, 0] 8 st = fnK (EV G (Tb (bs bb))) G h59l0 [1, 4, 1, 0, 0, 0] 8 (EC (EV G (Tb (bs bb))) G h59l0 (rbSt gs ws c (al k) ((brGs gs c k).map Gr.e) ((brBs gs c k).map Br.e) gs.length)) := by
  subst h0
  have hm := (al_r k).1
  rw [← midE_all, ← outE_all]
  refine EL_loop (fun j => rbSt gs ws c (al k) (midE gs c (al k) j) (outE gs c (al k) j) j) gs.length ?_ ?_
  · rw [midE_0, outE_0]
  · intro j hj
    have h1 := outE_len gs c (al k) j (by omega)
    rw [midE_next c (al k) hj, outE_next c (al k) hj]
    exact rb_round gs ws c (al k) hm hl _ _ j hj gs[j] (midE_at c (al k) hj) (midE_len ..) (by omega)
abbrev brkH (gs : List Gr) (ws : List Wt) (c k : Int) : List AObj := [.box [.dc (.slc (gs.map Gr.e)), .dc (.slc (ws.map Wt.e))], .box [.bld 4 gs.length, .bld 5 ws.length], .box [.dc (.slc (gs.map Gr.e)), .dc (.slc (ws.map Wt.e))], .box [.bld 4 gs.length, .bld 5 ws.length], .arr 0 3 ((brGs gs c k).map Gr.e), .arr 0 2 (ws.map Wt.e), .box [.bld 4 gs.length, .bld 5 ws.length], .arr 0 2 ((brBs gs c k).map Br.e)]
theorem rbroken_v (gs : List Gr) (ws : List Wt) (c k : Int) (hl : gs.length ≤ 100000) (hw : ws.length ≤ 100000) :
    EV G (Tb (bs bb)) 59 [flV gs ws, vi c, vi k] [] = some (.tup [.agg [.bld 4 gs.length, .bld 5 ws.length], .one (.bld 7 (brBs gs c k).length)], brkH gs ws c k) := by
  refine EV_run rfl ?_
  have q := rcopy_v (G := G) (bb := bb) gs ws hl hw
  have e0 := brGs_len gs c k
  simp (disch := omega) only [go_sem, h59c, q, rallows_v]
  rw [rb_loop gs ws c k (by omega) ?_]
  rotate_left
  · rfl
  unfold rbSt
  simp (disch := omega) only [go_sem, h59l0, e0, List.take_length]
  try rfl
end
section
variable {G : Glob} {bb : Bool}
theorem any_ix {α : Type} (p : α → Bool) (l : List α) (z : α) (k : Nat) (hp : k = l.length ∨ (k < l.length ∧ p (l.getD k z) = true)) (hn : ∀ j, j < k → ¬ p (l.getD j z) = true) : l.any p = decide (k < l.length) := by
  rcases hp with rfl | ⟨hk, hp⟩
  · rw [decide_eq_false (by omega), List.any_eq_false]
    intro x hx
    obtain ⟨j, hj, rfl⟩ := List.getElem_of_mem hx
    have := hn j hj
    rwa [getDz l z j hj] at this
  · rw [decide_eq_true hk, List.any_eq_true]
    rw [getDz l z k hk] at hp
    exact ⟨_, List.getElem_mem hk, hp⟩
theorem rwaits_v (k : Int) : EV G (Tb (bs bb)) 76 [vi k] [] = some (vb (isUs k), []) := by
  refine EV_run rfl ?_
  by_cases h1 : k = 0
  · simp (disch := omega) only [go_sem, h76c]
    simp [isUs, h1]
  · by_cases h2 : k = 2
    · simp (disch := omega) only [go_sem, h76c]
      simp [isUs, h2]
    · simp (disch := omega) only [go_sem, h76c]
      simp [isUs, h1, h2]
def hlP (c k : Int) (g : Gr) : Bool := decide (g.c ≠ c) && decide (g.l > al k)
theorem rheld_v (gs : List Gr) (ws : List Wt) (c k : Int) (hl : gs.length ≤ 100000) : EV G (Tb (bs bb)) 60 [flV gs ws, vi c, vi k] [] = some (vb (held gs c k), []) := by
  refine EV_run rfl ?_
  simp (disch := omega) only [go_sem, h60c]
  rw [EL_fst (fun j => ⟨(jk 1 (vi c :: vi k :: .one (.ptr 0 0) :: jk 3 (vi j :: jk 26 []))), [.box [.dc (.slc (gs.map Gr.e)), .dc (.slc (ws.map Wt.e))]]⟩) (fun j => hlP c k (gs.getD j ⟨0, 0, 0⟩) = true) gs.length ?_ ?_]
  rotate_left
  · rfl
  · intro j hj hn
    have h3 := hn j (Nat.le_refl _)
    rw [getDz gs _ j hj] at h3
    have eg : (gs.map Gr.e)[j]? = some [ci gs[j].c, ci gs[j].l, ci gs[j].t] := by rw [List.getElem?_map, List.getElem?_eq_getElem hj]; rfl
    generalize gs[j] = g at *
    unfold hlP at h3
    by_cases h1 : g.c = c
    · simp (disch := omega) only [go_sem, h60l0, eg, eq_true h1]
    · have h2 : ¬ g.l > al k := by simpa [h1] using h3
      simp (disch := omega) only [go_sem, h60l0, eg, h1, h2, rallows_v]
  obtain ⟨hk, hp, hn⟩ := ix_spec (fun j => hlP c k (gs.getD j ⟨0, 0, 0⟩) = true) gs.length
  generalize ix (fun j => hlP c k (gs.getD j ⟨0, 0, 0⟩) = true) gs.length = j at *
  have e : held gs c k = decide (j < gs.length) := any_ix (hlP c k) gs ⟨0, 0, 0⟩ j hp hn
  rw [e]
  rcases hp with rfl | ⟨hj, hp⟩
  · rw [decide_eq_false (by omega)]
    simp (disch := omega) only [go_sem, h60l0]
  · rw [decide_eq_true hj]
    rw [getDz gs _ j hj] at hp
    have eg : (gs.map Gr.e)[j]? = some [ci gs[j].c, ci gs[j].l, ci gs[j].t] := by rw [List.getElem?_map, List.getElem?_eq_getElem hj]; rfl
    generalize gs[j] = g at *
    unfold hlP at hp
    simp only [Bool.and_eq_true, decide_eq_true_eq] at hp
    obtain ⟨h1, h2⟩ := hp
    simp (disch := omega) only [go_sem, h60l0, eg, h1, h2, rallows_v]
noncomputable def atI (gs : List Gr) (c : Int) : Int := idxG (fun g => decide (g.c = c)) gs ⟨0, 0, 0⟩
noncomputable def wtI (ws : List Wt) (c : Int) : Int := idxG (fun g => decide (g.c = c)) ws ⟨0, 0⟩
theorem atI_in (gs : List Gr) (c : Int) : decide (0 ≤ atI gs c) = isIn gs c := idxG_pos _ _ _
theorem wtI_in (ws : List Wt) (c : Int) : decide (0 ≤ wtI ws c) = isW ws c := idxG_pos _ _ _
theorem rat_v (gs : List Gr) (ws : List Wt) (c : Int) (hl : gs.length ≤ 100000) : EV G (Tb (bs bb)) 33 [flV gs ws, vi c] [] = some (vi (atI gs c), []) := by
  refine EV_run rfl ?_
  simp (disch := omega) only [go_sem, h33c]
  unfold atI idxG
  rw [EL_fst (fun j => ⟨(jk 1 (vi c :: .one (.ptr 0 0) :: jk 2 (vi j :: jk 16 []))), [.box [.dc (.slc (gs.map Gr.e)), .dc (.slc (ws.map Wt.e))]]⟩) (fun j => decide ((gs.getD j ⟨0, 0, 0⟩).c = c) = true) gs.length ?_ ?_]
  rotate_left
  · rfl
  · intro j hj hn
    have h3 := hn j (Nat.le_refl _)
    rw [getDz gs _ j hj] at h3
    have eg : (gs.map Gr.e)[j]? = some [ci gs[j].c, ci gs[j].l, ci gs[j].t] := by rw [List.getElem?_map, List.getElem?_eq_getElem hj]; rfl
    generalize gs[j] = g at *
    have h1 : ¬ g.c = c := by simpa using h3
    simp (disch := omega) only [go_sem, h33l0, eg, h1]
  obtain ⟨hk, hp, hn⟩ := ix_spec (fun j => decide ((gs.getD j ⟨0, 0, 0⟩).c = c) = true) gs.length
  generalize ix (fun j => decide ((gs.getD j ⟨0, 0, 0⟩).c = c) = true) gs.length = j at *
  rcases hp with rfl | ⟨hj, hp⟩
  · rw [if_pos rfl]
    simp (disch := omega) only [go_sem, h33l0]
  · rw [if_neg (by omega)]
    rw [getDz gs _ j hj] at hp
    have eg : (gs.map Gr.e)[j]? = some [ci gs[j].c, ci gs[j].l, ci gs[j].t] := by rw [List.getElem?_map, List.getElem?_eq_getElem hj]; rfl
    generalize gs[j] = g at *
    have h1 : g.c = c := by simpa using hp
    simp (disch := omega) only [go_sem, h33l0, eg, eq_true h1]
theorem rwaiting_v (gs : List Gr) (ws : List Wt) (c : Int) (hl : ws.length ≤ 100000) : EV G (Tb (bs bb)) 122 [flV gs ws, vi c] [] = some (vi (wtI ws c), []) := by
  refine EV_run rfl ?_
  simp (disch := omega) only [go_sem, h122c]
  unfold wtI idxG
  rw [EL_fst (fun j => ⟨(jk 1 (vi c :: .one (.ptr 0 0) :: jk 2 (vi j :: jk 16 []))), [.box [.dc (.slc (gs.map Gr.e)), .dc (.slc (ws.map Wt.e))]]⟩) (fun j => decide ((ws.getD j ⟨0, 0⟩).c = c) = true) ws.length ?_ ?_]
  rotate_left
  · rfl
  · intro j hj hn
    have h3 := hn j (Nat.le_refl _)
    rw [getDz ws _ j hj] at h3
    have eg : (ws.map Wt.e)[j]? = some [ci ws[j].c, ci ws[j].k] := by rw [List.getElem?_map, List.getElem?_eq_getElem hj]; rfl
    generalize ws[j] = g at *
    have h1 : ¬ g.c = c := by simpa using h3
    simp (disch := omega) only [go_sem, h122l0, eg, h1]
  obtain ⟨hk, hp, hn⟩ := ix_spec (fun j => decide ((ws.getD j ⟨0, 0⟩).c = c) = true) ws.length
  generalize ix (fun j => decide ((ws.getD j ⟨0, 0⟩).c = c) = true) ws.length = j at *
  rcases hp with rfl | ⟨hj, hp⟩
  · rw [if_pos rfl]
    simp (disch := omega) only [go_sem, h122l0]
  · rw [if_neg (by omega)]
    rw [getDz ws _ j hj] at hp
    have eg : (ws.map Wt.e)[j]? = some [ci ws[j].c, ci ws[j].k] := by rw [List.getElem?_map, List.getElem?_eq_getElem hj]; rfl
    generalize ws[j] = g at *
    have h1 : g.c = c := by simpa using hp
    simp (disch := omega) only [go_sem, h122l0, eg, eq_true h1]
end
section
variable {G : Glob} {bb : Bool}
def clP (g h : Gr) : Bool := decide (h.c ≠ g.c) && (decide (g.l ≥ 2) && decide (h.l > 0) || decide (g.l = 3))
theorem clP_any (gs : List Gr) (g : Gr) : gs.any (clP g) = clash gs g := by
  unfold clash
  rw [Bool.eq_iff_iff]
  simp only [List.any_eq_true, Bool.or_eq_true, Bool.and_eq_true, decide_eq_true_eq, clP]
  constructor
  · rintro ⟨h, h1, h2, h3 | h3⟩
    · exact .inl ⟨h3.1, h, h1, h2, by omega⟩
    · exact .inr ⟨h3, h, h1, h2⟩
  · rintro (⟨h1, h, h2, h3, h4⟩ | ⟨h1, h, h2, h3⟩)
    · exact ⟨h, h2, h3, .inl ⟨h1, by omega⟩⟩
    · exact ⟨h, h2, h3, .inr h1⟩
theorem gErr_n (gs : List Gr) (i : Nat) (g : Gr) : gErr gs i g = if (isCl g.c && wi g.l 0 3 && wi g.t 0 g.l) = false then 2 else if (decide (i = 0) || decide ((gs.getD (i - 1) ⟨0, 0, 0⟩).c < g.c)) = false then 9 else if (decide (g.l ≠ 1) || decide (g.t = g.l)) = false then 20 else if clash gs g = true then 13 else 0 := by
  rw [gErr_e]
  generalize (isCl g.c && wi g.l 0 3 && wi g.t 0 g.l) = a
  generalize (decide (i = 0) || decide ((gs.getD (i - 1) ⟨0, 0, 0⟩).c < g.c)) = b
  generalize (decide (g.l ≠ 1) || decide (g.t = g.l)) = c
  generalize clash gs g = d
  cases a <;> cases b <;> cases c <;> cases d <;> rfl
theorem wErr_n (gs : List Gr) (ws : List Wt) (i : Nat) (a : Wt) : wErr gs ws i a = if isCl a.c = false then 2 else if isUs a.k = false then 15 else if isW (ws.take i) a.c = true then 23 else if (decide (a.k ≠ 0) || !isIn gs a.c) = false then 5 else if (decide (a.k = 0) || isIn gs a.c) = false then 6 else 0 := by
  rw [show wErr gs ws i a = firstE [ifE (isCl a.c) 2, ifE (isUs a.k) 15, ifE (!isW (ws.take i) a.c) 23, ifE (decide (a.k ≠ 0) || !isIn gs a.c) 5, ifE (decide (a.k = 0) || isIn gs a.c) 6] from rfl]
  generalize (decide (a.k ≠ 0) || !isIn gs a.c) = x
  generalize (decide (a.k = 0) || isIn gs a.c) = y
  generalize isCl a.c = p
  generalize isUs a.k = q
  generalize isW (ws.take i) a.c = r
  cases p <;> cases q <;> cases r <;> cases x <;> cases y <;> rfl
def geS (gs : List Gr) (ws : List Wt) (g : Gr) (j : Nat) : AS := ⟨(jk 2 (.one (.ptr 0 0) :: jk 2 (.one (.ptr 1 0) :: vi j :: jk 82 []))), [.box [.dc (.slc (gs.map Gr.e)), .dc (.slc (ws.map Wt.e))], .box [.dc (ci g.c), .dc (ci g.l), .dc (ci g.t)]]⟩
theorem ge_out (gs : List Gr) (ws : List Wt) (g : Gr) (hl : gs.length ≤ 100000) {st : AS} (h0 : st = geS gs ws g 0) :
    retZ false [RetV.tmp 4] 0 (sqK (EV G (Tb (bs bb))) G ((HC.region [Oo 4 (AI.mov (Ki 0))]).seq HC.ret) (blkK 0 (EL (EV G (Tb (bs bb))) G h57l0 [2, 2, 0] 2 st))) = some (vi (if clash gs g = true then 13 else 0), []) := by
  subst h0
  rw [← clP_any]
  rw [EL_fst (fun j => geS gs ws g j) (fun j => clP g (gs.getD j ⟨0, 0, 0⟩) = true) gs.length rfl ?_]
  rotate_left
  · intro j hj hn
    have h3 := hn j (Nat.le_refl _)
    rw [getDz gs _ j hj] at h3
    have eg : (gs.map Gr.e)[j]? = some [ci gs[j].c, ci gs[j].l, ci gs[j].t] := by rw [List.getElem?_map, List.getElem?_eq_getElem hj]; rfl
    generalize gs[j] = h at *
    unfold clP at h3
    unfold geS
    by_cases h1 : h.c = g.c
    · simp (disch := omega) only [go_sem, h57l0, eg, eq_true h1]
    · by_cases h2 : g.l ≥ 2
      · by_cases h4 : h.l > 0
        · simp [h1, h2, h4] at h3
        · have h5 : ¬ g.l = 3 := by simpa [h1, h2, h4] using h3
          simp (disch := omega) only [go_sem, h57l0, eg, h1, h2, h4, h5]
      · have h5 : ¬ g.l = 3 := by omega
        simp (disch := omega) only [go_sem, h57l0, eg, h1, h2, h5]
  obtain ⟨hk, hp, hn⟩ := ix_spec (fun j => clP g (gs.getD j ⟨0, 0, 0⟩) = true) gs.length
  generalize ix (fun j => clP g (gs.getD j ⟨0, 0, 0⟩) = true) gs.length = j at *
  rw [any_ix (clP g) gs ⟨0, 0, 0⟩ j hp hn]
  unfold geS
  rcases hp with rfl | ⟨hj, hp⟩
  · rw [if_neg (by simp)]
    simp (disch := omega) only [go_sem, h57l0]
  · rw [if_pos (by simpa using hj)]
    rw [getDz gs _ j hj] at hp
    have eg : (gs.map Gr.e)[j]? = some [ci gs[j].c, ci gs[j].l, ci gs[j].t] := by rw [List.getElem?_map, List.getElem?_eq_getElem hj]; rfl
    generalize gs[j] = h at *
    unfold clP at hp
    simp only [Bool.and_eq_true, Bool.or_eq_true, decide_eq_true_eq] at hp
    obtain ⟨h1, h2⟩ := hp
    by_cases h3 : g.l ≥ 2
    · by_cases h4 : h.l > 0
      · simp (disch := omega) only [go_sem, h57l0, eg, h1, h3, h4]
      · have h5 : g.l = 3 := by omega
        simp (disch := omega) only [go_sem, h57l0, eg, h1, h3, h4, eq_true h5]
    · omega
set_option maxHeartbeats 4000000 in
theorem rgrantErr_v (gs : List Gr) (ws : List Wt) (i : Nat) (hi : i < gs.length) (hl : gs.length ≤ 100000) : EV G (Tb (bs bb)) 57 [flV gs ws, vi i] [] = some (vi (gErr gs i gs[i]), []) := by
  refine EV_run rfl ?_
  have eg : (gs.map Gr.e)[i]? = some [ci gs[i].c, ci gs[i].l, ci gs[i].t] := by rw [List.getElem?_map, List.getElem?_eq_getElem hi]; rfl
  have hi1 : i - 1 < gs.length := by omega
  have eg1 : (gs.map Gr.e)[i - 1]? = some [ci gs[i-1].c, ci gs[i-1].l, ci gs[i-1].t] := by rw [List.getElem?_map, List.getElem?_eq_getElem hi1]; rfl
  rw [gErr_n, grAt gs (i - 1) hi1]
  generalize gs[i] = g at *
  generalize gs[i - 1] = g1 at *
  have fin := fun st h0 => ge_out (G := G) (bb := bb) gs ws g hl (st := st) h0
  unfold geS at fin
  cases c1 : isCl g.c with
  | false =>
    rw [if_pos (by simp)]
    simp (disch := omega) only [go_sem, h57c, eg, rclient_v, rwithin_v, c1]
  | true =>
    cases c2 : wi g.l 0 3 with
    | false =>
      rw [if_pos (by simp)]
      simp (disch := omega) only [go_sem, h57c, eg, rclient_v, rwithin_v, c1, c2]
    | true =>
      cases c3 : wi g.t 0 g.l with
      | false =>
        rw [if_pos (by simp)]
        simp (disch := omega) only [go_sem, h57c, eg, rclient_v, rwithin_v, c1, c2, c3]
      | true =>
        rw [if_neg (by simp)]
        rcases Nat.eq_zero_or_pos i with rfl | h0
        · rw [if_neg (by simp)]
          by_cases k1 : g.l = 1
          · by_cases k2 : g.t = g.l
            · rw [if_neg (by simp [k2])]
              simp (disch := omega) only [go_sem, h57c, eg, rclient_v, rwithin_v, c1, c2, c3, eq_true k1, eq_true k2]
              exact fin _ rfl
            · rw [if_pos (by simp [k1, k2]; omega)]
              simp (disch := omega) only [go_sem, h57c, eg, rclient_v, rwithin_v, c1, c2, c3, eq_true k1, k2]
          · rw [if_neg (by simp [k1])]
            simp (disch := omega) only [go_sem, h57c, eg, rclient_v, rwithin_v, c1, c2, c3, k1]
            exact fin _ rfl
        · have hi0 : (i : Int) > 0 := by omega
          have et : ((i : Int) - 1).toNat = i - 1 := by omega
          by_cases k0 : g1.c < g.c
          · have k0' : ¬ g.c ≤ g1.c := by omega
            rw [if_neg (by simp [k0])]
            by_cases k1 : g.l = 1
            · by_cases k2 : g.t = g.l
              · rw [if_neg (by simp [k2])]
                simp (disch := omega) only [go_sem, h57c, eg, eg1, et, hi0, k0', rclient_v, rwithin_v, c1, c2, c3, eq_true k1, eq_true k2]
                exact fin _ rfl
              · rw [if_pos (by simp [k1, k2]; omega)]
                simp (disch := omega) only [go_sem, h57c, eg, eg1, et, hi0, k0', rclient_v, rwithin_v, c1, c2, c3, eq_true k1, k2]
            · rw [if_neg (by simp [k1])]
              simp (disch := omega) only [go_sem, h57c, eg, eg1, et, hi0, k0', rclient_v, rwithin_v, c1, c2, c3, k1]
              exact fin _ rfl
          · have k0' : g.c ≤ g1.c := by omega
            rw [if_pos (by simp; omega)]
            simp (disch := omega) only [go_sem, h57c, eg, eg1, et, hi0, k0', rclient_v, rwithin_v, c1, c2, c3]
end
section
variable {G : Glob} {bb : Bool}
theorem wtI_lt (ws : List Wt) (i : Nat) (hi : i < ws.length) : decide (wtI ws ws[i].c < i) = isW (ws.take i) ws[i].c := by
  unfold wtI idxG
  obtain ⟨hk, hp, hn⟩ := ix_spec (fun j => decide ((ws.getD j ⟨0, 0⟩).c = ws[i].c) = true) ws.length
  generalize ix (fun j => decide ((ws.getD j ⟨0, 0⟩).c = ws[i].c) = true) ws.length = k at *
  have hni : k ≤ i := by
    apply Classical.byContradiction
    intro h
    have := hn i (by omega)
    rw [getDz ws _ i hi] at this
    simp at this
  rw [if_neg (by omega)]
  rcases hp with hp | ⟨hk', hp⟩
  · omega
  rw [getDz ws _ k hk', decide_eq_true_eq] at hp
  rw [Bool.eq_iff_iff, decide_eq_true_eq]
  constructor
  · intro h
    unfold isW
    rw [List.any_eq_true]
    exact ⟨ws[k], List.mem_take_iff_getElem.2 ⟨k, by omega, rfl⟩, by simpa using hp⟩
  · intro h
    unfold isW at h
    rw [List.any_eq_true] at h
    obtain ⟨w, hw, h2⟩ := h
    obtain ⟨j, hj, rfl⟩ := List.mem_take_iff_getElem.1 hw
    have : ¬ j < k := fun hjk => by
      have := hn j hjk
      rw [getDz ws _ j (by omega)] at this
      exact this h2
    omega
set_option maxHeartbeats 4000000 in
theorem rwaitErr_v (gs : List Gr) (ws : List Wt) (i : Nat) (hi : i < ws.length) (hg : gs.length ≤ 100000) (hl : ws.length ≤ 100000) : EV G (Tb (bs bb)) 58 [flV gs ws, vi i] [] = some (vi (wErr gs ws i ws[i]), []) := by
  refine EV_run rfl ?_
  have eg : (ws.map Wt.e)[i]? = some [ci ws[i].c, ci ws[i].k] := by rw [List.getElem?_map, List.getElem?_eq_getElem hi]; rfl
  have h3 := wtI_lt ws i hi
  have q1 := rat_v (G := G) (bb := bb) gs ws ws[i].c hg
  have q2 := rwaiting_v (G := G) (bb := bb) gs ws ws[i].c hl
  have h4 := atI_in gs ws[i].c
  rw [wErr_n]
  generalize ws[i] = a at *
  cases c1 : isCl a.c with
  | false =>
    rw [if_pos (by simp)]
    simp (disch := omega) only [go_sem, h58c, eg, rclient_v, c1]
  | true =>
    rw [if_neg (by simp)]
    cases c2 : isUs a.k with
    | false =>
      rw [if_pos (by simp)]
      simp (disch := omega) only [go_sem, h58c, eg, rclient_v, rwaits_v, c1, c2]
    | true =>
      rw [if_neg (by simp)]
      by_cases c3 : wtI ws a.c < i
      · rw [decide_eq_true c3] at h3
        rw [if_pos h3.symm]
        simp (disch := omega) only [go_sem, h58c, eg, rclient_v, rwaits_v, c1, c2, q2, c3]
      · rw [decide_eq_false c3] at h3
        rw [if_neg (by rw [← h3]; simp)]
        by_cases c4 : 0 ≤ atI gs a.c
        · rw [decide_eq_true c4] at h4
          have c4' : ¬ atI gs a.c < 0 := by omega
          by_cases k0 : a.k = 0
          · rw [if_pos (by simp [k0, ← h4])]
            simp (disch := omega) only [go_sem, h58c, eg, rclient_v, rwaits_v, c1, c2, q1, q2, c3, eq_true k0, c4, ge_iff_le]
          · rw [if_neg (by simp [k0]), if_neg (by simp [← h4])]
            simp (disch := omega) only [go_sem, h58c, eg, rclient_v, rwaits_v, c1, c2, q1, q2, c3, k0, c4']
        · rw [decide_eq_false c4] at h4
          have c4' : atI gs a.c < 0 := by omega
          by_cases k0 : a.k = 0
          · rw [if_neg (by simp [← h4]), if_neg (by simp [k0])]
            simp (disch := omega) only [go_sem, h58c, eg, rclient_v, rwaits_v, c1, c2, q1, q2, c3, eq_true k0, c4, ge_iff_le]
          · rw [if_neg (by simp [k0]), if_pos (by simp [k0, ← h4])]
            simp (disch := omega) only [go_sem, h58c, eg, rclient_v, rwaits_v, c1, c2, q1, q2, c3, k0, c4']
abbrev rfB (gs : List Gr) (ws : List Wt) : AObj := .box [.dc (.slc (gs.map Gr.e)), .dc (.slc (ws.map Wt.e))]
set_option maxHeartbeats 4000000 in
theorem rcheck_v (gs : List Gr) (ws : List Wt) (hg : gs.length ≤ 100000) (hw : ws.length ≤ 100000) : EV G (Tb (bs bb)) 14 [flV gs ws] [] = some (twoI (chk gs ws), []) := by
  refine EV_run rfl ?_
  unfold chk
  by_cases h1 : gs.length > 8
  · rw [if_pos (.inl h1)]
    simp (disch := omega) only [go_sem, h14c, h1]
    try rfl
  by_cases h2 : ws.length > 8
  · rw [if_pos (.inr h2)]
    simp (disch := omega) only [go_sem, h14c, h1, h2]
    try rfl
  rw [if_neg (by omega)]
  simp (disch := omega) only [go_sem, h14c, h1, h2]
  rw [EL_fst (fun j => ⟨(jk 1 (.one (.ptr 0 0) :: jk 2 (vi j :: jk 73 []))), [rfB gs ws]⟩) (fun j => gErr gs j (gs.getD j ⟨0, 0, 0⟩) ≠ 0) gs.length ?_ ?_]
  rotate_left
  · rfl
  · intro j hj hn
    have h3 := hn j (Nat.le_refl _)
    rw [grAt gs j hj] at h3
    have h4 : gErr gs j gs[j] = 0 := Classical.not_not.1 h3
    have q := rgrantErr_v (G := G) (bb := bb) gs ws j hj hg
    rw [h4] at q
    simp (disch := omega) only [go_sem, h14l0, q]
  obtain ⟨hk, hp, hn⟩ := ix_spec (fun j => gErr gs j (gs.getD j ⟨0, 0, 0⟩) ≠ 0) gs.length
  generalize ix (fun j => gErr gs j (gs.getD j ⟨0, 0, 0⟩) ≠ 0) gs.length = j at *
  have e1 : eachE 0 (gErrs gs) = if j = gs.length then (0, 0) else ((j : Int), gErr gs j (gs.getD j ⟨0, 0, 0⟩)) := each_r (fun j => gErr gs j (gs.getD j ⟨0, 0, 0⟩)) gs.length j hn hp
  rcases hp with rfl | ⟨hj, hp⟩
  rotate_left
  · rw [if_neg (show ¬ j = gs.length by omega), grAt gs j hj] at e1
    rw [e1]
    have q := rgrantErr_v (G := G) (bb := bb) gs ws j hj hg
    rw [grAt gs j hj] at hp
    rw [if_pos hp]
    simp (disch := omega) only [go_sem, h14l0, q, hp]
  rw [if_pos rfl] at e1
  rw [e1, if_neg (by simp)]
  simp (disch := omega) only [go_sem, h14l0]
  rw [EL_fst (fun j => ⟨(jk 1 (.one (.ptr 0 0) :: jk 4 (vi j :: jk 71 []))), [rfB gs ws]⟩) (fun j => wErr gs ws j (ws.getD j ⟨0, 0⟩) ≠ 0) ws.length ?_ ?_]
  rotate_left
  · rfl
  · intro j hj hn
    have h3 := hn j (Nat.le_refl _)
    rw [wtAt ws j hj] at h3
    have h4 : wErr gs ws j ws[j] = 0 := Classical.not_not.1 h3
    have q := rwaitErr_v (G := G) (bb := bb) gs ws j hj hg hw
    rw [h4] at q
    simp (disch := omega) only [go_sem, h14l1, q]
  obtain ⟨hk, hp, hn⟩ := ix_spec (fun j => wErr gs ws j (ws.getD j ⟨0, 0⟩) ≠ 0) ws.length
  generalize ix (fun j => wErr gs ws j (ws.getD j ⟨0, 0⟩) ≠ 0) ws.length = j at *
  have e1 : eachE 0 (wErrs gs ws) = if j = ws.length then (0, 0) else ((j : Int), wErr gs ws j (ws.getD j ⟨0, 0⟩)) := each_r (fun j => wErr gs ws j (ws.getD j ⟨0, 0⟩)) ws.length j hn hp
  rcases hp with rfl | ⟨hj, hp⟩
  rotate_left
  · rw [if_neg (show ¬ j = ws.length by omega), wtAt ws j hj] at e1
    rw [e1]
    have q := rwaitErr_v (G := G) (bb := bb) gs ws j hj hg hw
    rw [wtAt ws j hj] at hp
    rw [if_pos hp]
    simp (disch := omega) only [go_sem, h14l1, q, hp]
  rw [if_pos rfl] at e1
  rw [e1, if_neg (by simp)]
  cases ws with
  | nil =>
    show _ = some (twoI (0, 0), [])
    have hn : ¬ (([] : List Wt).length : Int) > 0 := by simp
    generalize ([] : List Wt) = W at *
    simp (disch := omega) only [go_sem, h14l1, hn]
    try rfl
  | cons w ws =>
    show _ = some (twoI (0, ifE (decide ((brBs gs w.c w.k).length = 0) && held (brGs gs w.c w.k) w.c w.k) 20), [])
    have e0 : ((w :: ws).map Wt.e)[0]? = some [ci w.c, ci w.k] := rfl
    have hn0 : ((w :: ws).length : Int) > 0 := by simp
    have q1 := rbroken_v (G := G) (bb := bb) gs (w :: ws) w.c w.k hg hw
    have q2 := rheld_v (G := G) (bb := bb) gs (w :: ws) w.c w.k hg
    generalize w :: ws = W at *
    by_cases hb : (brBs gs w.c w.k).length = 0
    · have hb' : ¬ ((brBs gs w.c w.k).length : Int) > 0 := by omega
      rw [brGs_no (List.length_eq_zero_iff.1 hb), decide_eq_true hb]
      cases hh : held gs w.c w.k with
      | true =>
        rw [hh] at q2
        simp (disch := omega) only [go_sem, h14l1, hn0, e0, q1, q2, hb', brkH]
        try rfl
      | false =>
        rw [hh] at q2
        simp (disch := omega) only [go_sem, h14l1, hn0, e0, q1, q2, hb', brkH]
        try rfl
    · have hb' : ((brBs gs w.c w.k).length : Int) > 0 := by omega
      rw [decide_eq_false hb]
      simp (disch := omega) only [go_sem, h14l1, hn0, e0, q1, hb', brkH]
      try rfl
theorem rerr_v (gs : List Gr) (ws : List Wt) (hg : gs.length ≤ 100000) (hw : ws.length ≤ 100000) : EV G (Tb (bs bb)) 30 [flV gs ws] [] = some (vi (chk gs ws).2, []) := by
  refine EV_run rfl ?_
  have q := rcheck_v (G := G) (bb := bb) gs ws hg hw
  simp (disch := omega) only [go_sem, h30c, q]
end
section
variable {G : Glob} {bb : Bool}
theorem usErr_n (gs : List Gr) (ws : List Wt) (a : Ac) : usErr gs ws a = if wi a.k 0 5 = false then 15 else if (isCl a.c && lvOK a) = false then 2 else if isW ws a.c = true then 18 else if (decide (a.k ≠ 0) || !isIn gs a.c) = false then 5 else if (decide (a.k = 0) || isIn gs a.c) = false then 6 else 0 := by
  unfold usErr wi
  cases decide (0 ≤ a.k ∧ a.k ≤ 5) <;> cases isCl a.c && lvOK a <;> cases isW ws a.c <;> cases decide (a.k ≠ 0) || !isIn gs a.c <;> cases decide (a.k = 0) || isIn gs a.c <;> rfl
def fmE (a : Ac) : Int := if wi a.k 0 5 = false then 15 else if (isCl a.c && lvOK a) = false then 2 else 0
theorem rform_v (a : Ac) : EV G (Tb (bs bb)) 180 [a.v] [] = some (vi (fmE a), []) := by
  refine EV_run rfl ?_
  unfold fmE
  cases h1 : wi a.k 0 5 with
  | false =>
    simp (disch := omega) only [go_sem, h180c, rwithin_v, h1]
    try rfl
  | true =>
    cases h2 : isCl a.c with
    | false =>
      by_cases h3 : a.k = 1
      · simp (disch := omega) only [go_sem, h180c, rwithin_v, rclient_v, h1, h2, eq_true h3]
        try rfl
      · simp (disch := omega) only [go_sem, h180c, rwithin_v, rclient_v, h1, h2, h3]
        try rfl
    | true =>
      unfold lvOK
      by_cases h3 : a.k = 1
      · rw [if_pos h3]
        have e : decide (1 ≤ a.l ∧ a.l ≤ 3) = wi a.l 1 3 := rfl
        rw [e]
        cases h4 : wi a.l 1 3 with
        | false =>
          simp (disch := omega) only [go_sem, h180c, rwithin_v, rclient_v, h1, h2, eq_true h3, h4]
          try rfl
        | true =>
          simp (disch := omega) only [go_sem, h180c, rwithin_v, rclient_v, h1, h2, eq_true h3, h4]
          try rfl
      · rw [if_neg h3]
        by_cases h4 : a.l = 0
        · rw [decide_eq_true h4]
          simp (disch := omega) only [go_sem, h180c, rwithin_v, rclient_v, h1, h2, h3, eq_true h4]
          try rfl
        · rw [decide_eq_false h4]
          simp (disch := omega) only [go_sem, h180c, rwithin_v, rclient_v, h1, h2, h3, h4]
          try rfl
theorem rpresent_v (gs : List Gr) (ws : List Wt) (a : Ac) (hl : gs.length ≤ 100000) (hw : ws.length ≤ 100000) : EV G (Tb (bs bb)) 134 [flV gs ws, a.v] [] = some (vi (usErr gs ws a), []) := by
  refine EV_run rfl ?_
  have q1 := rform_v (G := G) (bb := bb) a
  have q2 := rwaiting_v (G := G) (bb := bb) gs ws a.c hw
  have q3 := rat_v (G := G) (bb := bb) gs ws a.c hl
  have e1 := wtI_in ws a.c
  have e2 := atI_in gs a.c
  rw [usErr_n]
  by_cases h0 : fmE a = 0
  · have h1 : wi a.k 0 5 = true ∧ (isCl a.c && lvOK a) = true := by
      unfold fmE at h0
      cases h1 : wi a.k 0 5 <;> cases h2 : isCl a.c && lvOK a <;> simp [h1, h2] at h0 <;> simp
    rw [h0] at q1
    rw [h1.1, h1.2, if_neg (by simp), if_neg (by simp)]
    rw [← e1, ← e2]
    generalize wtI ws a.c = w at *
    generalize atI gs a.c = i at *
    by_cases hw0 : w ≥ 0
    · rw [if_pos (by simpa using hw0)]
      simp (disch := omega) only [go_sem, h134c, q1, q2, q3, hw0]
      try rfl
    · rw [if_neg (by simpa using hw0)]
      by_cases hk : a.k = 0
      · by_cases hi : i ≥ 0
        · have hi' : ¬ i < 0 := by omega
          have hi2 : decide (0 ≤ i) = true := by simpa using hi
          rw [hi2, if_pos (by simp [hk])]
          simp (disch := omega) only [go_sem, h134c, q1, q2, q3, hw0, eq_true hk, hi, hi']
          try rfl
        · have hi' : i < 0 := by omega
          have hi2 : decide (0 ≤ i) = false := by simpa using hi
          rw [hi2, if_neg (by simp), if_neg (by simp [hk])]
          simp (disch := omega) only [go_sem, h134c, q1, q2, q3, hw0, eq_true hk, hi, hi']
          try rfl
      · by_cases hi : i ≥ 0
        · have hi' : ¬ i < 0 := by omega
          have hi2 : decide (0 ≤ i) = true := by simpa using hi
          rw [hi2, if_neg (by simp [hk]), if_neg (by simp)]
          simp (disch := omega) only [go_sem, h134c, q1, q2, q3, hw0, hk, hi, hi']
          try rfl
        · have hi' : i < 0 := by omega
          have hi2 : decide (0 ≤ i) = false := by simpa using hi
          rw [hi2, if_neg (by simp), if_pos (by simp [hk])]
          simp (disch := omega) only [go_sem, h134c, q1, q2, q3, hw0, hk, hi, hi']
          try rfl
  · have h1 : (if wi a.k 0 5 = false then (15 : Int) else if (isCl a.c && lvOK a) = false then 2 else if isW ws a.c = true then 18 else if (decide (a.k ≠ 0) || !isIn gs a.c) = false then 5 else if (decide (a.k = 0) || isIn gs a.c) = false then 6 else 0) = fmE a := by
      unfold fmE at h0 ⊢
      cases h1 : wi a.k 0 5 <;> cases h2 : isCl a.c && lvOK a <;> simp [h1, h2] at h0 ⊢
    rw [h1]
    simp (disch := omega) only [go_sem, h134c, q1, h0]
    try rfl
end
end Go.Proofs.YtinageiefahjfaaGreatDoor
