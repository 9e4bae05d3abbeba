/- The reference: Step of requests. Conditions: none. -/
import Derived.Test.YtinageiefahjfaaGreatDoorSg
import Derived.Test.YtinageiefahjfaaGreatDoorUt
namespace Go.Proofs.YtinageiefahjfaaGreatDoor
set_option linter.unusedSimpArgs false
set_option linter.unusedVariables false
set_option maxRecDepth 4000
section
variable {G : Glob} {bb : Bool}
theorem ready_v (gs : List Gr) (ws : List Wt) (hl : gs.length ≤ 100000) : EV G (Tb (bs bb)) 77 [.one (.ptr 0 0)] (fileH gs ws) = some (vl ((rdy gs).map ci0), fileH gs ws) := by
  refine EV_run rfl ?_
  simp (disch := omega) only [go_sem, h77c, List.take_length]
  rw [EL_loop (fun j => ⟨(jk 3 (.one (.bld 3 (rdyK gs j).length) :: jk 6 (.one (.bld 1 gs.length) :: vi gs.length :: vi j :: jk 15 []))), fileH gs ws ++ [.arr 0 1 ((rdyK gs j).map ci0)]⟩) gs.length ?_ ?_]
  rotate_left
  · rfl
  · intro j hj
    have eg : (gs.map Gr.e)[j]? = some [ci gs[j].c, ci gs[j].l, ci gs[j].t] := by rw [List.getElem?_map, List.getElem?_eq_getElem hj]; rfl
    rw [rdyK_s gs j hj]
    have ln := rdyK_len gs j
    generalize rdyK gs j = R at *
    generalize gs[j] = g at *
    by_cases h1 : g.t = g.l
    · rw [if_neg (by simp [h1]), List.append_nil]
      simp (disch := omega) only [go_sem, h77l0, eg, eq_true h1]
    · rw [if_pos h1]
      have tk : List.take R.length (R.map ci0) = R.map ci0 := List.take_of_length_le (by simp)
      simp (disch := omega) only [go_sem, h77l0, eg, h1, tk, List.map_append, List.map_cons, List.map_nil, List.length_append, List.length_cons, List.length_nil, ci0]
  rw [rdyK_all]
  have tk : List.take (rdy gs).length ((rdy gs).map ci0) = (rdy gs).map ci0 := List.take_of_length_le (by simp)
  simp (disch := omega) only [go_sem, h77l0, tk]
theorem readyIn_v (hG : G 0 = some alD) (gs : List Gr) (ws : List Wt) (hg : gs.length ≤ 100000) (hw : ws.length ≤ 100000) :
    EV G (Tb (bs bb)) 27 [flV gs ws] [] = some (.tup [.one (.dc (.slc (if (chk gs ws).2 = 0 then (rdy gs).map ci0 else []))), .one (.dc (ci (chk gs ws).2))], []) := by
  refine EV_run rfl ?_
  by_cases h : (chk gs ws).2 = 0
  · rw [if_pos h, h]
    have q := open_y (bb := bb) hG gs ws hg hw h
    have q1 := ready_v (G := G) (bb := bb) gs ws hg
    simp (disch := omega) only [go_sem, h27c, q, q1, evJ_3]
    try rfl
  · rw [if_neg h]
    have q := open_n (bb := bb) hG gs ws hg hw h
    simp (disch := omega) only [go_sem, h27c, q, h]
    try rfl
def mcF (gs : List Gr) (ws : List Wt) (c : Int) : Int × Int := if (chk gs ws).2 = 0 then (if isIn gs c = true then ((grE gs c).l, 0) else (0, 6)) else (0, (chk gs ws).2)
theorem mayCache_v (hG : G 0 = some alD) (gs : List Gr) (ws : List Wt) (c : Int) (hg : gs.length ≤ 100000) (hw : ws.length ≤ 100000) :
    EV G (Tb (bs bb)) 28 [flV gs ws, vi c] [] = some (twoI (mcF gs ws c), []) := by
  refine EV_run rfl ?_
  unfold mcF
  by_cases h : (chk gs ws).2 = 0
  · rw [if_pos h]
    have q := open_y (bb := bb) hG gs ws hg hw h
    have hs := (chk_ok h).1.so
    cases hi : isIn gs c with
    | true =>
      rw [if_pos rfl]
      have q1 := grant_oy (G := G) (bb := bb) ws hs hg c hi
      obtain ⟨hk, he⟩ := (isIn_iff hs c).1 hi
      have eg : (gs.map Gr.e)[pos gs c]? = some [ci (grE gs c).c, ci (grE gs c).l, ci (grE gs c).t] := by rw [List.getElem?_map, List.getElem?_eq_getElem hk, grE, grAt gs _ hk]; rfl
      generalize grE gs c = g at *
      simp (disch := omega) only [go_sem, h28c, q, q1, evJ_3, eg]
      try rfl
    | false =>
      rw [if_neg (by simp)]
      have q1 := grant_on (G := G) (bb := bb) ws hs hg c hi
      simp (disch := omega) only [go_sem, h28c, q, q1, evJ_3]
      try rfl
  · rw [if_neg h]
    have q := open_n (bb := bb) hG gs ws hg hw h
    simp (disch := omega) only [go_sem, h28c, q, h]
    try rfl
def iqF (gs : List Gr) (ws : List Wt) : Bool := decide ((rdy gs).length = 0 ∧ ws.length = 0)
theorem isQuiet_v (hG : G 0 = some alD) (gs : List Gr) (ws : List Wt) (hg : gs.length ≤ 100000) (hw : ws.length ≤ 100000) :
    EV G (Tb (bs bb)) 29 [flV gs ws] [] = some (.tup [.one (.dc (.raw (.bool (if (chk gs ws).2 = 0 then iqF gs ws else false)))), .one (.dc (ci (chk gs ws).2))], []) := by
  refine EV_run rfl ?_
  by_cases h : (chk gs ws).2 = 0
  · rw [if_pos h, h]
    have q := open_y (bb := bb) hG gs ws hg hw h
    have q1 := ready_v (G := G) (bb := bb) gs ws hg
    unfold iqF
    by_cases h1 : (rdy gs).length = 0
    · have h1' : ((rdy gs).length : Int) = 0 := by omega
      by_cases h2 : ws.length = 0
      · have h2' : (ws.length : Int) = 0 := by omega
        rw [decide_eq_true ⟨h1, h2⟩]
        simp (disch := omega) only [go_sem, h29c, q, q1, evJ_3, eq_true h1', eq_true h2']
        try rfl
      · have h2' : ¬ (ws.length : Int) = 0 := by omega
        rw [decide_eq_false (fun h => h2 h.2)]
        simp (disch := omega) only [go_sem, h29c, q, q1, evJ_3, eq_true h1', h2']
        try rfl
    · have h1' : ¬ ((rdy gs).length : Int) = 0 := by omega
      rw [decide_eq_false (fun h => h1 h.1)]
      simp (disch := omega) only [go_sem, h29c, q, q1, evJ_3, h1']
      try rfl
  · rw [if_neg h]
    have q := open_n (bb := bb) hG gs ws hg hw h
    simp (disch := omega) only [go_sem, h29c, q, h]
    try rfl
end
section
variable {G : Glob} {bb : Bool}
set_option maxHeartbeats 4000000 in
theorem rstep_1 (gs : List Gr) (ws : List Wt) (a : Ac) (hs : Srt gs) (hi : isIn gs a.c = true) (hl : gs.length ≤ 1000) (hw : ws.length ≤ 1000) (k1 : a.k = 1) :
    EV G (Tb (bs bb)) 74 [flV gs ws, a.v] [] = some (rspV (reqG gs a.c a.l, ws, ⟨true, [], []⟩), []) := by
  refine EV_run rfl ?_
  have q := rcopy_v (G := G) (bb := bb) gs ws (by omega) (by omega)
  have q3 := rat_v (G := G) (bb := bb) gs ws a.c (by omega)
  have q4 := rwaits_v (G := G) (bb := bb) a.k
  have hu : isUs a.k = false := by unfold isUs; simp; omega
  rw [hu] at q4
  rw [at_pos hs hi] at q3
  obtain ⟨hp, he⟩ := (isIn_iff hs a.c).1 hi
  have eg : (gs.map Gr.e)[pos gs a.c]? = some [ci (grE gs a.c).c, ci (grE gs a.c).l, ci (grE gs a.c).t] := by rw [List.getElem?_map, List.getElem?_eq_getElem hp, grE, grAt gs _ hp]; rfl
  have hp' : pos gs a.c < (gs.map Gr.e).length := by simpa using hp
  have e1 := fun x => set_get (x := x) hp'
  have tk : List.take gs.length ((gs.map Gr.e).set (pos gs a.c) [ci (grE gs a.c).c, ci a.l, ci a.l]) = (gs.map Gr.e).set (pos gs a.c) [ci (grE gs a.c).c, ci a.l, ci a.l] := List.take_of_length_le (by simp)
  simp only [rspV, req_map]
  simp (maxSteps := 1000000) (disch := omega) only [go_sem, h74c, q, q3, q4, eq_true k1, eg, e1, meetE_e, List.set_set, List.length_set, List.take_length, tk]
  rw [fvT_b (by rfl) (by simp)]
  simp (disch := omega) only [go_sem]
  rw [fvT_b (by rfl) (by simp)]
  simp (disch := omega) only [go_sem, tk, List.take_length, List.length_set]
  try rfl
end
end Go.Proofs.YtinageiefahjfaaGreatDoor
