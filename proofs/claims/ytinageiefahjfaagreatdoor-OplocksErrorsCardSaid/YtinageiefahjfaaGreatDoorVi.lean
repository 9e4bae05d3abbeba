/- Caches: their cells. Conditions: none. -/
import Derived.Test.YtinageiefahjfaaGreatDoorUp
import Derived.Test.YtinageiefahjfaaGreatDoorVd
namespace Go.Proofs.YtinageiefahjfaaGreatDoor
section
set_option maxRecDepth 4000
set_option linter.unusedSimpArgs false
set_option linter.unusedVariables false
variable {G : Glob} {bb : Bool}
theorem bneft : (false != true) = true := rfl
theorem bnett : (true != true) = false := rfl
theorem acErr_e (gs : List Gr) (ws : List Wt) (a : Ac) (h : usErr gs ws a = 0) : acErr gs ws a = if isIn gs a.c = true ∧ wrong (grE gs a.c) a = true then 20 else if a.k = 1 ∧ mayH gs ws a = false then 24 else if isUs a.k = true ∧ ws.length = 8 then 16 else 0 := by
  unfold acErr
  rw [if_neg (by omega)]
set_option maxHeartbeats 4000000 in
theorem actErr_v (gs : List Gr) (ws : List Wt) (hs : Srt gs) (a : Ac) (hg : gs.length ≤ 100000) (hl : ws.length ≤ 100000) : EV G (Tb (bs bb)) 63 [flR gs ws, a.v] [] = some (vi (acErr gs ws a), []) := by
  refine EV_run rfl ?_
  have q := usualErr_v (G := G) (bb := bb) gs ws hs a hg hl
  have q1 := mayHave_v (G := G) (bb := bb) gs ws a hg
  by_cases hu : usErr gs ws a = 0
  · rw [acErr_e gs ws a hu]
    rw [hu] at q
    have e8 : ((ws.length : Int) = 8) = (ws.length = 8) := propext ⟨by omega, by omega⟩
    cases h : isIn gs a.c with
    | true =>
      have g1 := grant_y (G := G) (bb := bb) ws hs hg a.c h
      generalize grE gs a.c = g at *
      have hw : wrong g a = if a.k = 4 then decide (g.t = g.l) else if a.k = 5 then false else if a.k = 1 then decide (g.t ≠ g.l) || decide (a.l ≤ g.l) else decide (g.t ≠ g.l) := rfl
      by_cases ht : g.t = g.l
      · by_cases k4 : a.k = 4
        · have k1 : ¬ a.k = 1 := by omega
          rw [hw, if_pos k4, decide_eq_true ht, if_pos ⟨rfl, rfl⟩]
          simp (disch := omega) only [go_sem, Nat.reduceAdd, Nat.reduceSub, Nat.reduceMul, Nat.reduceLeDiff, Nat.reduceEqDiff, kpCs_d, idsL_d, renL_d, ctCs_d, killL_d, outJ_m, mapM1, mapM2, oneOf, Option.map_some, Option.map_none, Option.bind_some, all_gr, all_wt, List.getElem?_nil, List.length_map, h63c, bneft, bnett, q, g1, Gr.e, eq_true ht, eq_true k4, k1]
        · by_cases k5 : a.k = 5
          · have k1 : ¬ a.k = 1 := by omega
            rw [hw, if_neg k4, if_pos k5, if_neg (by simp), if_neg (by omega)]
            have hus : isUs a.k = false := by unfold isUs; simp; omega
            rw [if_neg (by simp [hus])]
            simp (disch := omega) only [go_sem, Nat.reduceAdd, Nat.reduceSub, Nat.reduceMul, Nat.reduceLeDiff, Nat.reduceEqDiff, kpCs_d, idsL_d, renL_d, ctCs_d, killL_d, outJ_m, mapM1, mapM2, oneOf, Option.map_some, Option.map_none, Option.bind_some, all_gr, all_wt, List.getElem?_nil, List.length_map, h63c, bneft, bnett, q, g1, Gr.e, eq_true ht, k4, eq_true k5, k1, isUse_v, hus]
          · by_cases k1 : a.k = 1
            · by_cases hal : a.l ≤ g.l
              · rw [hw, if_neg k4, if_neg k5, if_pos k1, decide_eq_true hal, Bool.or_true, if_pos ⟨rfl, rfl⟩]
                simp (disch := omega) only [go_sem, Nat.reduceAdd, Nat.reduceSub, Nat.reduceMul, Nat.reduceLeDiff, Nat.reduceEqDiff, kpCs_d, idsL_d, renL_d, ctCs_d, killL_d, outJ_m, mapM1, mapM2, oneOf, Option.map_some, Option.map_none, Option.bind_some, all_gr, all_wt, List.getElem?_nil, List.length_map, h63c, bneft, bnett, q, g1, Gr.e, eq_true ht, k4, k5, eq_true k1, hal]
              · rw [hw, if_neg k4, if_neg k5, if_pos k1, decide_eq_false hal, Bool.or_false, if_neg (by simp [ht])]
                have hus : isUs a.k = false := by unfold isUs; simp; omega
                cases hm : mayH gs ws a with
                | true =>
                  rw [hm] at q1
                  rw [if_neg (by simp), if_neg (by simp [hus])]
                  simp (disch := omega) only [go_sem, Nat.reduceAdd, Nat.reduceSub, Nat.reduceMul, Nat.reduceLeDiff, Nat.reduceEqDiff, kpCs_d, idsL_d, renL_d, ctCs_d, killL_d, outJ_m, mapM1, mapM2, oneOf, Option.map_some, Option.map_none, Option.bind_some, all_gr, all_wt, List.getElem?_nil, List.length_map, h63c, bneft, bnett, q, g1, q1, Gr.e, eq_true ht, k4, k5, eq_true k1, hal, isUse_v, hus]
                | false =>
                  rw [hm] at q1
                  rw [if_pos ⟨k1, rfl⟩]
                  simp (disch := omega) only [go_sem, Nat.reduceAdd, Nat.reduceSub, Nat.reduceMul, Nat.reduceLeDiff, Nat.reduceEqDiff, kpCs_d, idsL_d, renL_d, ctCs_d, killL_d, outJ_m, mapM1, mapM2, oneOf, Option.map_some, Option.map_none, Option.bind_some, all_gr, all_wt, List.getElem?_nil, List.length_map, h63c, bneft, bnett, q, g1, q1, Gr.e, eq_true ht, k4, k5, eq_true k1, hal, isUse_v, hus]
            · rw [hw, if_neg k4, if_neg k5, if_neg k1, if_neg (by simp [ht]), if_neg (fun h => k1 h.1)]
              cases hus : isUs a.k with
              | true =>
                by_cases h8 : ws.length = 8
                · have h8' : (ws.length : Int) = 8 := by omega
                  rw [if_pos ⟨rfl, h8⟩]
                  simp (disch := omega) only [go_sem, Nat.reduceAdd, Nat.reduceSub, Nat.reduceMul, Nat.reduceLeDiff, Nat.reduceEqDiff, kpCs_d, idsL_d, renL_d, ctCs_d, killL_d, outJ_m, mapM1, mapM2, oneOf, Option.map_some, Option.map_none, Option.bind_some, all_gr, all_wt, List.getElem?_nil, List.length_map, h63c, bneft, bnett, q, g1, Gr.e, eq_true ht, k4, k5, k1, isUse_v, hus, eq_true h8']
                · have h8' : ¬ (ws.length : Int) = 8 := by omega
                  rw [if_neg (fun h => h8 h.2)]
                  simp (disch := omega) only [go_sem, Nat.reduceAdd, Nat.reduceSub, Nat.reduceMul, Nat.reduceLeDiff, Nat.reduceEqDiff, kpCs_d, idsL_d, renL_d, ctCs_d, killL_d, outJ_m, mapM1, mapM2, oneOf, Option.map_some, Option.map_none, Option.bind_some, all_gr, all_wt, List.getElem?_nil, List.length_map, h63c, bneft, bnett, q, g1, Gr.e, eq_true ht, k4, k5, k1, isUse_v, hus, h8']
              | false =>
                rw [if_neg (by simp)]
                simp (disch := omega) only [go_sem, Nat.reduceAdd, Nat.reduceSub, Nat.reduceMul, Nat.reduceLeDiff, Nat.reduceEqDiff, kpCs_d, idsL_d, renL_d, ctCs_d, killL_d, outJ_m, mapM1, mapM2, oneOf, Option.map_some, Option.map_none, Option.bind_some, all_gr, all_wt, List.getElem?_nil, List.length_map, h63c, bneft, bnett, q, g1, Gr.e, eq_true ht, k4, k5, k1, isUse_v, hus]
      · by_cases k4 : a.k = 4
        · have k1 : ¬ a.k = 1 := by omega
          rw [hw, if_pos k4, decide_eq_false ht, if_neg (by simp), if_neg (by omega)]
          have hus : isUs a.k = false := by unfold isUs; simp; omega
          rw [if_neg (by simp [hus])]
          simp (disch := omega) only [go_sem, Nat.reduceAdd, Nat.reduceSub, Nat.reduceMul, Nat.reduceLeDiff, Nat.reduceEqDiff, kpCs_d, idsL_d, renL_d, ctCs_d, killL_d, outJ_m, mapM1, mapM2, oneOf, Option.map_some, Option.map_none, Option.bind_some, all_gr, all_wt, List.getElem?_nil, List.length_map, h63c, bneft, bnett, q, g1, Gr.e, ht, eq_true k4, k1, isUse_v, hus]
        · by_cases k5 : a.k = 5
          · have k1 : ¬ a.k = 1 := by omega
            rw [hw, if_neg k4, if_pos k5, if_neg (by simp), if_neg (by omega)]
            have hus : isUs a.k = false := by unfold isUs; simp; omega
            rw [if_neg (by simp [hus])]
            simp (disch := omega) only [go_sem, Nat.reduceAdd, Nat.reduceSub, Nat.reduceMul, Nat.reduceLeDiff, Nat.reduceEqDiff, kpCs_d, idsL_d, renL_d, ctCs_d, killL_d, outJ_m, mapM1, mapM2, oneOf, Option.map_some, Option.map_none, Option.bind_some, all_gr, all_wt, List.getElem?_nil, List.length_map, h63c, bneft, bnett, q, g1, Gr.e, ht, k4, eq_true k5, k1, isUse_v, hus]
          · by_cases k1 : a.k = 1
            · rw [hw, if_neg k4, if_neg k5, if_pos k1, if_pos ⟨rfl, by simp [ht]⟩]
              simp (disch := omega) only [go_sem, Nat.reduceAdd, Nat.reduceSub, Nat.reduceMul, Nat.reduceLeDiff, Nat.reduceEqDiff, kpCs_d, idsL_d, renL_d, ctCs_d, killL_d, outJ_m, mapM1, mapM2, oneOf, Option.map_some, Option.map_none, Option.bind_some, all_gr, all_wt, List.getElem?_nil, List.length_map, h63c, bneft, bnett, q, g1, Gr.e, ht, k4, k5, eq_true k1]
            · rw [hw, if_neg k4, if_neg k5, if_neg k1, if_pos ⟨rfl, by simp [ht]⟩]
              simp (disch := omega) only [go_sem, Nat.reduceAdd, Nat.reduceSub, Nat.reduceMul, Nat.reduceLeDiff, Nat.reduceEqDiff, kpCs_d, idsL_d, renL_d, ctCs_d, killL_d, outJ_m, mapM1, mapM2, oneOf, Option.map_some, Option.map_none, Option.bind_some, all_gr, all_wt, List.getElem?_nil, List.length_map, h63c, bneft, bnett, q, g1, Gr.e, ht, k4, k5, k1]
    | false =>
      have g1 := grant_n (G := G) (bb := bb) ws hs hg a.c h
      rw [if_neg (by simp)]
      by_cases k1 : a.k = 1
      · have hus : isUs a.k = false := by unfold isUs; simp; omega
        cases hm : mayH gs ws a with
        | true =>
          rw [hm] at q1
          rw [if_neg (by simp), if_neg (by simp [hus])]
          simp (disch := omega) only [go_sem, Nat.reduceAdd, Nat.reduceSub, Nat.reduceMul, Nat.reduceLeDiff, Nat.reduceEqDiff, kpCs_d, idsL_d, renL_d, ctCs_d, killL_d, outJ_m, mapM1, mapM2, oneOf, Option.map_some, Option.map_none, Option.bind_some, all_gr, all_wt, List.getElem?_nil, List.length_map, h63c, bneft, bnett, q, g1, q1, eq_true k1, isUse_v, hus]
        | false =>
          rw [hm] at q1
          rw [if_pos ⟨k1, rfl⟩]
          simp (disch := omega) only [go_sem, Nat.reduceAdd, Nat.reduceSub, Nat.reduceMul, Nat.reduceLeDiff, Nat.reduceEqDiff, kpCs_d, idsL_d, renL_d, ctCs_d, killL_d, outJ_m, mapM1, mapM2, oneOf, Option.map_some, Option.map_none, Option.bind_some, all_gr, all_wt, List.getElem?_nil, List.length_map, h63c, bneft, bnett, q, g1, q1, eq_true k1, isUse_v, hus]
      · rw [if_neg (fun h => k1 h.1)]
        cases hus : isUs a.k with
        | true =>
          by_cases h8 : ws.length = 8
          · have h8' : (ws.length : Int) = 8 := by omega
            rw [if_pos ⟨rfl, h8⟩]
            simp (disch := omega) only [go_sem, Nat.reduceAdd, Nat.reduceSub, Nat.reduceMul, Nat.reduceLeDiff, Nat.reduceEqDiff, kpCs_d, idsL_d, renL_d, ctCs_d, killL_d, outJ_m, mapM1, mapM2, oneOf, Option.map_some, Option.map_none, Option.bind_some, all_gr, all_wt, List.getElem?_nil, List.length_map, h63c, bneft, bnett, q, g1, k1, isUse_v, hus, eq_true h8']
          · have h8' : ¬ (ws.length : Int) = 8 := by omega
            rw [if_neg (fun h => h8 h.2)]
            simp (disch := omega) only [go_sem, Nat.reduceAdd, Nat.reduceSub, Nat.reduceMul, Nat.reduceLeDiff, Nat.reduceEqDiff, kpCs_d, idsL_d, renL_d, ctCs_d, killL_d, outJ_m, mapM1, mapM2, oneOf, Option.map_some, Option.map_none, Option.bind_some, all_gr, all_wt, List.getElem?_nil, List.length_map, h63c, bneft, bnett, q, g1, k1, isUse_v, hus, h8']
        | false =>
          rw [if_neg (by simp)]
          simp (disch := omega) only [go_sem, Nat.reduceAdd, Nat.reduceSub, Nat.reduceMul, Nat.reduceLeDiff, Nat.reduceEqDiff, kpCs_d, idsL_d, renL_d, ctCs_d, killL_d, outJ_m, mapM1, mapM2, oneOf, Option.map_some, Option.map_none, Option.bind_some, all_gr, all_wt, List.getElem?_nil, List.length_map, h63c, bneft, bnett, q, g1, k1, isUse_v, hus]
  · have e : acErr gs ws a = usErr gs ws a := by unfold acErr; rw [if_pos hu]
    rw [e]
    simp (disch := omega) only [go_sem, Nat.reduceAdd, Nat.reduceSub, Nat.reduceMul, Nat.reduceLeDiff, Nat.reduceEqDiff, kpCs_d, idsL_d, renL_d, ctCs_d, killL_d, outJ_m, mapM1, mapM2, oneOf, Option.map_some, Option.map_none, Option.bind_some, all_gr, all_wt, List.getElem?_nil, List.length_map, h63c, bneft, bnett, q, hu]
end
section
set_option maxRecDepth 4000
set_option linter.unusedSimpArgs false
set_option linter.unusedVariables false
variable {G : Glob} {bb : Bool}
theorem ins_map (gs : List Gr) (c : Int) : (insG gs c).map Gr.e = ((gs.map Gr.e).take (pos gs c)) ++ [ci c, ci 0, ci 0] :: (gs.map Gr.e).drop (pos gs c) := by
  simp [insG, Gr.e]
theorem ins_len (gs : List Gr) (c : Int) : (insG gs c).length = gs.length + 1 := by
  have := pos_le gs c
  simp [insG]; omega
theorem insert_v (gs : List Gr) (c : Int) (hl : gs.length ≤ 1000000) :
    EV G (Tb (bs bb)) 200 [.one (.bld 0 gs.length), vi (pos gs c : Nat), vl [[ci c, ci 0, ci 0]]] [.arr 0 3 (gs.map Gr.e)] = some (.one (.bld 0 (gs.length + 1)), [.arr 0 3 ((insG gs c).map Gr.e)]) := by
  have hp := pos_le gs c
  refine EV_base rfl ?_
  rw [show (Tb (bs bb)).base = bs bb from rfl]
  unfold bs
  rw [if_neg (by decide), if_neg (by decide), if_pos rfl]
  unfold insK
  simp only
  rw [if_pos ⟨trivial, by omega, by simpa using hp, by simp, by omega, rfl⟩, ins_map]
  simp only [Int.toNat_natCast, List.take_of_length_le (show (gs.map Gr.e).length ≤ gs.length by simp)]
theorem done_v (gs : List Gr) (ws : List Wt) (hs : Srt gs) (c k : Int) (hl : gs.length ≤ 100000) :
    EV G (Tb (bs bb)) 178 [.one (.ptr 0 0), (Wt.mk c k).v] (fileH gs ws) = some (.tup [], fileH (did gs c k) ws) := by
  refine EV_run rfl ?_
  have q := place_v (G := G) (bb := bb) ws hs hl c
  have q1 := insert_v (G := G) (bb := bb) gs c (by omega)
  have e1 := ins_len gs c
  unfold did
  by_cases hk : k = 0
  · cases h : isIn gs c with
    | true =>
      rw [if_neg (by simp)]
      rw [h] at q
      simp (disch := omega) only [go_sem, Nat.reduceAdd, Nat.reduceSub, Nat.reduceMul, Nat.reduceLeDiff, Nat.reduceEqDiff, kpCs_d, idsL_d, renL_d, ctCs_d, killL_d, outJ_m, mapM1, mapM2, oneOf, Option.map_some, Option.map_none, Option.bind_some, all_gr, all_wt, List.getElem?_nil, List.length_map, h178c, q, hk]
    | false =>
      rw [if_pos ⟨hk, rfl⟩]
      rw [h] at q
      simp (disch := omega) only [go_sem, Nat.reduceAdd, Nat.reduceSub, Nat.reduceMul, Nat.reduceLeDiff, Nat.reduceEqDiff, kpCs_d, idsL_d, renL_d, ctCs_d, killL_d, outJ_m, mapM1, mapM2, oneOf, Option.map_some, Option.map_none, Option.bind_some, all_gr, all_wt, List.getElem?_nil, List.length_map, h178c, q, hk, q1]
      unfold fileH
      rw [e1]
  · rw [if_neg (by simp [hk])]
    simp (disch := omega) only [go_sem, Nat.reduceAdd, Nat.reduceSub, Nat.reduceMul, Nat.reduceLeDiff, Nat.reduceEqDiff, kpCs_d, idsL_d, renL_d, ctCs_d, killL_d, outJ_m, mapM1, mapM2, oneOf, Option.map_some, Option.map_none, Option.bind_some, all_gr, all_wt, List.getElem?_nil, List.length_map, h178c, q, hk]
end
section
set_option maxRecDepth 4000
set_option linter.unusedSimpArgs false
set_option linter.unusedVariables false
variable {G : Glob} {bb : Bool}
theorem did_len (gs : List Gr) (c k : Int) : (did gs c k).length ≤ gs.length + 1 := by
  unfold did
  split
  · rw [ins_len]; omega
  · omega
theorem Srt_br {gs : List Gr} (hs : Srt gs) (c k : Int) : Srt (brGs gs c k) := Srt_map (fun g => brG_c _ _ g) hs
theorem Srt_did {gs : List Gr} (hs : Srt gs) (c k : Int) : Srt (did gs c k) := by
  unfold did
  split
  · rename_i h; exact Srt_ins hs h.2
  · exact hs
abbrev twoA (d : Bool) (b : List Br) : AV := .tup [.one (.dc (.raw (.bool d))), .one (.dc (.slc (b.map Br.e)))]
theorem use_v (hG : G 0 = some alD) (gs : List Gr) (ws : List Wt) (hs : Srt gs) (c k : Int) (hk : kOK k) (hl : gs.length ≤ 100000) (hw : ws.length ≤ 100000) :
    EV G (Tb (bs bb)) 129 [.one (.ptr 0 0), (Wt.mk c k).v] (fileH gs ws) = some (twoA (useF gs ws c k).2.2.d (useF gs ws c k).2.2.b, fileH (useF gs ws c k).1 (useF gs ws c k).2.1) := by
  refine EV_run rfl ?_
  unfold useF
  have e1 := brGs_len gs c k
  by_cases h0 : ws.length = 0
  · rw [if_pos h0]
    have h0' : (ws.length : Int) = 0 := by omega
    have q1 := breaks_v (G := G) (bb := bb) hG gs ws c k hk (by omega)
    have q2 := held_v (G := G) (bb := bb) hG (brGs gs c k) ws c k hk (by omega)
    have q3 := done_v (G := G) (bb := bb) (brGs gs c k) ws (Srt_br hs c k) c k (by omega)
    simp only [fileH, e1] at q1 q3
    have tk : ((brGs gs c k).map Gr.e).take gs.length = (brGs gs c k).map Gr.e := List.take_of_length_le (by rw [List.length_map, e1]; omega)
    cases hh : held (brGs gs c k) c k with
    | true =>
      rw [if_pos rfl]
      rw [hh] at q2
      simp (disch := omega) only [go_sem, Nat.reduceAdd, Nat.reduceSub, Nat.reduceMul, Nat.reduceLeDiff, Nat.reduceEqDiff, kpCs_d, idsL_d, renL_d, ctCs_d, killL_d, outJ_m, mapM1, mapM2, oneOf, Option.map_some, Option.map_none, Option.bind_some, all_gr, all_wt, List.getElem?_nil, List.length_map, h129c, q1, q2, e1, tk, eq_true h0', fileH]
      obtain rfl := List.length_eq_zero_iff.1 h0
      rfl
    | false =>
      rw [if_neg (by simp)]
      rw [hh] at q2
      simp (disch := omega) only [go_sem, Nat.reduceAdd, Nat.reduceSub, Nat.reduceMul, Nat.reduceLeDiff, Nat.reduceEqDiff, kpCs_d, idsL_d, renL_d, ctCs_d, killL_d, outJ_m, mapM1, mapM2, oneOf, Option.map_some, Option.map_none, Option.bind_some, all_gr, all_wt, List.getElem?_nil, List.length_map, h129c, q1, q2, q3, e1, tk, eq_true h0', fileH]
      obtain rfl := List.length_eq_zero_iff.1 h0
      rfl
  · rw [if_neg h0]
    simp (disch := omega) only [go_sem, Nat.reduceAdd, Nat.reduceSub, Nat.reduceMul, Nat.reduceLeDiff, Nat.reduceEqDiff, kpCs_d, idsL_d, renL_d, ctCs_d, killL_d, outJ_m, mapM1, mapM2, oneOf, Option.map_some, Option.map_none, Option.bind_some, all_gr, all_wt, List.getElem?_nil, List.length_map, h129c, h0, fileH]
    rw [List.length_append, List.map_append]
    rfl
theorem fnK_of {call : CallT} {a : HC} {L : List Nat} {m : Nat} {r : Option (Exit × AS)} {s : AS} (h : rnK L m r = some s) : fnK call G a L m r = EL call G a L m s := by
  unfold rnK at h
  split at h
  · injection h with h; rw [← h]; rfl
  · cases h
theorem delW_v (w : Wt) (ws : List Wt) (hl : ws.length ≤ 1000000) : EV G (Tb (bs bb)) 179 [.one (.bld 0 (w :: ws).length), vi 0, vi 1] [.arr 0 2 ((w :: ws).map Wt.e)] = some (.one (.bld 0 ws.length), [.arr 0 2 (ws.map Wt.e)]) := by
  refine EV_base rfl ?_
  rw [show (Tb (bs bb)).base = bs bb from rfl]
  unfold bs
  rw [if_neg (by decide), if_pos rfl]
  unfold delK
  show (if _ then _ else _) = _
  rw [if_pos ⟨rfl, by omega, by omega, by simp, by simp, by simp; omega⟩]
  have e : (ws.map Wt.e).take ws.length = ws.map Wt.e := List.take_of_length_le (by simp)
  simp [e]
theorem delG_v (gs : List Gr) (i : Nat) (hi : i < gs.length) (hl : gs.length ≤ 1000000) : EV G (Tb (bs bb)) 128 [.one (.bld 0 gs.length), vi i, vi ((i : Int) + 1)] [.arr 0 3 (gs.map Gr.e)] = some (.one (.bld 0 (gs.length - 1)), [.arr 0 3 ((gs.take i ++ gs.drop (i + 1)).map Gr.e)]) := by
  refine EV_base rfl ?_
  rw [show (Tb (bs bb)).base = bs bb from rfl]
  unfold bs
  rw [if_pos rfl]
  unfold delK
  show (if _ then _ else _) = _
  rw [if_pos ⟨rfl, by omega, by omega, by simpa using hi, by simp, by simp; omega⟩]
  have e : (gs.map Gr.e).take gs.length = gs.map Gr.e := List.take_of_length_le (by simp)
  simp [e]
theorem allLen_br : ∀ gs : List Br, allLen 2 (gs.map Br.e) = true
  | [] => rfl
  | g :: gs => by rw [List.map_cons, allLen, allLen_br gs]; rfl
abbrev thrH (gs : List Gr) (ws : List Wt) (b : List Br) (f : List Wt) : List AObj := [.box [.bld 1 gs.length, .bld 2 ws.length], .arr 0 3 (gs.map Gr.e), .arr 0 2 (ws.map Wt.e), .arr 0 2 (b.map Br.e), .arr 0 2 (f.map Wt.e)]
def thrS (gs : List Gr) (ws : List Wt) (b : List Br) (f : List Wt) : AS := ⟨(.one (.ptr 0 0) :: jk 1 (.one (.bld 3 b.length) :: .one (.bld 4 f.length) :: jk 42 [])), thrH gs ws b f⟩
abbrev twoB (b : List Br) (f : List Wt) : AV := .tup [.one (.dc (.slc (b.map Br.e))), .one (.dc (.slc (f.map Wt.e)))]
theorem thr_key (hG : G 0 = some alD) : ∀ (ws : List Wt) (gs : List Gr) (b : List Br) (f : List Wt), Srt gs → (∀ w ∈ ws, kOK w.k) → gs.length + ws.length ≤ 1000 → b.length + 1000 * ws.length ≤ 10000000 → f.length + ws.length ≤ 1000000 →
    retZ false [RetV.tmp 2, RetV.tmp 3] 3 (sqK (EV G (Tb (bs bb))) G ((HC.region [Oo 44 (AI.mov (AArg.t 2)), Oo 45 (AI.mov (AArg.t 3)), Oo 2 (AI.mov (AArg.t 44)), Oo 3 (AI.mov (AArg.t 45))]).seq HC.ret) (blkK 0 (EL (EV G (Tb (bs bb))) G h127l0 [0, 1, 0] 5 (thrS gs ws b f)))) =
      some (twoB (b ++ (thr gs ws).2.2.1) (f ++ (thr gs ws).2.2.2), fileH (thr gs ws).1 (thr gs ws).2.1)
  | [], gs, b, f, hs, hk, hl, hb, hf => by
    rw [EL_unf, thr]
    unfold thrS
    simp only [List.append_nil]
    have hn : (([] : List Wt).length : Int) = 0 := rfl
    generalize ([] : List Wt) = W at *
    simp (disch := omega) only [go_sem, Nat.reduceAdd, Nat.reduceSub, Nat.reduceMul, Nat.reduceLeDiff, Nat.reduceEqDiff, kpCs_d, idsL_d, renL_d, ctCs_d, killL_d, outJ_m, mapM1, mapM2, oneOf, Option.map_some, Option.map_none, Option.bind_some, all_gr, all_wt, List.getElem?_nil, List.length_map, h127l0, eq_true hn, List.take_length]
  | w :: ws, gs, b, f, hs, hk, hl, hb, hf => by
    have hkw := hk w List.mem_cons_self
    have e1 := brGs_len gs w.c w.k
    have hbl := brBs_len gs w.c w.k
    have hdl := did_len (brGs gs w.c w.k) w.c w.k
    simp only [List.length_cons] at hl hb hf
    have q1 := breaks_v (G := G) (bb := bb) hG gs (w :: ws) w.c w.k hkw (by omega)
    have q2 := held_v (G := G) (bb := bb) hG (brGs gs w.c w.k) (w :: ws) w.c w.k hkw (by omega)
    have q3 := done_v (G := G) (bb := bb) (brGs gs w.c w.k) (w :: ws) (Srt_br hs w.c w.k) w.c w.k (by omega)
    have q4 := delW_v (G := G) (bb := bb) w ws (by omega)
    have e0 : ((w :: ws).map Wt.e)[0]? = some [ci w.c, ci w.k] := rfl
    have hn : ¬ (w :: ws).length = 0 := by simp
    have tk : ((brGs gs w.c w.k).map Gr.e).take gs.length = (brGs gs w.c w.k).map Gr.e := List.take_of_length_le (by rw [List.length_map, e1]; omega)
    have tk2 : List.take (b.length + (brBs gs w.c w.k).length) (b.map Br.e ++ (brBs gs w.c w.k).map Br.e) = (b ++ brBs gs w.c w.k).map Br.e := by
      rw [← List.map_append]; exact List.take_of_length_le (by simp)
    simp only [fileH, e1] at q1 q3
    have hWl : (w :: ws).length ≤ 1000 := by simp; omega
    cases hh : held (brGs gs w.c w.k) w.c w.k with
    | true =>
      rw [EL_unf, thr, if_pos hh]
      unfold thrS
      rw [hh] at q2
      generalize w :: ws = W at *
      simp (disch := omega) only [go_sem, Nat.reduceAdd, Nat.reduceSub, Nat.reduceMul, Nat.reduceLeDiff, Nat.reduceEqDiff, kpCs_d, idsL_d, renL_d, ctCs_d, killL_d, outJ_m, mapM1, mapM2, oneOf, Option.map_some, Option.map_none, Option.bind_some, all_gr, all_wt, List.getElem?_nil, List.length_map, h127l0, hn, e0, q1, q2, q3, q4, e1, tk, List.take_length, allLen_br, tk2, List.length_append, Nat.le_refl]
      unfold fileH
      rw [e1]
    | false =>
      have ih := thr_key hG ws (did (brGs gs w.c w.k) w.c w.k) (b ++ brBs gs w.c w.k) (f ++ [w]) (Srt_did (Srt_br hs w.c w.k) w.c w.k) (fun x hx => hk x (List.mem_cons_of_mem _ hx)) (by omega) (by rw [List.length_append]; omega) (by rw [List.length_append]; simp; omega)
      have hr : rnK [0, 1, 0] 5 (EC (EV G (Tb (bs bb))) G h127l0 (thrS gs (w :: ws) b f)) = some (thrS (did (brGs gs w.c w.k) w.c w.k) ws (b ++ brBs gs w.c w.k) (f ++ [w])) := by
        unfold thrS thrH
        rw [hh] at q2
        generalize w :: ws = W at *
        simp (disch := omega) only [go_sem, Nat.reduceAdd, Nat.reduceSub, Nat.reduceMul, Nat.reduceLeDiff, Nat.reduceEqDiff, kpCs_d, idsL_d, renL_d, ctCs_d, killL_d, outJ_m, mapM1, mapM2, oneOf, Option.map_some, Option.map_none, Option.bind_some, all_gr, all_wt, List.getElem?_nil, List.length_map, h127l0, hn, e0, q1, q2, q3, q4, e1, tk, List.take_length, allLen_br, tk2, List.length_append, Nat.le_refl, List.map_append, List.length_cons, List.length_nil, List.map_cons, List.map_nil, Wt.e]
      rw [EL_unf, fnK_of hr, ih, thr, if_neg (by rw [hh]; simp)]
      simp only [List.append_assoc, List.cons_append, List.nil_append]
theorem thr_v (hG : G 0 = some alD) (gs : List Gr) (ws : List Wt) (hs : Srt gs) (hk : ∀ w ∈ ws, kOK w.k) (hl : gs.length + ws.length ≤ 1000) :
    EV G (Tb (bs bb)) 127 [.one (.ptr 0 0)] (fileH gs ws) = some (twoB (thr gs ws).2.2.1 (thr gs ws).2.2.2, fileH (thr gs ws).1 (thr gs ws).2.1) := by
  refine EV_run rfl ?_
  have q := thr_key (bb := bb) hG ws gs [] [] hs hk (by omega) (by simp; omega) (by simp; omega)
  rw [List.nil_append, List.nil_append] at q
  rw [← q]
  simp (disch := omega) only [go_sem, Nat.reduceAdd, Nat.reduceSub, Nat.reduceMul, Nat.reduceLeDiff, Nat.reduceEqDiff, kpCs_d, idsL_d, renL_d, ctCs_d, killL_d, outJ_m, mapM1, mapM2, oneOf, Option.map_some, Option.map_none, Option.bind_some, all_gr, all_wt, List.getElem?_nil, List.length_map, h127c, fileH]
  rfl
end
section
set_option maxRecDepth 4000
set_option linter.unusedSimpArgs false
set_option linter.unusedVariables false
variable {G : Glob} {bb : Bool}
def An.e (a : An) : List DC := [.raw (.bool a.d), .slc (a.b.map Br.e), .slc (a.f.map Wt.e)]
abbrev An.v (a : An) : AV := .agg [.dc (.raw (.bool a.d)), .dc (.slc (a.b.map Br.e)), .dc (.slc (a.f.map Wt.e))]
theorem req_map (gs : List Gr) (c l : Int) : (reqG gs c l).map Gr.e = (gs.map Gr.e).set (pos gs c) [ci (grE gs c).c, ci l, ci l] := by
  unfold reqG; rw [List.map_set]; rfl
theorem ack_map (gs : List Gr) (c : Int) : (ackG gs c).map Gr.e = (gs.map Gr.e).set (pos gs c) [ci (grE gs c).c, ci (grE gs c).t, ci (grE gs c).t] := by
  unfold ackG; rw [List.map_set]; rfl
theorem req_len (gs : List Gr) (c l : Int) : (reqG gs c l).length = gs.length := by simp [reqG]
theorem ack_len (gs : List Gr) (c : Int) : (ackG gs c).length = gs.length := by simp [ackG]
theorem Srt_set {gs : List Gr} (hs : Srt gs) {c : Int} (hi : isIn gs c = true) (g' : Gr) (hg : g'.c = c) : Srt (gs.set (pos gs c) g') := by
  obtain ⟨f, h1, h2, _, _⟩ := set_map hs hi g' hg
  rw [h1]
  exact Srt_map h2 hs
theorem Srt_del {gs : List Gr} (hs : Srt gs) {c : Int} (hi : isIn gs c = true) : Srt (delG gs c) := by
  rw [delG_eq hs hi]
  exact List.Pairwise.sublist List.filter_sublist hs
theorem del_len {gs : List Gr} (hs : Srt gs) {c : Int} (hi : isIn gs c = true) : (delG gs c).length = gs.length - 1 := by
  obtain ⟨hp, he⟩ := (isIn_iff hs c).1 hi
  simp [delG]; omega
theorem thA_1 (p : List Gr × List Wt × List Br × List Wt) : (thA p).1 = p.1 := rfl
theorem thA_2 (p : List Gr × List Wt × List Br × List Wt) : (thA p).2.1 = p.2.1 := rfl
theorem useF_f (gs : List Gr) (ws : List Wt) (c k : Int) : (useF gs ws c k).2.2.f = [] := by
  unfold useF
  split
  · split <;> rfl
  · rfl
set_option maxHeartbeats 2000000 in
theorem step_v (hG : G 0 = some alD) (gs : List Gr) (ws : List Wt) (a : Ac) (hs : Srt gs) (hk : ∀ w ∈ ws, kOK w.k) (ha : 0 ≤ a.k ∧ a.k ≤ 5) (hi : a.k ≠ 0 → isIn gs a.c = true) (hl : gs.length + ws.length ≤ 900) :
    EV G (Tb (bs bb)) 64 [.one (.ptr 0 0), a.v] (fileH gs ws) = some (An.v (stp gs ws a).2.2, fileH (stp gs ws a).1 (stp gs ws a).2.1) := by
  refine EV_run rfl ?_
  have q := place_v (G := G) (bb := bb) ws hs (by omega) a.c
  unfold stp
  by_cases k1 : a.k = 1
  · rw [if_pos k1]
    have h := hi (by omega)
    obtain ⟨hp, he⟩ := (isIn_iff hs a.c).1 h
    have eg : (gs.map Gr.e)[pos gs a.c]? = some [ci (grE gs a.c).c, ci (grE gs a.c).l, ci (grE gs a.c).t] := by rw [List.getElem?_map, List.getElem?_eq_getElem hp, grE, grAt gs _ hp]; rfl
    have hp' : pos gs a.c < (gs.map Gr.e).length := by simpa using hp
    have e1 := fun x => set_get (x := x) hp'
    simp only [fileH, req_map, req_len]
    simp (disch := omega) only [go_sem, Nat.reduceAdd, Nat.reduceSub, Nat.reduceMul, Nat.reduceLeDiff, Nat.reduceEqDiff, kpCs_d, idsL_d, renL_d, ctCs_d, killL_d, outJ_m, mapM1, mapM2, oneOf, Option.map_some, Option.map_none, Option.bind_some, all_gr, all_wt, List.getElem?_nil, List.length_map, h64c, q, eq_true k1, eg, e1, List.set_set, List.length_set]
    rfl
  rw [if_neg k1]
  by_cases k4 : a.k = 4
  · rw [if_pos k4]
    have h := hi (by omega)
    obtain ⟨hp, he⟩ := (isIn_iff hs a.c).1 h
    have eg : (gs.map Gr.e)[pos gs a.c]? = some [ci (grE gs a.c).c, ci (grE gs a.c).l, ci (grE gs a.c).t] := by rw [List.getElem?_map, List.getElem?_eq_getElem hp, grE, grAt gs _ hp]; rfl
    have hp' : pos gs a.c < (gs.map Gr.e).length := by simpa using hp
    have e1 := fun x => set_get (x := x) hp'
    have q1 := thr_v (bb := bb) hG (ackG gs a.c) ws (Srt_set hs h _ (grE_mem hs h).2) hk (by rw [ack_len]; omega)
    simp only [fileH, ack_map, ack_len] at q1
    rw [thA_1, thA_2]
    simp only [fileH, thA]
    simp (disch := omega) only [go_sem, Nat.reduceAdd, Nat.reduceSub, Nat.reduceMul, Nat.reduceLeDiff, Nat.reduceEqDiff, kpCs_d, idsL_d, renL_d, ctCs_d, killL_d, outJ_m, mapM1, mapM2, oneOf, Option.map_some, Option.map_none, Option.bind_some, all_gr, all_wt, List.getElem?_nil, List.length_map, h64c, q, k1, eq_true k4, eg, e1, List.set_set, List.length_set, q1]
  rw [if_neg k4]
  by_cases k5 : a.k = 5
  · rw [if_pos k5]
    have h := hi (by omega)
    obtain ⟨hp, he⟩ := (isIn_iff hs a.c).1 h
    have q2 := delG_v (G := G) (bb := bb) gs (pos gs a.c) hp (by omega)
    have q1 := thr_v (bb := bb) hG (delG gs a.c) ws (Srt_del hs h) hk (by rw [del_len hs h]; omega)
    rw [show gs.take (pos gs a.c) ++ gs.drop (pos gs a.c + 1) = delG gs a.c from rfl] at q2
    simp only [fileH, del_len hs h] at q1
    rw [thA_1, thA_2]
    simp only [fileH, thA]
    simp (disch := omega) only [go_sem, Nat.reduceAdd, Nat.reduceSub, Nat.reduceMul, Nat.reduceLeDiff, Nat.reduceEqDiff, kpCs_d, idsL_d, renL_d, ctCs_d, killL_d, outJ_m, mapM1, mapM2, oneOf, Option.map_some, Option.map_none, Option.bind_some, all_gr, all_wt, List.getElem?_nil, List.length_map, h64c, q, k1, k4, eq_true k5, q1, q2]
  rw [if_neg k5]
  have q1 := use_v (bb := bb) hG gs ws hs a.c a.k (by unfold kOK; omega) (by omega) (by omega)
  simp only [fileH] at q1
  simp only [fileH, useF_f]
  simp (disch := omega) only [go_sem, Nat.reduceAdd, Nat.reduceSub, Nat.reduceMul, Nat.reduceLeDiff, Nat.reduceEqDiff, kpCs_d, idsL_d, renL_d, ctCs_d, killL_d, outJ_m, mapM1, mapM2, oneOf, Option.map_some, Option.map_none, Option.bind_some, all_gr, all_wt, List.getElem?_nil, List.length_map, h64c, q, k1, k4, k5, q1]
  unfold An.v
  rw [useF_f]
  rfl
end
section
set_option maxRecDepth 4000
set_option linter.unusedSimpArgs false
set_option linter.unusedVariables false
variable {G : Glob} {bb : Bool}
def upd {α : Type} (f : Nat → α) (n : Nat) (x : α) : Nat → α := fun m => if m = n then x else f m
/-- the cells of caches -/
def caC (p s n : Nat) (v : Int) (K : Nat → Int) (D : Nat → Bool) (W : Nat → Int) : List Cel :=
  [.ptr p 0, .dc (ci v), .dc (ci (K 0)), .dc (ci (K 1)), .dc (ci (K 2)), .dc (ci (K 3)), .dc (ci (K 4)), .dc (ci (K 5)), .dc (ci (K 6)), .dc (ci (K 7)), .dc (ci (K 8)),
   .dc (.raw (.bool (D 0))), .dc (.raw (.bool (D 1))), .dc (.raw (.bool (D 2))), .dc (.raw (.bool (D 3))), .dc (.raw (.bool (D 4))), .dc (.raw (.bool (D 5))), .dc (.raw (.bool (D 6))), .dc (.raw (.bool (D 7))), .dc (.raw (.bool (D 8))),
   .dc (ci (W 0)), .dc (ci (W 1)), .dc (ci (W 2)), .dc (ci (W 3)), .dc (ci (W 4)), .dc (ci (W 5)), .dc (ci (W 6)), .dc (ci (W 7)), .dc (ci (W 8)), .bld s n]
/-- cells whose pointers are lost -/
def jkC : Bool → Bool → List Cel → List Cel
  | false, false, cs => cs
  | false, true, cs => cs.set 29 .junk
  | true, false, cs => cs.set 0 .junk
  | true, true, cs => (cs.set 0 .junk).set 29 .junk
theorem jk_ff {cs : List Cel} : jkC false false cs = cs := rfl
theorem jk_ft {cs : List Cel} : jkC false true cs = cs.set 29 .junk := rfl
theorem bneff : (false != false) = false := rfl
theorem bnetf : (true != false) = true := rfl
section
variable {p s n : Nat} {v : Int} {K : Nat → Int} {D : Nat → Bool} {W : Nat → Int}
theorem caC_len : (caC p s n v K D W).length = 30 := rfl
theorem caC_0 : ((caC p s n v K D W).drop 0).take 1 = [.ptr p 0] := rfl
theorem caC_0' : (caC p s n v K D W).take 1 = [.ptr p 0] := rfl
theorem caC_1 : ((caC p s n v K D W).drop 1).take 1 = [.dc (ci v)] := rfl
theorem caC_29 : ((caC p s n v K D W).drop 29).take 1 = [.bld s n] := rfl
theorem caC_k {m : Nat} (h : m < 9) : ((caC p s n v K D W).drop (2 + m)).take 1 = [.dc (ci (K m))] := by
  match m, h with
  | 0, _ => rfl | 1, _ => rfl | 2, _ => rfl | 3, _ => rfl | 4, _ => rfl | 5, _ => rfl | 6, _ => rfl | 7, _ => rfl | 8, _ => rfl
theorem caC_d {m : Nat} (h : m < 9) : ((caC p s n v K D W).drop (11 + m)).take 1 = [.dc (.raw (.bool (D m)))] := by
  match m, h with
  | 0, _ => rfl | 1, _ => rfl | 2, _ => rfl | 3, _ => rfl | 4, _ => rfl | 5, _ => rfl | 6, _ => rfl | 7, _ => rfl | 8, _ => rfl
theorem caC_w {m : Nat} (h : m < 9) : ((caC p s n v K D W).drop (20 + m)).take 1 = [.dc (ci (W m))] := by
  match m, h with
  | 0, _ => rfl | 1, _ => rfl | 2, _ => rfl | 3, _ => rfl | 4, _ => rfl | 5, _ => rfl | 6, _ => rfl | 7, _ => rfl | 8, _ => rfl
theorem caP_1 {x : Int} : putAt (caC p s n v K D W) 1 [.dc (ci x)] = caC p s n x K D W := rfl
theorem caP_29 {s' n' : Nat} : putAt (caC p s n v K D W) 29 [.bld s' n'] = caC p s' n' v K D W := rfl
theorem caP_k {m : Nat} (h : m < 9) {x : Int} : putAt (caC p s n v K D W) (2 + m) [.dc (ci x)] = caC p s n v (upd K m x) D W := by
  match m, h with
  | 0, _ => rfl | 1, _ => rfl | 2, _ => rfl | 3, _ => rfl | 4, _ => rfl | 5, _ => rfl | 6, _ => rfl | 7, _ => rfl | 8, _ => rfl
theorem caP_d {m : Nat} (h : m < 9) {x : Bool} : putAt (caC p s n v K D W) (11 + m) [.dc (.raw (.bool x))] = caC p s n v K (upd D m x) W := by
  match m, h with
  | 0, _ => rfl | 1, _ => rfl | 2, _ => rfl | 3, _ => rfl | 4, _ => rfl | 5, _ => rfl | 6, _ => rfl | 7, _ => rfl | 8, _ => rfl
theorem caP_w {m : Nat} (h : m < 9) {x : Int} : putAt (caC p s n v K D W) (20 + m) [.dc (ci x)] = caC p s n v K D (upd W m x) := by
  match m, h with
  | 0, _ => rfl | 1, _ => rfl | 2, _ => rfl | 3, _ => rfl | 4, _ => rfl | 5, _ => rfl | 6, _ => rfl | 7, _ => rfl | 8, _ => rfl
theorem caC_kp {J : List Nat} : kpCs J (caC p s n v K D W) = (memN p J && memN s J) := by
  simp only [caC, kpCs, kpC, Bool.true_and, Bool.and_true]
theorem caC_id : idsL (caC p s n v K D W) = [p, s] := rfl
theorem caC_ren {f : Nat → Nat} : (caC p s n v K D W).map (renC f) = caC (f p) (f s) n v K D W := rfl
theorem caC_ct {m : Nat} : ctCs m (caC p s n v K D W) = jkC (decide (m ≤ p)) (decide (m ≤ s)) (caC p s n v K D W) := by
  by_cases h1 : m ≤ p <;> by_cases h2 : m ≤ s <;> simp [caC, ctCs, ctC, jkC, h1, h2]
theorem caC_ka {A : List Nat} : kaCs A (caC p s n v K D W) = jkC (memN p A) (memN s A) (caC p s n v K D W) := by
  cases h1 : memN p A <;> cases h2 : memN s A <;> simp [caC, kaCs, kaC, jkC, h1, h2]
theorem caC_kl {i : Nat} : klCs i (caC p s n v K D W) = jkC (nq p i) (nq s i) (caC p s n v K D W) := by
  cases h1 : nq p i <;> cases h2 : nq s i <;> simp [caC, klCs, klC, jkC, h1, h2]
theorem caC_kill {f : Nat → Bool} : (caC p s n v K D W).map (killC f) = jkC (f p) (f s) (caC p s n v K D W) := by
  cases h1 : f p <;> cases h2 : f s <;> simp [caC, killC, Cel.keep, jkC, h1, h2]
/-- the last cell is lost, and written again -/
theorem caJ_29 {s' n' : Nat} : putAt ((caC p s n v K D W).set 29 .junk) 29 [.bld s' n'] = caC p s' n' v K D W := rfl
theorem caJ_len : ((caC p s n v K D W).set 29 .junk).length = 30 := rfl
end
attribute [go_sem] caC_len caC_0 caC_0' caC_1 caC_29 caC_k caC_d caC_w caP_1 caP_29 caP_k caP_d caP_w caC_kp caC_id caC_ren caC_ct caC_ka caC_kl jk_ff jk_ft bneff bnetf caC_kill caJ_29 caJ_len
theorem evJ_5 {call : CallT} {d : Option Nat} {f : FuncId} {avs : List AV} {st : AS} {a0 a1 a2 a3 a4 : Nat} : evJ call d f avs st [a0, a1, a2, a3, a4] = evB call d f avs st [a0, a1, a2, a3, a4] (dstN [a0, a1, a2, a3, a4] && kpH [a0, a1, a2, a3, a4] st.hp [a0, a1, a2, a3, a4] && kpVs [a0, a1, a2, a3, a4] avs) := evJ_e _
def ci0 (i : Int) : List DC := [ci i]
/-- the objects of caches: the caches, the file, the values that were seen -/
abbrev caH (gs : List Gr) (ws : List Wt) (v : Int) (K : Nat → Int) (D : Nat → Bool) (W : Nat → Int) (sn : List Int) : List AObj := [.box (caC 1 4 sn.length v K D W), .box [.bld 2 gs.length, .bld 3 ws.length], .arr 0 3 (gs.map Gr.e), .arr 0 2 (ws.map Wt.e), .arr 0 1 (sn.map ci0)]
theorem grant_oy {gs : List Gr} (ws : List Wt) (hs : Srt gs) (hl : gs.length ≤ 100000) (c : Int) (h : isIn gs c = true) : EV G (Tb (bs bb)) 78 [.one (.ptr 0 0), vi c] (fileH gs ws) = some (.one (.ept 1 (pos gs c) 3 0), fileH gs ws) := by
  refine EV_run rfl ?_
  obtain ⟨hk, he⟩ := (isIn_iff hs c).1 h
  have q := place_v (G := G) (bb := bb) ws hs hl c
  rw [h] at q
  simp (disch := omega) only [go_sem, Nat.reduceAdd, Nat.reduceSub, Nat.reduceMul, Nat.reduceLeDiff, Nat.reduceEqDiff, kpCs_d, idsL_d, renL_d, ctCs_d, killL_d, outJ_m, mapM1, mapM2, oneOf, Option.map_some, Option.map_none, Option.bind_some, all_gr, all_wt, List.getElem?_nil, List.length_map, h78c, q]
theorem grant_on {gs : List Gr} (ws : List Wt) (hs : Srt gs) (hl : gs.length ≤ 100000) (c : Int) (h : isIn gs c = false) : EV G (Tb (bs bb)) 78 [.one (.ptr 0 0), vi c] (fileH gs ws) = some (.one (.dc (.raw (.pointer none))), fileH gs ws) := by
  refine EV_run rfl ?_
  have q := place_v (G := G) (bb := bb) ws hs hl c
  rw [h] at q
  simp (disch := omega) only [go_sem, Nat.reduceAdd, Nat.reduceSub, Nat.reduceMul, Nat.reduceLeDiff, Nat.reduceEqDiff, kpCs_d, idsL_d, renL_d, ctCs_d, killL_d, outJ_m, mapM1, mapM2, oneOf, Option.map_some, Option.map_none, Option.bind_some, all_gr, all_wt, List.getElem?_nil, List.length_map, h78c, q]
def lvF (gs : List Gr) (c : Int) : Int := if isIn gs c = true then (grE gs c).l else -1
def brF (gs : List Gr) (c : Int) : Bool := if isIn gs c = true then decide ((grE gs c).t ≠ (grE gs c).l) else false
theorem level_v {gs : List Gr} (ws : List Wt) (hs : Srt gs) (hl : gs.length ≤ 100000) (v : Int) (K : Nat → Int) (D : Nat → Bool) (W : Nat → Int) (sn : List Int) (c : Int) :
    EV G (Tb (bs bb)) 132 [.one (.ptr 0 0), vi c] (caH gs ws v K D W sn) = some (.tup [.one (.dc (ci (lvF gs c))), .one (.dc (.raw (.bool (brF gs c))))], caH gs ws v K D W sn) := by
  refine EV_run rfl ?_
  unfold lvF brF
  cases h : isIn gs c with
  | true =>
    have q := grant_oy (G := G) (bb := bb) ws hs hl c h
    obtain ⟨hk, he⟩ := (isIn_iff hs c).1 h
    have eg : (gs.map Gr.e)[pos gs c]? = some [ci (grE gs c).c, ci (grE gs c).l, ci (grE gs c).t] := by rw [List.getElem?_map, List.getElem?_eq_getElem hk, grE, grAt gs _ hk]; rfl
    generalize grE gs c = g at *
    simp (disch := omega) only [go_sem, Nat.reduceAdd, Nat.reduceSub, Nat.reduceMul, Nat.reduceLeDiff, Nat.reduceEqDiff, kpCs_d, idsL_d, renL_d, ctCs_d, killL_d, outJ_m, mapM1, mapM2, oneOf, Option.map_some, Option.map_none, Option.bind_some, all_gr, all_wt, List.getElem?_nil, List.length_map, h132c, q, evJ_5, eg]
  | false =>
    have q := grant_on (G := G) (bb := bb) ws hs hl c h
    simp (disch := omega) only [go_sem, Nat.reduceAdd, Nat.reduceSub, Nat.reduceMul, Nat.reduceLeDiff, Nat.reduceEqDiff, kpCs_d, idsL_d, renL_d, ctCs_d, killL_d, outJ_m, mapM1, mapM2, oneOf, Option.map_some, Option.map_none, Option.bind_some, all_gr, all_wt, List.getElem?_nil, List.length_map, h132c, q, evJ_5]
end
end Go.Proofs.YtinageiefahjfaaGreatDoor
