/- Runs of acts: the loop. Conditions: none. -/
import Derived.Test.YtinageiefahjfaaGreatDoorVh
import Derived.Test.YtinageiefahjfaaGreatDoorVi
import Derived.Test.YtinageiefahjfaaGreatDoorUh
namespace Go.Proofs.YtinageiefahjfaaGreatDoor
section
set_option maxRecDepth 4000
set_option linter.unusedSimpArgs false
set_option linter.unusedVariables false
variable {G : Glob} {bb : Bool}
/-- the caches when the act is done, but for what it does -/
def aft (x : Ca) (k c l u : Int) : Ca := ⟨(stp x.gs x.ws ⟨k, c, l⟩).1, (stp x.gs x.ws ⟨k, c, l⟩).2.1, (giv x k c u).v, (giv x k c u).K, (giv x k c u).D, (giv x k c u).W, (giv x k c u).sn⟩
theorem actF_e (x : Ca) (k c l u : Int) : actF x k c l u = drpF (effL (if (stp x.gs x.ws ⟨k, c, l⟩).2.2.d = true then effF (aft x k c l u) c k else aft x k c l u) (stp x.gs x.ws ⟨k, c, l⟩).2.2.f) 9 := rfl
set_option maxHeartbeats 8000000 in
theorem cact_k4D (hG : G 0 = some alD) (gs : List Gr) (ws : List Wt) (v : Int) (K : Nat → Int) (D : Nat → Bool) (W : Nat → Int) (sn : List Int) (hv : Vd gs ws) (hh : Hd gs ws) (hn : sn.length ≤ 9000) (k c l u : Int) (hu : usE ⟨gs, ws, v, K, D, W, sn⟩ k c l u = 0) (ha : aloF ⟨gs, ws, v, K, D, W, sn⟩ k c u = none) (he : acErr gs ws ⟨k, c, l⟩ = 0) (k4 : k = 4) (hd : D c.toNat = true) :
    EV G (Tb (bs bb)) 68 [.one (.ptr 0 0), .agg [.dc (ci k), .dc (ci c), .dc (ci l), .dc (ci u)]] (caH gs ws v K D W sn) = some (vi 0, (actF ⟨gs, ws, v, K, D, W, sn⟩ k c l u).h) := by
  refine EV_run rfl ?_
  have n3 : ¬ k = 3 := by omega
  have h1 := hv.gl
  have h2 := hv.wl
  have q1 := usualErr_v (G := G) (bb := bb) gs ws hv.so ⟨k, c, l⟩ (by omega) (by omega)
  have q2 := actErr_v (G := G) (bb := bb) gs ws hv.so ⟨k, c, l⟩ (by omega) (by omega)
  have eus : usE ⟨gs, ws, v, K, D, W, sn⟩ k c l u = firstE [ifE (wi u 0 (if k = 3 then 999 else 0)) 2, usErr gs ws ⟨k, c, l⟩] := rfl
  rw [eus, if_neg n3] at hu
  have hu1 : usErr gs ws ⟨k, c, l⟩ = 0 := by
    rw [firstE_0] at hu
    exact hu _ (by simp)
  obtain ⟨c1, c2, c3, c4, c5⟩ := us_ok hu1
  simp only at c1 c2 c5
  have hcn : c.toNat < 9 := by omega
  have qa := alone_v (G := G) (bb := bb) ⟨gs, ws, v, K, D, W, sn⟩ hv.so (by simp only; omega) (by simp only; omega) k c l u c2
  rw [ha] at qa
  simp only [Ca.h, caH, Option.isSome_none, Option.getD_none] at qa
  obtain ⟨d1, d2⟩ := ac_us he
  have q3 := step_v (G := G) (bb := bb) hG gs ws ⟨k, c, l⟩ hv.so (fun w hw => kOK_us (hv.wr w hw).2.1) d1 d2 (by omega)
  obtain ⟨hV', _⟩ := stp_ok hv hh he
  have hsf := stp_f gs ws ⟨k, c, l⟩
  have hsc : ∀ w ∈ (stp gs ws ⟨k, c, l⟩).2.2.f, 1 ≤ w.c ∧ w.c ≤ 8 := fun w hw => (hv.wr w (hsf.1 w hw)).1
  have hsl := hsf.2
  have eg : giv ⟨gs, ws, v, K, D, W, sn⟩ k c u = ⟨gs, ws, K c.toNat, K, upd D c.toNat false, upd W c.toNat u, sn⟩ := by unfold giv; rw [if_pos ⟨by omega, hd⟩]
  rw [actF_e]
  unfold aft
  rw [eg]
  simp only
  generalize stp gs ws ⟨k, c, l⟩ = s at *
  obtain ⟨gs', ws', an⟩ := s
  simp only [fileH] at q3 hV' hsc hsl ⊢
  have hg' := hV'.gl
  cases hdn : an.d with
  | true =>
    have q4 := effect_v (G := G) (bb := bb) ⟨gs', ws', K c.toNat, K, upd D c.toNat false, upd W c.toNat u, sn⟩ hV'.so (by simp only; omega) (by simp only; omega) c k c2
    have ee := effF_gs ⟨gs', ws', K c.toNat, K, upd D c.toNat false, upd W c.toNat u, sn⟩ c k
    rw [if_pos rfl]
    have tl := fun st h0 => tail2 (G := G) (bb := bb) (st := st) (effF ⟨gs', ws', K c.toNat, K, upd D c.toNat false, upd W c.toNat u, sn⟩ c k) (by rw [ee.1]; exact hV'.so) (by rw [ee.1]; simp only; omega) (by simp only at ee; omega) k c l u [[ci (ifE (wi u 0 (if k = 3 then 999 else 0)) 2)], [ci (usErr gs ws ⟨k, c, l⟩)]] an (by omega) hsc h0
    generalize effF ⟨gs', ws', K c.toNat, K, upd D c.toNat false, upd W c.toNat u, sn⟩ c k = y at *
    simp only [Ca.h, caH] at q4 ⊢
    simp (disch := omega) only [go_sem, Nat.reduceAdd, Nat.reduceSub, Nat.reduceMul, Nat.reduceLeDiff, Nat.reduceEqDiff, kpCs_d, idsL_d, renL_d, ctCs_d, killL_d, outJ_m, mapM1, mapM2, oneOf, Option.map_some, Option.map_none, Option.bind_some, all_gr, all_wt, List.getElem?_nil, List.length_map, h68c, n3, eq_true k4, hd, within_u, unless_u, q1, q2, q3, q4, hdn, first2, hu, evJ_5, qa, tn1]
    refine tl _ ?_
    simp only [n3, if_false]
    unfold fr0 usH
    rw [hdn]
    rfl
  | false =>
    have tl := fun st h0 => tail2 (G := G) (bb := bb) (st := st) ⟨gs', ws', K c.toNat, K, upd D c.toNat false, upd W c.toNat u, sn⟩ hV'.so (by simp only; omega) (by simp only; omega) k c l u [[ci (ifE (wi u 0 (if k = 3 then 999 else 0)) 2)], [ci (usErr gs ws ⟨k, c, l⟩)]] an (by omega) hsc h0
    rw [if_neg (by simp)]
    simp (disch := omega) only [go_sem, Nat.reduceAdd, Nat.reduceSub, Nat.reduceMul, Nat.reduceLeDiff, Nat.reduceEqDiff, kpCs_d, idsL_d, renL_d, ctCs_d, killL_d, outJ_m, mapM1, mapM2, oneOf, Option.map_some, Option.map_none, Option.bind_some, all_gr, all_wt, List.getElem?_nil, List.length_map, h68c, n3, eq_true k4, hd, within_u, unless_u, q1, q2, q3, hdn, first2, hu, evJ_5, qa, tn1]
    refine tl _ ?_
    simp only [n3, if_false]
    unfold fr0 usH
    rw [hdn]
    rfl
set_option maxHeartbeats 8000000 in
theorem cact_k4N (hG : G 0 = some alD) (gs : List Gr) (ws : List Wt) (v : Int) (K : Nat → Int) (D : Nat → Bool) (W : Nat → Int) (sn : List Int) (hv : Vd gs ws) (hh : Hd gs ws) (hn : sn.length ≤ 9000) (k c l u : Int) (hu : usE ⟨gs, ws, v, K, D, W, sn⟩ k c l u = 0) (ha : aloF ⟨gs, ws, v, K, D, W, sn⟩ k c u = none) (he : acErr gs ws ⟨k, c, l⟩ = 0) (k4 : k = 4) (hd : D c.toNat = false) :
    EV G (Tb (bs bb)) 68 [.one (.ptr 0 0), .agg [.dc (ci k), .dc (ci c), .dc (ci l), .dc (ci u)]] (caH gs ws v K D W sn) = some (vi 0, (actF ⟨gs, ws, v, K, D, W, sn⟩ k c l u).h) := by
  refine EV_run rfl ?_
  have n3 : ¬ k = 3 := by omega
  have h1 := hv.gl
  have h2 := hv.wl
  have q1 := usualErr_v (G := G) (bb := bb) gs ws hv.so ⟨k, c, l⟩ (by omega) (by omega)
  have q2 := actErr_v (G := G) (bb := bb) gs ws hv.so ⟨k, c, l⟩ (by omega) (by omega)
  have eus : usE ⟨gs, ws, v, K, D, W, sn⟩ k c l u = firstE [ifE (wi u 0 (if k = 3 then 999 else 0)) 2, usErr gs ws ⟨k, c, l⟩] := rfl
  rw [eus, if_neg n3] at hu
  have hu1 : usErr gs ws ⟨k, c, l⟩ = 0 := by
    rw [firstE_0] at hu
    exact hu _ (by simp)
  obtain ⟨c1, c2, c3, c4, c5⟩ := us_ok hu1
  simp only at c1 c2 c5
  have hcn : c.toNat < 9 := by omega
  have qa := alone_v (G := G) (bb := bb) ⟨gs, ws, v, K, D, W, sn⟩ hv.so (by simp only; omega) (by simp only; omega) k c l u c2
  rw [ha] at qa
  simp only [Ca.h, caH, Option.isSome_none, Option.getD_none] at qa
  obtain ⟨d1, d2⟩ := ac_us he
  have q3 := step_v (G := G) (bb := bb) hG gs ws ⟨k, c, l⟩ hv.so (fun w hw => kOK_us (hv.wr w hw).2.1) d1 d2 (by omega)
  obtain ⟨hV', _⟩ := stp_ok hv hh he
  have hsf := stp_f gs ws ⟨k, c, l⟩
  have hsc : ∀ w ∈ (stp gs ws ⟨k, c, l⟩).2.2.f, 1 ≤ w.c ∧ w.c ≤ 8 := fun w hw => (hv.wr w (hsf.1 w hw)).1
  have hsl := hsf.2
  have eg : giv ⟨gs, ws, v, K, D, W, sn⟩ k c u = ⟨gs, ws, v, K, D, upd W c.toNat u, sn⟩ := by unfold giv; rw [if_neg (by simp [hd])]
  rw [actF_e]
  unfold aft
  rw [eg]
  simp only
  generalize stp gs ws ⟨k, c, l⟩ = s at *
  obtain ⟨gs', ws', an⟩ := s
  simp only [fileH] at q3 hV' hsc hsl ⊢
  have hg' := hV'.gl
  cases hdn : an.d with
  | true =>
    have q4 := effect_v (G := G) (bb := bb) ⟨gs', ws', v, K, D, upd W c.toNat u, sn⟩ hV'.so (by simp only; omega) (by simp only; omega) c k c2
    have ee := effF_gs ⟨gs', ws', v, K, D, upd W c.toNat u, sn⟩ c k
    rw [if_pos rfl]
    have tl := fun st h0 => tail2 (G := G) (bb := bb) (st := st) (effF ⟨gs', ws', v, K, D, upd W c.toNat u, sn⟩ c k) (by rw [ee.1]; exact hV'.so) (by rw [ee.1]; simp only; omega) (by simp only at ee; omega) k c l u [[ci (ifE (wi u 0 (if k = 3 then 999 else 0)) 2)], [ci (usErr gs ws ⟨k, c, l⟩)]] an (by omega) hsc h0
    generalize effF ⟨gs', ws', v, K, D, upd W c.toNat u, sn⟩ c k = y at *
    simp only [Ca.h, caH] at q4 ⊢
    simp (disch := omega) only [go_sem, Nat.reduceAdd, Nat.reduceSub, Nat.reduceMul, Nat.reduceLeDiff, Nat.reduceEqDiff, kpCs_d, idsL_d, renL_d, ctCs_d, killL_d, outJ_m, mapM1, mapM2, oneOf, Option.map_some, Option.map_none, Option.bind_some, all_gr, all_wt, List.getElem?_nil, List.length_map, h68c, n3, eq_true k4, hd, within_u, unless_u, q1, q2, q3, q4, hdn, first2, hu, evJ_5, qa, tn1]
    refine tl _ ?_
    simp only [n3, if_false]
    unfold fr0 usH
    rw [hdn]
    rfl
  | false =>
    have tl := fun st h0 => tail2 (G := G) (bb := bb) (st := st) ⟨gs', ws', v, K, D, upd W c.toNat u, sn⟩ hV'.so (by simp only; omega) (by simp only; omega) k c l u [[ci (ifE (wi u 0 (if k = 3 then 999 else 0)) 2)], [ci (usErr gs ws ⟨k, c, l⟩)]] an (by omega) hsc h0
    rw [if_neg (by simp)]
    simp (disch := omega) only [go_sem, Nat.reduceAdd, Nat.reduceSub, Nat.reduceMul, Nat.reduceLeDiff, Nat.reduceEqDiff, kpCs_d, idsL_d, renL_d, ctCs_d, killL_d, outJ_m, mapM1, mapM2, oneOf, Option.map_some, Option.map_none, Option.bind_some, all_gr, all_wt, List.getElem?_nil, List.length_map, h68c, n3, eq_true k4, hd, within_u, unless_u, q1, q2, q3, hdn, first2, hu, evJ_5, qa, tn1]
    refine tl _ ?_
    simp only [n3, if_false]
    unfold fr0 usH
    rw [hdn]
    rfl
set_option maxHeartbeats 8000000 in
theorem cact_k5D (hG : G 0 = some alD) (gs : List Gr) (ws : List Wt) (v : Int) (K : Nat → Int) (D : Nat → Bool) (W : Nat → Int) (sn : List Int) (hv : Vd gs ws) (hh : Hd gs ws) (hn : sn.length ≤ 9000) (k c l u : Int) (hu : usE ⟨gs, ws, v, K, D, W, sn⟩ k c l u = 0) (ha : aloF ⟨gs, ws, v, K, D, W, sn⟩ k c u = none) (he : acErr gs ws ⟨k, c, l⟩ = 0) (k5 : k = 5) (hd : D c.toNat = true) :
    EV G (Tb (bs bb)) 68 [.one (.ptr 0 0), .agg [.dc (ci k), .dc (ci c), .dc (ci l), .dc (ci u)]] (caH gs ws v K D W sn) = some (vi 0, (actF ⟨gs, ws, v, K, D, W, sn⟩ k c l u).h) := by
  refine EV_run rfl ?_
  have n3 : ¬ k = 3 := by omega
  have n4 : ¬ k = 4 := by omega
  have h1 := hv.gl
  have h2 := hv.wl
  have q1 := usualErr_v (G := G) (bb := bb) gs ws hv.so ⟨k, c, l⟩ (by omega) (by omega)
  have q2 := actErr_v (G := G) (bb := bb) gs ws hv.so ⟨k, c, l⟩ (by omega) (by omega)
  have eus : usE ⟨gs, ws, v, K, D, W, sn⟩ k c l u = firstE [ifE (wi u 0 (if k = 3 then 999 else 0)) 2, usErr gs ws ⟨k, c, l⟩] := rfl
  rw [eus, if_neg n3] at hu
  have hu1 : usErr gs ws ⟨k, c, l⟩ = 0 := by
    rw [firstE_0] at hu
    exact hu _ (by simp)
  obtain ⟨c1, c2, c3, c4, c5⟩ := us_ok hu1
  simp only at c1 c2 c5
  have hcn : c.toNat < 9 := by omega
  have qa := alone_v (G := G) (bb := bb) ⟨gs, ws, v, K, D, W, sn⟩ hv.so (by simp only; omega) (by simp only; omega) k c l u c2
  rw [ha] at qa
  simp only [Ca.h, caH, Option.isSome_none, Option.getD_none] at qa
  obtain ⟨d1, d2⟩ := ac_us he
  have q3 := step_v (G := G) (bb := bb) hG gs ws ⟨k, c, l⟩ hv.so (fun w hw => kOK_us (hv.wr w hw).2.1) d1 d2 (by omega)
  obtain ⟨hV', _⟩ := stp_ok hv hh he
  have hsf := stp_f gs ws ⟨k, c, l⟩
  have hsc : ∀ w ∈ (stp gs ws ⟨k, c, l⟩).2.2.f, 1 ≤ w.c ∧ w.c ≤ 8 := fun w hw => (hv.wr w (hsf.1 w hw)).1
  have hsl := hsf.2
  have eg : giv ⟨gs, ws, v, K, D, W, sn⟩ k c u = ⟨gs, ws, K c.toNat, K, upd D c.toNat false, upd W c.toNat u, sn⟩ := by unfold giv; rw [if_pos ⟨by omega, hd⟩]
  rw [actF_e]
  unfold aft
  rw [eg]
  simp only
  generalize stp gs ws ⟨k, c, l⟩ = s at *
  obtain ⟨gs', ws', an⟩ := s
  simp only [fileH] at q3 hV' hsc hsl ⊢
  have hg' := hV'.gl
  cases hdn : an.d with
  | true =>
    have q4 := effect_v (G := G) (bb := bb) ⟨gs', ws', K c.toNat, K, upd D c.toNat false, upd W c.toNat u, sn⟩ hV'.so (by simp only; omega) (by simp only; omega) c k c2
    have ee := effF_gs ⟨gs', ws', K c.toNat, K, upd D c.toNat false, upd W c.toNat u, sn⟩ c k
    rw [if_pos rfl]
    have tl := fun st h0 => tail2 (G := G) (bb := bb) (st := st) (effF ⟨gs', ws', K c.toNat, K, upd D c.toNat false, upd W c.toNat u, sn⟩ c k) (by rw [ee.1]; exact hV'.so) (by rw [ee.1]; simp only; omega) (by simp only at ee; omega) k c l u [[ci (ifE (wi u 0 (if k = 3 then 999 else 0)) 2)], [ci (usErr gs ws ⟨k, c, l⟩)]] an (by omega) hsc h0
    generalize effF ⟨gs', ws', K c.toNat, K, upd D c.toNat false, upd W c.toNat u, sn⟩ c k = y at *
    simp only [Ca.h, caH] at q4 ⊢
    simp (disch := omega) only [go_sem, Nat.reduceAdd, Nat.reduceSub, Nat.reduceMul, Nat.reduceLeDiff, Nat.reduceEqDiff, kpCs_d, idsL_d, renL_d, ctCs_d, killL_d, outJ_m, mapM1, mapM2, oneOf, Option.map_some, Option.map_none, Option.bind_some, all_gr, all_wt, List.getElem?_nil, List.length_map, h68c, n3, n4, eq_true k5, hd, within_u, unless_u, q1, q2, q3, q4, hdn, first2, hu, evJ_5, qa, tn1]
    refine tl _ ?_
    simp only [n3, if_false]
    unfold fr0 usH
    rw [hdn]
    rfl
  | false =>
    have tl := fun st h0 => tail2 (G := G) (bb := bb) (st := st) ⟨gs', ws', K c.toNat, K, upd D c.toNat false, upd W c.toNat u, sn⟩ hV'.so (by simp only; omega) (by simp only; omega) k c l u [[ci (ifE (wi u 0 (if k = 3 then 999 else 0)) 2)], [ci (usErr gs ws ⟨k, c, l⟩)]] an (by omega) hsc h0
    rw [if_neg (by simp)]
    simp (disch := omega) only [go_sem, Nat.reduceAdd, Nat.reduceSub, Nat.reduceMul, Nat.reduceLeDiff, Nat.reduceEqDiff, kpCs_d, idsL_d, renL_d, ctCs_d, killL_d, outJ_m, mapM1, mapM2, oneOf, Option.map_some, Option.map_none, Option.bind_some, all_gr, all_wt, List.getElem?_nil, List.length_map, h68c, n3, n4, eq_true k5, hd, within_u, unless_u, q1, q2, q3, hdn, first2, hu, evJ_5, qa, tn1]
    refine tl _ ?_
    simp only [n3, if_false]
    unfold fr0 usH
    rw [hdn]
    rfl
set_option maxHeartbeats 8000000 in
theorem cact_k5N (hG : G 0 = some alD) (gs : List Gr) (ws : List Wt) (v : Int) (K : Nat → Int) (D : Nat → Bool) (W : Nat → Int) (sn : List Int) (hv : Vd gs ws) (hh : Hd gs ws) (hn : sn.length ≤ 9000) (k c l u : Int) (hu : usE ⟨gs, ws, v, K, D, W, sn⟩ k c l u = 0) (ha : aloF ⟨gs, ws, v, K, D, W, sn⟩ k c u = none) (he : acErr gs ws ⟨k, c, l⟩ = 0) (k5 : k = 5) (hd : D c.toNat = false) :
    EV G (Tb (bs bb)) 68 [.one (.ptr 0 0), .agg [.dc (ci k), .dc (ci c), .dc (ci l), .dc (ci u)]] (caH gs ws v K D W sn) = some (vi 0, (actF ⟨gs, ws, v, K, D, W, sn⟩ k c l u).h) := by
  refine EV_run rfl ?_
  have n3 : ¬ k = 3 := by omega
  have n4 : ¬ k = 4 := by omega
  have h1 := hv.gl
  have h2 := hv.wl
  have q1 := usualErr_v (G := G) (bb := bb) gs ws hv.so ⟨k, c, l⟩ (by omega) (by omega)
  have q2 := actErr_v (G := G) (bb := bb) gs ws hv.so ⟨k, c, l⟩ (by omega) (by omega)
  have eus : usE ⟨gs, ws, v, K, D, W, sn⟩ k c l u = firstE [ifE (wi u 0 (if k = 3 then 999 else 0)) 2, usErr gs ws ⟨k, c, l⟩] := rfl
  rw [eus, if_neg n3] at hu
  have hu1 : usErr gs ws ⟨k, c, l⟩ = 0 := by
    rw [firstE_0] at hu
    exact hu _ (by simp)
  obtain ⟨c1, c2, c3, c4, c5⟩ := us_ok hu1
  simp only at c1 c2 c5
  have hcn : c.toNat < 9 := by omega
  have qa := alone_v (G := G) (bb := bb) ⟨gs, ws, v, K, D, W, sn⟩ hv.so (by simp only; omega) (by simp only; omega) k c l u c2
  rw [ha] at qa
  simp only [Ca.h, caH, Option.isSome_none, Option.getD_none] at qa
  obtain ⟨d1, d2⟩ := ac_us he
  have q3 := step_v (G := G) (bb := bb) hG gs ws ⟨k, c, l⟩ hv.so (fun w hw => kOK_us (hv.wr w hw).2.1) d1 d2 (by omega)
  obtain ⟨hV', _⟩ := stp_ok hv hh he
  have hsf := stp_f gs ws ⟨k, c, l⟩
  have hsc : ∀ w ∈ (stp gs ws ⟨k, c, l⟩).2.2.f, 1 ≤ w.c ∧ w.c ≤ 8 := fun w hw => (hv.wr w (hsf.1 w hw)).1
  have hsl := hsf.2
  have eg : giv ⟨gs, ws, v, K, D, W, sn⟩ k c u = ⟨gs, ws, v, K, D, upd W c.toNat u, sn⟩ := by unfold giv; rw [if_neg (by simp [hd])]
  rw [actF_e]
  unfold aft
  rw [eg]
  simp only
  generalize stp gs ws ⟨k, c, l⟩ = s at *
  obtain ⟨gs', ws', an⟩ := s
  simp only [fileH] at q3 hV' hsc hsl ⊢
  have hg' := hV'.gl
  cases hdn : an.d with
  | true =>
    have q4 := effect_v (G := G) (bb := bb) ⟨gs', ws', v, K, D, upd W c.toNat u, sn⟩ hV'.so (by simp only; omega) (by simp only; omega) c k c2
    have ee := effF_gs ⟨gs', ws', v, K, D, upd W c.toNat u, sn⟩ c k
    rw [if_pos rfl]
    have tl := fun st h0 => tail2 (G := G) (bb := bb) (st := st) (effF ⟨gs', ws', v, K, D, upd W c.toNat u, sn⟩ c k) (by rw [ee.1]; exact hV'.so) (by rw [ee.1]; simp only; omega) (by simp only at ee; omega) k c l u [[ci (ifE (wi u 0 (if k = 3 then 999 else 0)) 2)], [ci (usErr gs ws ⟨k, c, l⟩)]] an (by omega) hsc h0
    generalize effF ⟨gs', ws', v, K, D, upd W c.toNat u, sn⟩ c k = y at *
    simp only [Ca.h, caH] at q4 ⊢
    simp (disch := omega) only [go_sem, Nat.reduceAdd, Nat.reduceSub, Nat.reduceMul, Nat.reduceLeDiff, Nat.reduceEqDiff, kpCs_d, idsL_d, renL_d, ctCs_d, killL_d, outJ_m, mapM1, mapM2, oneOf, Option.map_some, Option.map_none, Option.bind_some, all_gr, all_wt, List.getElem?_nil, List.length_map, h68c, n3, n4, eq_true k5, hd, within_u, unless_u, q1, q2, q3, q4, hdn, first2, hu, evJ_5, qa, tn1]
    refine tl _ ?_
    simp only [n3, if_false]
    unfold fr0 usH
    rw [hdn]
    rfl
  | false =>
    have tl := fun st h0 => tail2 (G := G) (bb := bb) (st := st) ⟨gs', ws', v, K, D, upd W c.toNat u, sn⟩ hV'.so (by simp only; omega) (by simp only; omega) k c l u [[ci (ifE (wi u 0 (if k = 3 then 999 else 0)) 2)], [ci (usErr gs ws ⟨k, c, l⟩)]] an (by omega) hsc h0
    rw [if_neg (by simp)]
    simp (disch := omega) only [go_sem, Nat.reduceAdd, Nat.reduceSub, Nat.reduceMul, Nat.reduceLeDiff, Nat.reduceEqDiff, kpCs_d, idsL_d, renL_d, ctCs_d, killL_d, outJ_m, mapM1, mapM2, oneOf, Option.map_some, Option.map_none, Option.bind_some, all_gr, all_wt, List.getElem?_nil, List.length_map, h68c, n3, n4, eq_true k5, hd, within_u, unless_u, q1, q2, q3, hdn, first2, hu, evJ_5, qa, tn1]
    refine tl _ ?_
    simp only [n3, if_false]
    unfold fr0 usH
    rw [hdn]
    rfl
set_option maxHeartbeats 8000000 in
theorem cact_k3 (hG : G 0 = some alD) (gs : List Gr) (ws : List Wt) (v : Int) (K : Nat → Int) (D : Nat → Bool) (W : Nat → Int) (sn : List Int) (hv : Vd gs ws) (hh : Hd gs ws) (hn : sn.length ≤ 9000) (k c l u : Int) (hu : usE ⟨gs, ws, v, K, D, W, sn⟩ k c l u = 0) (ha : aloF ⟨gs, ws, v, K, D, W, sn⟩ k c u = none) (he : acErr gs ws ⟨k, c, l⟩ = 0) (k3 : k = 3) :
    EV G (Tb (bs bb)) 68 [.one (.ptr 0 0), .agg [.dc (ci k), .dc (ci c), .dc (ci l), .dc (ci u)]] (caH gs ws v K D W sn) = some (vi 0, (actF ⟨gs, ws, v, K, D, W, sn⟩ k c l u).h) := by
  refine EV_run rfl ?_
  have n4 : ¬ k = 4 := by omega
  have n5 : ¬ k = 5 := by omega
  have h1 := hv.gl
  have h2 := hv.wl
  have q1 := usualErr_v (G := G) (bb := bb) gs ws hv.so ⟨k, c, l⟩ (by omega) (by omega)
  have q2 := actErr_v (G := G) (bb := bb) gs ws hv.so ⟨k, c, l⟩ (by omega) (by omega)
  have eus : usE ⟨gs, ws, v, K, D, W, sn⟩ k c l u = firstE [ifE (wi u 0 (if k = 3 then 999 else 0)) 2, usErr gs ws ⟨k, c, l⟩] := rfl
  rw [eus, if_pos k3] at hu
  have hu1 : usErr gs ws ⟨k, c, l⟩ = 0 := by
    rw [firstE_0] at hu
    exact hu _ (by simp)
  obtain ⟨c1, c2, c3, c4, c5⟩ := us_ok hu1
  simp only at c1 c2 c5
  have hcn : c.toNat < 9 := by omega
  have qa := alone_v (G := G) (bb := bb) ⟨gs, ws, v, K, D, W, sn⟩ hv.so (by simp only; omega) (by simp only; omega) k c l u c2
  rw [ha] at qa
  simp only [Ca.h, caH, Option.isSome_none, Option.getD_none] at qa
  obtain ⟨d1, d2⟩ := ac_us he
  have q3 := step_v (G := G) (bb := bb) hG gs ws ⟨k, c, l⟩ hv.so (fun w hw => kOK_us (hv.wr w hw).2.1) d1 d2 (by omega)
  obtain ⟨hV', _⟩ := stp_ok hv hh he
  have hsf := stp_f gs ws ⟨k, c, l⟩
  have hsc : ∀ w ∈ (stp gs ws ⟨k, c, l⟩).2.2.f, 1 ≤ w.c ∧ w.c ≤ 8 := fun w hw => (hv.wr w (hsf.1 w hw)).1
  have hsl := hsf.2
  have eg : giv ⟨gs, ws, v, K, D, W, sn⟩ k c u = ⟨gs, ws, v, K, D, upd W c.toNat u, sn⟩ := by unfold giv; rw [if_neg (fun h => by omega)]
  rw [actF_e]
  unfold aft
  rw [eg]
  simp only
  generalize stp gs ws ⟨k, c, l⟩ = s at *
  obtain ⟨gs', ws', an⟩ := s
  simp only [fileH] at q3 hV' hsc hsl ⊢
  have hg' := hV'.gl
  cases hdn : an.d with
  | true =>
    have q4 := effect_v (G := G) (bb := bb) ⟨gs', ws', v, K, D, upd W c.toNat u, sn⟩ hV'.so (by simp only; omega) (by simp only; omega) c k c2
    have ee := effF_gs ⟨gs', ws', v, K, D, upd W c.toNat u, sn⟩ c k
    rw [if_pos rfl]
    have tl := fun st h0 => tail2 (G := G) (bb := bb) (st := st) (effF ⟨gs', ws', v, K, D, upd W c.toNat u, sn⟩ c k) (by rw [ee.1]; exact hV'.so) (by rw [ee.1]; simp only; omega) (by simp only at ee; omega) k c l u [[ci (ifE (wi u 0 (if k = 3 then 999 else 0)) 2)], [ci (usErr gs ws ⟨k, c, l⟩)]] an (by omega) hsc h0
    generalize effF ⟨gs', ws', v, K, D, upd W c.toNat u, sn⟩ c k = y at *
    simp only [Ca.h, caH] at q4 ⊢
    simp (disch := omega) only [go_sem, Nat.reduceAdd, Nat.reduceSub, Nat.reduceMul, Nat.reduceLeDiff, Nat.reduceEqDiff, kpCs_d, idsL_d, renL_d, ctCs_d, killL_d, outJ_m, mapM1, mapM2, oneOf, Option.map_some, Option.map_none, Option.bind_some, all_gr, all_wt, List.getElem?_nil, List.length_map, h68c, eq_true k3, n4, n5, within_u, unless_u, q1, q2, q3, q4, hdn, first2, hu, evJ_5, qa, tn1]
    refine tl _ ?_
    simp only [eq_true k3, if_true]
    unfold fr0 usH
    rw [hdn]
    rfl
  | false =>
    have tl := fun st h0 => tail2 (G := G) (bb := bb) (st := st) ⟨gs', ws', v, K, D, upd W c.toNat u, sn⟩ hV'.so (by simp only; omega) (by simp only; omega) k c l u [[ci (ifE (wi u 0 (if k = 3 then 999 else 0)) 2)], [ci (usErr gs ws ⟨k, c, l⟩)]] an (by omega) hsc h0
    rw [if_neg (by simp)]
    simp (disch := omega) only [go_sem, Nat.reduceAdd, Nat.reduceSub, Nat.reduceMul, Nat.reduceLeDiff, Nat.reduceEqDiff, kpCs_d, idsL_d, renL_d, ctCs_d, killL_d, outJ_m, mapM1, mapM2, oneOf, Option.map_some, Option.map_none, Option.bind_some, all_gr, all_wt, List.getElem?_nil, List.length_map, h68c, eq_true k3, n4, n5, within_u, unless_u, q1, q2, q3, hdn, first2, hu, evJ_5, qa, tn1]
    refine tl _ ?_
    simp only [eq_true k3, if_true]
    unfold fr0 usH
    rw [hdn]
    rfl
set_option maxHeartbeats 8000000 in
theorem cact_kO (hG : G 0 = some alD) (gs : List Gr) (ws : List Wt) (v : Int) (K : Nat → Int) (D : Nat → Bool) (W : Nat → Int) (sn : List Int) (hv : Vd gs ws) (hh : Hd gs ws) (hn : sn.length ≤ 9000) (k c l u : Int) (hu : usE ⟨gs, ws, v, K, D, W, sn⟩ k c l u = 0) (ha : aloF ⟨gs, ws, v, K, D, W, sn⟩ k c u = none) (he : acErr gs ws ⟨k, c, l⟩ = 0) (n3 : ¬ k = 3) (n4 : ¬ k = 4) (n5 : ¬ k = 5) :
    EV G (Tb (bs bb)) 68 [.one (.ptr 0 0), .agg [.dc (ci k), .dc (ci c), .dc (ci l), .dc (ci u)]] (caH gs ws v K D W sn) = some (vi 0, (actF ⟨gs, ws, v, K, D, W, sn⟩ k c l u).h) := by
  refine EV_run rfl ?_
  have h1 := hv.gl
  have h2 := hv.wl
  have q1 := usualErr_v (G := G) (bb := bb) gs ws hv.so ⟨k, c, l⟩ (by omega) (by omega)
  have q2 := actErr_v (G := G) (bb := bb) gs ws hv.so ⟨k, c, l⟩ (by omega) (by omega)
  have eus : usE ⟨gs, ws, v, K, D, W, sn⟩ k c l u = firstE [ifE (wi u 0 (if k = 3 then 999 else 0)) 2, usErr gs ws ⟨k, c, l⟩] := rfl
  rw [eus, if_neg n3] at hu
  have hu1 : usErr gs ws ⟨k, c, l⟩ = 0 := by
    rw [firstE_0] at hu
    exact hu _ (by simp)
  obtain ⟨c1, c2, c3, c4, c5⟩ := us_ok hu1
  simp only at c1 c2 c5
  have hcn : c.toNat < 9 := by omega
  have qa := alone_v (G := G) (bb := bb) ⟨gs, ws, v, K, D, W, sn⟩ hv.so (by simp only; omega) (by simp only; omega) k c l u c2
  rw [ha] at qa
  simp only [Ca.h, caH, Option.isSome_none, Option.getD_none] at qa
  obtain ⟨d1, d2⟩ := ac_us he
  have q3 := step_v (G := G) (bb := bb) hG gs ws ⟨k, c, l⟩ hv.so (fun w hw => kOK_us (hv.wr w hw).2.1) d1 d2 (by omega)
  obtain ⟨hV', _⟩ := stp_ok hv hh he
  have hsf := stp_f gs ws ⟨k, c, l⟩
  have hsc : ∀ w ∈ (stp gs ws ⟨k, c, l⟩).2.2.f, 1 ≤ w.c ∧ w.c ≤ 8 := fun w hw => (hv.wr w (hsf.1 w hw)).1
  have hsl := hsf.2
  have eg : giv ⟨gs, ws, v, K, D, W, sn⟩ k c u = ⟨gs, ws, v, K, D, upd W c.toNat u, sn⟩ := by unfold giv; rw [if_neg (fun h => by omega)]
  rw [actF_e]
  unfold aft
  rw [eg]
  simp only
  generalize stp gs ws ⟨k, c, l⟩ = s at *
  obtain ⟨gs', ws', an⟩ := s
  simp only [fileH] at q3 hV' hsc hsl ⊢
  have hg' := hV'.gl
  cases hdn : an.d with
  | true =>
    have q4 := effect_v (G := G) (bb := bb) ⟨gs', ws', v, K, D, upd W c.toNat u, sn⟩ hV'.so (by simp only; omega) (by simp only; omega) c k c2
    have ee := effF_gs ⟨gs', ws', v, K, D, upd W c.toNat u, sn⟩ c k
    rw [if_pos rfl]
    have tl := fun st h0 => tail2 (G := G) (bb := bb) (st := st) (effF ⟨gs', ws', v, K, D, upd W c.toNat u, sn⟩ c k) (by rw [ee.1]; exact hV'.so) (by rw [ee.1]; simp only; omega) (by simp only at ee; omega) k c l u [[ci (ifE (wi u 0 (if k = 3 then 999 else 0)) 2)], [ci (usErr gs ws ⟨k, c, l⟩)]] an (by omega) hsc h0
    generalize effF ⟨gs', ws', v, K, D, upd W c.toNat u, sn⟩ c k = y at *
    simp only [Ca.h, caH] at q4 ⊢
    simp (disch := omega) only [go_sem, Nat.reduceAdd, Nat.reduceSub, Nat.reduceMul, Nat.reduceLeDiff, Nat.reduceEqDiff, kpCs_d, idsL_d, renL_d, ctCs_d, killL_d, outJ_m, mapM1, mapM2, oneOf, Option.map_some, Option.map_none, Option.bind_some, all_gr, all_wt, List.getElem?_nil, List.length_map, h68c, n3, n4, n5, within_u, unless_u, q1, q2, q3, q4, hdn, first2, hu, evJ_5, qa, tn1]
    refine tl _ ?_
    simp only [n3, if_false]
    unfold fr0 usH
    rw [hdn]
    rfl
  | false =>
    have tl := fun st h0 => tail2 (G := G) (bb := bb) (st := st) ⟨gs', ws', v, K, D, upd W c.toNat u, sn⟩ hV'.so (by simp only; omega) (by simp only; omega) k c l u [[ci (ifE (wi u 0 (if k = 3 then 999 else 0)) 2)], [ci (usErr gs ws ⟨k, c, l⟩)]] an (by omega) hsc h0
    rw [if_neg (by simp)]
    simp (disch := omega) only [go_sem, Nat.reduceAdd, Nat.reduceSub, Nat.reduceMul, Nat.reduceLeDiff, Nat.reduceEqDiff, kpCs_d, idsL_d, renL_d, ctCs_d, killL_d, outJ_m, mapM1, mapM2, oneOf, Option.map_some, Option.map_none, Option.bind_some, all_gr, all_wt, List.getElem?_nil, List.length_map, h68c, n3, n4, n5, within_u, unless_u, q1, q2, q3, hdn, first2, hu, evJ_5, qa, tn1]
    refine tl _ ?_
    simp only [n3, if_false]
    unfold fr0 usH
    rw [hdn]
    rfl
end
section
set_option maxRecDepth 4000
set_option linter.unusedSimpArgs false
set_option linter.unusedVariables false
variable {G : Glob} {bb : Bool}
set_option maxHeartbeats 8000000 in
theorem cuse_v (hG : G 0 = some alD) (x : Ca) (hv : Vd x.gs x.ws) (hh : Hd x.gs x.ws) (hn : x.sn.length ≤ 9000) (k c l u : Int) :
    EV G (Tb (bs bb)) 68 [.one (.ptr 0 0), .agg [.dc (ci k), .dc (ci c), .dc (ci l), .dc (ci u)]] x.h = some (vi (usF x k c l u).2, (usF x k c l u).1.h) := by
  have h1 := hv.gl
  have h2 := hv.wl
  have q1 := usualErr_v (G := G) (bb := bb) x.gs x.ws hv.so ⟨k, c, l⟩ (by omega) (by omega)
  have q2 := actErr_v (G := G) (bb := bb) x.gs x.ws hv.so ⟨k, c, l⟩ (by omega) (by omega)
  unfold usF
  have eus : usE x k c l u = firstE [ifE (wi u 0 (if k = 3 then 999 else 0)) 2, usErr x.gs x.ws ⟨k, c, l⟩] := rfl
  by_cases hu : usE x k c l u = 0
  · rw [if_neg (by omega)]
    rw [eus] at hu
    have hu1 : usErr x.gs x.ws ⟨k, c, l⟩ = 0 := by
      rw [firstE_0] at hu
      exact hu _ (by simp)
    obtain ⟨k1, k2, k3, k4, k5⟩ := us_ok hu1
    simp only at k1 k2 k5
    have qa := alone_v (G := G) (bb := bb) x hv.so (by omega) (by omega) k c l u k2
    cases ha : aloF x k c u with
    | some y =>
      rw [ha] at qa
      simp only [Ca.h, caH, Option.isSome_some, Option.getD_some] at qa ⊢
      by_cases k3 : k = 3
      · rw [if_pos k3] at hu
        refine EV_run rfl ?_
        simp (disch := omega) only [go_sem, Nat.reduceAdd, Nat.reduceSub, Nat.reduceMul, Nat.reduceLeDiff, Nat.reduceEqDiff, kpCs_d, idsL_d, renL_d, ctCs_d, killL_d, outJ_m, mapM1, mapM2, oneOf, Option.map_some, Option.map_none, Option.bind_some, all_gr, all_wt, List.getElem?_nil, List.length_map, h68c, eq_true k3, within_u, unless_u, q1, first2, hu, evJ_5, qa]
        try rfl
      · rw [if_neg k3] at hu
        refine EV_run rfl ?_
        simp (disch := omega) only [go_sem, Nat.reduceAdd, Nat.reduceSub, Nat.reduceMul, Nat.reduceLeDiff, Nat.reduceEqDiff, kpCs_d, idsL_d, renL_d, ctCs_d, killL_d, outJ_m, mapM1, mapM2, oneOf, Option.map_some, Option.map_none, Option.bind_some, all_gr, all_wt, List.getElem?_nil, List.length_map, h68c, k3, within_u, unless_u, q1, first2, hu, evJ_5, qa]
        try rfl
    | none =>
      rw [ha] at qa
      simp only [Ca.h, caH, Option.isSome_none, Option.getD_none] at qa ⊢
      by_cases he : acErr x.gs x.ws ⟨k, c, l⟩ = 0
      · rw [if_neg (by omega)]
        obtain ⟨gs, ws, v, K, D, W, sn⟩ := x
        by_cases k4 : k = 4
        · cases hd : D c.toNat with
          | true => exact cact_k4D hG gs ws v K D W sn hv hh hn k c l u (by rw [eus]; exact hu) ha he k4 hd
          | false => exact cact_k4N hG gs ws v K D W sn hv hh hn k c l u (by rw [eus]; exact hu) ha he k4 hd
        · by_cases k5 : k = 5
          · cases hd : D c.toNat with
            | true => exact cact_k5D hG gs ws v K D W sn hv hh hn k c l u (by rw [eus]; exact hu) ha he k5 hd
            | false => exact cact_k5N hG gs ws v K D W sn hv hh hn k c l u (by rw [eus]; exact hu) ha he k5 hd
          · by_cases k3 : k = 3
            · exact cact_k3 hG gs ws v K D W sn hv hh hn k c l u (by rw [eus]; exact hu) ha he k3
            · exact cact_kO hG gs ws v K D W sn hv hh hn k c l u (by rw [eus]; exact hu) ha he k3 k4 k5
      · rw [if_pos he]
        by_cases k3 : k = 3
        · rw [if_pos k3] at hu
          refine EV_run rfl ?_
          simp (disch := omega) only [go_sem, Nat.reduceAdd, Nat.reduceSub, Nat.reduceMul, Nat.reduceLeDiff, Nat.reduceEqDiff, kpCs_d, idsL_d, renL_d, ctCs_d, killL_d, outJ_m, mapM1, mapM2, oneOf, Option.map_some, Option.map_none, Option.bind_some, all_gr, all_wt, List.getElem?_nil, List.length_map, h68c, eq_true k3, within_u, unless_u, q1, q2, he, first2, hu, evJ_5, qa]
          try rfl
        · rw [if_neg k3] at hu
          refine EV_run rfl ?_
          simp (disch := omega) only [go_sem, Nat.reduceAdd, Nat.reduceSub, Nat.reduceMul, Nat.reduceLeDiff, Nat.reduceEqDiff, kpCs_d, idsL_d, renL_d, ctCs_d, killL_d, outJ_m, mapM1, mapM2, oneOf, Option.map_some, Option.map_none, Option.bind_some, all_gr, all_wt, List.getElem?_nil, List.length_map, h68c, k3, within_u, unless_u, q1, q2, he, first2, hu, evJ_5, qa]
          try rfl
  · rw [if_pos hu]
    rw [eus] at hu ⊢
    by_cases k3 : k = 3
    · rw [if_pos k3] at hu ⊢
      refine EV_run rfl ?_
      simp (disch := omega) only [go_sem, Nat.reduceAdd, Nat.reduceSub, Nat.reduceMul, Nat.reduceLeDiff, Nat.reduceEqDiff, kpCs_d, idsL_d, renL_d, ctCs_d, killL_d, outJ_m, mapM1, mapM2, oneOf, Option.map_some, Option.map_none, Option.bind_some, all_gr, all_wt, List.getElem?_nil, List.length_map, h68c, eq_true k3, within_u, unless_u, q1, first2, hu]
      try rfl
    · rw [if_neg k3] at hu ⊢
      refine EV_run rfl ?_
      simp (disch := omega) only [go_sem, Nat.reduceAdd, Nat.reduceSub, Nat.reduceMul, Nat.reduceLeDiff, Nat.reduceEqDiff, kpCs_d, idsL_d, renL_d, ctCs_d, killL_d, outJ_m, mapM1, mapM2, oneOf, Option.map_some, Option.map_none, Option.bind_some, all_gr, all_wt, List.getElem?_nil, List.length_map, h68c, k3, within_u, unless_u, q1, first2, hu]
      try rfl
end
section
set_option maxRecDepth 4000
set_option linter.unusedSimpArgs false
set_option linter.unusedVariables false
variable {G : Glob} {bb : Bool}
theorem evJ_6 {call : CallT} {d : Option Nat} {f : FuncId} {avs : List AV} {st : AS} {a0 a1 a2 a3 a4 a5 : Nat} : evJ call d f avs st [a0, a1, a2, a3, a4, a5] = evB call d f avs st [a0, a1, a2, a3, a4, a5] (dstN [a0, a1, a2, a3, a4, a5] && kpH [a0, a1, a2, a3, a4, a5] st.hp [a0, a1, a2, a3, a4, a5] && kpVs [a0, a1, a2, a3, a4, a5] avs) := evJ_e _
abbrev acsV (l : List Ac) : AV := vl (l.map Ac.e)
/-- the objects of a run: the file, the answers -/
abbrev runH (gs : List Gr) (ws : List Wt) (out : List An) : List AObj := [.box [.ptr 1 0], .box [.bld 2 gs.length, .bld 3 ws.length], .arr 0 3 (gs.map Gr.e), .arr 0 2 (ws.map Wt.e), .box [.bld 5 out.length], .arr 0 3 (out.map An.e)]
theorem vd_k {gs : List Gr} {ws : List Wt} (h : Vd gs ws) : ∀ w ∈ ws, kOK w.k := fun w hw => kOK_us (h.wr w hw).2.1
theorem ac_in {gs : List Gr} {ws : List Wt} {a : Ac} (h : acErr gs ws a = 0) : (0 ≤ a.k ∧ a.k ≤ 5) ∧ (a.k ≠ 0 → isIn gs a.c = true) := by
  have hu : usErr gs ws a = 0 := by
    unfold acErr at h
    split at h
    · rename_i h1; exact absurd h h1
    · rename_i h1; exact Classical.not_not.1 h1
  obtain ⟨h1, h2, h3, h4, h5⟩ := us_ok hu
  refine ⟨h1, fun h0 => ?_⟩
  cases hi : isIn gs a.c with
  | true => rfl
  | false => exact absurd (h5.2 hi) h0
set_option maxHeartbeats 2000000 in
theorem p62_v (hG : G 0 = some alD) (gs : List Gr) (ws : List Wt) (out : List An) (hv : Vd gs ws) (i : Int) (a : Ac) (ho : out.length ≤ 1000) :
    EV G (Tb (bs bb)) 62 [vi i, a.v, .one (.ptr 0 0), .one (.ptr 4 0)] (runH gs ws out) = some (vi (acErr gs ws a), if acErr gs ws a = 0 then runH (stp gs ws a).1 (stp gs ws a).2.1 (out ++ [(stp gs ws a).2.2]) else runH gs ws out) := by
  refine EV_run rfl ?_
  have h1 := hv.gl
  have h2 := hv.wl
  have q := actErr_v (G := G) (bb := bb) gs ws hv.so a (by omega) (by omega)
  by_cases he : acErr gs ws a = 0
  · rw [if_pos he]
    rw [he] at q ⊢
    obtain ⟨h3, h4⟩ := ac_in he
    have q1 := step_v (G := G) (bb := bb) hG gs ws a hv.so (vd_k hv) h3 h4 (by omega)
    simp only [fileH] at q1
    simp only [runH]
    simp (disch := omega) only [go_sem, Nat.reduceAdd, Nat.reduceSub, Nat.reduceMul, Nat.reduceLeDiff, Nat.reduceEqDiff, kpCs_d, idsL_d, renL_d, ctCs_d, killL_d, outJ_m, mapM1, mapM2, oneOf, Option.map_some, Option.map_none, Option.bind_some, all_gr, all_wt, List.getElem?_nil, List.length_map, h62c, q, q1, List.take_length, List.length_append, List.length_cons, List.length_nil, List.map_append, List.map_cons, List.map_nil, An.e]
  · rw [if_neg he]
    simp (disch := omega) only [go_sem, Nat.reduceAdd, Nat.reduceSub, Nat.reduceMul, Nat.reduceLeDiff, Nat.reduceEqDiff, kpCs_d, idsL_d, renL_d, ctCs_d, killL_d, outJ_m, mapM1, mapM2, oneOf, Option.map_some, Option.map_none, Option.bind_some, all_gr, all_wt, List.getElem?_nil, List.length_map, h62c, q, he]
end
section
set_option maxRecDepth 4000
set_option linter.unusedSimpArgs false
set_option linter.unusedVariables false
variable {G : Glob} {bb : Bool}
/-- a run up to its end, or to the first error -/
def rnX : List Gr → List Wt → List An → Nat → List Ac → (List Gr × List Wt × List An) × Int × Int
  | gs, ws, out, n, [] => ((gs, ws, out), 0, 0)
  | gs, ws, out, n, a :: l => if acErr gs ws a = 0 then rnX (stp gs ws a).1 (stp gs ws a).2.1 (out ++ [(stp gs ws a).2.2]) (n + 1) l else ((gs, ws, out), n, acErr gs ws a)
def eaS (l : List Ac) (k : Nat) (gs : List Gr) (ws : List Wt) (out : List An) : AS := ⟨(jk 1 (.one (.fn 62 [.ptr 0 0, .ptr 4 0]) :: jk 7 (acsV l :: vi l.length :: vi k :: jk 13 []))), runH gs ws out⟩
theorem each61_key (hG : G 0 = some alD) (l : List Ac) (hl : l.length ≤ 100) : ∀ (rest : List Ac) (k : Nat) (gs : List Gr) (ws : List Wt) (out : List An), l.drop k = rest → k ≤ l.length → Vd gs ws → Hd gs ws → out.length ≤ k →
    retZ false [RetV.tmp 4, RetV.tmp 5] 6 (sqK (EV G (Tb (bs bb))) G ((HC.region [Oo 4 (AI.mov (Ki 0)), Oo 5 (AI.mov (Ki 0))]).seq HC.ret) (blkK 0 (EL (EV G (Tb (bs bb))) G h61l0 [1, 7, 0, 0] 6 (eaS l k gs ws out)))) =
      some (twoI (rnX gs ws out k rest).2, runH (rnX gs ws out k rest).1.1 (rnX gs ws out k rest).1.2.1 (rnX gs ws out k rest).1.2.2)
  | [], k, gs, ws, out, hd, hk, hv, hh, ho => by
    have hkl : k = l.length := by
      have := congrArg List.length hd
      simp at this; omega
    subst hkl
    rw [EL_unf, rnX]
    unfold eaS
    simp only [runH]
    simp (disch := omega) only [go_sem, Nat.reduceAdd, Nat.reduceSub, Nat.reduceMul, Nat.reduceLeDiff, Nat.reduceEqDiff, kpCs_d, idsL_d, renL_d, ctCs_d, killL_d, outJ_m, mapM1, mapM2, oneOf, Option.map_some, Option.map_none, Option.bind_some, all_gr, all_wt, List.getElem?_nil, List.length_map, h61l0]
  | a :: rest, k, gs, ws, out, hd, hk, hv, hh, ho => by
    have hkl : k < l.length := by
      have := congrArg List.length hd
      simp at this; omega
    have ha : l[k] = a := by
      have := List.drop_eq_getElem_cons hkl
      rw [hd] at this
      injection this with this _
      exact this.symm
    have hd' : l.drop (k + 1) = rest := by
      have := List.drop_eq_getElem_cons hkl
      rw [hd] at this
      injection this with _ this
      exact this.symm
    have eg : (l.map Ac.e)[k]? = some [ci a.k, ci a.c, ci a.l] := by rw [List.getElem?_map, List.getElem?_eq_getElem hkl, ha]; rfl
    have q := p62_v (bb := bb) hG gs ws out hv k a (by omega)
    by_cases he : acErr gs ws a = 0
    · obtain ⟨h1, h2⟩ := stp_ok hv hh he
      have ih := each61_key hG l hl rest (k + 1) (stp gs ws a).1 (stp gs ws a).2.1 (out ++ [(stp gs ws a).2.2]) hd' (by omega) h1 h2 (by simp; omega)
      have hr : rnK [1, 7, 0, 0] 6 (EC (EV G (Tb (bs bb))) G h61l0 (eaS l k gs ws out)) = some (eaS l (k + 1) (stp gs ws a).1 (stp gs ws a).2.1 (out ++ [(stp gs ws a).2.2])) := by
        unfold eaS
        rw [if_pos he, he] at q
        generalize stp gs ws a = s at *
        simp only [runH] at q ⊢
        simp (disch := omega) only [go_sem, Nat.reduceAdd, Nat.reduceSub, Nat.reduceMul, Nat.reduceLeDiff, Nat.reduceEqDiff, kpCs_d, idsL_d, renL_d, ctCs_d, killL_d, outJ_m, mapM1, mapM2, oneOf, Option.map_some, Option.map_none, Option.bind_some, all_gr, all_wt, List.getElem?_nil, List.length_map, h61l0, evJ_6, eg, q]
      rw [EL_unf, fnK_of hr, ih, rnX, if_pos he]
    · rw [EL_unf, rnX, if_neg he]
      unfold eaS
      rw [if_neg he] at q
      simp only [runH] at q ⊢
      simp (disch := omega) only [go_sem, Nat.reduceAdd, Nat.reduceSub, Nat.reduceMul, Nat.reduceLeDiff, Nat.reduceEqDiff, kpCs_d, idsL_d, renL_d, ctCs_d, killL_d, outJ_m, mapM1, mapM2, oneOf, Option.map_some, Option.map_none, Option.bind_some, all_gr, all_wt, List.getElem?_nil, List.length_map, h61l0, evJ_6, eg, q, he]
theorem each61_v (hG : G 0 = some alD) (l : List Ac) (hl : l.length ≤ 100) : EV G (Tb (bs bb)) 61 [acsV l, .one (.fn 62 [.ptr 0 0, .ptr 4 0])] (runH [] [] []) = some (twoI (rnX [] [] [] 0 l).2, runH (rnX [] [] [] 0 l).1.1 (rnX [] [] [] 0 l).1.2.1 (rnX [] [] [] 0 l).1.2.2) := by
  refine EV_run rfl ?_
  have q := each61_key (bb := bb) hG l hl l 0 [] [] [] rfl (by omega) Vd.nil Hd.nil (by simp)
  rw [← q]
  simp (disch := omega) only [go_sem, Nat.reduceAdd, Nat.reduceSub, Nat.reduceMul, Nat.reduceLeDiff, Nat.reduceEqDiff, kpCs_d, idsL_d, renL_d, ctCs_d, killL_d, outJ_m, mapM1, mapM2, oneOf, Option.map_some, Option.map_none, Option.bind_some, all_gr, all_wt, List.getElem?_nil, List.length_map, h61c]
  rfl
end
end Go.Proofs.YtinageiefahjfaaGreatDoor
