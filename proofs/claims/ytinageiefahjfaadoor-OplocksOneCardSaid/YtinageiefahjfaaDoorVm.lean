/- Caches: runs of uses. Conditions: none. -/
import Derived.Test.YtinageiefahjfaaDoorVk
import Derived.Test.YtinageiefahjfaaDoorSh
import Derived.Test.YtinageiefahjfaaDoorUi
namespace Go.Proofs.YtinageiefahjfaaDoor
set_option linter.unusedSimpArgs false
set_option linter.unusedVariables false
set_option maxRecDepth 4000
section
variable {G : Glob} {bb : Bool}
def aft (x : Ca) (k c l u : Int) : Ca := ⟨(stp x.gs x.ws ⟨k, c, l⟩).1, (stp x.gs x.ws ⟨k, c, l⟩).2.1, (giv x k c u).v, (giv x k c u).K, (giv x k c u).D, (giv x k c u).W, (giv x k c u).sn⟩
theorem actF_e (x : Ca) (k c l u : Int) : actF x k c l u = drpF (effL (if (stp x.gs x.ws ⟨k, c, l⟩).2.2.d = true then effF (aft x k c l u) c k else aft x k c l u) (stp x.gs x.ws ⟨k, c, l⟩).2.2.f) 9 := rfl
set_option maxHeartbeats 8000000 in
theorem cact_k4D (hG : G 0 = some alD) (gs : List Gr) (ws : List Wt) (v : Int) (K : Nat → Int) (D : Nat → Bool) (W : Nat → Int) (sn : List Int) (hv : Vd gs ws) (hh : Hd gs ws) (hn : sn.length ≤ 9000) (k c l u : Int) (hu : usE ⟨gs, ws, v, K, D, W, sn⟩ k c l u = 0) (ha : aloF ⟨gs, ws, v, K, D, W, sn⟩ k c u = none) (he : acErr gs ws ⟨k, c, l⟩ = 0) (k4 : k = 4) (hd : D c.toNat = true) :
    EV G (Tb (bs bb)) 20 [.one (.ptr 0 0), .agg [.dc (ci k), .dc (ci c), .dc (ci l), .dc (ci u)]] (caH gs ws v K D W sn) = some (vi 0, (actF ⟨gs, ws, v, K, D, W, sn⟩ k c l u).h) := by
  refine EV_run rfl ?_
  have n3 : ¬ k = 3 := by omega
  have h1 := hv.gl
  have h2 := hv.wl
  have q1 := usualErr_v (G := G) (bb := bb) gs ws hv.so ⟨k, c, l⟩ (by omega) (by omega)
  have q2 := actErr_v (G := G) (bb := bb) gs ws hv.so ⟨k, c, l⟩ (by omega) (by omega)
  have eus : usE ⟨gs, ws, v, K, D, W, sn⟩ k c l u = firstE [ifE (wi u 0 (if k = 3 then 999 else 0)) 2, usErr gs ws ⟨k, c, l⟩] := rfl
  rw [eus, if_neg n3] at hu
  have hu1 : usErr gs ws ⟨k, c, l⟩ = 0 := by
    rw [firstE_0] at hu
    exact hu _ (by simp)
  obtain ⟨c1, c2, c3, c4, c5⟩ := us_ok hu1
  simp only at c1 c2 c5
  have hcn : c.toNat < 9 := by omega
  have qa := alone_v (G := G) (bb := bb) ⟨gs, ws, v, K, D, W, sn⟩ hv.so (by simp only; omega) (by simp only; omega) k c l u c2
  rw [ha] at qa
  simp only [Ca.h, caH, Option.isSome_none, Option.getD_none] at qa
  obtain ⟨d1, d2⟩ := ac_us he
  have q3 := step_v (G := G) (bb := bb) hG gs ws ⟨k, c, l⟩ hv.so (fun w hw => kOK_us (hv.wr w hw).2.1) d1 d2 (by omega)
  obtain ⟨hV', _⟩ := stp_ok hv hh he
  have hsf := stp_f gs ws ⟨k, c, l⟩
  have hsc : ∀ w ∈ (stp gs ws ⟨k, c, l⟩).2.2.f, 1 ≤ w.c ∧ w.c ≤ 8 := fun w hw => (hv.wr w (hsf.1 w hw)).1
  have hsl := hsf.2
  have eg : giv ⟨gs, ws, v, K, D, W, sn⟩ k c u = ⟨gs, ws, K c.toNat, K, upd D c.toNat false, upd W c.toNat u, sn⟩ := by unfold giv; rw [if_pos ⟨by omega, hd⟩]
  rw [actF_e]
  unfold aft
  rw [eg]
  simp only
  generalize stp gs ws ⟨k, c, l⟩ = s at *
  obtain ⟨gs', ws', an⟩ := s
  simp only [fileH] at q3 hV' hsc hsl ⊢
  have hg' := hV'.gl
  cases hdn : an.d with
  | true =>
    have q4 := effect_v (G := G) (bb := bb) ⟨gs', ws', K c.toNat, K, upd D c.toNat false, upd W c.toNat u, sn⟩ hV'.so (by simp only; omega) (by simp only; omega) c k c2
    have ee := effF_gs ⟨gs', ws', K c.toNat, K, upd D c.toNat false, upd W c.toNat u, sn⟩ c k
    rw [if_pos rfl]
    have tl := fun st h0 => tail2 (G := G) (bb := bb) (st := st) (effF ⟨gs', ws', K c.toNat, K, upd D c.toNat false, upd W c.toNat u, sn⟩ c k) (by rw [ee.1]; exact hV'.so) (by rw [ee.1]; simp only; omega) (by simp only at ee; omega) k c l u [[ci (ifE (wi u 0 (if k = 3 then 999 else 0)) 2)], [ci (usErr gs ws ⟨k, c, l⟩)]] an (by omega) hsc h0
    generalize effF ⟨gs', ws', K c.toNat, K, upd D c.toNat false, upd W c.toNat u, sn⟩ c k = y at *
    simp only [Ca.h, caH] at q4 ⊢
    simp (disch := omega) only [go_sem, h20c, n3, eq_true k4, hd, within_u, unless_u, q1, q2, q3, q4, hdn, first2, hu, evJ_5, qa, tn1]
    refine tl _ ?_
    simp only [n3, if_false]
    unfold fr0 usH
    rw [hdn]
    rfl
  | false =>
    have tl := fun st h0 => tail2 (G := G) (bb := bb) (st := st) ⟨gs', ws', K c.toNat, K, upd D c.toNat false, upd W c.toNat u, sn⟩ hV'.so (by simp only; omega) (by simp only; omega) k c l u [[ci (ifE (wi u 0 (if k = 3 then 999 else 0)) 2)], [ci (usErr gs ws ⟨k, c, l⟩)]] an (by omega) hsc h0
    rw [if_neg (by simp)]
    simp (disch := omega) only [go_sem, h20c, n3, eq_true k4, hd, within_u, unless_u, q1, q2, q3, hdn, first2, hu, evJ_5, qa, tn1]
    refine tl _ ?_
    simp only [n3, if_false]
    unfold fr0 usH
    rw [hdn]
    rfl
set_option maxHeartbeats 8000000 in
theorem cact_k4N (hG : G 0 = some alD) (gs : List Gr) (ws : List Wt) (v : Int) (K : Nat → Int) (D : Nat → Bool) (W : Nat → Int) (sn : List Int) (hv : Vd gs ws) (hh : Hd gs ws) (hn : sn.length ≤ 9000) (k c l u : Int) (hu : usE ⟨gs, ws, v, K, D, W, sn⟩ k c l u = 0) (ha : aloF ⟨gs, ws, v, K, D, W, sn⟩ k c u = none) (he : acErr gs ws ⟨k, c, l⟩ = 0) (k4 : k = 4) (hd : D c.toNat = false) :
    EV G (Tb (bs bb)) 20 [.one (.ptr 0 0), .agg [.dc (ci k), .dc (ci c), .dc (ci l), .dc (ci u)]] (caH gs ws v K D W sn) = some (vi 0, (actF ⟨gs, ws, v, K, D, W, sn⟩ k c l u).h) := by
  refine EV_run rfl ?_
  have n3 : ¬ k = 3 := by omega
  have h1 := hv.gl
  have h2 := hv.wl
  have q1 := usualErr_v (G := G) (bb := bb) gs ws hv.so ⟨k, c, l⟩ (by omega) (by omega)
  have q2 := actErr_v (G := G) (bb := bb) gs ws hv.so ⟨k, c, l⟩ (by omega) (by omega)
  have eus : usE ⟨gs, ws, v, K, D, W, sn⟩ k c l u = firstE [ifE (wi u 0 (if k = 3 then 999 else 0)) 2, usErr gs ws ⟨k, c, l⟩] := rfl
  rw [eus, if_neg n3] at hu
  have hu1 : usErr gs ws ⟨k, c, l⟩ = 0 := by
    rw [firstE_0] at hu
    exact hu _ (by simp)
  obtain ⟨c1, c2, c3, c4, c5⟩ := us_ok hu1
  simp only at c1 c2 c5
  have hcn : c.toNat < 9 := by omega
  have qa := alone_v (G := G) (bb := bb) ⟨gs, ws, v, K, D, W, sn⟩ hv.so (by simp only; omega) (by simp only; omega) k c l u c2
  rw [ha] at qa
  simp only [Ca.h, caH, Option.isSome_none, Option.getD_none] at qa
  obtain ⟨d1, d2⟩ := ac_us he
  have q3 := step_v (G := G) (bb := bb) hG gs ws ⟨k, c, l⟩ hv.so (fun w hw => kOK_us (hv.wr w hw).2.1) d1 d2 (by omega)
  obtain ⟨hV', _⟩ := stp_ok hv hh he
  have hsf := stp_f gs ws ⟨k, c, l⟩
  have hsc : ∀ w ∈ (stp gs ws ⟨k, c, l⟩).2.2.f, 1 ≤ w.c ∧ w.c ≤ 8 := fun w hw => (hv.wr w (hsf.1 w hw)).1
  have hsl := hsf.2
  have eg : giv ⟨gs, ws, v, K, D, W, sn⟩ k c u = ⟨gs, ws, v, K, D, upd W c.toNat u, sn⟩ := by unfold giv; rw [if_neg (by simp [hd])]
  rw [actF_e]
  unfold aft
  rw [eg]
  simp only
  generalize stp gs ws ⟨k, c, l⟩ = s at *
  obtain ⟨gs', ws', an⟩ := s
  simp only [fileH] at q3 hV' hsc hsl ⊢
  have hg' := hV'.gl
  cases hdn : an.d with
  | true =>
    have q4 := effect_v (G := G) (bb := bb) ⟨gs', ws', v, K, D, upd W c.toNat u, sn⟩ hV'.so (by simp only; omega) (by simp only; omega) c k c2
    have ee := effF_gs ⟨gs', ws', v, K, D, upd W c.toNat u, sn⟩ c k
    rw [if_pos rfl]
    have tl := fun st h0 => tail2 (G := G) (bb := bb) (st := st) (effF ⟨gs', ws', v, K, D, upd W c.toNat u, sn⟩ c k) (by rw [ee.1]; exact hV'.so) (by rw [ee.1]; simp only; omega) (by simp only at ee; omega) k c l u [[ci (ifE (wi u 0 (if k = 3 then 999 else 0)) 2)], [ci (usErr gs ws ⟨k, c, l⟩)]] an (by omega) hsc h0
    generalize effF ⟨gs', ws', v, K, D, upd W c.toNat u, sn⟩ c k = y at *
    simp only [Ca.h, caH] at q4 ⊢
    simp (disch := omega) only [go_sem, h20c, n3, eq_true k4, hd, within_u, unless_u, q1, q2, q3, q4, hdn, first2, hu, evJ_5, qa, tn1]
    refine tl _ ?_
    simp only [n3, if_false]
    unfold fr0 usH
    rw [hdn]
    rfl
  | false =>
    have tl := fun st h0 => tail2 (G := G) (bb := bb) (st := st) ⟨gs', ws', v, K, D, upd W c.toNat u, sn⟩ hV'.so (by simp only; omega) (by simp only; omega) k c l u [[ci (ifE (wi u 0 (if k = 3 then 999 else 0)) 2)], [ci (usErr gs ws ⟨k, c, l⟩)]] an (by omega) hsc h0
    rw [if_neg (by simp)]
    simp (disch := omega) only [go_sem, h20c, n3, eq_true k4, hd, within_u, unless_u, q1, q2, q3, hdn, first2, hu, evJ_5, qa, tn1]
    refine tl _ ?_
    simp only [n3, if_false]
    unfold fr0 usH
    rw [hdn]
    rfl
set_option maxHeartbeats 8000000 in
theorem cact_k5D (hG : G 0 = some alD) (gs : List Gr) (ws : List Wt) (v : Int) (K : Nat → Int) (D : Nat → Bool) (W : Nat → Int) (sn : List Int) (hv : Vd gs ws) (hh : Hd gs ws) (hn : sn.length ≤ 9000) (k c l u : Int) (hu : usE ⟨gs, ws, v, K, D, W, sn⟩ k c l u = 0) (ha : aloF ⟨gs, ws, v, K, D, W, sn⟩ k c u = none) (he : acErr gs ws ⟨k, c, l⟩ = 0) (k5 : k = 5) (hd : D c.toNat = true) :
    EV G (Tb (bs bb)) 20 [.one (.ptr 0 0), .agg [.dc (ci k), .dc (ci c), .dc (ci l), .dc (ci u)]] (caH gs ws v K D W sn) = some (vi 0, (actF ⟨gs, ws, v, K, D, W, sn⟩ k c l u).h) := by
  refine EV_run rfl ?_
  have n3 : ¬ k = 3 := by omega
  have n4 : ¬ k = 4 := by omega
  have h1 := hv.gl
  have h2 := hv.wl
  have q1 := usualErr_v (G := G) (bb := bb) gs ws hv.so ⟨k, c, l⟩ (by omega) (by omega)
  have q2 := actErr_v (G := G) (bb := bb) gs ws hv.so ⟨k, c, l⟩ (by omega) (by omega)
  have eus : usE ⟨gs, ws, v, K, D, W, sn⟩ k c l u = firstE [ifE (wi u 0 (if k = 3 then 999 else 0)) 2, usErr gs ws ⟨k, c, l⟩] := rfl
  rw [eus, if_neg n3] at hu
  have hu1 : usErr gs ws ⟨k, c, l⟩ = 0 := by
    rw [firstE_0] at hu
    exact hu _ (by simp)
  obtain ⟨c1, c2, c3, c4, c5⟩ := us_ok hu1
  simp only at c1 c2 c5
  have hcn : c.toNat < 9 := by omega
  have qa := alone_v (G := G) (bb := bb) ⟨gs, ws, v, K, D, W, sn⟩ hv.so (by simp only; omega) (by simp only; omega) k c l u c2
  rw [ha] at qa
  simp only [Ca.h, caH, Option.isSome_none, Option.getD_none] at qa
  obtain ⟨d1, d2⟩ := ac_us he
  have q3 := step_v (G := G) (bb := bb) hG gs ws ⟨k, c, l⟩ hv.so (fun w hw => kOK_us (hv.wr w hw).2.1) d1 d2 (by omega)
  obtain ⟨hV', _⟩ := stp_ok hv hh he
  have hsf := stp_f gs ws ⟨k, c, l⟩
  have hsc : ∀ w ∈ (stp gs ws ⟨k, c, l⟩).2.2.f, 1 ≤ w.c ∧ w.c ≤ 8 := fun w hw => (hv.wr w (hsf.1 w hw)).1
  have hsl := hsf.2
  have eg : giv ⟨gs, ws, v, K, D, W, sn⟩ k c u = ⟨gs, ws, K c.toNat, K, upd D c.toNat false, upd W c.toNat u, sn⟩ := by unfold giv; rw [if_pos ⟨by omega, hd⟩]
  rw [actF_e]
  unfold aft
  rw [eg]
  simp only
  generalize stp gs ws ⟨k, c, l⟩ = s at *
  obtain ⟨gs', ws', an⟩ := s
  simp only [fileH] at q3 hV' hsc hsl ⊢
  have hg' := hV'.gl
  cases hdn : an.d with
  | true =>
    have q4 := effect_v (G := G) (bb := bb) ⟨gs', ws', K c.toNat, K, upd D c.toNat false, upd W c.toNat u, sn⟩ hV'.so (by simp only; omega) (by simp only; omega) c k c2
    have ee := effF_gs ⟨gs', ws', K c.toNat, K, upd D c.toNat false, upd W c.toNat u, sn⟩ c k
    rw [if_pos rfl]
    have tl := fun st h0 => tail2 (G := G) (bb := bb) (st := st) (effF ⟨gs', ws', K c.toNat, K, upd D c.toNat false, upd W c.toNat u, sn⟩ c k) (by rw [ee.1]; exact hV'.so) (by rw [ee.1]; simp only; omega) (by simp only at ee; omega) k c l u [[ci (ifE (wi u 0 (if k = 3 then 999 else 0)) 2)], [ci (usErr gs ws ⟨k, c, l⟩)]] an (by omega) hsc h0
    generalize effF ⟨gs', ws', K c.toNat, K, upd D c.toNat false, upd W c.toNat u, sn⟩ c k = y at *
    simp only [Ca.h, caH] at q4 ⊢
    simp (disch := omega) only [go_sem, h20c, n3, n4, eq_true k5, hd, within_u, unless_u, q1, q2, q3, q4, hdn, first2, hu, evJ_5, qa, tn1]
    refine tl _ ?_
    simp only [n3, if_false]
    unfold fr0 usH
    rw [hdn]
    rfl
  | false =>
    have tl := fun st h0 => tail2 (G := G) (bb := bb) (st := st) ⟨gs', ws', K c.toNat, K, upd D c.toNat false, upd W c.toNat u, sn⟩ hV'.so (by simp only; omega) (by simp only; omega) k c l u [[ci (ifE (wi u 0 (if k = 3 then 999 else 0)) 2)], [ci (usErr gs ws ⟨k, c, l⟩)]] an (by omega) hsc h0
    rw [if_neg (by simp)]
    simp (disch := omega) only [go_sem, h20c, n3, n4, eq_true k5, hd, within_u, unless_u, q1, q2, q3, hdn, first2, hu, evJ_5, qa, tn1]
    refine tl _ ?_
    simp only [n3, if_false]
    unfold fr0 usH
    rw [hdn]
    rfl
set_option maxHeartbeats 8000000 in
theorem cact_k5N (hG : G 0 = some alD) (gs : List Gr) (ws : List Wt) (v : Int) (K : Nat → Int) (D : Nat → Bool) (W : Nat → Int) (sn : List Int) (hv : Vd gs ws) (hh : Hd gs ws) (hn : sn.length ≤ 9000) (k c l u : Int) (hu : usE ⟨gs, ws, v, K, D, W, sn⟩ k c l u = 0) (ha : aloF ⟨gs, ws, v, K, D, W, sn⟩ k c u = none) (he : acErr gs ws ⟨k, c, l⟩ = 0) (k5 : k = 5) (hd : D c.toNat = false) :
    EV G (Tb (bs bb)) 20 [.one (.ptr 0 0), .agg [.dc (ci k), .dc (ci c), .dc (ci l), .dc (ci u)]] (caH gs ws v K D W sn) = some (vi 0, (actF ⟨gs, ws, v, K, D, W, sn⟩ k c l u).h) := by
  refine EV_run rfl ?_
  have n3 : ¬ k = 3 := by omega
  have n4 : ¬ k = 4 := by omega
  have h1 := hv.gl
  have h2 := hv.wl
  have q1 := usualErr_v (G := G) (bb := bb) gs ws hv.so ⟨k, c, l⟩ (by omega) (by omega)
  have q2 := actErr_v (G := G) (bb := bb) gs ws hv.so ⟨k, c, l⟩ (by omega) (by omega)
  have eus : usE ⟨gs, ws, v, K, D, W, sn⟩ k c l u = firstE [ifE (wi u 0 (if k = 3 then 999 else 0)) 2, usErr gs ws ⟨k, c, l⟩] := rfl
  rw [eus, if_neg n3] at hu
  have hu1 : usErr gs ws ⟨k, c, l⟩ = 0 := by
    rw [firstE_0] at hu
    exact hu _ (by simp)
  obtain ⟨c1, c2, c3, c4, c5⟩ := us_ok hu1
  simp only at c1 c2 c5
  have hcn : c.toNat < 9 := by omega
  have qa := alone_v (G := G) (bb := bb) ⟨gs, ws, v, K, D, W, sn⟩ hv.so (by simp only; omega) (by simp only; omega) k c l u c2
  rw [ha] at qa
  simp only [Ca.h, caH, Option.isSome_none, Option.getD_none] at qa
  obtain ⟨d1, d2⟩ := ac_us he
  have q3 := step_v (G := G) (bb := bb) hG gs ws ⟨k, c, l⟩ hv.so (fun w hw => kOK_us (hv.wr w hw).2.1) d1 d2 (by omega)
  obtain ⟨hV', _⟩ := stp_ok hv hh he
  have hsf := stp_f gs ws ⟨k, c, l⟩
  have hsc : ∀ w ∈ (stp gs ws ⟨k, c, l⟩).2.2.f, 1 ≤ w.c ∧ w.c ≤ 8 := fun w hw => (hv.wr w (hsf.1 w hw)).1
  have hsl := hsf.2
  have eg : giv ⟨gs, ws, v, K, D, W, sn⟩ k c u = ⟨gs, ws, v, K, D, upd W c.toNat u, sn⟩ := by unfold giv; rw [if_neg (by simp [hd])]
  rw [actF_e]
  unfold aft
  rw [eg]
  simp only
  generalize stp gs ws ⟨k, c, l⟩ = s at *
  obtain ⟨gs', ws', an⟩ := s
  simp only [fileH] at q3 hV' hsc hsl ⊢
  have hg' := hV'.gl
  cases hdn : an.d with
  | true =>
    have q4 := effect_v (G := G) (bb := bb) ⟨gs', ws', v, K, D, upd W c.toNat u, sn⟩ hV'.so (by simp only; omega) (by simp only; omega) c k c2
    have ee := effF_gs ⟨gs', ws', v, K, D, upd W c.toNat u, sn⟩ c k
    rw [if_pos rfl]
    have tl := fun st h0 => tail2 (G := G) (bb := bb) (st := st) (effF ⟨gs', ws', v, K, D, upd W c.toNat u, sn⟩ c k) (by rw [ee.1]; exact hV'.so) (by rw [ee.1]; simp only; omega) (by simp only at ee; omega) k c l u [[ci (ifE (wi u 0 (if k = 3 then 999 else 0)) 2)], [ci (usErr gs ws ⟨k, c, l⟩)]] an (by omega) hsc h0
    generalize effF ⟨gs', ws', v, K, D, upd W c.toNat u, sn⟩ c k = y at *
    simp only [Ca.h, caH] at q4 ⊢
    simp (disch := omega) only [go_sem, h20c, n3, n4, eq_true k5, hd, within_u, unless_u, q1, q2, q3, q4, hdn, first2, hu, evJ_5, qa, tn1]
    refine tl _ ?_
    simp only [n3, if_false]
    unfold fr0 usH
    rw [hdn]
    rfl
  | false =>
    have tl := fun st h0 => tail2 (G := G) (bb := bb) (st := st) ⟨gs', ws', v, K, D, upd W c.toNat u, sn⟩ hV'.so (by simp only; omega) (by simp only; omega) k c l u [[ci (ifE (wi u 0 (if k = 3 then 999 else 0)) 2)], [ci (usErr gs ws ⟨k, c, l⟩)]] an (by omega) hsc h0
    rw [if_neg (by simp)]
    simp (disch := omega) only [go_sem, h20c, n3, n4, eq_true k5, hd, within_u, unless_u, q1, q2, q3, hdn, first2, hu, evJ_5, qa, tn1]
    refine tl _ ?_
    simp only [n3, if_false]
    unfold fr0 usH
    rw [hdn]
    rfl
set_option maxHeartbeats 8000000 in
theorem cact_k3 (hG : G 0 = some alD) (gs : List Gr) (ws : List Wt) (v : Int) (K : Nat → Int) (D : Nat → Bool) (W : Nat → Int) (sn : List Int) (hv : Vd gs ws) (hh : Hd gs ws) (hn : sn.length ≤ 9000) (k c l u : Int) (hu : usE ⟨gs, ws, v, K, D, W, sn⟩ k c l u = 0) (ha : aloF ⟨gs, ws, v, K, D, W, sn⟩ k c u = none) (he : acErr gs ws ⟨k, c, l⟩ = 0) (k3 : k = 3) :
    EV G (Tb (bs bb)) 20 [.one (.ptr 0 0), .agg [.dc (ci k), .dc (ci c), .dc (ci l), .dc (ci u)]] (caH gs ws v K D W sn) = some (vi 0, (actF ⟨gs, ws, v, K, D, W, sn⟩ k c l u).h) := by
  refine EV_run rfl ?_
  have n4 : ¬ k = 4 := by omega
  have n5 : ¬ k = 5 := by omega
  have h1 := hv.gl
  have h2 := hv.wl
  have q1 := usualErr_v (G := G) (bb := bb) gs ws hv.so ⟨k, c, l⟩ (by omega) (by omega)
  have q2 := actErr_v (G := G) (bb := bb) gs ws hv.so ⟨k, c, l⟩ (by omega) (by omega)
  have eus : usE ⟨gs, ws, v, K, D, W, sn⟩ k c l u = firstE [ifE (wi u 0 (if k = 3 then 999 else 0)) 2, usErr gs ws ⟨k, c, l⟩] := rfl
  rw [eus, if_pos k3] at hu
  have hu1 : usErr gs ws ⟨k, c, l⟩ = 0 := by
    rw [firstE_0] at hu
    exact hu _ (by simp)
  obtain ⟨c1, c2, c3, c4, c5⟩ := us_ok hu1
  simp only at c1 c2 c5
  have hcn : c.toNat < 9 := by omega
  have qa := alone_v (G := G) (bb := bb) ⟨gs, ws, v, K, D, W, sn⟩ hv.so (by simp only; omega) (by simp only; omega) k c l u c2
  rw [ha] at qa
  simp only [Ca.h, caH, Option.isSome_none, Option.getD_none] at qa
  obtain ⟨d1, d2⟩ := ac_us he
  have q3 := step_v (G := G) (bb := bb) hG gs ws ⟨k, c, l⟩ hv.so (fun w hw => kOK_us (hv.wr w hw).2.1) d1 d2 (by omega)
  obtain ⟨hV', _⟩ := stp_ok hv hh he
  have hsf := stp_f gs ws ⟨k, c, l⟩
  have hsc : ∀ w ∈ (stp gs ws ⟨k, c, l⟩).2.2.f, 1 ≤ w.c ∧ w.c ≤ 8 := fun w hw => (hv.wr w (hsf.1 w hw)).1
  have hsl := hsf.2
  have eg : giv ⟨gs, ws, v, K, D, W, sn⟩ k c u = ⟨gs, ws, v, K, D, upd W c.toNat u, sn⟩ := by unfold giv; rw [if_neg (fun h => by omega)]
  rw [actF_e]
  unfold aft
  rw [eg]
  simp only
  generalize stp gs ws ⟨k, c, l⟩ = s at *
  obtain ⟨gs', ws', an⟩ := s
  simp only [fileH] at q3 hV' hsc hsl ⊢
  have hg' := hV'.gl
  cases hdn : an.d with
  | true =>
    have q4 := effect_v (G := G) (bb := bb) ⟨gs', ws', v, K, D, upd W c.toNat u, sn⟩ hV'.so (by simp only; omega) (by simp only; omega) c k c2
    have ee := effF_gs ⟨gs', ws', v, K, D, upd W c.toNat u, sn⟩ c k
    rw [if_pos rfl]
    have tl := fun st h0 => tail2 (G := G) (bb := bb) (st := st) (effF ⟨gs', ws', v, K, D, upd W c.toNat u, sn⟩ c k) (by rw [ee.1]; exact hV'.so) (by rw [ee.1]; simp only; omega) (by simp only at ee; omega) k c l u [[ci (ifE (wi u 0 (if k = 3 then 999 else 0)) 2)], [ci (usErr gs ws ⟨k, c, l⟩)]] an (by omega) hsc h0
    generalize effF ⟨gs', ws', v, K, D, upd W c.toNat u, sn⟩ c k = y at *
    simp only [Ca.h, caH] at q4 ⊢
    simp (disch := omega) only [go_sem, h20c, eq_true k3, n4, n5, within_u, unless_u, q1, q2, q3, q4, hdn, first2, hu, evJ_5, qa, tn1]
    refine tl _ ?_
    simp only [eq_true k3, if_true]
    unfold fr0 usH
    rw [hdn]
    rfl
  | false =>
    have tl := fun st h0 => tail2 (G := G) (bb := bb) (st := st) ⟨gs', ws', v, K, D, upd W c.toNat u, sn⟩ hV'.so (by simp only; omega) (by simp only; omega) k c l u [[ci (ifE (wi u 0 (if k = 3 then 999 else 0)) 2)], [ci (usErr gs ws ⟨k, c, l⟩)]] an (by omega) hsc h0
    rw [if_neg (by simp)]
    simp (disch := omega) only [go_sem, h20c, eq_true k3, n4, n5, within_u, unless_u, q1, q2, q3, hdn, first2, hu, evJ_5, qa, tn1]
    refine tl _ ?_
    simp only [eq_true k3, if_true]
    unfold fr0 usH
    rw [hdn]
    rfl
set_option maxHeartbeats 8000000 in
theorem cact_kO (hG : G 0 = some alD) (gs : List Gr) (ws : List Wt) (v : Int) (K : Nat → Int) (D : Nat → Bool) (W : Nat → Int) (sn : List Int) (hv : Vd gs ws) (hh : Hd gs ws) (hn : sn.length ≤ 9000) (k c l u : Int) (hu : usE ⟨gs, ws, v, K, D, W, sn⟩ k c l u = 0) (ha : aloF ⟨gs, ws, v, K, D, W, sn⟩ k c u = none) (he : acErr gs ws ⟨k, c, l⟩ = 0) (n3 : ¬ k = 3) (n4 : ¬ k = 4) (n5 : ¬ k = 5) :
    EV G (Tb (bs bb)) 20 [.one (.ptr 0 0), .agg [.dc (ci k), .dc (ci c), .dc (ci l), .dc (ci u)]] (caH gs ws v K D W sn) = some (vi 0, (actF ⟨gs, ws, v, K, D, W, sn⟩ k c l u).h) := by
  refine EV_run rfl ?_
  have h1 := hv.gl
  have h2 := hv.wl
  have q1 := usualErr_v (G := G) (bb := bb) gs ws hv.so ⟨k, c, l⟩ (by omega) (by omega)
  have q2 := actErr_v (G := G) (bb := bb) gs ws hv.so ⟨k, c, l⟩ (by omega) (by omega)
  have eus : usE ⟨gs, ws, v, K, D, W, sn⟩ k c l u = firstE [ifE (wi u 0 (if k = 3 then 999 else 0)) 2, usErr gs ws ⟨k, c, l⟩] := rfl
  rw [eus, if_neg n3] at hu
  have hu1 : usErr gs ws ⟨k, c, l⟩ = 0 := by
    rw [firstE_0] at hu
    exact hu _ (by simp)
  obtain ⟨c1, c2, c3, c4, c5⟩ := us_ok hu1
  simp only at c1 c2 c5
  have hcn : c.toNat < 9 := by omega
  have qa := alone_v (G := G) (bb := bb) ⟨gs, ws, v, K, D, W, sn⟩ hv.so (by simp only; omega) (by simp only; omega) k c l u c2
  rw [ha] at qa
  simp only [Ca.h, caH, Option.isSome_none, Option.getD_none] at qa
  obtain ⟨d1, d2⟩ := ac_us he
  have q3 := step_v (G := G) (bb := bb) hG gs ws ⟨k, c, l⟩ hv.so (fun w hw => kOK_us (hv.wr w hw).2.1) d1 d2 (by omega)
  obtain ⟨hV', _⟩ := stp_ok hv hh he
  have hsf := stp_f gs ws ⟨k, c, l⟩
  have hsc : ∀ w ∈ (stp gs ws ⟨k, c, l⟩).2.2.f, 1 ≤ w.c ∧ w.c ≤ 8 := fun w hw => (hv.wr w (hsf.1 w hw)).1
  have hsl := hsf.2
  have eg : giv ⟨gs, ws, v, K, D, W, sn⟩ k c u = ⟨gs, ws, v, K, D, upd W c.toNat u, sn⟩ := by unfold giv; rw [if_neg (fun h => by omega)]
  rw [actF_e]
  unfold aft
  rw [eg]
  simp only
  generalize stp gs ws ⟨k, c, l⟩ = s at *
  obtain ⟨gs', ws', an⟩ := s
  simp only [fileH] at q3 hV' hsc hsl ⊢
  have hg' := hV'.gl
  cases hdn : an.d with
  | true =>
    have q4 := effect_v (G := G) (bb := bb) ⟨gs', ws', v, K, D, upd W c.toNat u, sn⟩ hV'.so (by simp only; omega) (by simp only; omega) c k c2
    have ee := effF_gs ⟨gs', ws', v, K, D, upd W c.toNat u, sn⟩ c k
    rw [if_pos rfl]
    have tl := fun st h0 => tail2 (G := G) (bb := bb) (st := st) (effF ⟨gs', ws', v, K, D, upd W c.toNat u, sn⟩ c k) (by rw [ee.1]; exact hV'.so) (by rw [ee.1]; simp only; omega) (by simp only at ee; omega) k c l u [[ci (ifE (wi u 0 (if k = 3 then 999 else 0)) 2)], [ci (usErr gs ws ⟨k, c, l⟩)]] an (by omega) hsc h0
    generalize effF ⟨gs', ws', v, K, D, upd W c.toNat u, sn⟩ c k = y at *
    simp only [Ca.h, caH] at q4 ⊢
    simp (disch := omega) only [go_sem, h20c, n3, n4, n5, within_u, unless_u, q1, q2, q3, q4, hdn, first2, hu, evJ_5, qa, tn1]
    refine tl _ ?_
    simp only [n3, if_false]
    unfold fr0 usH
    rw [hdn]
    rfl
  | false =>
    have tl := fun st h0 => tail2 (G := G) (bb := bb) (st := st) ⟨gs', ws', v, K, D, upd W c.toNat u, sn⟩ hV'.so (by simp only; omega) (by simp only; omega) k c l u [[ci (ifE (wi u 0 (if k = 3 then 999 else 0)) 2)], [ci (usErr gs ws ⟨k, c, l⟩)]] an (by omega) hsc h0
    rw [if_neg (by simp)]
    simp (disch := omega) only [go_sem, h20c, n3, n4, n5, within_u, unless_u, q1, q2, q3, hdn, first2, hu, evJ_5, qa, tn1]
    refine tl _ ?_
    simp only [n3, if_false]
    unfold fr0 usH
    rw [hdn]
    rfl
end
section
variable {G : Glob} {bb : Bool}
set_option maxHeartbeats 8000000 in
theorem cuse_v (hG : G 0 = some alD) (x : Ca) (hv : Vd x.gs x.ws) (hh : Hd x.gs x.ws) (hn : x.sn.length ≤ 9000) (k c l u : Int) :
    EV G (Tb (bs bb)) 20 [.one (.ptr 0 0), .agg [.dc (ci k), .dc (ci c), .dc (ci l), .dc (ci u)]] x.h = some (vi (usF x k c l u).2, (usF x k c l u).1.h) := by
  have h1 := hv.gl
  have h2 := hv.wl
  have q1 := usualErr_v (G := G) (bb := bb) x.gs x.ws hv.so ⟨k, c, l⟩ (by omega) (by omega)
  have q2 := actErr_v (G := G) (bb := bb) x.gs x.ws hv.so ⟨k, c, l⟩ (by omega) (by omega)
  unfold usF
  have eus : usE x k c l u = firstE [ifE (wi u 0 (if k = 3 then 999 else 0)) 2, usErr x.gs x.ws ⟨k, c, l⟩] := rfl
  by_cases hu : usE x k c l u = 0
  · rw [if_neg (by omega)]
    rw [eus] at hu
    have hu1 : usErr x.gs x.ws ⟨k, c, l⟩ = 0 := by
      rw [firstE_0] at hu
      exact hu _ (by simp)
    obtain ⟨k1, k2, k3, k4, k5⟩ := us_ok hu1
    simp only at k1 k2 k5
    have qa := alone_v (G := G) (bb := bb) x hv.so (by omega) (by omega) k c l u k2
    cases ha : aloF x k c u with
    | some y =>
      rw [ha] at qa
      simp only [Ca.h, caH, Option.isSome_some, Option.getD_some] at qa ⊢
      by_cases k3 : k = 3
      · rw [if_pos k3] at hu
        refine EV_run rfl ?_
        simp (disch := omega) only [go_sem, h20c, eq_true k3, within_u, unless_u, q1, first2, hu, evJ_5, qa]
        try rfl
      · rw [if_neg k3] at hu
        refine EV_run rfl ?_
        simp (disch := omega) only [go_sem, h20c, k3, within_u, unless_u, q1, first2, hu, evJ_5, qa]
        try rfl
    | none =>
      rw [ha] at qa
      simp only [Ca.h, caH, Option.isSome_none, Option.getD_none] at qa ⊢
      by_cases he : acErr x.gs x.ws ⟨k, c, l⟩ = 0
      · rw [if_neg (by omega)]
        obtain ⟨gs, ws, v, K, D, W, sn⟩ := x
        by_cases k4 : k = 4
        · cases hd : D c.toNat with
          | true => exact cact_k4D hG gs ws v K D W sn hv hh hn k c l u (by rw [eus]; exact hu) ha he k4 hd
          | false => exact cact_k4N hG gs ws v K D W sn hv hh hn k c l u (by rw [eus]; exact hu) ha he k4 hd
        · by_cases k5 : k = 5
          · cases hd : D c.toNat with
            | true => exact cact_k5D hG gs ws v K D W sn hv hh hn k c l u (by rw [eus]; exact hu) ha he k5 hd
            | false => exact cact_k5N hG gs ws v K D W sn hv hh hn k c l u (by rw [eus]; exact hu) ha he k5 hd
          · by_cases k3 : k = 3
            · exact cact_k3 hG gs ws v K D W sn hv hh hn k c l u (by rw [eus]; exact hu) ha he k3
            · exact cact_kO hG gs ws v K D W sn hv hh hn k c l u (by rw [eus]; exact hu) ha he k3 k4 k5
      · rw [if_pos he]
        by_cases k3 : k = 3
        · rw [if_pos k3] at hu
          refine EV_run rfl ?_
          simp (disch := omega) only [go_sem, h20c, eq_true k3, within_u, unless_u, q1, q2, he, first2, hu, evJ_5, qa]
          try rfl
        · rw [if_neg k3] at hu
          refine EV_run rfl ?_
          simp (disch := omega) only [go_sem, h20c, k3, within_u, unless_u, q1, q2, he, first2, hu, evJ_5, qa]
          try rfl
  · rw [if_pos hu]
    rw [eus] at hu ⊢
    by_cases k3 : k = 3
    · rw [if_pos k3] at hu ⊢
      refine EV_run rfl ?_
      simp (disch := omega) only [go_sem, h20c, eq_true k3, within_u, unless_u, q1, first2, hu]
      try rfl
    · rw [if_neg k3] at hu ⊢
      refine EV_run rfl ?_
      simp (disch := omega) only [go_sem, h20c, k3, within_u, unless_u, q1, first2, hu]
      try rfl
end
section
variable {G : Glob} {bb : Bool}
def rnX : List Gr → List Wt → List An → Nat → List Ac → (List Gr × List Wt × List An) × Int × Int
  | gs, ws, out, n, [] => ((gs, ws, out), 0, 0)
  | gs, ws, out, n, a :: l => if acErr gs ws a = 0 then rnX (stp gs ws a).1 (stp gs ws a).2.1 (out ++ [(stp gs ws a).2.2]) (n + 1) l else ((gs, ws, out), n, acErr gs ws a)
def eaS (l : List Ac) (k : Nat) (gs : List Gr) (ws : List Wt) (out : List An) : AS := ⟨(jk 1 (.one (.fn 36 [.ptr 0 0, .ptr 4 0]) :: jk 7 (acsV l :: vi l.length :: vi k :: jk 13 []))), runH gs ws out⟩
theorem each61_key (hG : G 0 = some alD) (l : List Ac) (hl : l.length ≤ 100) : ∀ (rest : List Ac) (k : Nat) (gs : List Gr) (ws : List Wt) (out : List An), l.drop k = rest → k ≤ l.length → Vd gs ws → Hd gs ws → out.length ≤ k →
    retZ false [RetV.tmp 4, RetV.tmp 5] 6 (sqK (EV G (Tb (bs bb))) G ((HC.region [Oo 4 (AI.mov (Ki 0)), Oo 5 (AI.mov (Ki 0))]).seq HC.ret) (blkK 0 (EL (EV G (Tb (bs bb))) G h35l0 [1, 7, 0, 0] 6 (eaS l k gs ws out)))) =
      some (twoI (rnX gs ws out k rest).2, runH (rnX gs ws out k rest).1.1 (rnX gs ws out k rest).1.2.1 (rnX gs ws out k rest).1.2.2)
  | [], k, gs, ws, out, hd, hk, hv, hh, ho => by
    have hkl : k = l.length := by
      have := congrArg List.length hd
      simp at this; omega
    subst hkl
    rw [EL_unf, rnX]
    unfold eaS
    simp only [runH]
    simp (disch := omega) only [go_sem, h35l0]
  | a :: rest, k, gs, ws, out, hd, hk, hv, hh, ho => by
    have hkl : k < l.length := by
      have := congrArg List.length hd
      simp at this; omega
    have ha : l[k] = a := by
      have := List.drop_eq_getElem_cons hkl
      rw [hd] at this
      injection this with this _
      exact this.symm
    have hd' : l.drop (k + 1) = rest := by
      have := List.drop_eq_getElem_cons hkl
      rw [hd] at this
      injection this with _ this
      exact this.symm
    have eg : (l.map Ac.e)[k]? = some [ci a.k, ci a.c, ci a.l] := by rw [List.getElem?_map, List.getElem?_eq_getElem hkl, ha]; rfl
    have q := p62_v (bb := bb) hG gs ws out hv k a (by omega)
    by_cases he : acErr gs ws a = 0
    · obtain ⟨h1, h2⟩ := stp_ok hv hh he
      have ih := each61_key hG l hl rest (k + 1) (stp gs ws a).1 (stp gs ws a).2.1 (out ++ [(stp gs ws a).2.2]) hd' (by omega) h1 h2 (by simp; omega)
      have hr : rnK [1, 7, 0, 0] 6 (EC (EV G (Tb (bs bb))) G h35l0 (eaS l k gs ws out)) = some (eaS l (k + 1) (stp gs ws a).1 (stp gs ws a).2.1 (out ++ [(stp gs ws a).2.2])) := by
        unfold eaS
        rw [if_pos he, he] at q
        generalize stp gs ws a = s at *
        simp only [runH] at q ⊢
        simp (disch := omega) only [go_sem, h35l0, evJ_6, eg, q]
      rw [EL_unf, fnK_of hr, ih, rnX, if_pos he]
    · rw [EL_unf, rnX, if_neg he]
      unfold eaS
      rw [if_neg he] at q
      simp only [runH] at q ⊢
      simp (disch := omega) only [go_sem, h35l0, evJ_6, eg, q, he]
theorem each61_v (hG : G 0 = some alD) (l : List Ac) (hl : l.length ≤ 100) : EV G (Tb (bs bb)) 35 [acsV l, .one (.fn 36 [.ptr 0 0, .ptr 4 0])] (runH [] [] []) = some (twoI (rnX [] [] [] 0 l).2, runH (rnX [] [] [] 0 l).1.1 (rnX [] [] [] 0 l).1.2.1 (rnX [] [] [] 0 l).1.2.2) := by
  refine EV_run rfl ?_
  have q := each61_key (bb := bb) hG l hl l 0 [] [] [] rfl (by omega) Vd.nil Hd.nil (by simp)
  rw [← q]
  simp (disch := omega) only [go_sem, h35c]
  rfl
end
section
variable {G : Glob} {bb : Bool}
structure Cu where
  k : Int
  c : Int
  l : Int
  u : Int
abbrev Cu.e (a : Cu) : List DC := [ci a.k, ci a.c, ci a.l, ci a.u]
abbrev cusV (l : List Cu) : AV := vl (l.map Cu.e)
theorem usF_len (x : Ca) (hh : x.ws.length ≤ 8) (k c l u : Int) : (usF x k c l u).1.sn.length ≤ x.sn.length + 9 := by
  unfold usF
  split
  · simp
  · split
    · rename_i y hy
      unfold aloF at hy
      split at hy
      · injection hy with hy; subst hy; simp
      · split at hy
        · injection hy with hy; subst hy; simp
        · cases hy
    · split
      · simp
      · rw [actF_e]
        have h1 := effL_gs (if (stp x.gs x.ws ⟨k, c, l⟩).2.2.d = true then effF (aft x k c l u) c k else aft x k c l u) (stp x.gs x.ws ⟨k, c, l⟩).2.2.f
        have h2 := (stp_f x.gs x.ws ⟨k, c, l⟩).2
        have h3 := effF_gs (aft x k c l u) c k
        have h4 : (aft x k c l u).sn = x.sn := (giv_gs x k c u).2.2
        rw [h4] at h3
        have h5 : (if (stp x.gs x.ws ⟨k, c, l⟩).2.2.d = true then effF (aft x k c l u) c k else aft x k c l u).sn.length ≤ x.sn.length + 1 := by
          split
          · exact h3.2.2
          · rw [h4]; omega
        have h6 : ∀ (y : Ca) (j : Nat), (drpF y j).sn = y.sn := fun _ _ => rfl
        rw [h6]
        omega
theorem usF_ok (x : Ca) (hv : Vd x.gs x.ws) (hh : Hd x.gs x.ws) (k c l u : Int) : Vd (usF x k c l u).1.gs (usF x k c l u).1.ws ∧ Hd (usF x k c l u).1.gs (usF x k c l u).1.ws := by
  unfold usF
  split
  · exact ⟨hv, hh⟩
  · split
    · rename_i y hy
      unfold aloF at hy
      split at hy
      · injection hy with hy; subst hy; exact ⟨hv, hh⟩
      · split at hy
        · injection hy with hy; subst hy; exact ⟨hv, hh⟩
        · cases hy
    · split
      · exact ⟨hv, hh⟩
      · rename_i he
        rw [actF_e]
        have h1 := effL_gs (if (stp x.gs x.ws ⟨k, c, l⟩).2.2.d = true then effF (aft x k c l u) c k else aft x k c l u) (stp x.gs x.ws ⟨k, c, l⟩).2.2.f
        have h3 := effF_gs (aft x k c l u) c k
        have h5 : (if (stp x.gs x.ws ⟨k, c, l⟩).2.2.d = true then effF (aft x k c l u) c k else aft x k c l u).gs = (stp x.gs x.ws ⟨k, c, l⟩).1 ∧ (if (stp x.gs x.ws ⟨k, c, l⟩).2.2.d = true then effF (aft x k c l u) c k else aft x k c l u).ws = (stp x.gs x.ws ⟨k, c, l⟩).2.1 := by
          split
          · exact ⟨h3.1, h3.2.1⟩
          · exact ⟨rfl, rfl⟩
        have h6 : ∀ (y : Ca) (j : Nat), (drpF y j).gs = y.gs ∧ (drpF y j).ws = y.ws := fun _ _ => ⟨rfl, rfl⟩
        simp only [h6]
        rw [h1.1, h1.2.1, h5.1, h5.2]
        exact stp_ok hv hh (Classical.not_not.1 he)
abbrev crH (x : Ca) : List AObj := [.box [.ptr 1 0], .box (caC 2 5 x.sn.length x.v x.K x.D x.W), .box [.bld 3 x.gs.length, .bld 4 x.ws.length], .arr 0 3 (x.gs.map Gr.e), .arr 0 2 (x.ws.map Wt.e), .arr 0 1 (x.sn.map ci0)]
theorem p67_v (hG : G 0 = some alD) (x : Ca) (hv : Vd x.gs x.ws) (hh : Hd x.gs x.ws) (hn : x.sn.length ≤ 9000) (i : Int) (a : Cu) :
    EV G (Tb (bs bb)) 19 [vi i, .agg [.dc (ci a.k), .dc (ci a.c), .dc (ci a.l), .dc (ci a.u)], .one (.ptr 0 0)] (crH x) = some (vi (usF x a.k a.c a.l a.u).2, crH (usF x a.k a.c a.l a.u).1) := by
  refine EV_run rfl ?_
  have q := cuse_v (bb := bb) hG x hv hh hn a.k a.c a.l a.u
  generalize usF x a.k a.c a.l a.u = r at *
  obtain ⟨y, e⟩ := r
  simp only [Ca.h, caH, crH] at q ⊢
  simp (disch := omega) only [go_sem, h19c, evJ_5, q]
def cuX : Ca → Nat → List Cu → Ca × Int × Int
  | x, n, [] => (x, 0, 0)
  | x, n, a :: l => if (usF x a.k a.c a.l a.u).2 = 0 then cuX (usF x a.k a.c a.l a.u).1 (n + 1) l else ((usF x a.k a.c a.l a.u).1, n, (usF x a.k a.c a.l a.u).2)
def caS (l : List Cu) (k : Nat) (x : Ca) : AS := ⟨(jk 1 (.one (.fn 19 [.ptr 0 0]) :: jk 7 (cusV l :: vi l.length :: vi k :: jk 13 []))), crH x⟩
theorem each66_key (hG : G 0 = some alD) (l : List Cu) (hl : l.length ≤ 100) : ∀ (rest : List Cu) (k : Nat) (x : Ca), l.drop k = rest → k ≤ l.length → Vd x.gs x.ws → Hd x.gs x.ws → x.sn.length ≤ 9 * k →
    retZ false [RetV.tmp 4, RetV.tmp 5] 6 (sqK (EV G (Tb (bs bb))) G ((HC.region [Oo 4 (AI.mov (Ki 0)), Oo 5 (AI.mov (Ki 0))]).seq HC.ret) (blkK 0 (EL (EV G (Tb (bs bb))) G h18l0 [1, 7, 0, 0] 6 (caS l k x)))) =
      some (twoI (cuX x k rest).2, crH (cuX x k rest).1)
  | [], k, x, hd, hk, hv, hh, ho => by
    have hkl : k = l.length := by
      have := congrArg List.length hd
      simp at this; omega
    subst hkl
    rw [EL_unf, cuX]
    unfold caS
    simp only [crH]
    simp (disch := omega) only [go_sem, h18l0]
  | a :: rest, k, x, hd, hk, hv, hh, ho => by
    have hkl : k < l.length := by
      have := congrArg List.length hd
      simp at this; omega
    have ha : l[k] = a := by
      have := List.drop_eq_getElem_cons hkl
      rw [hd] at this
      injection this with this _
      exact this.symm
    have hd' : l.drop (k + 1) = rest := by
      have := List.drop_eq_getElem_cons hkl
      rw [hd] at this
      injection this with _ this
      exact this.symm
    have eg : (l.map Cu.e)[k]? = some [ci a.k, ci a.c, ci a.l, ci a.u] := by rw [List.getElem?_map, List.getElem?_eq_getElem hkl, ha]; rfl
    have q := p67_v (bb := bb) hG x hv hh (by omega) k a
    have hl9 := usF_len x hv.wl a.k a.c a.l a.u
    obtain ⟨h1, h2⟩ := usF_ok x hv hh a.k a.c a.l a.u
    rw [cuX]
    by_cases he : (usF x a.k a.c a.l a.u).2 = 0
    · have ih := each66_key hG l hl rest (k + 1) (usF x a.k a.c a.l a.u).1 hd' (by omega) h1 h2 (by omega)
      have hr : rnK [1, 7, 0, 0] 6 (EC (EV G (Tb (bs bb))) G h18l0 (caS l k x)) = some (caS l (k + 1) (usF x a.k a.c a.l a.u).1) := by
        rw [he] at q
        generalize (usF x a.k a.c a.l a.u).1 = y at *
        unfold caS
        simp only [crH] at q ⊢
        simp (disch := omega) only [go_sem, h18l0, evJ_6, eg, q]
      rw [EL_unf, fnK_of hr, ih, if_pos he]
    · rw [EL_unf, if_neg he]
      generalize usF x a.k a.c a.l a.u = r at *
      obtain ⟨y, e⟩ := r
      unfold caS
      simp only [crH] at q he ⊢
      simp (disch := omega) only [go_sem, h18l0, evJ_6, eg, q, he]
theorem each66_v (hG : G 0 = some alD) (x : Ca) (hg : x.gs = []) (hw : x.ws = []) (hs : x.sn = []) (l : List Cu) (hl : l.length ≤ 100) : EV G (Tb (bs bb)) 18 [cusV l, .one (.fn 19 [.ptr 0 0])] (crH x) = some (twoI (cuX x 0 l).2, crH (cuX x 0 l).1) := by
  refine EV_run rfl ?_
  have q := each66_key (bb := bb) hG l hl l 0 x rfl (by omega) (by rw [hg, hw]; exact Vd.nil) (by rw [hg, hw]; exact Hd.nil) (by rw [hs]; simp)
  rw [← q]
  simp (disch := omega) only [go_sem, h18c]
  rfl
end
end Go.Proofs.YtinageiefahjfaaDoor
