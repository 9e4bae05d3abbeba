/- Strings as lists of bytes. Conditions: none. -/
import Derived.Test.YtinageiefahjfaaGreatDoorSk
import Derived.Test.YtinageiefahjfaaGreatDoorSg
import Derived.Test.YtinageiefahjfaaGreatDoorUt
import Derived.Test.YtinageiefahjfaaGreatDoorTh
namespace Go.Proofs.YtinageiefahjfaaGreatDoor
set_option linter.unusedSimpArgs false
set_option linter.unusedVariables false
set_option maxRecDepth 4000
section
variable {G : Glob} {bb : Bool}
def aft (x : Ca) (k c l u : Int) : Ca := ⟨(stp x.gs x.ws ⟨k, c, l⟩).1, (stp x.gs x.ws ⟨k, c, l⟩).2.1, (giv x k c u).v, (giv x k c u).K, (giv x k c u).D, (giv x k c u).W, (giv x k c u).sn⟩
theorem actF_e (x : Ca) (k c l u : Int) : actF x k c l u = drpF (effL (if (stp x.gs x.ws ⟨k, c, l⟩).2.2.d = true then effF (aft x k c l u) c k else aft x k c l u) (stp x.gs x.ws ⟨k, c, l⟩).2.2.f) 9 := rfl
set_option maxHeartbeats 8000000 in
theorem cact_k4D (hG : G 0 = some alD) (gs : List Gr) (ws : List Wt) (v : Int) (K : Nat → Int) (D : Nat → Bool) (W : Nat → Int) (sn : List Int) (hv : Vd gs ws) (hh : Hd gs ws) (hn : sn.length ≤ 9000) (k c l u : Int) (hu : usE ⟨gs, ws, v, K, D, W, sn⟩ k c l u = 0) (ha : aloF ⟨gs, ws, v, K, D, W, sn⟩ k c u = none) (he : acErr gs ws ⟨k, c, l⟩ = 0) (k4 : k = 4) (hd : D c.toNat = true) :
    EV G (Tb (bs bb)) 68 [.one (.ptr 0 0), .agg [.dc (ci k), .dc (ci c), .dc (ci l), .dc (ci u)]] (caH gs ws v K D W sn) = some (vi 0, (actF ⟨gs, ws, v, K, D, W, sn⟩ k c l u).h) := by
  refine EV_run rfl ?_
  have n3 : ¬ k = 3 := by omega
  have h1 := hv.gl
  have h2 := hv.wl
  have q1 := usualErr_v (G := G) (bb := bb) gs ws hv.so ⟨k, c, l⟩ (by omega) (by omega)
  have q2 := actErr_v (G := G) (bb := bb) gs ws hv.so ⟨k, c, l⟩ (by omega) (by omega)
  have eus : usE ⟨gs, ws, v, K, D, W, sn⟩ k c l u = firstE [ifE (wi u 0 (if k = 3 then 999 else 0)) 2, usErr gs ws ⟨k, c, l⟩] := rfl
  rw [eus, if_neg n3] at hu
  have hu1 : usErr gs ws ⟨k, c, l⟩ = 0 := by
    rw [firstE_0] at hu
    exact hu _ (by simp)
  obtain ⟨c1, c2, c3, c4, c5⟩ := us_ok hu1
  simp only at c1 c2 c5
  have hcn : c.toNat < 9 := by omega
  have qa := alone_v (G := G) (bb := bb) ⟨gs, ws, v, K, D, W, sn⟩ hv.so (by simp only; omega) (by simp only; omega) k c l u c2
  rw [ha] at qa
  simp only [Ca.h, caH, Option.isSome_none, Option.getD_none] at qa
  obtain ⟨d1, d2⟩ := ac_us he
  have q3 := step_v (G := G) (bb := bb) hG gs ws ⟨k, c, l⟩ hv.so (fun w hw => kOK_us (hv.wr w hw).2.1) d1 d2 (by omega)
  obtain ⟨hV', _⟩ := stp_ok hv hh he
  have hsf := stp_f gs ws ⟨k, c, l⟩
  have hsc : ∀ w ∈ (stp gs ws ⟨k, c, l⟩).2.2.f, 1 ≤ w.c ∧ w.c ≤ 8 := fun w hw => (hv.wr w (hsf.1 w hw)).1
  have hsl := hsf.2
  have eg : giv ⟨gs, ws, v, K, D, W, sn⟩ k c u = ⟨gs, ws, K c.toNat, K, upd D c.toNat false, upd W c.toNat u, sn⟩ := by unfold giv; rw [if_pos ⟨by omega, hd⟩]
  rw [actF_e]
  unfold aft
  rw [eg]
  simp only
  generalize stp gs ws ⟨k, c, l⟩ = s at *
  obtain ⟨gs', ws', an⟩ := s
  simp only [fileH] at q3 hV' hsc hsl ⊢
  have hg' := hV'.gl
  cases hdn : an.d with
  | true =>
    have q4 := effect_v (G := G) (bb := bb) ⟨gs', ws', K c.toNat, K, upd D c.toNat false, upd W c.toNat u, sn⟩ hV'.so (by simp only; omega) (by simp only; omega) c k c2
    have ee := effF_gs ⟨gs', ws', K c.toNat, K, upd D c.toNat false, upd W c.toNat u, sn⟩ c k
    rw [if_pos rfl]
    have tl := fun st h0 => tail2 (G := G) (bb := bb) (st := st) (effF ⟨gs', ws', K c.toNat, K, upd D c.toNat false, upd W c.toNat u, sn⟩ c k) (by rw [ee.1]; exact hV'.so) (by rw [ee.1]; simp only; omega) (by simp only at ee; omega) k c l u [[ci (ifE (wi u 0 (if k = 3 then 999 else 0)) 2)], [ci (usErr gs ws ⟨k, c, l⟩)]] an (by omega) hsc h0
    generalize effF ⟨gs', ws', K c.toNat, K, upd D c.toNat false, upd W c.toNat u, sn⟩ c k = y at *
    simp only [Ca.h, caH] at q4 ⊢
    simp (disch := omega) only [go_sem, h68c, n3, eq_true k4, hd, within_u, unless_u, q1, q2, q3, q4, hdn, first2, hu, evJ_5, qa, tn1]
    refine tl _ ?_
    simp only [n3, if_false]
    unfold fr0 usH
    rw [hdn]
    rfl
  | false =>
    have tl := fun st h0 => tail2 (G := G) (bb := bb) (st := st) ⟨gs', ws', K c.toNat, K, upd D c.toNat false, upd W c.toNat u, sn⟩ hV'.so (by simp only; omega) (by simp only; omega) k c l u [[ci (ifE (wi u 0 (if k = 3 then 999 else 0)) 2)], [ci (usErr gs ws ⟨k, c, l⟩)]] an (by omega) hsc h0
    rw [if_neg (by simp)]
    simp (disch := omega) only [go_sem, h68c, n3, eq_true k4, hd, within_u, unless_u, q1, q2, q3, hdn, first2, hu, evJ_5, qa, tn1]
    refine tl _ ?_
    simp only [n3, if_false]
    unfold fr0 usH
    rw [hdn]
    rfl
set_option maxHeartbeats 8000000 in
theorem cact_k4N (hG : G 0 = some alD) (gs : List Gr) (ws : List Wt) (v : Int) (K : Nat → Int) (D : Nat → Bool) (W : Nat → Int) (sn : List Int) (hv : Vd gs ws) (hh : Hd gs ws) (hn : sn.length ≤ 9000) (k c l u : Int) (hu : usE ⟨gs, ws, v, K, D, W, sn⟩ k c l u = 0) (ha : aloF ⟨gs, ws, v, K, D, W, sn⟩ k c u = none) (he : acErr gs ws ⟨k, c, l⟩ = 0) (k4 : k = 4) (hd : D c.toNat = false) :
    EV G (Tb (bs bb)) 68 [.one (.ptr 0 0), .agg [.dc (ci k), .dc (ci c), .dc (ci l), .dc (ci u)]] (caH gs ws v K D W sn) = some (vi 0, (actF ⟨gs, ws, v, K, D, W, sn⟩ k c l u).h) := by
  refine EV_run rfl ?_
  have n3 : ¬ k = 3 := by omega
  have h1 := hv.gl
  have h2 := hv.wl
  have q1 := usualErr_v (G := G) (bb := bb) gs ws hv.so ⟨k, c, l⟩ (by omega) (by omega)
  have q2 := actErr_v (G := G) (bb := bb) gs ws hv.so ⟨k, c, l⟩ (by omega) (by omega)
  have eus : usE ⟨gs, ws, v, K, D, W, sn⟩ k c l u = firstE [ifE (wi u 0 (if k = 3 then 999 else 0)) 2, usErr gs ws ⟨k, c, l⟩] := rfl
  rw [eus, if_neg n3] at hu
  have hu1 : usErr gs ws ⟨k, c, l⟩ = 0 := by
    rw [firstE_0] at hu
    exact hu _ (by simp)
  obtain ⟨c1, c2, c3, c4, c5⟩ := us_ok hu1
  simp only at c1 c2 c5
  have hcn : c.toNat < 9 := by omega
  have qa := alone_v (G := G) (bb := bb) ⟨gs, ws, v, K, D, W, sn⟩ hv.so (by simp only; omega) (by simp only; omega) k c l u c2
  rw [ha] at qa
  simp only [Ca.h, caH, Option.isSome_none, Option.getD_none] at qa
  obtain ⟨d1, d2⟩ := ac_us he
  have q3 := step_v (G := G) (bb := bb) hG gs ws ⟨k, c, l⟩ hv.so (fun w hw => kOK_us (hv.wr w hw).2.1) d1 d2 (by omega)
  obtain ⟨hV', _⟩ := stp_ok hv hh he
  have hsf := stp_f gs ws ⟨k, c, l⟩
  have hsc : ∀ w ∈ (stp gs ws ⟨k, c, l⟩).2.2.f, 1 ≤ w.c ∧ w.c ≤ 8 := fun w hw => (hv.wr w (hsf.1 w hw)).1
  have hsl := hsf.2
  have eg : giv ⟨gs, ws, v, K, D, W, sn⟩ k c u = ⟨gs, ws, v, K, D, upd W c.toNat u, sn⟩ := by unfold giv; rw [if_neg (by simp [hd])]
  rw [actF_e]
  unfold aft
  rw [eg]
  simp only
  generalize stp gs ws ⟨k, c, l⟩ = s at *
  obtain ⟨gs', ws', an⟩ := s
  simp only [fileH] at q3 hV' hsc hsl ⊢
  have hg' := hV'.gl
  cases hdn : an.d with
  | true =>
    have q4 := effect_v (G := G) (bb := bb) ⟨gs', ws', v, K, D, upd W c.toNat u, sn⟩ hV'.so (by simp only; omega) (by simp only; omega) c k c2
    have ee := effF_gs ⟨gs', ws', v, K, D, upd W c.toNat u, sn⟩ c k
    rw [if_pos rfl]
    have tl := fun st h0 => tail2 (G := G) (bb := bb) (st := st) (effF ⟨gs', ws', v, K, D, upd W c.toNat u, sn⟩ c k) (by rw [ee.1]; exact hV'.so) (by rw [ee.1]; simp only; omega) (by simp only at ee; omega) k c l u [[ci (ifE (wi u 0 (if k = 3 then 999 else 0)) 2)], [ci (usErr gs ws ⟨k, c, l⟩)]] an (by omega) hsc h0
    generalize effF ⟨gs', ws', v, K, D, upd W c.toNat u, sn⟩ c k = y at *
    simp only [Ca.h, caH] at q4 ⊢
    simp (disch := omega) only [go_sem, h68c, n3, eq_true k4, hd, within_u, unless_u, q1, q2, q3, q4, hdn, first2, hu, evJ_5, qa, tn1]
    refine tl _ ?_
    simp only [n3, if_false]
    unfold fr0 usH
    rw [hdn]
    rfl
  | false =>
    have tl := fun st h0 => tail2 (G := G) (bb := bb) (st := st) ⟨gs', ws', v, K, D, upd W c.toNat u, sn⟩ hV'.so (by simp only; omega) (by simp only; omega) k c l u [[ci (ifE (wi u 0 (if k = 3 then 999 else 0)) 2)], [ci (usErr gs ws ⟨k, c, l⟩)]] an (by omega) hsc h0
    rw [if_neg (by simp)]
    simp (disch := omega) only [go_sem, h68c, n3, eq_true k4, hd, within_u, unless_u, q1, q2, q3, hdn, first2, hu, evJ_5, qa, tn1]
    refine tl _ ?_
    simp only [n3, if_false]
    unfold fr0 usH
    rw [hdn]
    rfl
set_option maxHeartbeats 8000000 in
theorem cact_k5D (hG : G 0 = some alD) (gs : List Gr) (ws : List Wt) (v : Int) (K : Nat → Int) (D : Nat → Bool) (W : Nat → Int) (sn : List Int) (hv : Vd gs ws) (hh : Hd gs ws) (hn : sn.length ≤ 9000) (k c l u : Int) (hu : usE ⟨gs, ws, v, K, D, W, sn⟩ k c l u = 0) (ha : aloF ⟨gs, ws, v, K, D, W, sn⟩ k c u = none) (he : acErr gs ws ⟨k, c, l⟩ = 0) (k5 : k = 5) (hd : D c.toNat = true) :
    EV G (Tb (bs bb)) 68 [.one (.ptr 0 0), .agg [.dc (ci k), .dc (ci c), .dc (ci l), .dc (ci u)]] (caH gs ws v K D W sn) = some (vi 0, (actF ⟨gs, ws, v, K, D, W, sn⟩ k c l u).h) := by
  refine EV_run rfl ?_
  have n3 : ¬ k = 3 := by omega
  have n4 : ¬ k = 4 := by omega
  have h1 := hv.gl
  have h2 := hv.wl
  have q1 := usualErr_v (G := G) (bb := bb) gs ws hv.so ⟨k, c, l⟩ (by omega) (by omega)
  have q2 := actErr_v (G := G) (bb := bb) gs ws hv.so ⟨k, c, l⟩ (by omega) (by omega)
  have eus : usE ⟨gs, ws, v, K, D, W, sn⟩ k c l u = firstE [ifE (wi u 0 (if k = 3 then 999 else 0)) 2, usErr gs ws ⟨k, c, l⟩] := rfl
  rw [eus, if_neg n3] at hu
  have hu1 : usErr gs ws ⟨k, c, l⟩ = 0 := by
    rw [firstE_0] at hu
    exact hu _ (by simp)
  obtain ⟨c1, c2, c3, c4, c5⟩ := us_ok hu1
  simp only at c1 c2 c5
  have hcn : c.toNat < 9 := by omega
  have qa := alone_v (G := G) (bb := bb) ⟨gs, ws, v, K, D, W, sn⟩ hv.so (by simp only; omega) (by simp only; omega) k c l u c2
  rw [ha] at qa
  simp only [Ca.h, caH, Option.isSome_none, Option.getD_none] at qa
  obtain ⟨d1, d2⟩ := ac_us he
  have q3 := step_v (G := G) (bb := bb) hG gs ws ⟨k, c, l⟩ hv.so (fun w hw => kOK_us (hv.wr w hw).2.1) d1 d2 (by omega)
  obtain ⟨hV', _⟩ := stp_ok hv hh he
  have hsf := stp_f gs ws ⟨k, c, l⟩
  have hsc : ∀ w ∈ (stp gs ws ⟨k, c, l⟩).2.2.f, 1 ≤ w.c ∧ w.c ≤ 8 := fun w hw => (hv.wr w (hsf.1 w hw)).1
  have hsl := hsf.2
  have eg : giv ⟨gs, ws, v, K, D, W, sn⟩ k c u = ⟨gs, ws, K c.toNat, K, upd D c.toNat false, upd W c.toNat u, sn⟩ := by unfold giv; rw [if_pos ⟨by omega, hd⟩]
  rw [actF_e]
  unfold aft
  rw [eg]
  simp only
  generalize stp gs ws ⟨k, c, l⟩ = s at *
  obtain ⟨gs', ws', an⟩ := s
  simp only [fileH] at q3 hV' hsc hsl ⊢
  have hg' := hV'.gl
  cases hdn : an.d with
  | true =>
    have q4 := effect_v (G := G) (bb := bb) ⟨gs', ws', K c.toNat, K, upd D c.toNat false, upd W c.toNat u, sn⟩ hV'.so (by simp only; omega) (by simp only; omega) c k c2
    have ee := effF_gs ⟨gs', ws', K c.toNat, K, upd D c.toNat false, upd W c.toNat u, sn⟩ c k
    rw [if_pos rfl]
    have tl := fun st h0 => tail2 (G := G) (bb := bb) (st := st) (effF ⟨gs', ws', K c.toNat, K, upd D c.toNat false, upd W c.toNat u, sn⟩ c k) (by rw [ee.1]; exact hV'.so) (by rw [ee.1]; simp only; omega) (by simp only at ee; omega) k c l u [[ci (ifE (wi u 0 (if k = 3 then 999 else 0)) 2)], [ci (usErr gs ws ⟨k, c, l⟩)]] an (by omega) hsc h0
    generalize effF ⟨gs', ws', K c.toNat, K, upd D c.toNat false, upd W c.toNat u, sn⟩ c k = y at *
    simp only [Ca.h, caH] at q4 ⊢
    simp (disch := omega) only [go_sem, h68c, n3, n4, eq_true k5, hd, within_u, unless_u, q1, q2, q3, q4, hdn, first2, hu, evJ_5, qa, tn1]
    refine tl _ ?_
    simp only [n3, if_false]
    unfold fr0 usH
    rw [hdn]
    rfl
  | false =>
    have tl := fun st h0 => tail2 (G := G) (bb := bb) (st := st) ⟨gs', ws', K c.toNat, K, upd D c.toNat false, upd W c.toNat u, sn⟩ hV'.so (by simp only; omega) (by simp only; omega) k c l u [[ci (ifE (wi u 0 (if k = 3 then 999 else 0)) 2)], [ci (usErr gs ws ⟨k, c, l⟩)]] an (by omega) hsc h0
    rw [if_neg (by simp)]
    simp (disch := omega) only [go_sem, h68c, n3, n4, eq_true k5, hd, within_u, unless_u, q1, q2, q3, hdn, first2, hu, evJ_5, qa, tn1]
    refine tl _ ?_
    simp only [n3, if_false]
    unfold fr0 usH
    rw [hdn]
    rfl
set_option maxHeartbeats 8000000 in
theorem cact_k5N (hG : G 0 = some alD) (gs : List Gr) (ws : List Wt) (v : Int) (K : Nat → Int) (D : Nat → Bool) (W : Nat → Int) (sn : List Int) (hv : Vd gs ws) (hh : Hd gs ws) (hn : sn.length ≤ 9000) (k c l u : Int) (hu : usE ⟨gs, ws, v, K, D, W, sn⟩ k c l u = 0) (ha : aloF ⟨gs, ws, v, K, D, W, sn⟩ k c u = none) (he : acErr gs ws ⟨k, c, l⟩ = 0) (k5 : k = 5) (hd : D c.toNat = false) :
    EV G (Tb (bs bb)) 68 [.one (.ptr 0 0), .agg [.dc (ci k), .dc (ci c), .dc (ci l), .dc (ci u)]] (caH gs ws v K D W sn) = some (vi 0, (actF ⟨gs, ws, v, K, D, W, sn⟩ k c l u).h) := by
  refine EV_run rfl ?_
  have n3 : ¬ k = 3 := by omega
  have n4 : ¬ k = 4 := by omega
  have h1 := hv.gl
  have h2 := hv.wl
  have q1 := usualErr_v (G := G) (bb := bb) gs ws hv.so ⟨k, c, l⟩ (by omega) (by omega)
  have q2 := actErr_v (G := G) (bb := bb) gs ws hv.so ⟨k, c, l⟩ (by omega) (by omega)
  have eus : usE ⟨gs, ws, v, K, D, W, sn⟩ k c l u = firstE [ifE (wi u 0 (if k = 3 then 999 else 0)) 2, usErr gs ws ⟨k, c, l⟩] := rfl
  rw [eus, if_neg n3] at hu
  have hu1 : usErr gs ws ⟨k, c, l⟩ = 0 := by
    rw [firstE_0] at hu
    exact hu _ (by simp)
  obtain ⟨c1, c2, c3, c4, c5⟩ := us_ok hu1
  simp only at c1 c2 c5
  have hcn : c.toNat < 9 := by omega
  have qa := alone_v (G := G) (bb := bb) ⟨gs, ws, v, K, D, W, sn⟩ hv.so (by simp only; omega) (by simp only; omega) k c l u c2
  rw [ha] at qa
  simp only [Ca.h, caH, Option.isSome_none, Option.getD_none] at qa
  obtain ⟨d1, d2⟩ := ac_us he
  have q3 := step_v (G := G) (bb := bb) hG gs ws ⟨k, c, l⟩ hv.so (fun w hw => kOK_us (hv.wr w hw).2.1) d1 d2 (by omega)
  obtain ⟨hV', _⟩ := stp_ok hv hh he
  have hsf := stp_f gs ws ⟨k, c, l⟩
  have hsc : ∀ w ∈ (stp gs ws ⟨k, c, l⟩).2.2.f, 1 ≤ w.c ∧ w.c ≤ 8 := fun w hw => (hv.wr w (hsf.1 w hw)).1
  have hsl := hsf.2
  have eg : giv ⟨gs, ws, v, K, D, W, sn⟩ k c u = ⟨gs, ws, v, K, D, upd W c.toNat u, sn⟩ := by unfold giv; rw [if_neg (by simp [hd])]
  rw [actF_e]
  unfold aft
  rw [eg]
  simp only
  generalize stp gs ws ⟨k, c, l⟩ = s at *
  obtain ⟨gs', ws', an⟩ := s
  simp only [fileH] at q3 hV' hsc hsl ⊢
  have hg' := hV'.gl
  cases hdn : an.d with
  | true =>
    have q4 := effect_v (G := G) (bb := bb) ⟨gs', ws', v, K, D, upd W c.toNat u, sn⟩ hV'.so (by simp only; omega) (by simp only; omega) c k c2
    have ee := effF_gs ⟨gs', ws', v, K, D, upd W c.toNat u, sn⟩ c k
    rw [if_pos rfl]
    have tl := fun st h0 => tail2 (G := G) (bb := bb) (st := st) (effF ⟨gs', ws', v, K, D, upd W c.toNat u, sn⟩ c k) (by rw [ee.1]; exact hV'.so) (by rw [ee.1]; simp only; omega) (by simp only at ee; omega) k c l u [[ci (ifE (wi u 0 (if k = 3 then 999 else 0)) 2)], [ci (usErr gs ws ⟨k, c, l⟩)]] an (by omega) hsc h0
    generalize effF ⟨gs', ws', v, K, D, upd W c.toNat u, sn⟩ c k = y at *
    simp only [Ca.h, caH] at q4 ⊢
    simp (disch := omega) only [go_sem, h68c, n3, n4, eq_true k5, hd, within_u, unless_u, q1, q2, q3, q4, hdn, first2, hu, evJ_5, qa, tn1]
    refine tl _ ?_
    simp only [n3, if_false]
    unfold fr0 usH
    rw [hdn]
    rfl
  | false =>
    have tl := fun st h0 => tail2 (G := G) (bb := bb) (st := st) ⟨gs', ws', v, K, D, upd W c.toNat u, sn⟩ hV'.so (by simp only; omega) (by simp only; omega) k c l u [[ci (ifE (wi u 0 (if k = 3 then 999 else 0)) 2)], [ci (usErr gs ws ⟨k, c, l⟩)]] an (by omega) hsc h0
    rw [if_neg (by simp)]
    simp (disch := omega) only [go_sem, h68c, n3, n4, eq_true k5, hd, within_u, unless_u, q1, q2, q3, hdn, first2, hu, evJ_5, qa, tn1]
    refine tl _ ?_
    simp only [n3, if_false]
    unfold fr0 usH
    rw [hdn]
    rfl
set_option maxHeartbeats 8000000 in
theorem cact_k3 (hG : G 0 = some alD) (gs : List Gr) (ws : List Wt) (v : Int) (K : Nat → Int) (D : Nat → Bool) (W : Nat → Int) (sn : List Int) (hv : Vd gs ws) (hh : Hd gs ws) (hn : sn.length ≤ 9000) (k c l u : Int) (hu : usE ⟨gs, ws, v, K, D, W, sn⟩ k c l u = 0) (ha : aloF ⟨gs, ws, v, K, D, W, sn⟩ k c u = none) (he : acErr gs ws ⟨k, c, l⟩ = 0) (k3 : k = 3) :
    EV G (Tb (bs bb)) 68 [.one (.ptr 0 0), .agg [.dc (ci k), .dc (ci c), .dc (ci l), .dc (ci u)]] (caH gs ws v K D W sn) = some (vi 0, (actF ⟨gs, ws, v, K, D, W, sn⟩ k c l u).h) := by
  refine EV_run rfl ?_
  have n4 : ¬ k = 4 := by omega
  have n5 : ¬ k = 5 := by omega
  have h1 := hv.gl
  have h2 := hv.wl
  have q1 := usualErr_v (G := G) (bb := bb) gs ws hv.so ⟨k, c, l⟩ (by omega) (by omega)
  have q2 := actErr_v (G := G) (bb := bb) gs ws hv.so ⟨k, c, l⟩ (by omega) (by omega)
  have eus : usE ⟨gs, ws, v, K, D, W, sn⟩ k c l u = firstE [ifE (wi u 0 (if k = 3 then 999 else 0)) 2, usErr gs ws ⟨k, c, l⟩] := rfl
  rw [eus, if_pos k3] at hu
  have hu1 : usErr gs ws ⟨k, c, l⟩ = 0 := by
    rw [firstE_0] at hu
    exact hu _ (by simp)
  obtain ⟨c1, c2, c3, c4, c5⟩ := us_ok hu1
  simp only at c1 c2 c5
  have hcn : c.toNat < 9 := by omega
  have qa := alone_v (G := G) (bb := bb) ⟨gs, ws, v, K, D, W, sn⟩ hv.so (by simp only; omega) (by simp only; omega) k c l u c2
  rw [ha] at qa
  simp only [Ca.h, caH, Option.isSome_none, Option.getD_none] at qa
  obtain ⟨d1, d2⟩ := ac_us he
  have q3 := step_v (G := G) (bb := bb) hG gs ws ⟨k, c, l⟩ hv.so (fun w hw => kOK_us (hv.wr w hw).2.1) d1 d2 (by omega)
  obtain ⟨hV', _⟩ := stp_ok hv hh he
  have hsf := stp_f gs ws ⟨k, c, l⟩
  have hsc : ∀ w ∈ (stp gs ws ⟨k, c, l⟩).2.2.f, 1 ≤ w.c ∧ w.c ≤ 8 := fun w hw => (hv.wr w (hsf.1 w hw)).1
  have hsl := hsf.2
  have eg : giv ⟨gs, ws, v, K, D, W, sn⟩ k c u = ⟨gs, ws, v, K, D, upd W c.toNat u, sn⟩ := by unfold giv; rw [if_neg (fun h => by omega)]
  rw [actF_e]
  unfold aft
  rw [eg]
  simp only
  generalize stp gs ws ⟨k, c, l⟩ = s at *
  obtain ⟨gs', ws', an⟩ := s
  simp only [fileH] at q3 hV' hsc hsl ⊢
  have hg' := hV'.gl
  cases hdn : an.d with
  | true =>
    have q4 := effect_v (G := G) (bb := bb) ⟨gs', ws', v, K, D, upd W c.toNat u, sn⟩ hV'.so (by simp only; omega) (by simp only; omega) c k c2
    have ee := effF_gs ⟨gs', ws', v, K, D, upd W c.toNat u, sn⟩ c k
    rw [if_pos rfl]
    have tl := fun st h0 => tail2 (G := G) (bb := bb) (st := st) (effF ⟨gs', ws', v, K, D, upd W c.toNat u, sn⟩ c k) (by rw [ee.1]; exact hV'.so) (by rw [ee.1]; simp only; omega) (by simp only at ee; omega) k c l u [[ci (ifE (wi u 0 (if k = 3 then 999 else 0)) 2)], [ci (usErr gs ws ⟨k, c, l⟩)]] an (by omega) hsc h0
    generalize effF ⟨gs', ws', v, K, D, upd W c.toNat u, sn⟩ c k = y at *
    simp only [Ca.h, caH] at q4 ⊢
    simp (disch := omega) only [go_sem, h68c, eq_true k3, n4, n5, within_u, unless_u, q1, q2, q3, q4, hdn, first2, hu, evJ_5, qa, tn1]
    refine tl _ ?_
    simp only [eq_true k3, if_true]
    unfold fr0 usH
    rw [hdn]
    rfl
  | false =>
    have tl := fun st h0 => tail2 (G := G) (bb := bb) (st := st) ⟨gs', ws', v, K, D, upd W c.toNat u, sn⟩ hV'.so (by simp only; omega) (by simp only; omega) k c l u [[ci (ifE (wi u 0 (if k = 3 then 999 else 0)) 2)], [ci (usErr gs ws ⟨k, c, l⟩)]] an (by omega) hsc h0
    rw [if_neg (by simp)]
    simp (disch := omega) only [go_sem, h68c, eq_true k3, n4, n5, within_u, unless_u, q1, q2, q3, hdn, first2, hu, evJ_5, qa, tn1]
    refine tl _ ?_
    simp only [eq_true k3, if_true]
    unfold fr0 usH
    rw [hdn]
    rfl
set_option maxHeartbeats 8000000 in
theorem cact_kO (hG : G 0 = some alD) (gs : List Gr) (ws : List Wt) (v : Int) (K : Nat → Int) (D : Nat → Bool) (W : Nat → Int) (sn : List Int) (hv : Vd gs ws) (hh : Hd gs ws) (hn : sn.length ≤ 9000) (k c l u : Int) (hu : usE ⟨gs, ws, v, K, D, W, sn⟩ k c l u = 0) (ha : aloF ⟨gs, ws, v, K, D, W, sn⟩ k c u = none) (he : acErr gs ws ⟨k, c, l⟩ = 0) (n3 : ¬ k = 3) (n4 : ¬ k = 4) (n5 : ¬ k = 5) :
    EV G (Tb (bs bb)) 68 [.one (.ptr 0 0), .agg [.dc (ci k), .dc (ci c), .dc (ci l), .dc (ci u)]] (caH gs ws v K D W sn) = some (vi 0, (actF ⟨gs, ws, v, K, D, W, sn⟩ k c l u).h) := by
  refine EV_run rfl ?_
  have h1 := hv.gl
  have h2 := hv.wl
  have q1 := usualErr_v (G := G) (bb := bb) gs ws hv.so ⟨k, c, l⟩ (by omega) (by omega)
  have q2 := actErr_v (G := G) (bb := bb) gs ws hv.so ⟨k, c, l⟩ (by omega) (by omega)
  have eus : usE ⟨gs, ws, v, K, D, W, sn⟩ k c l u = firstE [ifE (wi u 0 (if k = 3 then 999 else 0)) 2, usErr gs ws ⟨k, c, l⟩] := rfl
  rw [eus, if_neg n3] at hu
  have hu1 : usErr gs ws ⟨k, c, l⟩ = 0 := by
    rw [firstE_0] at hu
    exact hu _ (by simp)
  obtain ⟨c1, c2, c3, c4, c5⟩ := us_ok hu1
  simp only at c1 c2 c5
  have hcn : c.toNat < 9 := by omega
  have qa := alone_v (G := G) (bb := bb) ⟨gs, ws, v, K, D, W, sn⟩ hv.so (by simp only; omega) (by simp only; omega) k c l u c2
  rw [ha] at qa
  simp only [Ca.h, caH, Option.isSome_none, Option.getD_none] at qa
  obtain ⟨d1, d2⟩ := ac_us he
  have q3 := step_v (G := G) (bb := bb) hG gs ws ⟨k, c, l⟩ hv.so (fun w hw => kOK_us (hv.wr w hw).2.1) d1 d2 (by omega)
  obtain ⟨hV', _⟩ := stp_ok hv hh he
  have hsf := stp_f gs ws ⟨k, c, l⟩
  have hsc : ∀ w ∈ (stp gs ws ⟨k, c, l⟩).2.2.f, 1 ≤ w.c ∧ w.c ≤ 8 := fun w hw => (hv.wr w (hsf.1 w hw)).1
  have hsl := hsf.2
  have eg : giv ⟨gs, ws, v, K, D, W, sn⟩ k c u = ⟨gs, ws, v, K, D, upd W c.toNat u, sn⟩ := by unfold giv; rw [if_neg (fun h => by omega)]
  rw [actF_e]
  unfold aft
  rw [eg]
  simp only
  generalize stp gs ws ⟨k, c, l⟩ = s at *
  obtain ⟨gs', ws', an⟩ := s
  simp only [fileH] at q3 hV' hsc hsl ⊢
  have hg' := hV'.gl
  cases hdn : an.d with
  | true =>
    have q4 := effect_v (G := G) (bb := bb) ⟨gs', ws', v, K, D, upd W c.toNat u, sn⟩ hV'.so (by simp only; omega) (by simp only; omega) c k c2
    have ee := effF_gs ⟨gs', ws', v, K, D, upd W c.toNat u, sn⟩ c k
    rw [if_pos rfl]
    have tl := fun st h0 => tail2 (G := G) (bb := bb) (st := st) (effF ⟨gs', ws', v, K, D, upd W c.toNat u, sn⟩ c k) (by rw [ee.1]; exact hV'.so) (by rw [ee.1]; simp only; omega) (by simp only at ee; omega) k c l u [[ci (ifE (wi u 0 (if k = 3 then 999 else 0)) 2)], [ci (usErr gs ws ⟨k, c, l⟩)]] an (by omega) hsc h0
    generalize effF ⟨gs', ws', v, K, D, upd W c.toNat u, sn⟩ c k = y at *
    simp only [Ca.h, caH] at q4 ⊢
    simp (disch := omega) only [go_sem, h68c, n3, n4, n5, within_u, unless_u, q1, q2, q3, q4, hdn, first2, hu, evJ_5, qa, tn1]
    refine tl _ ?_
    simp only [n3, if_false]
    unfold fr0 usH
    rw [hdn]
    rfl
  | false =>
    have tl := fun st h0 => tail2 (G := G) (bb := bb) (st := st) ⟨gs', ws', v, K, D, upd W c.toNat u, sn⟩ hV'.so (by simp only; omega) (by simp only; omega) k c l u [[ci (ifE (wi u 0 (if k = 3 then 999 else 0)) 2)], [ci (usErr gs ws ⟨k, c, l⟩)]] an (by omega) hsc h0
    rw [if_neg (by simp)]
    simp (disch := omega) only [go_sem, h68c, n3, n4, n5, within_u, unless_u, q1, q2, q3, hdn, first2, hu, evJ_5, qa, tn1]
    refine tl _ ?_
    simp only [n3, if_false]
    unfold fr0 usH
    rw [hdn]
    rfl
end
section
variable {G : Glob} {bb : Bool}
set_option maxHeartbeats 8000000 in
theorem cuse_v (hG : G 0 = some alD) (x : Ca) (hv : Vd x.gs x.ws) (hh : Hd x.gs x.ws) (hn : x.sn.length ≤ 9000) (k c l u : Int) :
    EV G (Tb (bs bb)) 68 [.one (.ptr 0 0), .agg [.dc (ci k), .dc (ci c), .dc (ci l), .dc (ci u)]] x.h = some (vi (usF x k c l u).2, (usF x k c l u).1.h) := by
  have h1 := hv.gl
  have h2 := hv.wl
  have q1 := usualErr_v (G := G) (bb := bb) x.gs x.ws hv.so ⟨k, c, l⟩ (by omega) (by omega)
  have q2 := actErr_v (G := G) (bb := bb) x.gs x.ws hv.so ⟨k, c, l⟩ (by omega) (by omega)
  unfold usF
  have eus : usE x k c l u = firstE [ifE (wi u 0 (if k = 3 then 999 else 0)) 2, usErr x.gs x.ws ⟨k, c, l⟩] := rfl
  by_cases hu : usE x k c l u = 0
  · rw [if_neg (by omega)]
    rw [eus] at hu
    have hu1 : usErr x.gs x.ws ⟨k, c, l⟩ = 0 := by
      rw [firstE_0] at hu
      exact hu _ (by simp)
    obtain ⟨k1, k2, k3, k4, k5⟩ := us_ok hu1
    simp only at k1 k2 k5
    have qa := alone_v (G := G) (bb := bb) x hv.so (by omega) (by omega) k c l u k2
    cases ha : aloF x k c u with
    | some y =>
      rw [ha] at qa
      simp only [Ca.h, caH, Option.isSome_some, Option.getD_some] at qa ⊢
      by_cases k3 : k = 3
      · rw [if_pos k3] at hu
        refine EV_run rfl ?_
        simp (disch := omega) only [go_sem, h68c, eq_true k3, within_u, unless_u, q1, first2, hu, evJ_5, qa]
        try rfl
      · rw [if_neg k3] at hu
        refine EV_run rfl ?_
        simp (disch := omega) only [go_sem, h68c, k3, within_u, unless_u, q1, first2, hu, evJ_5, qa]
        try rfl
    | none =>
      rw [ha] at qa
      simp only [Ca.h, caH, Option.isSome_none, Option.getD_none] at qa ⊢
      by_cases he : acErr x.gs x.ws ⟨k, c, l⟩ = 0
      · rw [if_neg (by omega)]
        obtain ⟨gs, ws, v, K, D, W, sn⟩ := x
        by_cases k4 : k = 4
        · cases hd : D c.toNat with
          | true => exact cact_k4D hG gs ws v K D W sn hv hh hn k c l u (by rw [eus]; exact hu) ha he k4 hd
          | false => exact cact_k4N hG gs ws v K D W sn hv hh hn k c l u (by rw [eus]; exact hu) ha he k4 hd
        · by_cases k5 : k = 5
          · cases hd : D c.toNat with
            | true => exact cact_k5D hG gs ws v K D W sn hv hh hn k c l u (by rw [eus]; exact hu) ha he k5 hd
            | false => exact cact_k5N hG gs ws v K D W sn hv hh hn k c l u (by rw [eus]; exact hu) ha he k5 hd
          · by_cases k3 : k = 3
            · exact cact_k3 hG gs ws v K D W sn hv hh hn k c l u (by rw [eus]; exact hu) ha he k3
            · exact cact_kO hG gs ws v K D W sn hv hh hn k c l u (by rw [eus]; exact hu) ha he k3 k4 k5
      · rw [if_pos he]
        by_cases k3 : k = 3
        · rw [if_pos k3] at hu
          refine EV_run rfl ?_
          simp (disch := omega) only [go_sem, h68c, eq_true k3, within_u, unless_u, q1, q2, he, first2, hu, evJ_5, qa]
          try rfl
        · rw [if_neg k3] at hu
          refine EV_run rfl ?_
          simp (disch := omega) only [go_sem, h68c, k3, within_u, unless_u, q1, q2, he, first2, hu, evJ_5, qa]
          try rfl
  · rw [if_pos hu]
    rw [eus] at hu ⊢
    by_cases k3 : k = 3
    · rw [if_pos k3] at hu ⊢
      refine EV_run rfl ?_
      simp (disch := omega) only [go_sem, h68c, eq_true k3, within_u, unless_u, q1, first2, hu]
      try rfl
    · rw [if_neg k3] at hu ⊢
      refine EV_run rfl ?_
      simp (disch := omega) only [go_sem, h68c, k3, within_u, unless_u, q1, first2, hu]
      try rfl
end
section
variable {G : Glob} {bb : Bool}
structure Cu where
  k : Int
  c : Int
  l : Int
  u : Int
abbrev Cu.e (a : Cu) : List DC := [ci a.k, ci a.c, ci a.l, ci a.u]
abbrev cusV (l : List Cu) : AV := vl (l.map Cu.e)
theorem usF_len (x : Ca) (hh : x.ws.length ≤ 8) (k c l u : Int) : (usF x k c l u).1.sn.length ≤ x.sn.length + 9 := by
  unfold usF
  split
  · simp
  · split
    · rename_i y hy
      unfold aloF at hy
      split at hy
      · injection hy with hy; subst hy; simp
      · split at hy
        · injection hy with hy; subst hy; simp
        · cases hy
    · split
      · simp
      · rw [actF_e]
        have h1 := effL_gs (if (stp x.gs x.ws ⟨k, c, l⟩).2.2.d = true then effF (aft x k c l u) c k else aft x k c l u) (stp x.gs x.ws ⟨k, c, l⟩).2.2.f
        have h2 := (stp_f x.gs x.ws ⟨k, c, l⟩).2
        have h3 := effF_gs (aft x k c l u) c k
        have h4 : (aft x k c l u).sn = x.sn := (giv_gs x k c u).2.2
        rw [h4] at h3
        have h5 : (if (stp x.gs x.ws ⟨k, c, l⟩).2.2.d = true then effF (aft x k c l u) c k else aft x k c l u).sn.length ≤ x.sn.length + 1 := by
          split
          · exact h3.2.2
          · rw [h4]; omega
        have h6 : ∀ (y : Ca) (j : Nat), (drpF y j).sn = y.sn := fun _ _ => rfl
        rw [h6]
        omega
theorem usF_ok (x : Ca) (hv : Vd x.gs x.ws) (hh : Hd x.gs x.ws) (k c l u : Int) : Vd (usF x k c l u).1.gs (usF x k c l u).1.ws ∧ Hd (usF x k c l u).1.gs (usF x k c l u).1.ws := by
  unfold usF
  split
  · exact ⟨hv, hh⟩
  · split
    · rename_i y hy
      unfold aloF at hy
      split at hy
      · injection hy with hy; subst hy; exact ⟨hv, hh⟩
      · split at hy
        · injection hy with hy; subst hy; exact ⟨hv, hh⟩
        · cases hy
    · split
      · exact ⟨hv, hh⟩
      · rename_i he
        rw [actF_e]
        have h1 := effL_gs (if (stp x.gs x.ws ⟨k, c, l⟩).2.2.d = true then effF (aft x k c l u) c k else aft x k c l u) (stp x.gs x.ws ⟨k, c, l⟩).2.2.f
        have h3 := effF_gs (aft x k c l u) c k
        have h5 : (if (stp x.gs x.ws ⟨k, c, l⟩).2.2.d = true then effF (aft x k c l u) c k else aft x k c l u).gs = (stp x.gs x.ws ⟨k, c, l⟩).1 ∧ (if (stp x.gs x.ws ⟨k, c, l⟩).2.2.d = true then effF (aft x k c l u) c k else aft x k c l u).ws = (stp x.gs x.ws ⟨k, c, l⟩).2.1 := by
          split
          · exact ⟨h3.1, h3.2.1⟩
          · exact ⟨rfl, rfl⟩
        have h6 : ∀ (y : Ca) (j : Nat), (drpF y j).gs = y.gs ∧ (drpF y j).ws = y.ws := fun _ _ => ⟨rfl, rfl⟩
        simp only [h6]
        rw [h1.1, h1.2.1, h5.1, h5.2]
        exact stp_ok hv hh (Classical.not_not.1 he)
abbrev crH (x : Ca) : List AObj := [.box [.ptr 1 0], .box (caC 2 5 x.sn.length x.v x.K x.D x.W), .box [.bld 3 x.gs.length, .bld 4 x.ws.length], .arr 0 3 (x.gs.map Gr.e), .arr 0 2 (x.ws.map Wt.e), .arr 0 1 (x.sn.map ci0)]
theorem p67_v (hG : G 0 = some alD) (x : Ca) (hv : Vd x.gs x.ws) (hh : Hd x.gs x.ws) (hn : x.sn.length ≤ 9000) (i : Int) (a : Cu) :
    EV G (Tb (bs bb)) 67 [vi i, .agg [.dc (ci a.k), .dc (ci a.c), .dc (ci a.l), .dc (ci a.u)], .one (.ptr 0 0)] (crH x) = some (vi (usF x a.k a.c a.l a.u).2, crH (usF x a.k a.c a.l a.u).1) := by
  refine EV_run rfl ?_
  have q := cuse_v (bb := bb) hG x hv hh hn a.k a.c a.l a.u
  generalize usF x a.k a.c a.l a.u = r at *
  obtain ⟨y, e⟩ := r
  simp only [Ca.h, caH, crH] at q ⊢
  simp (disch := omega) only [go_sem, h67c, evJ_5, q]
def cuX : Ca → Nat → List Cu → Ca × Int × Int
  | x, n, [] => (x, 0, 0)
  | x, n, a :: l => if (usF x a.k a.c a.l a.u).2 = 0 then cuX (usF x a.k a.c a.l a.u).1 (n + 1) l else ((usF x a.k a.c a.l a.u).1, n, (usF x a.k a.c a.l a.u).2)
def caS (l : List Cu) (k : Nat) (x : Ca) : AS := ⟨(jk 1 (.one (.fn 67 [.ptr 0 0]) :: jk 7 (cusV l :: vi l.length :: vi k :: jk 13 []))), crH x⟩
theorem each66_key (hG : G 0 = some alD) (l : List Cu) (hl : l.length ≤ 100) : ∀ (rest : List Cu) (k : Nat) (x : Ca), l.drop k = rest → k ≤ l.length → Vd x.gs x.ws → Hd x.gs x.ws → x.sn.length ≤ 9 * k →
    retZ false [RetV.tmp 4, RetV.tmp 5] 6 (sqK (EV G (Tb (bs bb))) G ((HC.region [Oo 4 (AI.mov (Ki 0)), Oo 5 (AI.mov (Ki 0))]).seq HC.ret) (blkK 0 (EL (EV G (Tb (bs bb))) G h66l0 [1, 7, 0, 0] 6 (caS l k x)))) =
      some (twoI (cuX x k rest).2, crH (cuX x k rest).1)
  | [], k, x, hd, hk, hv, hh, ho => by
    have hkl : k = l.length := by
      have := congrArg List.length hd
      simp at this; omega
    subst hkl
    rw [EL_unf, cuX]
    unfold caS
    simp only [crH]
    simp (disch := omega) only [go_sem, h66l0]
  | a :: rest, k, x, hd, hk, hv, hh, ho => by
    have hkl : k < l.length := by
      have := congrArg List.length hd
      simp at this; omega
    have ha : l[k] = a := by
      have := List.drop_eq_getElem_cons hkl
      rw [hd] at this
      injection this with this _
      exact this.symm
    have hd' : l.drop (k + 1) = rest := by
      have := List.drop_eq_getElem_cons hkl
      rw [hd] at this
      injection this with _ this
      exact this.symm
    have eg : (l.map Cu.e)[k]? = some [ci a.k, ci a.c, ci a.l, ci a.u] := by rw [List.getElem?_map, List.getElem?_eq_getElem hkl, ha]; rfl
    have q := p67_v (bb := bb) hG x hv hh (by omega) k a
    have hl9 := usF_len x hv.wl a.k a.c a.l a.u
    obtain ⟨h1, h2⟩ := usF_ok x hv hh a.k a.c a.l a.u
    rw [cuX]
    by_cases he : (usF x a.k a.c a.l a.u).2 = 0
    · have ih := each66_key hG l hl rest (k + 1) (usF x a.k a.c a.l a.u).1 hd' (by omega) h1 h2 (by omega)
      have hr : rnK [1, 7, 0, 0] 6 (EC (EV G (Tb (bs bb))) G h66l0 (caS l k x)) = some (caS l (k + 1) (usF x a.k a.c a.l a.u).1) := by
        rw [he] at q
        generalize (usF x a.k a.c a.l a.u).1 = y at *
        unfold caS
        simp only [crH] at q ⊢
        simp (disch := omega) only [go_sem, h66l0, evJ_6, eg, q]
      rw [EL_unf, fnK_of hr, ih, if_pos he]
    · rw [EL_unf, if_neg he]
      generalize usF x a.k a.c a.l a.u = r at *
      obtain ⟨y, e⟩ := r
      unfold caS
      simp only [crH] at q he ⊢
      simp (disch := omega) only [go_sem, h66l0, evJ_6, eg, q, he]
theorem each66_v (hG : G 0 = some alD) (x : Ca) (hg : x.gs = []) (hw : x.ws = []) (hs : x.sn = []) (l : List Cu) (hl : l.length ≤ 100) : EV G (Tb (bs bb)) 66 [cusV l, .one (.fn 67 [.ptr 0 0])] (crH x) = some (twoI (cuX x 0 l).2, crH (cuX x 0 l).1) := by
  refine EV_run rfl ?_
  have q := each66_key (bb := bb) hG l hl l 0 x rfl (by omega) (by rw [hg, hw]; exact Vd.nil) (by rw [hg, hw]; exact Hd.nil) (by rw [hs]; simp)
  rw [← q]
  simp (disch := omega) only [go_sem, h66c]
  rfl
end
section
variable {G : Glob} {bb : Bool}
def ca1 (j : Nat) : Ca := ⟨[], [], 0, fun n => if n < j then -1 else 0, fun _ => false, fun _ => 0, []⟩
structure Ck where
  gs : List Gr
  ws : List Wt
  v : Int
  K : List Int
  D : List Bool
  sn : List Int
def Ca.k (x : Ca) : Ck := ⟨x.gs, x.ws, x.v, [x.K 1, x.K 2, x.K 3, x.K 4, x.K 5, x.K 6, x.K 7, x.K 8], [x.D 1, x.D 2, x.D 3, x.D 4, x.D 5, x.D 6, x.D 7, x.D 8], x.sn⟩
def bo (b : Bool) : List DC := [.raw (.bool b)]
abbrev ckC (x : Ck) : List Cel := [.dc (.slc (x.gs.map Gr.e)), .dc (.slc (x.ws.map Wt.e)), .dc (ci x.v), .dc (.slc (x.K.map ci0)), .dc (.slc (x.D.map bo)), .dc (.slc (x.sn.map ci0))]
def crF (l : List Cu) : Ck × Int × Int :=
  if l.length > 100 then (⟨[], [], 0, [], [], []⟩, 0, 8)
  else if (cuX (ca1 9) 0 l).2.2 ≠ 0 then (⟨[], [], 0, [], [], []⟩, (cuX (ca1 9) 0 l).2)
  else ((cuX (ca1 9) 0 l).1.k, l.length, 0)
abbrev crV (r : Ck × Int × Int) : AV := .tup [.agg (ckC r.1), .one (.dc (.raw (.int .i64 r.2.1))), .one (.dc (.raw (.int .i64 r.2.2)))]
theorem upd_1 (j : Nat) : upd (fun n => if n < j then (-1 : Int) else 0) j (-1) = fun n => if n < j + 1 then (-1 : Int) else 0 := by
  funext n
  unfold upd
  by_cases hn : n = j
  · subst hn; simp
  · have e : (n < j + 1) = (n < j) := propext ⟨by omega, by omega⟩
    simp [hn, e]
def i19 (l : List Cu) (x : Ca) (j : Nat) : AS := ⟨(cusV l :: jk 1 (.one (.ptr 0 0) :: jk 2 (.one (.ptr 3 0) :: jk 11 (vi j :: jk 45 [])))), [.box [.dc (.raw (.slice none 0 0)), .dc (.raw (.slice none 0 0)), .dc (ci 0), .dc (.raw (.slice none 0 0)), .dc (.raw (.slice none 0 0)), .dc (.raw (.slice none 0 0))], .box [.bld 4 x.gs.length, .bld 5 x.ws.length], .box (caC 1 6 x.sn.length x.v x.K x.D x.W), .box [.ptr 2 0], .arr 0 3 (x.gs.map Gr.e), .arr 0 2 (x.ws.map Wt.e), .arr 0 1 (x.sn.map ci0)]⟩
theorem i19_round (l : List Cu) (j : Nat) (hj : j < 9) : rnK [0, 1, 2, 11] 7 (EC (EV G (Tb (bs bb))) G h19l0 (i19 l (ca1 j) j)) = some (i19 l (ca1 (j + 1)) (j + 1)) := by
  have e : ca1 (j + 1) = { ca1 j with K := upd (ca1 j).K j (-1) } := by unfold ca1; rw [upd_1]
  rw [e]
  generalize ca1 j = x
  obtain ⟨gs, ws, v, K, D, W, sn⟩ := x
  unfold i19
  simp only
  simp (disch := omega) only [go_sem, h19l0, tn1, fvT_c]
set_option maxHeartbeats 4000000 in
theorem cacheRun_v (hG : G 0 = some alD) (l : List Cu) (hl : l.length ≤ 1000000) : EV G (Tb (bs bb)) 19 [cusV l] [] = some (crV (crF l), []) := by
  refine EV_run rfl ?_
  unfold crF
  by_cases h : l.length > 100
  · rw [if_pos h]
    simp (disch := omega) only [go_sem, h19c, h]
    try rfl
  · rw [if_neg h]
    have q := each66_v (bb := bb) hG (ca1 9) rfl rfl rfl l (by omega)
    simp (disch := omega) only [go_sem, h19c, h]
    rw [EL_loop (fun j => i19 l (ca1 j) j) 9 ?_ (fun j hj => i19_round l j hj)]
    rotate_left
    · rfl
    unfold i19
    generalize ca1 9 = x at *
    generalize cuX x 0 l = r at *
    obtain ⟨y, n, e⟩ := r
    simp only [crH] at q
    by_cases he : e = 0
    · subst he
      rw [if_neg (by simp)]
      simp (maxSteps := 1000000) (disch := omega) only [go_sem, h19l0, q, evJ_6, List.take_length]
      try rfl
    · rw [if_pos (by simpa using he)]
      simp (disch := omega) only [go_sem, h19l0, q, evJ_6, he]
      try rfl
end
section
def u8 (n : Int) : UInt8 := UInt8.ofNat n.toNat
def str (l : List Int) : ByteArray := ⟨(l.map u8).toArray⟩
abbrev sv (l : List Int) : AV := .one (.dc (.raw (.string (str l))))
theorem str_nil : (⟨#[]⟩ : ByteArray) = str [] := rfl
theorem str_size (l : List Int) : (str l).size = l.length := by simp [str, ByteArray.size]
theorem str_app (a b : List Int) : str a ++ str b = str (a ++ b) := by
  apply ByteArray.ext
  simp [str, ByteArray.data_append]
theorem sadd_s {a b : List Int} (h : a.length + b.length ≤ 9223372036854775807) : binV .add (sv a) (sv b) = some (sv (a ++ b)) := by
  rw [bin_sadd (by rw [str_size, str_size]; exact h), str_app]
theorem str_data (l : List Int) : (str l).data.toList = l.map u8 := by simp [str]
def jnI (s : List Int) : List (List Int) → List Int
  | [] => []
  | [a] => a
  | a :: b :: l => a ++ s ++ jnI s (b :: l)
theorem jnI_join (s : List Int) : ∀ l : List (List Int), Lib.join (l.map (·.map u8)) (s.map u8) = (jnI s l).map u8
  | [] => rfl
  | [a] => by rw [List.map_cons, List.map_nil, Lib.join_one]; rfl
  | a :: b :: l => by
    have ih := jnI_join s (b :: l)
    rw [jnI, List.map_append, List.map_append, ← ih]
    simp [Lib.join, List.intercalate]
theorem joinS_s (s : List Int) (l : List (List Int)) : joinS (l.map str) (str s) = str (jnI s l) := by
  apply ByteArray.ext
  apply Array.ext'
  simp only [joinS, str_data, List.map_map, Function.comp_def]
  rw [jnI_join]
def sS (l : List Int) : List DC := [.raw (.string (str l))]
theorem allLen_s : ∀ l : List (List Int), allLen 1 (l.map sS) = true
  | [] => rfl
  | g :: gs => by rw [List.map_cons, allLen, allLen_s gs]; rfl
end
end Go.Proofs.YtinageiefahjfaaGreatDoor
