/- The reference's Use. Conditions: none. -/
import Derived.Test.YtinageiefahjfaaGreatDoorSo
namespace Go.Proofs.YtinageiefahjfaaGreatDoor
set_option linter.unusedSimpArgs false
set_option linter.unusedVariables false
set_option maxRecDepth 4000
variable {G : Glob} {bb : Bool}
def ulS (y : Ca) (a : Cu) (g : List Gr) (w : List Wt) (an : An) (j : Nat) : AS := ⟨(jk 2 (.one (.ptr 4 0) :: jk 1 (.one (.ptr 6 0) :: jk 3 (.one (.ptr 8 0) :: vi j :: jk 126 [])))), [.arr 0 1 ((kl y.K).map ci0), .arr 0 1 ((kl y.D).map bo), .arr 0 1 (y.sn.map ci0), .arr 0 1 ((kl y.W).map ci0), .box [.dc (.slc (y.gs.map Gr.e)), .dc (.slc (y.ws.map Wt.e)), .dc (ci y.v), .bld 0 8, .bld 1 8, .bld 2 y.sn.length, .bld 3 8], .box [.dc (ci a.k), .dc (ci a.c), .dc (ci a.l), .dc (ci a.u)], .box [.dc (.raw (.slice none 0 0)), .dc (.raw (.slice none 0 0)), .dc (ci 0), .dc (.raw (.slice none 0 0)), .dc (.raw (.slice none 0 0)), .dc (.raw (.slice none 0 0)), .dc (.raw (.slice none 0 0))], .box [.dc (.slc (g.map Gr.e)), .dc (.slc (w.map Wt.e))], .box [.dc (.raw (.bool an.d)), .dc (.slc (an.b.map Br.e)), .dc (.slc (an.f.map Wt.e))]]⟩
set_option maxHeartbeats 1000000 in
theorem ul_round (y : Ca) (hs : Srt y.gs) (hl : y.gs.length ≤ 1000) (hn : y.sn.length ≤ 100000) (a : Cu) (g : List Gr) (w : List Wt) (an : An) (hf : an.f.length ≤ 1000) (j : Nat) (hj : j < an.f.length) (z : Wt) (hz : an.f[j] = z) (hc : 1 ≤ z.c ∧ z.c ≤ 8) (hk : z.k = 0 ∨ z.k = 2 ∨ z.k = 3) :
    rnK [2, 1, 3, 0] 9 (EC (EV G (Tb (bs bb))) G h71l0 (ulS y a g w an j)) = some (ulS (effF y z.c z.k) a g w an (j + 1)) := by
  obtain ⟨m, hm, hm8⟩ : ∃ m : Nat, z.c = (m : Int) + 1 ∧ m < 8 := ⟨(z.c - 1).toNat, by omega, by omega⟩
  have eg : (an.f.map Wt.e)[j]? = some [ci ((m : Int) + 1), ci z.k] := by rw [List.getElem?_map, List.getElem?_eq_getElem hj, hz, ← hm]; rfl
  have q := rtouch_v (G := G) (bb := bb) y hs hl hn m hm8 z.k hk
  rw [hm]
  obtain ⟨h1, h2, _⟩ := effF_gs y ((m : Int) + 1) z.k
  generalize effF y ((m : Int) + 1) z.k = y' at *
  obtain ⟨gs', ws', v', K', D', W', sn'⟩ := y'
  obtain ⟨gs, ws, v, K, D, W, sn⟩ := y
  simp only at h1 h2
  subst h1 h2
  simp only [rcV, rcH] at q
  unfold ulS
  simp only
  simp (maxSteps := 1000000) (disch := omega) only [go_sem, h71l0, evJ_4, q, eg]
theorem ul_loop {st : AS} (y : Ca) (hs : Srt y.gs) (hl : y.gs.length ≤ 1000) (hn : y.sn.length ≤ 90000) (a : Cu) (g : List Gr) (w : List Wt) (an : An) (hf : an.f.length ≤ 1000) (hc : ∀ z ∈ an.f, (1 ≤ z.c ∧ z.c ≤ 8) ∧ (z.k = 0 ∨ z.k = 2 ∨ z.k = 3)) (h0 : st = ulS y a g w an 0) :
    EL (EV G (Tb (bs bb))) G h71l0 [2, 1, 3, 0] 9 st = fnK (EV G (Tb (bs bb))) G h71l0 [2, 1, 3, 0] 9 (EC (EV G (Tb (bs bb))) G h71l0 (ulS (effL y an.f) a g w an an.f.length)) := by
  subst h0
  have e : effL y an.f = effL y (an.f.take an.f.length) := by rw [List.take_length]
  rw [e]
  refine EL_loop (fun j => ulS (effL y (an.f.take j)) a g w an j) an.f.length rfl (fun j hj => ?_)
  have h1 := effL_gs y (an.f.take j)
  have h2 := List.length_take_le j an.f
  rw [effL_next y an.f j hj]
  obtain ⟨h3, h4⟩ := hc an.f[j] (List.getElem_mem hj)
  exact ul_round (effL y (an.f.take j)) (by rw [h1.1]; exact hs) (by rw [h1.1]; exact hl) (by omega) a g w an hf j hj an.f[j] rfl h3 h4
theorem stp_d {gs : List Gr} {ws : List Wt} {a : Ac} (h : a.k = 1 ∨ a.k = 4 ∨ a.k = 5) : (stp gs ws a).2.2.d = true := by
  unfold stp
  rcases h with h | h | h
  · rw [if_pos h]
  · rw [if_neg (by omega), if_pos h]; rfl
  · rw [if_neg (by omega), if_neg (by omega), if_pos h]; rfl
set_option maxHeartbeats 8000000 in
theorem ruse_4D (gs : List Gr) (ws : List Wt) (v : Int) (K : Nat → Int) (D : Nat → Bool) (W : Nat → Int) (sn : List Int) (hv : Vd gs ws) (hh : Hd gs ws) (hn : sn.length ≤ 50000) (k : Int) (m : Nat) (hm : m < 8) (l u : Int) (hb : raB ⟨gs, ws, v, K, D, W, sn⟩ k ((m : Int) + 1) = false) (he : acErr gs ws ⟨k, (m : Int) + 1, l⟩ = 0) (k4 : k = 4) (hdt : D (m + 1) = true) :
    EV G (Tb (bs bb)) 71 [rcV ⟨gs, ws, v, K, D, W, sn⟩, .agg [.dc (ci k), .dc (ci ((m : Int) + 1)), .dc (ci l), .dc (ci u)]] (rcH ⟨gs, ws, v, K, D, W, sn⟩) = some (rcV (actR ⟨gs, ws, v, K, D, W, sn⟩ k ((m : Int) + 1) l u), rcH (actR ⟨gs, ws, v, K, D, W, sn⟩ k ((m : Int) + 1) l u)) := by
  refine EV_run rfl ?_
  have hg8 := hv.gl
  have hw8 := hv.wl
  obtain ⟨hV', hH'⟩ := stp_ok hv hh he
  have hg8' := hV'.gl
  have hf := stp_f gs ws ⟨k, (m : Int) + 1, l⟩
  have q1 := ralone_v (G := G) (bb := bb) ⟨gs, ws, v, K, D, W, sn⟩ hv.so (by simp only; omega) (by simp only; omega) ⟨k, (m : Int) + 1, l, u⟩
  have q2 := rstep_v (G := G) (bb := bb) hv hh he
  have q3 := rwaits_v (G := G) (bb := bb) k
  simp only [rcD] at q1
  rw [hb] at q1
  have ec : ((m : Int) + 1).toNat = m + 1 := toNat_add1 m
  have em : ((m : Int) + 1 - 1).toNat = m := by omega
  have hus : isUs k = false := by unfold isUs; simp; omega
  rw [hus] at q3
  unfold actR aftR
  have hd := stp_d (gs := gs) (ws := ws) (a := ⟨k, (m : Int) + 1, l⟩) (by simp only; omega)
  have eG : givR ⟨gs, ws, v, K, D, W, sn⟩ k ((m : Int) + 1) u = ⟨gs, ws, K (m + 1), K, upd D (m + 1) false, W, sn⟩ := by unfold givR; rw [if_pos ⟨by omega, by rw [ec]; exact hdt⟩, ec]
  rw [eG]
  simp only
  generalize stp gs ws ⟨k, (m : Int) + 1, l⟩ = s at *
  obtain ⟨gs', ws', d, b, f⟩ := s
  simp only at hd q2 hV' hg8' hf ⊢
  subst hd
  have qd := rdrop_v (G := G) (bb := bb) ⟨gs', ws', (K (m + 1)), K, (upd D (m + 1) false), W, sn⟩ hV'.so (by simp only; omega)
  have qd : EV G (Tb (bs bb)) 135 [rcV ⟨gs', ws', (K (m + 1)), K, (upd D (m + 1) false), W, sn⟩] (rcH ⟨gs', ws', (K (m + 1)), K, (upd D (m + 1) false), W, sn⟩) = some (rcV ⟨gs', ws', (K (m + 1)), (drpF ⟨gs', ws', (K (m + 1)), K, (upd D (m + 1) false), W, sn⟩ 9).K, (drpF ⟨gs', ws', (K (m + 1)), K, (upd D (m + 1) false), W, sn⟩ 9).D, W, sn⟩, rcH ⟨gs', ws', (K (m + 1)), (drpF ⟨gs', ws', (K (m + 1)), K, (upd D (m + 1) false), W, sn⟩ 9).K, (drpF ⟨gs', ws', (K (m + 1)), K, (upd D (m + 1) false), W, sn⟩ 9).D, W, sn⟩) := qd
  have eD : drpF ⟨gs', ws', (K (m + 1)), K, (upd D (m + 1) false), W, sn⟩ 9 = ⟨gs', ws', (K (m + 1)), (drpF ⟨gs', ws', (K (m + 1)), K, (upd D (m + 1) false), W, sn⟩ 9).K, (drpF ⟨gs', ws', (K (m + 1)), K, (upd D (m + 1) false), W, sn⟩ 9).D, W, sn⟩ := rfl
  rw [eD]
  clear eD
  generalize (drpF ⟨gs', ws', (K (m + 1)), K, (upd D (m + 1) false), W, sn⟩ 9).K = K2 at *
  generalize (drpF ⟨gs', ws', (K (m + 1)), K, (upd D (m + 1) false), W, sn⟩ 9).D = D2 at *
  rw [if_neg (by rw [hus]; simp)]
  have hul := fun (st : AS) (h0 : st = ulS ⟨gs', ws', (K (m + 1)), K2, D2, W, sn⟩ ⟨k, (m : Int) + 1, l, u⟩ gs' ws' ⟨true, b, f⟩ 0) => ul_loop (G := G) (bb := bb) ⟨gs', ws', (K (m + 1)), K2, D2, W, sn⟩ hV'.so (by simp only; omega) (by simp only; omega) ⟨k, (m : Int) + 1, l, u⟩ gs' ws' ⟨true, b, f⟩ (by simp only; omega) (fun z hz => ⟨(hv.wr z (hf.1 z hz)).1, (hv.wr z (hf.1 z hz)).2.1⟩) h0
  have qe := effL_gs ⟨gs', ws', (K (m + 1)), K2, D2, W, sn⟩ f
  have hdr := rdrop_v (G := G) (bb := bb) (effL ⟨gs', ws', (K (m + 1)), K2, D2, W, sn⟩ f) (by rw [qe.1]; exact hV'.so) (by rw [qe.1]; simp only; omega)
  simp only at hul qe
  generalize effL ⟨gs', ws', (K (m + 1)), K2, D2, W, sn⟩ f = Y at *
  obtain ⟨gY, wY, vY, KY, DY, WY, sY⟩ := Y
  simp only at qe
  have eZ : drpF ⟨gY, wY, vY, KY, DY, WY, sY⟩ 9 = ⟨gY, wY, vY, (drpF ⟨gY, wY, vY, KY, DY, WY, sY⟩ 9).K, (drpF ⟨gY, wY, vY, KY, DY, WY, sY⟩ 9).D, WY, sY⟩ := rfl
  rw [eZ] at hdr ⊢
  generalize (drpF ⟨gY, wY, vY, KY, DY, WY, sY⟩ 9).K = KZ at *
  generalize (drpF ⟨gY, wY, vY, KY, DY, WY, sY⟩ 9).D = DZ at *
  simp only [rcV, rcH] at qd hdr ⊢
  have e3 := ki_get K hm
  have e4 := kb_get D hm
  have e5 := ki_len K
  have e6 := kb_len D
  have e7 := kb_set D hm false
  have e8 := ki_set W hm u
  have e9 := ki_len W
  have e10 := ki_get W hm
  have tS : List.take sn.length (sn.map ci0) = sn.map ci0 := List.take_of_length_le (by simp)
  simp (maxSteps := 1000000) (disch := omega) only [go_sem, h71c, evJ_4, em, kt_i, kt_b, tS, q1, q2, q3, qd, eq_true k4, (show ¬ k = 5 by omega), (show ¬ k = 3 by omega), hdt, e3, e4, e5, e6, e7, e8, e9, e10, meetE_e]
  rw [hul _ ?_]
  rotate_left
  · rfl
  unfold ulS
  simp (maxSteps := 1000000) (disch := omega) only [go_sem, h71l0, evJ_4, hdr]
  try rfl
set_option maxHeartbeats 8000000 in
theorem ruse_4N (gs : List Gr) (ws : List Wt) (v : Int) (K : Nat → Int) (D : Nat → Bool) (W : Nat → Int) (sn : List Int) (hv : Vd gs ws) (hh : Hd gs ws) (hn : sn.length ≤ 50000) (k : Int) (m : Nat) (hm : m < 8) (l u : Int) (hb : raB ⟨gs, ws, v, K, D, W, sn⟩ k ((m : Int) + 1) = false) (he : acErr gs ws ⟨k, (m : Int) + 1, l⟩ = 0) (k4 : k = 4) (hdt : D (m + 1) = false) :
    EV G (Tb (bs bb)) 71 [rcV ⟨gs, ws, v, K, D, W, sn⟩, .agg [.dc (ci k), .dc (ci ((m : Int) + 1)), .dc (ci l), .dc (ci u)]] (rcH ⟨gs, ws, v, K, D, W, sn⟩) = some (rcV (actR ⟨gs, ws, v, K, D, W, sn⟩ k ((m : Int) + 1) l u), rcH (actR ⟨gs, ws, v, K, D, W, sn⟩ k ((m : Int) + 1) l u)) := by
  refine EV_run rfl ?_
  have hg8 := hv.gl
  have hw8 := hv.wl
  obtain ⟨hV', hH'⟩ := stp_ok hv hh he
  have hg8' := hV'.gl
  have hf := stp_f gs ws ⟨k, (m : Int) + 1, l⟩
  have q1 := ralone_v (G := G) (bb := bb) ⟨gs, ws, v, K, D, W, sn⟩ hv.so (by simp only; omega) (by simp only; omega) ⟨k, (m : Int) + 1, l, u⟩
  have q2 := rstep_v (G := G) (bb := bb) hv hh he
  have q3 := rwaits_v (G := G) (bb := bb) k
  simp only [rcD] at q1
  rw [hb] at q1
  have ec : ((m : Int) + 1).toNat = m + 1 := toNat_add1 m
  have em : ((m : Int) + 1 - 1).toNat = m := by omega
  have hus : isUs k = false := by unfold isUs; simp; omega
  rw [hus] at q3
  unfold actR aftR
  have hd := stp_d (gs := gs) (ws := ws) (a := ⟨k, (m : Int) + 1, l⟩) (by simp only; omega)
  have eG : givR ⟨gs, ws, v, K, D, W, sn⟩ k ((m : Int) + 1) u = ⟨gs, ws, v, K, D, W, sn⟩ := by unfold givR; rw [if_neg (fun h => by have h2 := h.2; rw [ec] at h2; simp only [hdt] at h2; cases h2), if_neg (by omega)]
  rw [eG]
  simp only
  generalize stp gs ws ⟨k, (m : Int) + 1, l⟩ = s at *
  obtain ⟨gs', ws', d, b, f⟩ := s
  simp only at hd q2 hV' hg8' hf ⊢
  subst hd
  have qd := rdrop_v (G := G) (bb := bb) ⟨gs', ws', v, K, D, W, sn⟩ hV'.so (by simp only; omega)
  have qd : EV G (Tb (bs bb)) 135 [rcV ⟨gs', ws', v, K, D, W, sn⟩] (rcH ⟨gs', ws', v, K, D, W, sn⟩) = some (rcV ⟨gs', ws', v, (drpF ⟨gs', ws', v, K, D, W, sn⟩ 9).K, (drpF ⟨gs', ws', v, K, D, W, sn⟩ 9).D, W, sn⟩, rcH ⟨gs', ws', v, (drpF ⟨gs', ws', v, K, D, W, sn⟩ 9).K, (drpF ⟨gs', ws', v, K, D, W, sn⟩ 9).D, W, sn⟩) := qd
  have eD : drpF ⟨gs', ws', v, K, D, W, sn⟩ 9 = ⟨gs', ws', v, (drpF ⟨gs', ws', v, K, D, W, sn⟩ 9).K, (drpF ⟨gs', ws', v, K, D, W, sn⟩ 9).D, W, sn⟩ := rfl
  rw [eD]
  clear eD
  generalize (drpF ⟨gs', ws', v, K, D, W, sn⟩ 9).K = K2 at *
  generalize (drpF ⟨gs', ws', v, K, D, W, sn⟩ 9).D = D2 at *
  rw [if_neg (by rw [hus]; simp)]
  have hul := fun (st : AS) (h0 : st = ulS ⟨gs', ws', v, K2, D2, W, sn⟩ ⟨k, (m : Int) + 1, l, u⟩ gs' ws' ⟨true, b, f⟩ 0) => ul_loop (G := G) (bb := bb) ⟨gs', ws', v, K2, D2, W, sn⟩ hV'.so (by simp only; omega) (by simp only; omega) ⟨k, (m : Int) + 1, l, u⟩ gs' ws' ⟨true, b, f⟩ (by simp only; omega) (fun z hz => ⟨(hv.wr z (hf.1 z hz)).1, (hv.wr z (hf.1 z hz)).2.1⟩) h0
  have qe := effL_gs ⟨gs', ws', v, K2, D2, W, sn⟩ f
  have hdr := rdrop_v (G := G) (bb := bb) (effL ⟨gs', ws', v, K2, D2, W, sn⟩ f) (by rw [qe.1]; exact hV'.so) (by rw [qe.1]; simp only; omega)
  simp only at hul qe
  generalize effL ⟨gs', ws', v, K2, D2, W, sn⟩ f = Y at *
  obtain ⟨gY, wY, vY, KY, DY, WY, sY⟩ := Y
  simp only at qe
  have eZ : drpF ⟨gY, wY, vY, KY, DY, WY, sY⟩ 9 = ⟨gY, wY, vY, (drpF ⟨gY, wY, vY, KY, DY, WY, sY⟩ 9).K, (drpF ⟨gY, wY, vY, KY, DY, WY, sY⟩ 9).D, WY, sY⟩ := rfl
  rw [eZ] at hdr ⊢
  generalize (drpF ⟨gY, wY, vY, KY, DY, WY, sY⟩ 9).K = KZ at *
  generalize (drpF ⟨gY, wY, vY, KY, DY, WY, sY⟩ 9).D = DZ at *
  simp only [rcV, rcH] at qd hdr ⊢
  have e3 := ki_get K hm
  have e4 := kb_get D hm
  have e5 := ki_len K
  have e6 := kb_len D
  have e7 := kb_set D hm false
  have e8 := ki_set W hm u
  have e9 := ki_len W
  have e10 := ki_get W hm
  have tS : List.take sn.length (sn.map ci0) = sn.map ci0 := List.take_of_length_le (by simp)
  simp (maxSteps := 1000000) (disch := omega) only [go_sem, h71c, evJ_4, em, kt_i, kt_b, tS, q1, q2, q3, qd, eq_true k4, (show ¬ k = 5 by omega), (show ¬ k = 3 by omega), hdt, e3, e4, e5, e6, e7, e8, e9, e10, meetE_e]
  rw [hul _ ?_]
  rotate_left
  · rfl
  unfold ulS
  simp (maxSteps := 1000000) (disch := omega) only [go_sem, h71l0, evJ_4, hdr]
  try rfl
set_option maxHeartbeats 8000000 in
theorem ruse_5D (gs : List Gr) (ws : List Wt) (v : Int) (K : Nat → Int) (D : Nat → Bool) (W : Nat → Int) (sn : List Int) (hv : Vd gs ws) (hh : Hd gs ws) (hn : sn.length ≤ 50000) (k : Int) (m : Nat) (hm : m < 8) (l u : Int) (hb : raB ⟨gs, ws, v, K, D, W, sn⟩ k ((m : Int) + 1) = false) (he : acErr gs ws ⟨k, (m : Int) + 1, l⟩ = 0) (k5 : k = 5) (hdt : D (m + 1) = true) :
    EV G (Tb (bs bb)) 71 [rcV ⟨gs, ws, v, K, D, W, sn⟩, .agg [.dc (ci k), .dc (ci ((m : Int) + 1)), .dc (ci l), .dc (ci u)]] (rcH ⟨gs, ws, v, K, D, W, sn⟩) = some (rcV (actR ⟨gs, ws, v, K, D, W, sn⟩ k ((m : Int) + 1) l u), rcH (actR ⟨gs, ws, v, K, D, W, sn⟩ k ((m : Int) + 1) l u)) := by
  refine EV_run rfl ?_
  have hg8 := hv.gl
  have hw8 := hv.wl
  obtain ⟨hV', hH'⟩ := stp_ok hv hh he
  have hg8' := hV'.gl
  have hf := stp_f gs ws ⟨k, (m : Int) + 1, l⟩
  have q1 := ralone_v (G := G) (bb := bb) ⟨gs, ws, v, K, D, W, sn⟩ hv.so (by simp only; omega) (by simp only; omega) ⟨k, (m : Int) + 1, l, u⟩
  have q2 := rstep_v (G := G) (bb := bb) hv hh he
  have q3 := rwaits_v (G := G) (bb := bb) k
  simp only [rcD] at q1
  rw [hb] at q1
  have ec : ((m : Int) + 1).toNat = m + 1 := toNat_add1 m
  have em : ((m : Int) + 1 - 1).toNat = m := by omega
  have hus : isUs k = false := by unfold isUs; simp; omega
  rw [hus] at q3
  unfold actR aftR
  have hd := stp_d (gs := gs) (ws := ws) (a := ⟨k, (m : Int) + 1, l⟩) (by simp only; omega)
  have eG : givR ⟨gs, ws, v, K, D, W, sn⟩ k ((m : Int) + 1) u = ⟨gs, ws, K (m + 1), K, upd D (m + 1) false, W, sn⟩ := by unfold givR; rw [if_pos ⟨by omega, by rw [ec]; exact hdt⟩, ec]
  rw [eG]
  simp only
  generalize stp gs ws ⟨k, (m : Int) + 1, l⟩ = s at *
  obtain ⟨gs', ws', d, b, f⟩ := s
  simp only at hd q2 hV' hg8' hf ⊢
  subst hd
  have qd := rdrop_v (G := G) (bb := bb) ⟨gs', ws', (K (m + 1)), K, (upd D (m + 1) false), W, sn⟩ hV'.so (by simp only; omega)
  have qd : EV G (Tb (bs bb)) 135 [rcV ⟨gs', ws', (K (m + 1)), K, (upd D (m + 1) false), W, sn⟩] (rcH ⟨gs', ws', (K (m + 1)), K, (upd D (m + 1) false), W, sn⟩) = some (rcV ⟨gs', ws', (K (m + 1)), (drpF ⟨gs', ws', (K (m + 1)), K, (upd D (m + 1) false), W, sn⟩ 9).K, (drpF ⟨gs', ws', (K (m + 1)), K, (upd D (m + 1) false), W, sn⟩ 9).D, W, sn⟩, rcH ⟨gs', ws', (K (m + 1)), (drpF ⟨gs', ws', (K (m + 1)), K, (upd D (m + 1) false), W, sn⟩ 9).K, (drpF ⟨gs', ws', (K (m + 1)), K, (upd D (m + 1) false), W, sn⟩ 9).D, W, sn⟩) := qd
  have eD : drpF ⟨gs', ws', (K (m + 1)), K, (upd D (m + 1) false), W, sn⟩ 9 = ⟨gs', ws', (K (m + 1)), (drpF ⟨gs', ws', (K (m + 1)), K, (upd D (m + 1) false), W, sn⟩ 9).K, (drpF ⟨gs', ws', (K (m + 1)), K, (upd D (m + 1) false), W, sn⟩ 9).D, W, sn⟩ := rfl
  rw [eD]
  clear eD
  generalize (drpF ⟨gs', ws', (K (m + 1)), K, (upd D (m + 1) false), W, sn⟩ 9).K = K2 at *
  generalize (drpF ⟨gs', ws', (K (m + 1)), K, (upd D (m + 1) false), W, sn⟩ 9).D = D2 at *
  rw [if_neg (by rw [hus]; simp)]
  have hul := fun (st : AS) (h0 : st = ulS ⟨gs', ws', (K (m + 1)), K2, D2, W, sn⟩ ⟨k, (m : Int) + 1, l, u⟩ gs' ws' ⟨true, b, f⟩ 0) => ul_loop (G := G) (bb := bb) ⟨gs', ws', (K (m + 1)), K2, D2, W, sn⟩ hV'.so (by simp only; omega) (by simp only; omega) ⟨k, (m : Int) + 1, l, u⟩ gs' ws' ⟨true, b, f⟩ (by simp only; omega) (fun z hz => ⟨(hv.wr z (hf.1 z hz)).1, (hv.wr z (hf.1 z hz)).2.1⟩) h0
  have qe := effL_gs ⟨gs', ws', (K (m + 1)), K2, D2, W, sn⟩ f
  have hdr := rdrop_v (G := G) (bb := bb) (effL ⟨gs', ws', (K (m + 1)), K2, D2, W, sn⟩ f) (by rw [qe.1]; exact hV'.so) (by rw [qe.1]; simp only; omega)
  simp only at hul qe
  generalize effL ⟨gs', ws', (K (m + 1)), K2, D2, W, sn⟩ f = Y at *
  obtain ⟨gY, wY, vY, KY, DY, WY, sY⟩ := Y
  simp only at qe
  have eZ : drpF ⟨gY, wY, vY, KY, DY, WY, sY⟩ 9 = ⟨gY, wY, vY, (drpF ⟨gY, wY, vY, KY, DY, WY, sY⟩ 9).K, (drpF ⟨gY, wY, vY, KY, DY, WY, sY⟩ 9).D, WY, sY⟩ := rfl
  rw [eZ] at hdr ⊢
  generalize (drpF ⟨gY, wY, vY, KY, DY, WY, sY⟩ 9).K = KZ at *
  generalize (drpF ⟨gY, wY, vY, KY, DY, WY, sY⟩ 9).D = DZ at *
  simp only [rcV, rcH] at qd hdr ⊢
  have e3 := ki_get K hm
  have e4 := kb_get D hm
  have e5 := ki_len K
  have e6 := kb_len D
  have e7 := kb_set D hm false
  have e8 := ki_set W hm u
  have e9 := ki_len W
  have e10 := ki_get W hm
  have tS : List.take sn.length (sn.map ci0) = sn.map ci0 := List.take_of_length_le (by simp)
  simp (maxSteps := 1000000) (disch := omega) only [go_sem, h71c, evJ_4, em, kt_i, kt_b, tS, q1, q2, q3, qd, eq_true k5, (show ¬ k = 4 by omega), (show ¬ k = 3 by omega), hdt, e3, e4, e5, e6, e7, e8, e9, e10, meetE_e]
  rw [hul _ ?_]
  rotate_left
  · rfl
  unfold ulS
  simp (maxSteps := 1000000) (disch := omega) only [go_sem, h71l0, evJ_4, hdr]
  try rfl
set_option maxHeartbeats 8000000 in
theorem ruse_5N (gs : List Gr) (ws : List Wt) (v : Int) (K : Nat → Int) (D : Nat → Bool) (W : Nat → Int) (sn : List Int) (hv : Vd gs ws) (hh : Hd gs ws) (hn : sn.length ≤ 50000) (k : Int) (m : Nat) (hm : m < 8) (l u : Int) (hb : raB ⟨gs, ws, v, K, D, W, sn⟩ k ((m : Int) + 1) = false) (he : acErr gs ws ⟨k, (m : Int) + 1, l⟩ = 0) (k5 : k = 5) (hdt : D (m + 1) = false) :
    EV G (Tb (bs bb)) 71 [rcV ⟨gs, ws, v, K, D, W, sn⟩, .agg [.dc (ci k), .dc (ci ((m : Int) + 1)), .dc (ci l), .dc (ci u)]] (rcH ⟨gs, ws, v, K, D, W, sn⟩) = some (rcV (actR ⟨gs, ws, v, K, D, W, sn⟩ k ((m : Int) + 1) l u), rcH (actR ⟨gs, ws, v, K, D, W, sn⟩ k ((m : Int) + 1) l u)) := by
  refine EV_run rfl ?_
  have hg8 := hv.gl
  have hw8 := hv.wl
  obtain ⟨hV', hH'⟩ := stp_ok hv hh he
  have hg8' := hV'.gl
  have hf := stp_f gs ws ⟨k, (m : Int) + 1, l⟩
  have q1 := ralone_v (G := G) (bb := bb) ⟨gs, ws, v, K, D, W, sn⟩ hv.so (by simp only; omega) (by simp only; omega) ⟨k, (m : Int) + 1, l, u⟩
  have q2 := rstep_v (G := G) (bb := bb) hv hh he
  have q3 := rwaits_v (G := G) (bb := bb) k
  simp only [rcD] at q1
  rw [hb] at q1
  have ec : ((m : Int) + 1).toNat = m + 1 := toNat_add1 m
  have em : ((m : Int) + 1 - 1).toNat = m := by omega
  have hus : isUs k = false := by unfold isUs; simp; omega
  rw [hus] at q3
  unfold actR aftR
  have hd := stp_d (gs := gs) (ws := ws) (a := ⟨k, (m : Int) + 1, l⟩) (by simp only; omega)
  have eG : givR ⟨gs, ws, v, K, D, W, sn⟩ k ((m : Int) + 1) u = ⟨gs, ws, v, K, D, W, sn⟩ := by unfold givR; rw [if_neg (fun h => by have h2 := h.2; rw [ec] at h2; simp only [hdt] at h2; cases h2), if_neg (by omega)]
  rw [eG]
  simp only
  generalize stp gs ws ⟨k, (m : Int) + 1, l⟩ = s at *
  obtain ⟨gs', ws', d, b, f⟩ := s
  simp only at hd q2 hV' hg8' hf ⊢
  subst hd
  have qd := rdrop_v (G := G) (bb := bb) ⟨gs', ws', v, K, D, W, sn⟩ hV'.so (by simp only; omega)
  have qd : EV G (Tb (bs bb)) 135 [rcV ⟨gs', ws', v, K, D, W, sn⟩] (rcH ⟨gs', ws', v, K, D, W, sn⟩) = some (rcV ⟨gs', ws', v, (drpF ⟨gs', ws', v, K, D, W, sn⟩ 9).K, (drpF ⟨gs', ws', v, K, D, W, sn⟩ 9).D, W, sn⟩, rcH ⟨gs', ws', v, (drpF ⟨gs', ws', v, K, D, W, sn⟩ 9).K, (drpF ⟨gs', ws', v, K, D, W, sn⟩ 9).D, W, sn⟩) := qd
  have eD : drpF ⟨gs', ws', v, K, D, W, sn⟩ 9 = ⟨gs', ws', v, (drpF ⟨gs', ws', v, K, D, W, sn⟩ 9).K, (drpF ⟨gs', ws', v, K, D, W, sn⟩ 9).D, W, sn⟩ := rfl
  rw [eD]
  clear eD
  generalize (drpF ⟨gs', ws', v, K, D, W, sn⟩ 9).K = K2 at *
  generalize (drpF ⟨gs', ws', v, K, D, W, sn⟩ 9).D = D2 at *
  rw [if_neg (by rw [hus]; simp)]
  have hul := fun (st : AS) (h0 : st = ulS ⟨gs', ws', v, K2, D2, W, sn⟩ ⟨k, (m : Int) + 1, l, u⟩ gs' ws' ⟨true, b, f⟩ 0) => ul_loop (G := G) (bb := bb) ⟨gs', ws', v, K2, D2, W, sn⟩ hV'.so (by simp only; omega) (by simp only; omega) ⟨k, (m : Int) + 1, l, u⟩ gs' ws' ⟨true, b, f⟩ (by simp only; omega) (fun z hz => ⟨(hv.wr z (hf.1 z hz)).1, (hv.wr z (hf.1 z hz)).2.1⟩) h0
  have qe := effL_gs ⟨gs', ws', v, K2, D2, W, sn⟩ f
  have hdr := rdrop_v (G := G) (bb := bb) (effL ⟨gs', ws', v, K2, D2, W, sn⟩ f) (by rw [qe.1]; exact hV'.so) (by rw [qe.1]; simp only; omega)
  simp only at hul qe
  generalize effL ⟨gs', ws', v, K2, D2, W, sn⟩ f = Y at *
  obtain ⟨gY, wY, vY, KY, DY, WY, sY⟩ := Y
  simp only at qe
  have eZ : drpF ⟨gY, wY, vY, KY, DY, WY, sY⟩ 9 = ⟨gY, wY, vY, (drpF ⟨gY, wY, vY, KY, DY, WY, sY⟩ 9).K, (drpF ⟨gY, wY, vY, KY, DY, WY, sY⟩ 9).D, WY, sY⟩ := rfl
  rw [eZ] at hdr ⊢
  generalize (drpF ⟨gY, wY, vY, KY, DY, WY, sY⟩ 9).K = KZ at *
  generalize (drpF ⟨gY, wY, vY, KY, DY, WY, sY⟩ 9).D = DZ at *
  simp only [rcV, rcH] at qd hdr ⊢
  have e3 := ki_get K hm
  have e4 := kb_get D hm
  have e5 := ki_len K
  have e6 := kb_len D
  have e7 := kb_set D hm false
  have e8 := ki_set W hm u
  have e9 := ki_len W
  have e10 := ki_get W hm
  have tS : List.take sn.length (sn.map ci0) = sn.map ci0 := List.take_of_length_le (by simp)
  simp (maxSteps := 1000000) (disch := omega) only [go_sem, h71c, evJ_4, em, kt_i, kt_b, tS, q1, q2, q3, qd, eq_true k5, (show ¬ k = 4 by omega), (show ¬ k = 3 by omega), hdt, e3, e4, e5, e6, e7, e8, e9, e10, meetE_e]
  rw [hul _ ?_]
  rotate_left
  · rfl
  unfold ulS
  simp (maxSteps := 1000000) (disch := omega) only [go_sem, h71l0, evJ_4, hdr]
  try rfl
set_option maxHeartbeats 8000000 in
theorem ruse_1 (gs : List Gr) (ws : List Wt) (v : Int) (K : Nat → Int) (D : Nat → Bool) (W : Nat → Int) (sn : List Int) (hv : Vd gs ws) (hh : Hd gs ws) (hn : sn.length ≤ 50000) (k : Int) (m : Nat) (hm : m < 8) (l u : Int) (hb : raB ⟨gs, ws, v, K, D, W, sn⟩ k ((m : Int) + 1) = false) (he : acErr gs ws ⟨k, (m : Int) + 1, l⟩ = 0) (k1 : k = 1) :
    EV G (Tb (bs bb)) 71 [rcV ⟨gs, ws, v, K, D, W, sn⟩, .agg [.dc (ci k), .dc (ci ((m : Int) + 1)), .dc (ci l), .dc (ci u)]] (rcH ⟨gs, ws, v, K, D, W, sn⟩) = some (rcV (actR ⟨gs, ws, v, K, D, W, sn⟩ k ((m : Int) + 1) l u), rcH (actR ⟨gs, ws, v, K, D, W, sn⟩ k ((m : Int) + 1) l u)) := by
  refine EV_run rfl ?_
  have hg8 := hv.gl
  have hw8 := hv.wl
  obtain ⟨hV', hH'⟩ := stp_ok hv hh he
  have hg8' := hV'.gl
  have hf := stp_f gs ws ⟨k, (m : Int) + 1, l⟩
  have q1 := ralone_v (G := G) (bb := bb) ⟨gs, ws, v, K, D, W, sn⟩ hv.so (by simp only; omega) (by simp only; omega) ⟨k, (m : Int) + 1, l, u⟩
  have q2 := rstep_v (G := G) (bb := bb) hv hh he
  have q3 := rwaits_v (G := G) (bb := bb) k
  simp only [rcD] at q1
  rw [hb] at q1
  have ec : ((m : Int) + 1).toNat = m + 1 := toNat_add1 m
  have em : ((m : Int) + 1 - 1).toNat = m := by omega
  have hus : isUs k = false := by unfold isUs; simp; omega
  rw [hus] at q3
  unfold actR aftR
  have hd := stp_d (gs := gs) (ws := ws) (a := ⟨k, (m : Int) + 1, l⟩) (by simp only; omega)
  have eG : givR ⟨gs, ws, v, K, D, W, sn⟩ k ((m : Int) + 1) u = ⟨gs, ws, v, K, D, W, sn⟩ := by unfold givR; rw [if_neg (fun h => by have := h.1; omega), if_neg (by omega)]
  rw [eG]
  simp only
  generalize stp gs ws ⟨k, (m : Int) + 1, l⟩ = s at *
  obtain ⟨gs', ws', d, b, f⟩ := s
  simp only at hd q2 hV' hg8' hf ⊢
  subst hd
  have qd := rdrop_v (G := G) (bb := bb) ⟨gs', ws', v, K, D, W, sn⟩ hV'.so (by simp only; omega)
  have qd : EV G (Tb (bs bb)) 135 [rcV ⟨gs', ws', v, K, D, W, sn⟩] (rcH ⟨gs', ws', v, K, D, W, sn⟩) = some (rcV ⟨gs', ws', v, (drpF ⟨gs', ws', v, K, D, W, sn⟩ 9).K, (drpF ⟨gs', ws', v, K, D, W, sn⟩ 9).D, W, sn⟩, rcH ⟨gs', ws', v, (drpF ⟨gs', ws', v, K, D, W, sn⟩ 9).K, (drpF ⟨gs', ws', v, K, D, W, sn⟩ 9).D, W, sn⟩) := qd
  have eD : drpF ⟨gs', ws', v, K, D, W, sn⟩ 9 = ⟨gs', ws', v, (drpF ⟨gs', ws', v, K, D, W, sn⟩ 9).K, (drpF ⟨gs', ws', v, K, D, W, sn⟩ 9).D, W, sn⟩ := rfl
  rw [eD]
  clear eD
  generalize (drpF ⟨gs', ws', v, K, D, W, sn⟩ 9).K = K2 at *
  generalize (drpF ⟨gs', ws', v, K, D, W, sn⟩ 9).D = D2 at *
  rw [if_neg (by rw [hus]; simp)]
  have hul := fun (st : AS) (h0 : st = ulS ⟨gs', ws', v, K2, D2, W, sn⟩ ⟨k, (m : Int) + 1, l, u⟩ gs' ws' ⟨true, b, f⟩ 0) => ul_loop (G := G) (bb := bb) ⟨gs', ws', v, K2, D2, W, sn⟩ hV'.so (by simp only; omega) (by simp only; omega) ⟨k, (m : Int) + 1, l, u⟩ gs' ws' ⟨true, b, f⟩ (by simp only; omega) (fun z hz => ⟨(hv.wr z (hf.1 z hz)).1, (hv.wr z (hf.1 z hz)).2.1⟩) h0
  have qe := effL_gs ⟨gs', ws', v, K2, D2, W, sn⟩ f
  have hdr := rdrop_v (G := G) (bb := bb) (effL ⟨gs', ws', v, K2, D2, W, sn⟩ f) (by rw [qe.1]; exact hV'.so) (by rw [qe.1]; simp only; omega)
  simp only at hul qe
  generalize effL ⟨gs', ws', v, K2, D2, W, sn⟩ f = Y at *
  obtain ⟨gY, wY, vY, KY, DY, WY, sY⟩ := Y
  simp only at qe
  have eZ : drpF ⟨gY, wY, vY, KY, DY, WY, sY⟩ 9 = ⟨gY, wY, vY, (drpF ⟨gY, wY, vY, KY, DY, WY, sY⟩ 9).K, (drpF ⟨gY, wY, vY, KY, DY, WY, sY⟩ 9).D, WY, sY⟩ := rfl
  rw [eZ] at hdr ⊢
  generalize (drpF ⟨gY, wY, vY, KY, DY, WY, sY⟩ 9).K = KZ at *
  generalize (drpF ⟨gY, wY, vY, KY, DY, WY, sY⟩ 9).D = DZ at *
  simp only [rcV, rcH] at qd hdr ⊢
  have e3 := ki_get K hm
  have e4 := kb_get D hm
  have e5 := ki_len K
  have e6 := kb_len D
  have e7 := kb_set D hm false
  have e8 := ki_set W hm u
  have e9 := ki_len W
  have e10 := ki_get W hm
  have tS : List.take sn.length (sn.map ci0) = sn.map ci0 := List.take_of_length_le (by simp)
  simp (maxSteps := 1000000) (disch := omega) only [go_sem, h71c, evJ_4, em, kt_i, kt_b, tS, q1, q2, q3, qd, (show ¬ k = 5 by omega), (show ¬ k = 4 by omega), (show ¬ k = 3 by omega), e3, e4, e5, e6, e7, e8, e9, e10, meetE_e]
  rw [hul _ ?_]
  rotate_left
  · rfl
  unfold ulS
  simp (maxSteps := 1000000) (disch := omega) only [go_sem, h71l0, evJ_4, hdr]
  try rfl
set_option maxHeartbeats 8000000 in
theorem ruse_3y (gs : List Gr) (ws : List Wt) (v : Int) (K : Nat → Int) (D : Nat → Bool) (W : Nat → Int) (sn : List Int) (hv : Vd gs ws) (hh : Hd gs ws) (hn : sn.length ≤ 50000) (k : Int) (m : Nat) (hm : m < 8) (l u : Int) (hb : raB ⟨gs, ws, v, K, D, W, sn⟩ k ((m : Int) + 1) = false) (he : acErr gs ws ⟨k, (m : Int) + 1, l⟩ = 0) (k3 : k = 3) (hd : (stp gs ws ⟨k, (m : Int) + 1, l⟩).2.2.d = true) :
    EV G (Tb (bs bb)) 71 [rcV ⟨gs, ws, v, K, D, W, sn⟩, .agg [.dc (ci k), .dc (ci ((m : Int) + 1)), .dc (ci l), .dc (ci u)]] (rcH ⟨gs, ws, v, K, D, W, sn⟩) = some (rcV (actR ⟨gs, ws, v, K, D, W, sn⟩ k ((m : Int) + 1) l u), rcH (actR ⟨gs, ws, v, K, D, W, sn⟩ k ((m : Int) + 1) l u)) := by
  refine EV_run rfl ?_
  have hg8 := hv.gl
  have hw8 := hv.wl
  obtain ⟨hV', hH'⟩ := stp_ok hv hh he
  have hg8' := hV'.gl
  have hf := stp_f gs ws ⟨k, (m : Int) + 1, l⟩
  have q1 := ralone_v (G := G) (bb := bb) ⟨gs, ws, v, K, D, W, sn⟩ hv.so (by simp only; omega) (by simp only; omega) ⟨k, (m : Int) + 1, l, u⟩
  have q2 := rstep_v (G := G) (bb := bb) hv hh he
  have q3 := rwaits_v (G := G) (bb := bb) k
  simp only [rcD] at q1
  rw [hb] at q1
  have ec : ((m : Int) + 1).toNat = m + 1 := toNat_add1 m
  have em : ((m : Int) + 1 - 1).toNat = m := by omega
  have hus : isUs k = true := by unfold isUs; simp; omega
  rw [hus] at q3
  unfold actR aftR
  have eG : givR ⟨gs, ws, v, K, D, W, sn⟩ k ((m : Int) + 1) u = ⟨gs, ws, v, K, D, upd W (m + 1) u, sn⟩ := by unfold givR; rw [if_neg (fun h => by have := h.1; omega), if_pos (by omega), ec]
  rw [eG]
  simp only
  generalize stp gs ws ⟨k, (m : Int) + 1, l⟩ = s at *
  obtain ⟨gs', ws', d, b, f⟩ := s
  simp only at hd q2 hV' hg8' hf ⊢
  subst hd
  have qd := rdrop_v (G := G) (bb := bb) ⟨gs', ws', v, K, D, (upd W (m + 1) u), sn⟩ hV'.so (by simp only; omega)
  have qd : EV G (Tb (bs bb)) 135 [rcV ⟨gs', ws', v, K, D, (upd W (m + 1) u), sn⟩] (rcH ⟨gs', ws', v, K, D, (upd W (m + 1) u), sn⟩) = some (rcV ⟨gs', ws', v, (drpF ⟨gs', ws', v, K, D, (upd W (m + 1) u), sn⟩ 9).K, (drpF ⟨gs', ws', v, K, D, (upd W (m + 1) u), sn⟩ 9).D, (upd W (m + 1) u), sn⟩, rcH ⟨gs', ws', v, (drpF ⟨gs', ws', v, K, D, (upd W (m + 1) u), sn⟩ 9).K, (drpF ⟨gs', ws', v, K, D, (upd W (m + 1) u), sn⟩ 9).D, (upd W (m + 1) u), sn⟩) := qd
  have eD : drpF ⟨gs', ws', v, K, D, (upd W (m + 1) u), sn⟩ 9 = ⟨gs', ws', v, (drpF ⟨gs', ws', v, K, D, (upd W (m + 1) u), sn⟩ 9).K, (drpF ⟨gs', ws', v, K, D, (upd W (m + 1) u), sn⟩ 9).D, (upd W (m + 1) u), sn⟩ := rfl
  rw [eD]
  clear eD
  generalize (drpF ⟨gs', ws', v, K, D, (upd W (m + 1) u), sn⟩ 9).K = K2 at *
  generalize (drpF ⟨gs', ws', v, K, D, (upd W (m + 1) u), sn⟩ 9).D = D2 at *
  rw [if_pos ⟨rfl, hus⟩]
  have qt := rtouch_v (G := G) (bb := bb) ⟨gs', ws', v, K2, D2, (upd W (m + 1) u), sn⟩ hV'.so (by simp only; omega) (by simp only; omega) m hm k (by omega)
  obtain ⟨g1, g2, g3⟩ := effF_gs ⟨gs', ws', v, K2, D2, (upd W (m + 1) u), sn⟩ ((m : Int) + 1) k
  generalize effF ⟨gs', ws', v, K2, D2, (upd W (m + 1) u), sn⟩ ((m : Int) + 1) k = y2 at *
  obtain ⟨gs2, ws2, v2, K3, D3, W3, sn3⟩ := y2
  simp only at g1 g2 g3
  subst g1 g2
  simp only [rcV, rcH] at qt
  have hul := fun (st : AS) (h0 : st = ulS ⟨gs2, ws2, v2, K3, D3, W3, sn3⟩ ⟨k, (m : Int) + 1, l, u⟩ gs2 ws2 ⟨true, b, f⟩ 0) => ul_loop (G := G) (bb := bb) ⟨gs2, ws2, v2, K3, D3, W3, sn3⟩ hV'.so (by simp only; omega) (by simp only; omega) ⟨k, (m : Int) + 1, l, u⟩ gs2 ws2 ⟨true, b, f⟩ (by simp only; omega) (fun z hz => ⟨(hv.wr z (hf.1 z hz)).1, (hv.wr z (hf.1 z hz)).2.1⟩) h0
  have qe := effL_gs ⟨gs2, ws2, v2, K3, D3, W3, sn3⟩ f
  have hdr := rdrop_v (G := G) (bb := bb) (effL ⟨gs2, ws2, v2, K3, D3, W3, sn3⟩ f) (by rw [qe.1]; exact hV'.so) (by rw [qe.1]; simp only; omega)
  simp only at hul qe
  generalize effL ⟨gs2, ws2, v2, K3, D3, W3, sn3⟩ f = Y at *
  obtain ⟨gY, wY, vY, KY, DY, WY, sY⟩ := Y
  simp only at qe
  have eZ : drpF ⟨gY, wY, vY, KY, DY, WY, sY⟩ 9 = ⟨gY, wY, vY, (drpF ⟨gY, wY, vY, KY, DY, WY, sY⟩ 9).K, (drpF ⟨gY, wY, vY, KY, DY, WY, sY⟩ 9).D, WY, sY⟩ := rfl
  rw [eZ] at hdr ⊢
  generalize (drpF ⟨gY, wY, vY, KY, DY, WY, sY⟩ 9).K = KZ at *
  generalize (drpF ⟨gY, wY, vY, KY, DY, WY, sY⟩ 9).D = DZ at *
  simp only [rcV, rcH] at qd hdr ⊢
  have e3 := ki_get K hm
  have e4 := kb_get D hm
  have e5 := ki_len K
  have e6 := kb_len D
  have e7 := kb_set D hm false
  have e8 := ki_set W hm u
  have e9 := ki_len W
  have e10 := ki_get W hm
  have tS : List.take sn.length (sn.map ci0) = sn.map ci0 := List.take_of_length_le (by simp)
  simp (maxSteps := 1000000) (disch := omega) only [go_sem, h71c, evJ_4, em, kt_i, kt_b, tS, q1, q2, q3, qd, qt, eq_true k3, (show ¬ k = 5 by omega), (show ¬ k = 4 by omega), e3, e4, e5, e6, e7, e8, e9, e10, meetE_e]
  rw [hul _ ?_]
  rotate_left
  · rfl
  unfold ulS
  simp (maxSteps := 1000000) (disch := omega) only [go_sem, h71l0, evJ_4, hdr]
  try rfl
set_option maxHeartbeats 8000000 in
theorem ruse_3n (gs : List Gr) (ws : List Wt) (v : Int) (K : Nat → Int) (D : Nat → Bool) (W : Nat → Int) (sn : List Int) (hv : Vd gs ws) (hh : Hd gs ws) (hn : sn.length ≤ 50000) (k : Int) (m : Nat) (hm : m < 8) (l u : Int) (hb : raB ⟨gs, ws, v, K, D, W, sn⟩ k ((m : Int) + 1) = false) (he : acErr gs ws ⟨k, (m : Int) + 1, l⟩ = 0) (k3 : k = 3) (hd : (stp gs ws ⟨k, (m : Int) + 1, l⟩).2.2.d = false) :
    EV G (Tb (bs bb)) 71 [rcV ⟨gs, ws, v, K, D, W, sn⟩, .agg [.dc (ci k), .dc (ci ((m : Int) + 1)), .dc (ci l), .dc (ci u)]] (rcH ⟨gs, ws, v, K, D, W, sn⟩) = some (rcV (actR ⟨gs, ws, v, K, D, W, sn⟩ k ((m : Int) + 1) l u), rcH (actR ⟨gs, ws, v, K, D, W, sn⟩ k ((m : Int) + 1) l u)) := by
  refine EV_run rfl ?_
  have hg8 := hv.gl
  have hw8 := hv.wl
  obtain ⟨hV', hH'⟩ := stp_ok hv hh he
  have hg8' := hV'.gl
  have hf := stp_f gs ws ⟨k, (m : Int) + 1, l⟩
  have q1 := ralone_v (G := G) (bb := bb) ⟨gs, ws, v, K, D, W, sn⟩ hv.so (by simp only; omega) (by simp only; omega) ⟨k, (m : Int) + 1, l, u⟩
  have q2 := rstep_v (G := G) (bb := bb) hv hh he
  have q3 := rwaits_v (G := G) (bb := bb) k
  simp only [rcD] at q1
  rw [hb] at q1
  have ec : ((m : Int) + 1).toNat = m + 1 := toNat_add1 m
  have em : ((m : Int) + 1 - 1).toNat = m := by omega
  have hus : isUs k = true := by unfold isUs; simp; omega
  rw [hus] at q3
  unfold actR aftR
  have eG : givR ⟨gs, ws, v, K, D, W, sn⟩ k ((m : Int) + 1) u = ⟨gs, ws, v, K, D, upd W (m + 1) u, sn⟩ := by unfold givR; rw [if_neg (fun h => by have := h.1; omega), if_pos (by omega), ec]
  rw [eG]
  simp only
  generalize stp gs ws ⟨k, (m : Int) + 1, l⟩ = s at *
  obtain ⟨gs', ws', d, b, f⟩ := s
  simp only at hd q2 hV' hg8' hf ⊢
  subst hd
  have qd := rdrop_v (G := G) (bb := bb) ⟨gs', ws', v, K, D, (upd W (m + 1) u), sn⟩ hV'.so (by simp only; omega)
  have qd : EV G (Tb (bs bb)) 135 [rcV ⟨gs', ws', v, K, D, (upd W (m + 1) u), sn⟩] (rcH ⟨gs', ws', v, K, D, (upd W (m + 1) u), sn⟩) = some (rcV ⟨gs', ws', v, (drpF ⟨gs', ws', v, K, D, (upd W (m + 1) u), sn⟩ 9).K, (drpF ⟨gs', ws', v, K, D, (upd W (m + 1) u), sn⟩ 9).D, (upd W (m + 1) u), sn⟩, rcH ⟨gs', ws', v, (drpF ⟨gs', ws', v, K, D, (upd W (m + 1) u), sn⟩ 9).K, (drpF ⟨gs', ws', v, K, D, (upd W (m + 1) u), sn⟩ 9).D, (upd W (m + 1) u), sn⟩) := qd
  have eD : drpF ⟨gs', ws', v, K, D, (upd W (m + 1) u), sn⟩ 9 = ⟨gs', ws', v, (drpF ⟨gs', ws', v, K, D, (upd W (m + 1) u), sn⟩ 9).K, (drpF ⟨gs', ws', v, K, D, (upd W (m + 1) u), sn⟩ 9).D, (upd W (m + 1) u), sn⟩ := rfl
  rw [eD]
  clear eD
  generalize (drpF ⟨gs', ws', v, K, D, (upd W (m + 1) u), sn⟩ 9).K = K2 at *
  generalize (drpF ⟨gs', ws', v, K, D, (upd W (m + 1) u), sn⟩ 9).D = D2 at *
  rw [if_neg (by simp)]
  have hul := fun (st : AS) (h0 : st = ulS ⟨gs', ws', v, K2, D2, (upd W (m + 1) u), sn⟩ ⟨k, (m : Int) + 1, l, u⟩ gs' ws' ⟨false, b, f⟩ 0) => ul_loop (G := G) (bb := bb) ⟨gs', ws', v, K2, D2, (upd W (m + 1) u), sn⟩ hV'.so (by simp only; omega) (by simp only; omega) ⟨k, (m : Int) + 1, l, u⟩ gs' ws' ⟨false, b, f⟩ (by simp only; omega) (fun z hz => ⟨(hv.wr z (hf.1 z hz)).1, (hv.wr z (hf.1 z hz)).2.1⟩) h0
  have qe := effL_gs ⟨gs', ws', v, K2, D2, (upd W (m + 1) u), sn⟩ f
  have hdr := rdrop_v (G := G) (bb := bb) (effL ⟨gs', ws', v, K2, D2, (upd W (m + 1) u), sn⟩ f) (by rw [qe.1]; exact hV'.so) (by rw [qe.1]; simp only; omega)
  simp only at hul qe
  generalize effL ⟨gs', ws', v, K2, D2, (upd W (m + 1) u), sn⟩ f = Y at *
  obtain ⟨gY, wY, vY, KY, DY, WY, sY⟩ := Y
  simp only at qe
  have eZ : drpF ⟨gY, wY, vY, KY, DY, WY, sY⟩ 9 = ⟨gY, wY, vY, (drpF ⟨gY, wY, vY, KY, DY, WY, sY⟩ 9).K, (drpF ⟨gY, wY, vY, KY, DY, WY, sY⟩ 9).D, WY, sY⟩ := rfl
  rw [eZ] at hdr ⊢
  generalize (drpF ⟨gY, wY, vY, KY, DY, WY, sY⟩ 9).K = KZ at *
  generalize (drpF ⟨gY, wY, vY, KY, DY, WY, sY⟩ 9).D = DZ at *
  simp only [rcV, rcH] at qd hdr ⊢
  have e3 := ki_get K hm
  have e4 := kb_get D hm
  have e5 := ki_len K
  have e6 := kb_len D
  have e7 := kb_set D hm false
  have e8 := ki_set W hm u
  have e9 := ki_len W
  have e10 := ki_get W hm
  have tS : List.take sn.length (sn.map ci0) = sn.map ci0 := List.take_of_length_le (by simp)
  simp (maxSteps := 1000000) (disch := omega) only [go_sem, h71c, evJ_4, em, kt_i, kt_b, tS, q1, q2, q3, qd, eq_true k3, (show ¬ k = 5 by omega), (show ¬ k = 4 by omega), e3, e4, e5, e6, e7, e8, e9, e10, meetE_e]
  rw [hul _ ?_]
  rotate_left
  · rfl
  unfold ulS
  simp (maxSteps := 1000000) (disch := omega) only [go_sem, h71l0, evJ_4, hdr]
  try rfl
set_option maxHeartbeats 8000000 in
theorem ruse_0y (gs : List Gr) (ws : List Wt) (v : Int) (K : Nat → Int) (D : Nat → Bool) (W : Nat → Int) (sn : List Int) (hv : Vd gs ws) (hh : Hd gs ws) (hn : sn.length ≤ 50000) (k : Int) (m : Nat) (hm : m < 8) (l u : Int) (hb : raB ⟨gs, ws, v, K, D, W, sn⟩ k ((m : Int) + 1) = false) (he : acErr gs ws ⟨k, (m : Int) + 1, l⟩ = 0) (k0 : k = 0 ∨ k = 2) (hd : (stp gs ws ⟨k, (m : Int) + 1, l⟩).2.2.d = true) :
    EV G (Tb (bs bb)) 71 [rcV ⟨gs, ws, v, K, D, W, sn⟩, .agg [.dc (ci k), .dc (ci ((m : Int) + 1)), .dc (ci l), .dc (ci u)]] (rcH ⟨gs, ws, v, K, D, W, sn⟩) = some (rcV (actR ⟨gs, ws, v, K, D, W, sn⟩ k ((m : Int) + 1) l u), rcH (actR ⟨gs, ws, v, K, D, W, sn⟩ k ((m : Int) + 1) l u)) := by
  refine EV_run rfl ?_
  have hg8 := hv.gl
  have hw8 := hv.wl
  obtain ⟨hV', hH'⟩ := stp_ok hv hh he
  have hg8' := hV'.gl
  have hf := stp_f gs ws ⟨k, (m : Int) + 1, l⟩
  have q1 := ralone_v (G := G) (bb := bb) ⟨gs, ws, v, K, D, W, sn⟩ hv.so (by simp only; omega) (by simp only; omega) ⟨k, (m : Int) + 1, l, u⟩
  have q2 := rstep_v (G := G) (bb := bb) hv hh he
  have q3 := rwaits_v (G := G) (bb := bb) k
  simp only [rcD] at q1
  rw [hb] at q1
  have ec : ((m : Int) + 1).toNat = m + 1 := toNat_add1 m
  have em : ((m : Int) + 1 - 1).toNat = m := by omega
  have hus : isUs k = true := by unfold isUs; simp; omega
  rw [hus] at q3
  unfold actR aftR
  have eG : givR ⟨gs, ws, v, K, D, W, sn⟩ k ((m : Int) + 1) u = ⟨gs, ws, v, K, D, W, sn⟩ := by unfold givR; rw [if_neg (fun h => by have := h.1; omega), if_neg (by omega)]
  rw [eG]
  simp only
  generalize stp gs ws ⟨k, (m : Int) + 1, l⟩ = s at *
  obtain ⟨gs', ws', d, b, f⟩ := s
  simp only at hd q2 hV' hg8' hf ⊢
  subst hd
  have qd := rdrop_v (G := G) (bb := bb) ⟨gs', ws', v, K, D, W, sn⟩ hV'.so (by simp only; omega)
  have qd : EV G (Tb (bs bb)) 135 [rcV ⟨gs', ws', v, K, D, W, sn⟩] (rcH ⟨gs', ws', v, K, D, W, sn⟩) = some (rcV ⟨gs', ws', v, (drpF ⟨gs', ws', v, K, D, W, sn⟩ 9).K, (drpF ⟨gs', ws', v, K, D, W, sn⟩ 9).D, W, sn⟩, rcH ⟨gs', ws', v, (drpF ⟨gs', ws', v, K, D, W, sn⟩ 9).K, (drpF ⟨gs', ws', v, K, D, W, sn⟩ 9).D, W, sn⟩) := qd
  have eD : drpF ⟨gs', ws', v, K, D, W, sn⟩ 9 = ⟨gs', ws', v, (drpF ⟨gs', ws', v, K, D, W, sn⟩ 9).K, (drpF ⟨gs', ws', v, K, D, W, sn⟩ 9).D, W, sn⟩ := rfl
  rw [eD]
  clear eD
  generalize (drpF ⟨gs', ws', v, K, D, W, sn⟩ 9).K = K2 at *
  generalize (drpF ⟨gs', ws', v, K, D, W, sn⟩ 9).D = D2 at *
  rw [if_pos ⟨rfl, hus⟩]
  have qt := rtouch_v (G := G) (bb := bb) ⟨gs', ws', v, K2, D2, W, sn⟩ hV'.so (by simp only; omega) (by simp only; omega) m hm k (by omega)
  obtain ⟨g1, g2, g3⟩ := effF_gs ⟨gs', ws', v, K2, D2, W, sn⟩ ((m : Int) + 1) k
  generalize effF ⟨gs', ws', v, K2, D2, W, sn⟩ ((m : Int) + 1) k = y2 at *
  obtain ⟨gs2, ws2, v2, K3, D3, W3, sn3⟩ := y2
  simp only at g1 g2 g3
  subst g1 g2
  simp only [rcV, rcH] at qt
  have hul := fun (st : AS) (h0 : st = ulS ⟨gs2, ws2, v2, K3, D3, W3, sn3⟩ ⟨k, (m : Int) + 1, l, u⟩ gs2 ws2 ⟨true, b, f⟩ 0) => ul_loop (G := G) (bb := bb) ⟨gs2, ws2, v2, K3, D3, W3, sn3⟩ hV'.so (by simp only; omega) (by simp only; omega) ⟨k, (m : Int) + 1, l, u⟩ gs2 ws2 ⟨true, b, f⟩ (by simp only; omega) (fun z hz => ⟨(hv.wr z (hf.1 z hz)).1, (hv.wr z (hf.1 z hz)).2.1⟩) h0
  have qe := effL_gs ⟨gs2, ws2, v2, K3, D3, W3, sn3⟩ f
  have hdr := rdrop_v (G := G) (bb := bb) (effL ⟨gs2, ws2, v2, K3, D3, W3, sn3⟩ f) (by rw [qe.1]; exact hV'.so) (by rw [qe.1]; simp only; omega)
  simp only at hul qe
  generalize effL ⟨gs2, ws2, v2, K3, D3, W3, sn3⟩ f = Y at *
  obtain ⟨gY, wY, vY, KY, DY, WY, sY⟩ := Y
  simp only at qe
  have eZ : drpF ⟨gY, wY, vY, KY, DY, WY, sY⟩ 9 = ⟨gY, wY, vY, (drpF ⟨gY, wY, vY, KY, DY, WY, sY⟩ 9).K, (drpF ⟨gY, wY, vY, KY, DY, WY, sY⟩ 9).D, WY, sY⟩ := rfl
  rw [eZ] at hdr ⊢
  generalize (drpF ⟨gY, wY, vY, KY, DY, WY, sY⟩ 9).K = KZ at *
  generalize (drpF ⟨gY, wY, vY, KY, DY, WY, sY⟩ 9).D = DZ at *
  simp only [rcV, rcH] at qd hdr ⊢
  have e3 := ki_get K hm
  have e4 := kb_get D hm
  have e5 := ki_len K
  have e6 := kb_len D
  have e7 := kb_set D hm false
  have e8 := ki_set W hm u
  have e9 := ki_len W
  have e10 := ki_get W hm
  have tS : List.take sn.length (sn.map ci0) = sn.map ci0 := List.take_of_length_le (by simp)
  simp (maxSteps := 1000000) (disch := omega) only [go_sem, h71c, evJ_4, em, kt_i, kt_b, tS, q1, q2, q3, qd, qt, (show ¬ k = 5 by omega), (show ¬ k = 4 by omega), (show ¬ k = 3 by omega), e3, e4, e5, e6, e7, e8, e9, e10, meetE_e]
  rw [hul _ ?_]
  rotate_left
  · rfl
  unfold ulS
  simp (maxSteps := 1000000) (disch := omega) only [go_sem, h71l0, evJ_4, hdr]
  try rfl
set_option maxHeartbeats 8000000 in
theorem ruse_0n (gs : List Gr) (ws : List Wt) (v : Int) (K : Nat → Int) (D : Nat → Bool) (W : Nat → Int) (sn : List Int) (hv : Vd gs ws) (hh : Hd gs ws) (hn : sn.length ≤ 50000) (k : Int) (m : Nat) (hm : m < 8) (l u : Int) (hb : raB ⟨gs, ws, v, K, D, W, sn⟩ k ((m : Int) + 1) = false) (he : acErr gs ws ⟨k, (m : Int) + 1, l⟩ = 0) (k0 : k = 0 ∨ k = 2) (hd : (stp gs ws ⟨k, (m : Int) + 1, l⟩).2.2.d = false) :
    EV G (Tb (bs bb)) 71 [rcV ⟨gs, ws, v, K, D, W, sn⟩, .agg [.dc (ci k), .dc (ci ((m : Int) + 1)), .dc (ci l), .dc (ci u)]] (rcH ⟨gs, ws, v, K, D, W, sn⟩) = some (rcV (actR ⟨gs, ws, v, K, D, W, sn⟩ k ((m : Int) + 1) l u), rcH (actR ⟨gs, ws, v, K, D, W, sn⟩ k ((m : Int) + 1) l u)) := by
  refine EV_run rfl ?_
  have hg8 := hv.gl
  have hw8 := hv.wl
  obtain ⟨hV', hH'⟩ := stp_ok hv hh he
  have hg8' := hV'.gl
  have hf := stp_f gs ws ⟨k, (m : Int) + 1, l⟩
  have q1 := ralone_v (G := G) (bb := bb) ⟨gs, ws, v, K, D, W, sn⟩ hv.so (by simp only; omega) (by simp only; omega) ⟨k, (m : Int) + 1, l, u⟩
  have q2 := rstep_v (G := G) (bb := bb) hv hh he
  have q3 := rwaits_v (G := G) (bb := bb) k
  simp only [rcD] at q1
  rw [hb] at q1
  have ec : ((m : Int) + 1).toNat = m + 1 := toNat_add1 m
  have em : ((m : Int) + 1 - 1).toNat = m := by omega
  have hus : isUs k = true := by unfold isUs; simp; omega
  rw [hus] at q3
  unfold actR aftR
  have eG : givR ⟨gs, ws, v, K, D, W, sn⟩ k ((m : Int) + 1) u = ⟨gs, ws, v, K, D, W, sn⟩ := by unfold givR; rw [if_neg (fun h => by have := h.1; omega), if_neg (by omega)]
  rw [eG]
  simp only
  generalize stp gs ws ⟨k, (m : Int) + 1, l⟩ = s at *
  obtain ⟨gs', ws', d, b, f⟩ := s
  simp only at hd q2 hV' hg8' hf ⊢
  subst hd
  have qd := rdrop_v (G := G) (bb := bb) ⟨gs', ws', v, K, D, W, sn⟩ hV'.so (by simp only; omega)
  have qd : EV G (Tb (bs bb)) 135 [rcV ⟨gs', ws', v, K, D, W, sn⟩] (rcH ⟨gs', ws', v, K, D, W, sn⟩) = some (rcV ⟨gs', ws', v, (drpF ⟨gs', ws', v, K, D, W, sn⟩ 9).K, (drpF ⟨gs', ws', v, K, D, W, sn⟩ 9).D, W, sn⟩, rcH ⟨gs', ws', v, (drpF ⟨gs', ws', v, K, D, W, sn⟩ 9).K, (drpF ⟨gs', ws', v, K, D, W, sn⟩ 9).D, W, sn⟩) := qd
  have eD : drpF ⟨gs', ws', v, K, D, W, sn⟩ 9 = ⟨gs', ws', v, (drpF ⟨gs', ws', v, K, D, W, sn⟩ 9).K, (drpF ⟨gs', ws', v, K, D, W, sn⟩ 9).D, W, sn⟩ := rfl
  rw [eD]
  clear eD
  generalize (drpF ⟨gs', ws', v, K, D, W, sn⟩ 9).K = K2 at *
  generalize (drpF ⟨gs', ws', v, K, D, W, sn⟩ 9).D = D2 at *
  rw [if_neg (by simp)]
  have hul := fun (st : AS) (h0 : st = ulS ⟨gs', ws', v, K2, D2, W, sn⟩ ⟨k, (m : Int) + 1, l, u⟩ gs' ws' ⟨false, b, f⟩ 0) => ul_loop (G := G) (bb := bb) ⟨gs', ws', v, K2, D2, W, sn⟩ hV'.so (by simp only; omega) (by simp only; omega) ⟨k, (m : Int) + 1, l, u⟩ gs' ws' ⟨false, b, f⟩ (by simp only; omega) (fun z hz => ⟨(hv.wr z (hf.1 z hz)).1, (hv.wr z (hf.1 z hz)).2.1⟩) h0
  have qe := effL_gs ⟨gs', ws', v, K2, D2, W, sn⟩ f
  have hdr := rdrop_v (G := G) (bb := bb) (effL ⟨gs', ws', v, K2, D2, W, sn⟩ f) (by rw [qe.1]; exact hV'.so) (by rw [qe.1]; simp only; omega)
  simp only at hul qe
  generalize effL ⟨gs', ws', v, K2, D2, W, sn⟩ f = Y at *
  obtain ⟨gY, wY, vY, KY, DY, WY, sY⟩ := Y
  simp only at qe
  have eZ : drpF ⟨gY, wY, vY, KY, DY, WY, sY⟩ 9 = ⟨gY, wY, vY, (drpF ⟨gY, wY, vY, KY, DY, WY, sY⟩ 9).K, (drpF ⟨gY, wY, vY, KY, DY, WY, sY⟩ 9).D, WY, sY⟩ := rfl
  rw [eZ] at hdr ⊢
  generalize (drpF ⟨gY, wY, vY, KY, DY, WY, sY⟩ 9).K = KZ at *
  generalize (drpF ⟨gY, wY, vY, KY, DY, WY, sY⟩ 9).D = DZ at *
  simp only [rcV, rcH] at qd hdr ⊢
  have e3 := ki_get K hm
  have e4 := kb_get D hm
  have e5 := ki_len K
  have e6 := kb_len D
  have e7 := kb_set D hm false
  have e8 := ki_set W hm u
  have e9 := ki_len W
  have e10 := ki_get W hm
  have tS : List.take sn.length (sn.map ci0) = sn.map ci0 := List.take_of_length_le (by simp)
  simp (maxSteps := 1000000) (disch := omega) only [go_sem, h71c, evJ_4, em, kt_i, kt_b, tS, q1, q2, q3, qd, (show ¬ k = 5 by omega), (show ¬ k = 4 by omega), (show ¬ k = 3 by omega), e3, e4, e5, e6, e7, e8, e9, e10, meetE_e]
  rw [hul _ ?_]
  rotate_left
  · rfl
  unfold ulS
  simp (maxSteps := 1000000) (disch := omega) only [go_sem, h71l0, evJ_4, hdr]
  try rfl
end Go.Proofs.YtinageiefahjfaaGreatDoor
