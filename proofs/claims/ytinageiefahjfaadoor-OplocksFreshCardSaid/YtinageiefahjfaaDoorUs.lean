/- Runs of acts. Conditions: none. -/
import Derived.Test.YtinageiefahjfaaDoorUm
import Derived.Test.YtinageiefahjfaaDoorUg
namespace Go.Proofs.YtinageiefahjfaaDoor
set_option linter.unusedSimpArgs false
set_option linter.unusedVariables false
set_option maxRecDepth 4000
section
variable {G : Glob} {bb : Bool}
theorem gErrs_e (gs : List Gr) : (List.range gs.length).map (fun i => gErr gs i (gs.getD i ⟨0, 0, 0⟩)) = gErrs gs := rfl
theorem wErrs_e (gs : List Gr) (ws : List Wt) : (List.range ws.length).map (fun i => wErr gs ws i (ws.getD i ⟨0, 0⟩)) = wErrs gs ws := rfl
theorem eachGr_v (gs : List Gr) (ws : List Wt) (hl : gs.length ≤ 1000000) : EV G (Tb (bs bb)) 25 [gsV gs, .one (.fn 26 [.ref [.ptr (flD gs ws)]])] [] = some (twoI (eachE 0 (gErrs gs)), []) := by
  rw [← gErrs_e]
  refine eachG_v 26 _ _ gs hl (fun i hi => ?_)
  rw [grAt gs i hi]
  exact p49_v gs ws i hi hl gs[i]
theorem eachWt_v (gs : List Gr) (ws : List Wt) (hs : Srt gs) (hg : gs.length ≤ 100000) (hl : ws.length ≤ 1000000) : EV G (Tb (bs bb)) 28 [wsV ws, .one (.fn 29 [.ref [.ptr (flD gs ws)]])] [] = some (twoI (eachE 0 (wErrs gs ws)), []) := by
  rw [← wErrs_e]
  refine eachW_v 29 _ _ ws hl (fun i hi => ?_)
  rw [wtAt ws i hi]
  exact p52_v gs ws hs i hi hg hl ws[i]
theorem gErrs_srt {gs : List Gr} (h1 : (eachE 0 (gErrs gs)).2 = 0) : Srt gs := by
  have key : ∀ j (hj : j < gs.length) i (hi : i < j), (gs[i]'(by omega)).c < gs[j].c := by
    intro j
    induction j with
    | zero => intro _ i hi; omega
    | succ j ih =>
      intro hj i hi
      have h5 := eachE_0 h1 (gErr gs (j + 1) (gs.getD (j + 1) ⟨0, 0, 0⟩)) (List.mem_map.2 ⟨j + 1, List.mem_range.2 hj, rfl⟩)
      unfold gErr at h5
      rw [firstE_0] at h5
      have h5 := h5 _ (List.mem_cons_of_mem _ List.mem_cons_self)
      rw [ifE_0 (by decide), Bool.or_eq_true, decide_eq_true_eq, decide_eq_true_eq, Nat.add_sub_cancel, grAt gs j (by omega), grAt gs (j + 1) hj] at h5
      have h5 : gs[j].c < gs[j + 1].c := by omega
      by_cases hij : i = j
      · subst hij; exact h5
      · have := ih (by omega) i (by omega)
        omega
  exact List.pairwise_iff_getElem.2 (fun i j hi hj hij => key j hj i hij)
theorem wErrs_k {gs : List Gr} {w : Wt} {ws : List Wt} (h : (eachE 0 (wErrs gs (w :: ws))).2 = 0) : w.k = 0 ∨ w.k = 2 ∨ w.k = 3 := by
  have h5 := eachE_0 h (wErr gs (w :: ws) 0 w) (List.mem_map.2 ⟨0, List.mem_range.2 (by simp), rfl⟩)
  unfold wErr at h5
  rw [firstE_0] at h5
  have h5 := h5 _ (List.mem_cons_of_mem _ List.mem_cons_self)
  rw [ifE_0 (by decide)] at h5
  simpa [isUs] using h5
theorem checkFile_v (hG : G 0 = some alD) (gs : List Gr) (ws : List Wt) (hg : gs.length ≤ 100000) (hw : ws.length ≤ 100000) : EV G (Tb (bs bb)) 12 [flV gs ws] [] = some (twoI (chk gs ws), []) := by
  refine EV_run rfl ?_
  have q1 := copied_v (G := G) (bb := bb) gs ws (by omega) (by omega)
  have q2 := eachGr_v (G := G) (bb := bb) gs ws (by omega)
  unfold chk
  by_cases h1 : gs.length > 8
  · rw [if_pos (.inl h1)]
    simp (disch := omega) only [go_sem, h12c, h1]
  by_cases h2 : ws.length > 8
  · rw [if_pos (.inr h2)]
    simp (disch := omega) only [go_sem, h12c, h1, h2]
  rw [if_neg (by omega)]
  by_cases h3 : (eachE 0 (gErrs gs)).2 = 0
  · rw [if_neg (by omega)]
    have hs := gErrs_srt h3
    have q3 := eachWt_v (G := G) (bb := bb) gs ws hs hg (by omega)
    by_cases h4 : (eachE 0 (wErrs gs ws)).2 = 0
    · rw [if_neg (by omega)]
      cases ws with
      | nil =>
        show _ = some (twoI (0, 0), [])
        have hn : ([] : List Wt).length = 0 := rfl
        generalize ([] : List Wt) = W at *
        have hn : (W.length : Int) = 0 := by omega
        simp (disch := omega) only [go_sem, h12c, h1, h2, q1, q2, q3, h3, h4, eq_true hn]
      | cons w ws =>
        show _ = some (twoI (0, ifE (decide ((brBs gs w.c w.k).length = 0) && held (brGs gs w.c w.k) w.c w.k) 20), [])
        have hk := wErrs_k h4
        have q4 := breaks_v (G := G) (bb := bb) hG gs (w :: ws) w.c w.k (kOK_us hk) (by omega)
        have q5 := held_v (G := G) (bb := bb) hG (brGs gs w.c w.k) (w :: ws) w.c w.k (kOK_us hk) (by rw [brGs_len]; omega)
        have e0 : ((w :: ws).map Wt.e)[0]? = some [ci w.c, ci w.k] := rfl
        have hn : ¬ (w :: ws).length = 0 := by simp
        have hb := brBs_len gs w.c w.k
        have e1 := brGs_len gs w.c w.k
        simp only [fileH, e1] at q4
        have tk : ((brGs gs w.c w.k).map Gr.e).take gs.length = (brGs gs w.c w.k).map Gr.e := List.take_of_length_le (by rw [List.length_map, e1]; omega)
        generalize w :: ws = W at *
        by_cases h5 : (brBs gs w.c w.k).length = 0
        · have h5' : ((brBs gs w.c w.k).length : Int) = 0 := by omega
          simp (disch := omega) only [go_sem, h12c, h1, h2, q1, q2, q3, h3, h4, q4, q5, e0, hn, eq_true h5, eq_true h5', unless_u, e1, tk]
        · simp (disch := omega) only [go_sem, h12c, h1, h2, q1, q2, q3, h3, h4, q4, q5, e0, hn, h5, unless_u, e1, tk]
    · rw [if_pos (by omega)]
      simp (disch := omega) only [go_sem, h12c, h1, h2, q1, q2, q3, h3, h4]
  · rw [if_pos (by omega)]
    simp (disch := omega) only [go_sem, h12c, h1, h2, q1, q2, h3]
end
section
variable {G : Glob} {bb : Bool}
theorem open_n (hG : G 0 = some alD) (gs : List Gr) (ws : List Wt) (hg : gs.length ≤ 100000) (hw : ws.length ≤ 100000) (h : (chk gs ws).2 ≠ 0) : EV G (Tb (bs bb)) 21 [flV gs ws] [] = some (.tup [.one (.dc (.raw (.pointer none))), .one (.dc (ci (chk gs ws).2))], []) := by
  refine EV_run rfl ?_
  have q := checkFile_v (G := G) (bb := bb) hG gs ws hg hw
  simp (disch := omega) only [go_sem, h21c, q, h]
  try rfl
theorem open_y (hG : G 0 = some alD) (gs : List Gr) (ws : List Wt) (hg : gs.length ≤ 100000) (hw : ws.length ≤ 100000) (h : (chk gs ws).2 = 0) : EV G (Tb (bs bb)) 21 [flV gs ws] [] = some (.tup [.one (.ptr 4 0), .one (.dc (ci 0))], [.box [.dc (.slc (gs.map Gr.e)), .dc (.slc (ws.map Wt.e))], .box [.dc (.slc (gs.map Gr.e)), .dc (.slc (ws.map Wt.e))], .arr 0 3 (gs.map Gr.e), .arr 0 2 (ws.map Wt.e), .box [.bld 2 gs.length, .bld 3 ws.length]]) := by
  refine EV_run rfl ?_
  have q := checkFile_v (G := G) (bb := bb) hG gs ws hg hw
  have q1 := copied_v (G := G) (bb := bb) gs ws (by omega) (by omega)
  simp (disch := omega) only [go_sem, h21c, q, q1, h]
  try rfl
def stpF (gs : List Gr) (ws : List Wt) (a : Ac) : (List Gr × List Wt × An) × Int :=
  if (chk gs ws).2 = 0 then (if acErr gs ws a = 0 then (stp gs ws a, 0) else (([], [], ⟨false, [], []⟩), acErr gs ws a)) else (([], [], ⟨false, [], []⟩), (chk gs ws).2)
abbrev stpV (r : (List Gr × List Wt × An) × Int) : AV := .tup [.agg [.dc (.slc (r.1.1.map Gr.e)), .dc (.slc (r.1.2.1.map Wt.e))], .agg [.dc (.raw (.bool r.1.2.2.d)), .dc (.slc (r.1.2.2.b.map Br.e)), .dc (.slc (r.1.2.2.f.map Wt.e))], .one (.dc (.raw (.int .i64 r.2)))]
theorem ac_us {gs : List Gr} {ws : List Wt} {a : Ac} (h : acErr gs ws a = 0) : (0 ≤ a.k ∧ a.k ≤ 5) ∧ (a.k ≠ 0 → isIn gs a.c = true) := by
  have hu : usErr gs ws a = 0 := by
    unfold acErr at h
    split at h
    · rename_i h1; exact absurd h h1
    · rename_i h1; exact Classical.not_not.1 h1
  obtain ⟨h1, h2, h3, h4, h5⟩ := us_ok hu
  refine ⟨h1, fun h0 => ?_⟩
  cases hi : isIn gs a.c with
  | true => rfl
  | false => exact absurd (h5.2 hi) h0
theorem stepped_v (hG : G 0 = some alD) (gs : List Gr) (ws : List Wt) (a : Ac) (hg : gs.length ≤ 100000) (hw : ws.length ≤ 100000) : EV G (Tb (bs bb)) 10 [flV gs ws, a.v] [] = some (stpV (stpF gs ws a), []) := by
  refine EV_run rfl ?_
  unfold stpF
  by_cases h : (chk gs ws).2 = 0
  · rw [if_pos h]
    have q := open_y (bb := bb) hG gs ws hg hw h
    obtain ⟨hV, hH⟩ := chk_ok h
    have h1 := hV.gl
    have h2 := hV.wl
    have q1 := actErr_v (G := G) (bb := bb) gs ws hV.so a hg hw
    by_cases he : acErr gs ws a = 0
    · rw [if_pos he]
      rw [he] at q1
      obtain ⟨h3, h4⟩ := ac_us he
      have q2 := step_v (bb := bb) hG gs ws a hV.so (fun w hw => kOK_us (hV.wr w hw).2.1) h3 h4 (by omega)
      generalize stp gs ws a = s at *
      obtain ⟨gs', ws', an⟩ := s
      simp only [fileH] at q2
      simp (disch := omega) only [go_sem, h10c, q, q1, q2, evJ_3]
      rw [fvT_b (by rfl) (by simp)]
      simp (disch := omega) only [go_sem]
      rw [fvT_b (by rfl) (by simp)]
      simp (disch := omega) only [go_sem, List.take_length]
      try rfl
    · rw [if_neg he]
      simp (disch := omega) only [go_sem, h10c, q, q1, he]
      try rfl
  · rw [if_neg h]
    have q := open_n (bb := bb) hG gs ws hg hw h
    simp (disch := omega) only [go_sem, h10c, q, h]
    try rfl
end
section
variable {G : Glob} {bb : Bool}
def aft (x : Ca) (k c l u : Int) : Ca := ⟨(stp x.gs x.ws ⟨k, c, l⟩).1, (stp x.gs x.ws ⟨k, c, l⟩).2.1, (giv x k c u).v, (giv x k c u).K, (giv x k c u).D, (giv x k c u).W, (giv x k c u).sn⟩
theorem actF_e (x : Ca) (k c l u : Int) : actF x k c l u = drpF (effL (if (stp x.gs x.ws ⟨k, c, l⟩).2.2.d = true then effF (aft x k c l u) c k else aft x k c l u) (stp x.gs x.ws ⟨k, c, l⟩).2.2.f) 9 := rfl
set_option maxHeartbeats 8000000 in
theorem cact_k4D (hG : G 0 = some alD) (gs : List Gr) (ws : List Wt) (v : Int) (K : Nat → Int) (D : Nat → Bool) (W : Nat → Int) (sn : List Int) (hv : Vd gs ws) (hh : Hd gs ws) (hn : sn.length ≤ 9000) (k c l u : Int) (hu : usE ⟨gs, ws, v, K, D, W, sn⟩ k c l u = 0) (ha : aloF ⟨gs, ws, v, K, D, W, sn⟩ k c u = none) (he : acErr gs ws ⟨k, c, l⟩ = 0) (k4 : k = 4) (hd : D c.toNat = true) :
    EV G (Tb (bs bb)) 20 [.one (.ptr 0 0), .agg [.dc (ci k), .dc (ci c), .dc (ci l), .dc (ci u)]] (caH gs ws v K D W sn) = some (vi 0, (actF ⟨gs, ws, v, K, D, W, sn⟩ k c l u).h) := by
  refine EV_run rfl ?_
  have n3 : ¬ k = 3 := by omega
  have h1 := hv.gl
  have h2 := hv.wl
  have q1 := usualErr_v (G := G) (bb := bb) gs ws hv.so ⟨k, c, l⟩ (by omega) (by omega)
  have q2 := actErr_v (G := G) (bb := bb) gs ws hv.so ⟨k, c, l⟩ (by omega) (by omega)
  have eus : usE ⟨gs, ws, v, K, D, W, sn⟩ k c l u = firstE [ifE (wi u 0 (if k = 3 then 999 else 0)) 2, usErr gs ws ⟨k, c, l⟩] := rfl
  rw [eus, if_neg n3] at hu
  have hu1 : usErr gs ws ⟨k, c, l⟩ = 0 := by
    rw [firstE_0] at hu
    exact hu _ (by simp)
  obtain ⟨c1, c2, c3, c4, c5⟩ := us_ok hu1
  simp only at c1 c2 c5
  have hcn : c.toNat < 9 := by omega
  have qa := alone_v (G := G) (bb := bb) ⟨gs, ws, v, K, D, W, sn⟩ hv.so (by simp only; omega) (by simp only; omega) k c l u c2
  rw [ha] at qa
  simp only [Ca.h, caH, Option.isSome_none, Option.getD_none] at qa
  obtain ⟨d1, d2⟩ := ac_us he
  have q3 := step_v (G := G) (bb := bb) hG gs ws ⟨k, c, l⟩ hv.so (fun w hw => kOK_us (hv.wr w hw).2.1) d1 d2 (by omega)
  obtain ⟨hV', _⟩ := stp_ok hv hh he
  have hsf := stp_f gs ws ⟨k, c, l⟩
  have hsc : ∀ w ∈ (stp gs ws ⟨k, c, l⟩).2.2.f, 1 ≤ w.c ∧ w.c ≤ 8 := fun w hw => (hv.wr w (hsf.1 w hw)).1
  have hsl := hsf.2
  have eg : giv ⟨gs, ws, v, K, D, W, sn⟩ k c u = ⟨gs, ws, K c.toNat, K, upd D c.toNat false, upd W c.toNat u, sn⟩ := by unfold giv; rw [if_pos ⟨by omega, hd⟩]
  rw [actF_e]
  unfold aft
  rw [eg]
  simp only
  generalize stp gs ws ⟨k, c, l⟩ = s at *
  obtain ⟨gs', ws', an⟩ := s
  simp only [fileH] at q3 hV' hsc hsl ⊢
  have hg' := hV'.gl
  cases hdn : an.d with
  | true =>
    have q4 := effect_v (G := G) (bb := bb) ⟨gs', ws', K c.toNat, K, upd D c.toNat false, upd W c.toNat u, sn⟩ hV'.so (by simp only; omega) (by simp only; omega) c k c2
    have ee := effF_gs ⟨gs', ws', K c.toNat, K, upd D c.toNat false, upd W c.toNat u, sn⟩ c k
    rw [if_pos rfl]
    have tl := fun st h0 => tail2 (G := G) (bb := bb) (st := st) (effF ⟨gs', ws', K c.toNat, K, upd D c.toNat false, upd W c.toNat u, sn⟩ c k) (by rw [ee.1]; exact hV'.so) (by rw [ee.1]; simp only; omega) (by simp only at ee; omega) k c l u [[ci (ifE (wi u 0 (if k = 3 then 999 else 0)) 2)], [ci (usErr gs ws ⟨k, c, l⟩)]] an (by omega) hsc h0
    generalize effF ⟨gs', ws', K c.toNat, K, upd D c.toNat false, upd W c.toNat u, sn⟩ c k = y at *
    simp only [Ca.h, caH] at q4 ⊢
    simp (disch := omega) only [go_sem, h20c, n3, eq_true k4, hd, within_u, unless_u, q1, q2, q3, q4, hdn, first2, hu, evJ_5, qa, tn1]
    refine tl _ ?_
    simp only [n3, if_false]
    unfold fr0 usH
    rw [hdn]
    rfl
  | false =>
    have tl := fun st h0 => tail2 (G := G) (bb := bb) (st := st) ⟨gs', ws', K c.toNat, K, upd D c.toNat false, upd W c.toNat u, sn⟩ hV'.so (by simp only; omega) (by simp only; omega) k c l u [[ci (ifE (wi u 0 (if k = 3 then 999 else 0)) 2)], [ci (usErr gs ws ⟨k, c, l⟩)]] an (by omega) hsc h0
    rw [if_neg (by simp)]
    simp (disch := omega) only [go_sem, h20c, n3, eq_true k4, hd, within_u, unless_u, q1, q2, q3, hdn, first2, hu, evJ_5, qa, tn1]
    refine tl _ ?_
    simp only [n3, if_false]
    unfold fr0 usH
    rw [hdn]
    rfl
set_option maxHeartbeats 8000000 in
theorem cact_k4N (hG : G 0 = some alD) (gs : List Gr) (ws : List Wt) (v : Int) (K : Nat → Int) (D : Nat → Bool) (W : Nat → Int) (sn : List Int) (hv : Vd gs ws) (hh : Hd gs ws) (hn : sn.length ≤ 9000) (k c l u : Int) (hu : usE ⟨gs, ws, v, K, D, W, sn⟩ k c l u = 0) (ha : aloF ⟨gs, ws, v, K, D, W, sn⟩ k c u = none) (he : acErr gs ws ⟨k, c, l⟩ = 0) (k4 : k = 4) (hd : D c.toNat = false) :
    EV G (Tb (bs bb)) 20 [.one (.ptr 0 0), .agg [.dc (ci k), .dc (ci c), .dc (ci l), .dc (ci u)]] (caH gs ws v K D W sn) = some (vi 0, (actF ⟨gs, ws, v, K, D, W, sn⟩ k c l u).h) := by
  refine EV_run rfl ?_
  have n3 : ¬ k = 3 := by omega
  have h1 := hv.gl
  have h2 := hv.wl
  have q1 := usualErr_v (G := G) (bb := bb) gs ws hv.so ⟨k, c, l⟩ (by omega) (by omega)
  have q2 := actErr_v (G := G) (bb := bb) gs ws hv.so ⟨k, c, l⟩ (by omega) (by omega)
  have eus : usE ⟨gs, ws, v, K, D, W, sn⟩ k c l u = firstE [ifE (wi u 0 (if k = 3 then 999 else 0)) 2, usErr gs ws ⟨k, c, l⟩] := rfl
  rw [eus, if_neg n3] at hu
  have hu1 : usErr gs ws ⟨k, c, l⟩ = 0 := by
    rw [firstE_0] at hu
    exact hu _ (by simp)
  obtain ⟨c1, c2, c3, c4, c5⟩ := us_ok hu1
  simp only at c1 c2 c5
  have hcn : c.toNat < 9 := by omega
  have qa := alone_v (G := G) (bb := bb) ⟨gs, ws, v, K, D, W, sn⟩ hv.so (by simp only; omega) (by simp only; omega) k c l u c2
  rw [ha] at qa
  simp only [Ca.h, caH, Option.isSome_none, Option.getD_none] at qa
  obtain ⟨d1, d2⟩ := ac_us he
  have q3 := step_v (G := G) (bb := bb) hG gs ws ⟨k, c, l⟩ hv.so (fun w hw => kOK_us (hv.wr w hw).2.1) d1 d2 (by omega)
  obtain ⟨hV', _⟩ := stp_ok hv hh he
  have hsf := stp_f gs ws ⟨k, c, l⟩
  have hsc : ∀ w ∈ (stp gs ws ⟨k, c, l⟩).2.2.f, 1 ≤ w.c ∧ w.c ≤ 8 := fun w hw => (hv.wr w (hsf.1 w hw)).1
  have hsl := hsf.2
  have eg : giv ⟨gs, ws, v, K, D, W, sn⟩ k c u = ⟨gs, ws, v, K, D, upd W c.toNat u, sn⟩ := by unfold giv; rw [if_neg (by simp [hd])]
  rw [actF_e]
  unfold aft
  rw [eg]
  simp only
  generalize stp gs ws ⟨k, c, l⟩ = s at *
  obtain ⟨gs', ws', an⟩ := s
  simp only [fileH] at q3 hV' hsc hsl ⊢
  have hg' := hV'.gl
  cases hdn : an.d with
  | true =>
    have q4 := effect_v (G := G) (bb := bb) ⟨gs', ws', v, K, D, upd W c.toNat u, sn⟩ hV'.so (by simp only; omega) (by simp only; omega) c k c2
    have ee := effF_gs ⟨gs', ws', v, K, D, upd W c.toNat u, sn⟩ c k
    rw [if_pos rfl]
    have tl := fun st h0 => tail2 (G := G) (bb := bb) (st := st) (effF ⟨gs', ws', v, K, D, upd W c.toNat u, sn⟩ c k) (by rw [ee.1]; exact hV'.so) (by rw [ee.1]; simp only; omega) (by simp only at ee; omega) k c l u [[ci (ifE (wi u 0 (if k = 3 then 999 else 0)) 2)], [ci (usErr gs ws ⟨k, c, l⟩)]] an (by omega) hsc h0
    generalize effF ⟨gs', ws', v, K, D, upd W c.toNat u, sn⟩ c k = y at *
    simp only [Ca.h, caH] at q4 ⊢
    simp (disch := omega) only [go_sem, h20c, n3, eq_true k4, hd, within_u, unless_u, q1, q2, q3, q4, hdn, first2, hu, evJ_5, qa, tn1]
    refine tl _ ?_
    simp only [n3, if_false]
    unfold fr0 usH
    rw [hdn]
    rfl
  | false =>
    have tl := fun st h0 => tail2 (G := G) (bb := bb) (st := st) ⟨gs', ws', v, K, D, upd W c.toNat u, sn⟩ hV'.so (by simp only; omega) (by simp only; omega) k c l u [[ci (ifE (wi u 0 (if k = 3 then 999 else 0)) 2)], [ci (usErr gs ws ⟨k, c, l⟩)]] an (by omega) hsc h0
    rw [if_neg (by simp)]
    simp (disch := omega) only [go_sem, h20c, n3, eq_true k4, hd, within_u, unless_u, q1, q2, q3, hdn, first2, hu, evJ_5, qa, tn1]
    refine tl _ ?_
    simp only [n3, if_false]
    unfold fr0 usH
    rw [hdn]
    rfl
set_option maxHeartbeats 8000000 in
theorem cact_k5D (hG : G 0 = some alD) (gs : List Gr) (ws : List Wt) (v : Int) (K : Nat → Int) (D : Nat → Bool) (W : Nat → Int) (sn : List Int) (hv : Vd gs ws) (hh : Hd gs ws) (hn : sn.length ≤ 9000) (k c l u : Int) (hu : usE ⟨gs, ws, v, K, D, W, sn⟩ k c l u = 0) (ha : aloF ⟨gs, ws, v, K, D, W, sn⟩ k c u = none) (he : acErr gs ws ⟨k, c, l⟩ = 0) (k5 : k = 5) (hd : D c.toNat = true) :
    EV G (Tb (bs bb)) 20 [.one (.ptr 0 0), .agg [.dc (ci k), .dc (ci c), .dc (ci l), .dc (ci u)]] (caH gs ws v K D W sn) = some (vi 0, (actF ⟨gs, ws, v, K, D, W, sn⟩ k c l u).h) := by
  refine EV_run rfl ?_
  have n3 : ¬ k = 3 := by omega
  have n4 : ¬ k = 4 := by omega
  have h1 := hv.gl
  have h2 := hv.wl
  have q1 := usualErr_v (G := G) (bb := bb) gs ws hv.so ⟨k, c, l⟩ (by omega) (by omega)
  have q2 := actErr_v (G := G) (bb := bb) gs ws hv.so ⟨k, c, l⟩ (by omega) (by omega)
  have eus : usE ⟨gs, ws, v, K, D, W, sn⟩ k c l u = firstE [ifE (wi u 0 (if k = 3 then 999 else 0)) 2, usErr gs ws ⟨k, c, l⟩] := rfl
  rw [eus, if_neg n3] at hu
  have hu1 : usErr gs ws ⟨k, c, l⟩ = 0 := by
    rw [firstE_0] at hu
    exact hu _ (by simp)
  obtain ⟨c1, c2, c3, c4, c5⟩ := us_ok hu1
  simp only at c1 c2 c5
  have hcn : c.toNat < 9 := by omega
  have qa := alone_v (G := G) (bb := bb) ⟨gs, ws, v, K, D, W, sn⟩ hv.so (by simp only; omega) (by simp only; omega) k c l u c2
  rw [ha] at qa
  simp only [Ca.h, caH, Option.isSome_none, Option.getD_none] at qa
  obtain ⟨d1, d2⟩ := ac_us he
  have q3 := step_v (G := G) (bb := bb) hG gs ws ⟨k, c, l⟩ hv.so (fun w hw => kOK_us (hv.wr w hw).2.1) d1 d2 (by omega)
  obtain ⟨hV', _⟩ := stp_ok hv hh he
  have hsf := stp_f gs ws ⟨k, c, l⟩
  have hsc : ∀ w ∈ (stp gs ws ⟨k, c, l⟩).2.2.f, 1 ≤ w.c ∧ w.c ≤ 8 := fun w hw => (hv.wr w (hsf.1 w hw)).1
  have hsl := hsf.2
  have eg : giv ⟨gs, ws, v, K, D, W, sn⟩ k c u = ⟨gs, ws, K c.toNat, K, upd D c.toNat false, upd W c.toNat u, sn⟩ := by unfold giv; rw [if_pos ⟨by omega, hd⟩]
  rw [actF_e]
  unfold aft
  rw [eg]
  simp only
  generalize stp gs ws ⟨k, c, l⟩ = s at *
  obtain ⟨gs', ws', an⟩ := s
  simp only [fileH] at q3 hV' hsc hsl ⊢
  have hg' := hV'.gl
  cases hdn : an.d with
  | true =>
    have q4 := effect_v (G := G) (bb := bb) ⟨gs', ws', K c.toNat, K, upd D c.toNat false, upd W c.toNat u, sn⟩ hV'.so (by simp only; omega) (by simp only; omega) c k c2
    have ee := effF_gs ⟨gs', ws', K c.toNat, K, upd D c.toNat false, upd W c.toNat u, sn⟩ c k
    rw [if_pos rfl]
    have tl := fun st h0 => tail2 (G := G) (bb := bb) (st := st) (effF ⟨gs', ws', K c.toNat, K, upd D c.toNat false, upd W c.toNat u, sn⟩ c k) (by rw [ee.1]; exact hV'.so) (by rw [ee.1]; simp only; omega) (by simp only at ee; omega) k c l u [[ci (ifE (wi u 0 (if k = 3 then 999 else 0)) 2)], [ci (usErr gs ws ⟨k, c, l⟩)]] an (by omega) hsc h0
    generalize effF ⟨gs', ws', K c.toNat, K, upd D c.toNat false, upd W c.toNat u, sn⟩ c k = y at *
    simp only [Ca.h, caH] at q4 ⊢
    simp (disch := omega) only [go_sem, h20c, n3, n4, eq_true k5, hd, within_u, unless_u, q1, q2, q3, q4, hdn, first2, hu, evJ_5, qa, tn1]
    refine tl _ ?_
    simp only [n3, if_false]
    unfold fr0 usH
    rw [hdn]
    rfl
  | false =>
    have tl := fun st h0 => tail2 (G := G) (bb := bb) (st := st) ⟨gs', ws', K c.toNat, K, upd D c.toNat false, upd W c.toNat u, sn⟩ hV'.so (by simp only; omega) (by simp only; omega) k c l u [[ci (ifE (wi u 0 (if k = 3 then 999 else 0)) 2)], [ci (usErr gs ws ⟨k, c, l⟩)]] an (by omega) hsc h0
    rw [if_neg (by simp)]
    simp (disch := omega) only [go_sem, h20c, n3, n4, eq_true k5, hd, within_u, unless_u, q1, q2, q3, hdn, first2, hu, evJ_5, qa, tn1]
    refine tl _ ?_
    simp only [n3, if_false]
    unfold fr0 usH
    rw [hdn]
    rfl
set_option maxHeartbeats 8000000 in
theorem cact_k5N (hG : G 0 = some alD) (gs : List Gr) (ws : List Wt) (v : Int) (K : Nat → Int) (D : Nat → Bool) (W : Nat → Int) (sn : List Int) (hv : Vd gs ws) (hh : Hd gs ws) (hn : sn.length ≤ 9000) (k c l u : Int) (hu : usE ⟨gs, ws, v, K, D, W, sn⟩ k c l u = 0) (ha : aloF ⟨gs, ws, v, K, D, W, sn⟩ k c u = none) (he : acErr gs ws ⟨k, c, l⟩ = 0) (k5 : k = 5) (hd : D c.toNat = false) :
    EV G (Tb (bs bb)) 20 [.one (.ptr 0 0), .agg [.dc (ci k), .dc (ci c), .dc (ci l), .dc (ci u)]] (caH gs ws v K D W sn) = some (vi 0, (actF ⟨gs, ws, v, K, D, W, sn⟩ k c l u).h) := by
  refine EV_run rfl ?_
  have n3 : ¬ k = 3 := by omega
  have n4 : ¬ k = 4 := by omega
  have h1 := hv.gl
  have h2 := hv.wl
  have q1 := usualErr_v (G := G) (bb := bb) gs ws hv.so ⟨k, c, l⟩ (by omega) (by omega)
  have q2 := actErr_v (G := G) (bb := bb) gs ws hv.so ⟨k, c, l⟩ (by omega) (by omega)
  have eus : usE ⟨gs, ws, v, K, D, W, sn⟩ k c l u = firstE [ifE (wi u 0 (if k = 3 then 999 else 0)) 2, usErr gs ws ⟨k, c, l⟩] := rfl
  rw [eus, if_neg n3] at hu
  have hu1 : usErr gs ws ⟨k, c, l⟩ = 0 := by
    rw [firstE_0] at hu
    exact hu _ (by simp)
  obtain ⟨c1, c2, c3, c4, c5⟩ := us_ok hu1
  simp only at c1 c2 c5
  have hcn : c.toNat < 9 := by omega
  have qa := alone_v (G := G) (bb := bb) ⟨gs, ws, v, K, D, W, sn⟩ hv.so (by simp only; omega) (by simp only; omega) k c l u c2
  rw [ha] at qa
  simp only [Ca.h, caH, Option.isSome_none, Option.getD_none] at qa
  obtain ⟨d1, d2⟩ := ac_us he
  have q3 := step_v (G := G) (bb := bb) hG gs ws ⟨k, c, l⟩ hv.so (fun w hw => kOK_us (hv.wr w hw).2.1) d1 d2 (by omega)
  obtain ⟨hV', _⟩ := stp_ok hv hh he
  have hsf := stp_f gs ws ⟨k, c, l⟩
  have hsc : ∀ w ∈ (stp gs ws ⟨k, c, l⟩).2.2.f, 1 ≤ w.c ∧ w.c ≤ 8 := fun w hw => (hv.wr w (hsf.1 w hw)).1
  have hsl := hsf.2
  have eg : giv ⟨gs, ws, v, K, D, W, sn⟩ k c u = ⟨gs, ws, v, K, D, upd W c.toNat u, sn⟩ := by unfold giv; rw [if_neg (by simp [hd])]
  rw [actF_e]
  unfold aft
  rw [eg]
  simp only
  generalize stp gs ws ⟨k, c, l⟩ = s at *
  obtain ⟨gs', ws', an⟩ := s
  simp only [fileH] at q3 hV' hsc hsl ⊢
  have hg' := hV'.gl
  cases hdn : an.d with
  | true =>
    have q4 := effect_v (G := G) (bb := bb) ⟨gs', ws', v, K, D, upd W c.toNat u, sn⟩ hV'.so (by simp only; omega) (by simp only; omega) c k c2
    have ee := effF_gs ⟨gs', ws', v, K, D, upd W c.toNat u, sn⟩ c k
    rw [if_pos rfl]
    have tl := fun st h0 => tail2 (G := G) (bb := bb) (st := st) (effF ⟨gs', ws', v, K, D, upd W c.toNat u, sn⟩ c k) (by rw [ee.1]; exact hV'.so) (by rw [ee.1]; simp only; omega) (by simp only at ee; omega) k c l u [[ci (ifE (wi u 0 (if k = 3 then 999 else 0)) 2)], [ci (usErr gs ws ⟨k, c, l⟩)]] an (by omega) hsc h0
    generalize effF ⟨gs', ws', v, K, D, upd W c.toNat u, sn⟩ c k = y at *
    simp only [Ca.h, caH] at q4 ⊢
    simp (disch := omega) only [go_sem, h20c, n3, n4, eq_true k5, hd, within_u, unless_u, q1, q2, q3, q4, hdn, first2, hu, evJ_5, qa, tn1]
    refine tl _ ?_
    simp only [n3, if_false]
    unfold fr0 usH
    rw [hdn]
    rfl
  | false =>
    have tl := fun st h0 => tail2 (G := G) (bb := bb) (st := st) ⟨gs', ws', v, K, D, upd W c.toNat u, sn⟩ hV'.so (by simp only; omega) (by simp only; omega) k c l u [[ci (ifE (wi u 0 (if k = 3 then 999 else 0)) 2)], [ci (usErr gs ws ⟨k, c, l⟩)]] an (by omega) hsc h0
    rw [if_neg (by simp)]
    simp (disch := omega) only [go_sem, h20c, n3, n4, eq_true k5, hd, within_u, unless_u, q1, q2, q3, hdn, first2, hu, evJ_5, qa, tn1]
    refine tl _ ?_
    simp only [n3, if_false]
    unfold fr0 usH
    rw [hdn]
    rfl
set_option maxHeartbeats 8000000 in
theorem cact_k3 (hG : G 0 = some alD) (gs : List Gr) (ws : List Wt) (v : Int) (K : Nat → Int) (D : Nat → Bool) (W : Nat → Int) (sn : List Int) (hv : Vd gs ws) (hh : Hd gs ws) (hn : sn.length ≤ 9000) (k c l u : Int) (hu : usE ⟨gs, ws, v, K, D, W, sn⟩ k c l u = 0) (ha : aloF ⟨gs, ws, v, K, D, W, sn⟩ k c u = none) (he : acErr gs ws ⟨k, c, l⟩ = 0) (k3 : k = 3) :
    EV G (Tb (bs bb)) 20 [.one (.ptr 0 0), .agg [.dc (ci k), .dc (ci c), .dc (ci l), .dc (ci u)]] (caH gs ws v K D W sn) = some (vi 0, (actF ⟨gs, ws, v, K, D, W, sn⟩ k c l u).h) := by
  refine EV_run rfl ?_
  have n4 : ¬ k = 4 := by omega
  have n5 : ¬ k = 5 := by omega
  have h1 := hv.gl
  have h2 := hv.wl
  have q1 := usualErr_v (G := G) (bb := bb) gs ws hv.so ⟨k, c, l⟩ (by omega) (by omega)
  have q2 := actErr_v (G := G) (bb := bb) gs ws hv.so ⟨k, c, l⟩ (by omega) (by omega)
  have eus : usE ⟨gs, ws, v, K, D, W, sn⟩ k c l u = firstE [ifE (wi u 0 (if k = 3 then 999 else 0)) 2, usErr gs ws ⟨k, c, l⟩] := rfl
  rw [eus, if_pos k3] at hu
  have hu1 : usErr gs ws ⟨k, c, l⟩ = 0 := by
    rw [firstE_0] at hu
    exact hu _ (by simp)
  obtain ⟨c1, c2, c3, c4, c5⟩ := us_ok hu1
  simp only at c1 c2 c5
  have hcn : c.toNat < 9 := by omega
  have qa := alone_v (G := G) (bb := bb) ⟨gs, ws, v, K, D, W, sn⟩ hv.so (by simp only; omega) (by simp only; omega) k c l u c2
  rw [ha] at qa
  simp only [Ca.h, caH, Option.isSome_none, Option.getD_none] at qa
  obtain ⟨d1, d2⟩ := ac_us he
  have q3 := step_v (G := G) (bb := bb) hG gs ws ⟨k, c, l⟩ hv.so (fun w hw => kOK_us (hv.wr w hw).2.1) d1 d2 (by omega)
  obtain ⟨hV', _⟩ := stp_ok hv hh he
  have hsf := stp_f gs ws ⟨k, c, l⟩
  have hsc : ∀ w ∈ (stp gs ws ⟨k, c, l⟩).2.2.f, 1 ≤ w.c ∧ w.c ≤ 8 := fun w hw => (hv.wr w (hsf.1 w hw)).1
  have hsl := hsf.2
  have eg : giv ⟨gs, ws, v, K, D, W, sn⟩ k c u = ⟨gs, ws, v, K, D, upd W c.toNat u, sn⟩ := by unfold giv; rw [if_neg (fun h => by omega)]
  rw [actF_e]
  unfold aft
  rw [eg]
  simp only
  generalize stp gs ws ⟨k, c, l⟩ = s at *
  obtain ⟨gs', ws', an⟩ := s
  simp only [fileH] at q3 hV' hsc hsl ⊢
  have hg' := hV'.gl
  cases hdn : an.d with
  | true =>
    have q4 := effect_v (G := G) (bb := bb) ⟨gs', ws', v, K, D, upd W c.toNat u, sn⟩ hV'.so (by simp only; omega) (by simp only; omega) c k c2
    have ee := effF_gs ⟨gs', ws', v, K, D, upd W c.toNat u, sn⟩ c k
    rw [if_pos rfl]
    have tl := fun st h0 => tail2 (G := G) (bb := bb) (st := st) (effF ⟨gs', ws', v, K, D, upd W c.toNat u, sn⟩ c k) (by rw [ee.1]; exact hV'.so) (by rw [ee.1]; simp only; omega) (by simp only at ee; omega) k c l u [[ci (ifE (wi u 0 (if k = 3 then 999 else 0)) 2)], [ci (usErr gs ws ⟨k, c, l⟩)]] an (by omega) hsc h0
    generalize effF ⟨gs', ws', v, K, D, upd W c.toNat u, sn⟩ c k = y at *
    simp only [Ca.h, caH] at q4 ⊢
    simp (disch := omega) only [go_sem, h20c, eq_true k3, n4, n5, within_u, unless_u, q1, q2, q3, q4, hdn, first2, hu, evJ_5, qa, tn1]
    refine tl _ ?_
    simp only [eq_true k3, if_true]
    unfold fr0 usH
    rw [hdn]
    rfl
  | false =>
    have tl := fun st h0 => tail2 (G := G) (bb := bb) (st := st) ⟨gs', ws', v, K, D, upd W c.toNat u, sn⟩ hV'.so (by simp only; omega) (by simp only; omega) k c l u [[ci (ifE (wi u 0 (if k = 3 then 999 else 0)) 2)], [ci (usErr gs ws ⟨k, c, l⟩)]] an (by omega) hsc h0
    rw [if_neg (by simp)]
    simp (disch := omega) only [go_sem, h20c, eq_true k3, n4, n5, within_u, unless_u, q1, q2, q3, hdn, first2, hu, evJ_5, qa, tn1]
    refine tl _ ?_
    simp only [eq_true k3, if_true]
    unfold fr0 usH
    rw [hdn]
    rfl
set_option maxHeartbeats 8000000 in
theorem cact_kO (hG : G 0 = some alD) (gs : List Gr) (ws : List Wt) (v : Int) (K : Nat → Int) (D : Nat → Bool) (W : Nat → Int) (sn : List Int) (hv : Vd gs ws) (hh : Hd gs ws) (hn : sn.length ≤ 9000) (k c l u : Int) (hu : usE ⟨gs, ws, v, K, D, W, sn⟩ k c l u = 0) (ha : aloF ⟨gs, ws, v, K, D, W, sn⟩ k c u = none) (he : acErr gs ws ⟨k, c, l⟩ = 0) (n3 : ¬ k = 3) (n4 : ¬ k = 4) (n5 : ¬ k = 5) :
    EV G (Tb (bs bb)) 20 [.one (.ptr 0 0), .agg [.dc (ci k), .dc (ci c), .dc (ci l), .dc (ci u)]] (caH gs ws v K D W sn) = some (vi 0, (actF ⟨gs, ws, v, K, D, W, sn⟩ k c l u).h) := by
  refine EV_run rfl ?_
  have h1 := hv.gl
  have h2 := hv.wl
  have q1 := usualErr_v (G := G) (bb := bb) gs ws hv.so ⟨k, c, l⟩ (by omega) (by omega)
  have q2 := actErr_v (G := G) (bb := bb) gs ws hv.so ⟨k, c, l⟩ (by omega) (by omega)
  have eus : usE ⟨gs, ws, v, K, D, W, sn⟩ k c l u = firstE [ifE (wi u 0 (if k = 3 then 999 else 0)) 2, usErr gs ws ⟨k, c, l⟩] := rfl
  rw [eus, if_neg n3] at hu
  have hu1 : usErr gs ws ⟨k, c, l⟩ = 0 := by
    rw [firstE_0] at hu
    exact hu _ (by simp)
  obtain ⟨c1, c2, c3, c4, c5⟩ := us_ok hu1
  simp only at c1 c2 c5
  have hcn : c.toNat < 9 := by omega
  have qa := alone_v (G := G) (bb := bb) ⟨gs, ws, v, K, D, W, sn⟩ hv.so (by simp only; omega) (by simp only; omega) k c l u c2
  rw [ha] at qa
  simp only [Ca.h, caH, Option.isSome_none, Option.getD_none] at qa
  obtain ⟨d1, d2⟩ := ac_us he
  have q3 := step_v (G := G) (bb := bb) hG gs ws ⟨k, c, l⟩ hv.so (fun w hw => kOK_us (hv.wr w hw).2.1) d1 d2 (by omega)
  obtain ⟨hV', _⟩ := stp_ok hv hh he
  have hsf := stp_f gs ws ⟨k, c, l⟩
  have hsc : ∀ w ∈ (stp gs ws ⟨k, c, l⟩).2.2.f, 1 ≤ w.c ∧ w.c ≤ 8 := fun w hw => (hv.wr w (hsf.1 w hw)).1
  have hsl := hsf.2
  have eg : giv ⟨gs, ws, v, K, D, W, sn⟩ k c u = ⟨gs, ws, v, K, D, upd W c.toNat u, sn⟩ := by unfold giv; rw [if_neg (fun h => by omega)]
  rw [actF_e]
  unfold aft
  rw [eg]
  simp only
  generalize stp gs ws ⟨k, c, l⟩ = s at *
  obtain ⟨gs', ws', an⟩ := s
  simp only [fileH] at q3 hV' hsc hsl ⊢
  have hg' := hV'.gl
  cases hdn : an.d with
  | true =>
    have q4 := effect_v (G := G) (bb := bb) ⟨gs', ws', v, K, D, upd W c.toNat u, sn⟩ hV'.so (by simp only; omega) (by simp only; omega) c k c2
    have ee := effF_gs ⟨gs', ws', v, K, D, upd W c.toNat u, sn⟩ c k
    rw [if_pos rfl]
    have tl := fun st h0 => tail2 (G := G) (bb := bb) (st := st) (effF ⟨gs', ws', v, K, D, upd W c.toNat u, sn⟩ c k) (by rw [ee.1]; exact hV'.so) (by rw [ee.1]; simp only; omega) (by simp only at ee; omega) k c l u [[ci (ifE (wi u 0 (if k = 3 then 999 else 0)) 2)], [ci (usErr gs ws ⟨k, c, l⟩)]] an (by omega) hsc h0
    generalize effF ⟨gs', ws', v, K, D, upd W c.toNat u, sn⟩ c k = y at *
    simp only [Ca.h, caH] at q4 ⊢
    simp (disch := omega) only [go_sem, h20c, n3, n4, n5, within_u, unless_u, q1, q2, q3, q4, hdn, first2, hu, evJ_5, qa, tn1]
    refine tl _ ?_
    simp only [n3, if_false]
    unfold fr0 usH
    rw [hdn]
    rfl
  | false =>
    have tl := fun st h0 => tail2 (G := G) (bb := bb) (st := st) ⟨gs', ws', v, K, D, upd W c.toNat u, sn⟩ hV'.so (by simp only; omega) (by simp only; omega) k c l u [[ci (ifE (wi u 0 (if k = 3 then 999 else 0)) 2)], [ci (usErr gs ws ⟨k, c, l⟩)]] an (by omega) hsc h0
    rw [if_neg (by simp)]
    simp (disch := omega) only [go_sem, h20c, n3, n4, n5, within_u, unless_u, q1, q2, q3, hdn, first2, hu, evJ_5, qa, tn1]
    refine tl _ ?_
    simp only [n3, if_false]
    unfold fr0 usH
    rw [hdn]
    rfl
end
section
variable {G : Glob} {bb : Bool}
set_option maxHeartbeats 8000000 in
theorem cuse_v (hG : G 0 = some alD) (x : Ca) (hv : Vd x.gs x.ws) (hh : Hd x.gs x.ws) (hn : x.sn.length ≤ 9000) (k c l u : Int) :
    EV G (Tb (bs bb)) 20 [.one (.ptr 0 0), .agg [.dc (ci k), .dc (ci c), .dc (ci l), .dc (ci u)]] x.h = some (vi (usF x k c l u).2, (usF x k c l u).1.h) := by
  have h1 := hv.gl
  have h2 := hv.wl
  have q1 := usualErr_v (G := G) (bb := bb) x.gs x.ws hv.so ⟨k, c, l⟩ (by omega) (by omega)
  have q2 := actErr_v (G := G) (bb := bb) x.gs x.ws hv.so ⟨k, c, l⟩ (by omega) (by omega)
  unfold usF
  have eus : usE x k c l u = firstE [ifE (wi u 0 (if k = 3 then 999 else 0)) 2, usErr x.gs x.ws ⟨k, c, l⟩] := rfl
  by_cases hu : usE x k c l u = 0
  · rw [if_neg (by omega)]
    rw [eus] at hu
    have hu1 : usErr x.gs x.ws ⟨k, c, l⟩ = 0 := by
      rw [firstE_0] at hu
      exact hu _ (by simp)
    obtain ⟨k1, k2, k3, k4, k5⟩ := us_ok hu1
    simp only at k1 k2 k5
    have qa := alone_v (G := G) (bb := bb) x hv.so (by omega) (by omega) k c l u k2
    cases ha : aloF x k c u with
    | some y =>
      rw [ha] at qa
      simp only [Ca.h, caH, Option.isSome_some, Option.getD_some] at qa ⊢
      by_cases k3 : k = 3
      · rw [if_pos k3] at hu
        refine EV_run rfl ?_
        simp (disch := omega) only [go_sem, h20c, eq_true k3, within_u, unless_u, q1, first2, hu, evJ_5, qa]
        try rfl
      · rw [if_neg k3] at hu
        refine EV_run rfl ?_
        simp (disch := omega) only [go_sem, h20c, k3, within_u, unless_u, q1, first2, hu, evJ_5, qa]
        try rfl
    | none =>
      rw [ha] at qa
      simp only [Ca.h, caH, Option.isSome_none, Option.getD_none] at qa ⊢
      by_cases he : acErr x.gs x.ws ⟨k, c, l⟩ = 0
      · rw [if_neg (by omega)]
        obtain ⟨gs, ws, v, K, D, W, sn⟩ := x
        by_cases k4 : k = 4
        · cases hd : D c.toNat with
          | true => exact cact_k4D hG gs ws v K D W sn hv hh hn k c l u (by rw [eus]; exact hu) ha he k4 hd
          | false => exact cact_k4N hG gs ws v K D W sn hv hh hn k c l u (by rw [eus]; exact hu) ha he k4 hd
        · by_cases k5 : k = 5
          · cases hd : D c.toNat with
            | true => exact cact_k5D hG gs ws v K D W sn hv hh hn k c l u (by rw [eus]; exact hu) ha he k5 hd
            | false => exact cact_k5N hG gs ws v K D W sn hv hh hn k c l u (by rw [eus]; exact hu) ha he k5 hd
          · by_cases k3 : k = 3
            · exact cact_k3 hG gs ws v K D W sn hv hh hn k c l u (by rw [eus]; exact hu) ha he k3
            · exact cact_kO hG gs ws v K D W sn hv hh hn k c l u (by rw [eus]; exact hu) ha he k3 k4 k5
      · rw [if_pos he]
        by_cases k3 : k = 3
        · rw [if_pos k3] at hu
          refine EV_run rfl ?_
          simp (disch := omega) only [go_sem, h20c, eq_true k3, within_u, unless_u, q1, q2, he, first2, hu, evJ_5, qa]
          try rfl
        · rw [if_neg k3] at hu
          refine EV_run rfl ?_
          simp (disch := omega) only [go_sem, h20c, k3, within_u, unless_u, q1, q2, he, first2, hu, evJ_5, qa]
          try rfl
  · rw [if_pos hu]
    rw [eus] at hu ⊢
    by_cases k3 : k = 3
    · rw [if_pos k3] at hu ⊢
      refine EV_run rfl ?_
      simp (disch := omega) only [go_sem, h20c, eq_true k3, within_u, unless_u, q1, first2, hu]
      try rfl
    · rw [if_neg k3] at hu ⊢
      refine EV_run rfl ?_
      simp (disch := omega) only [go_sem, h20c, k3, within_u, unless_u, q1, first2, hu]
      try rfl
end
section
variable {G : Glob} {bb : Bool}
theorem evJ_6 {call : CallT} {d : Option Nat} {f : FuncId} {avs : List AV} {st : AS} {a0 a1 a2 a3 a4 a5 : Nat} : evJ call d f avs st [a0, a1, a2, a3, a4, a5] = evB call d f avs st [a0, a1, a2, a3, a4, a5] (dstN [a0, a1, a2, a3, a4, a5] && kpH [a0, a1, a2, a3, a4, a5] st.hp [a0, a1, a2, a3, a4, a5] && kpVs [a0, a1, a2, a3, a4, a5] avs) := evJ_e _
abbrev acsV (l : List Ac) : AV := vl (l.map Ac.e)
abbrev runH (gs : List Gr) (ws : List Wt) (out : List An) : List AObj := [.box [.ptr 1 0], .box [.bld 2 gs.length, .bld 3 ws.length], .arr 0 3 (gs.map Gr.e), .arr 0 2 (ws.map Wt.e), .box [.bld 5 out.length], .arr 0 3 (out.map An.e)]
theorem vd_k {gs : List Gr} {ws : List Wt} (h : Vd gs ws) : ∀ w ∈ ws, kOK w.k := fun w hw => kOK_us (h.wr w hw).2.1
theorem ac_in {gs : List Gr} {ws : List Wt} {a : Ac} (h : acErr gs ws a = 0) : (0 ≤ a.k ∧ a.k ≤ 5) ∧ (a.k ≠ 0 → isIn gs a.c = true) := by
  have hu : usErr gs ws a = 0 := by
    unfold acErr at h
    split at h
    · rename_i h1; exact absurd h h1
    · rename_i h1; exact Classical.not_not.1 h1
  obtain ⟨h1, h2, h3, h4, h5⟩ := us_ok hu
  refine ⟨h1, fun h0 => ?_⟩
  cases hi : isIn gs a.c with
  | true => rfl
  | false => exact absurd (h5.2 hi) h0
set_option maxHeartbeats 2000000 in
theorem p62_v (hG : G 0 = some alD) (gs : List Gr) (ws : List Wt) (out : List An) (hv : Vd gs ws) (i : Int) (a : Ac) (ho : out.length ≤ 1000) :
    EV G (Tb (bs bb)) 36 [vi i, a.v, .one (.ptr 0 0), .one (.ptr 4 0)] (runH gs ws out) = some (vi (acErr gs ws a), if acErr gs ws a = 0 then runH (stp gs ws a).1 (stp gs ws a).2.1 (out ++ [(stp gs ws a).2.2]) else runH gs ws out) := by
  refine EV_run rfl ?_
  have h1 := hv.gl
  have h2 := hv.wl
  have q := actErr_v (G := G) (bb := bb) gs ws hv.so a (by omega) (by omega)
  by_cases he : acErr gs ws a = 0
  · rw [if_pos he]
    rw [he] at q ⊢
    obtain ⟨h3, h4⟩ := ac_in he
    have q1 := step_v (G := G) (bb := bb) hG gs ws a hv.so (vd_k hv) h3 h4 (by omega)
    simp only [fileH] at q1
    simp only [runH]
    simp (disch := omega) only [go_sem, h36c, q, q1, List.take_length, List.length_append, List.length_cons, List.length_nil, List.map_append, List.map_cons, List.map_nil, An.e]
  · rw [if_neg he]
    simp (disch := omega) only [go_sem, h36c, q, he]
end
end Go.Proofs.YtinageiefahjfaaDoor
