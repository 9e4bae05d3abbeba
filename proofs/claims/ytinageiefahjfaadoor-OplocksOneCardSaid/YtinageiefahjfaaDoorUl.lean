/- An act is done. Conditions: none. -/
import Derived.Test.YtinageiefahjfaaDoorUi
namespace Go.Proofs.YtinageiefahjfaaDoor
set_option linter.unusedSimpArgs false
set_option linter.unusedVariables false
set_option maxRecDepth 4000
section
variable {G : Glob} {bb : Bool}
theorem allLen_gr : ∀ gs : List Gr, allLen 3 (gs.map Gr.e) = true
  | [] => rfl
  | g :: gs => by rw [List.map_cons, allLen, allLen_gr gs]; rfl
theorem allLen_wt : ∀ gs : List Wt, allLen 2 (gs.map Wt.e) = true
  | [] => rfl
  | g :: gs => by rw [List.map_cons, allLen, allLen_wt gs]; rfl
theorem clone_g (gs : List Gr) (hl : gs.length ≤ 1000000) : EV G (Tb (bs bb)) 53 [gsV gs] [] = some (.one (.bld 0 gs.length), [.arr 0 3 (gs.map Gr.e)]) := by
  refine EV_base rfl ?_
  show (if allLen 3 (gs.map Gr.e) = true ∧ (gs.map Gr.e).length * 24 ≤ 140737488355328 then some (AV.one (.bld 0 (gs.map Gr.e).length), [AObj.arr 0 3 (gs.map Gr.e)]) else none) = _
  rw [if_pos ⟨allLen_gr gs, by rw [List.length_map]; omega⟩, List.length_map]
theorem clone_w (ws : List Wt) (hl : ws.length ≤ 1000000) : EV G (Tb (bs bb)) 54 [wsV ws] [] = some (.one (.bld 0 ws.length), [.arr 0 2 (ws.map Wt.e)]) := by
  refine EV_base rfl ?_
  show (if allLen 2 (ws.map Wt.e) = true ∧ (ws.map Wt.e).length * 16 ≤ 140737488355328 then some (AV.one (.bld 0 (ws.map Wt.e).length), [AObj.arr 0 2 (ws.map Wt.e)]) else none) = _
  rw [if_pos ⟨allLen_wt ws, by rw [List.length_map]; omega⟩, List.length_map]
theorem copied_v (gs : List Gr) (ws : List Wt) (hg : gs.length ≤ 1000000) (hw : ws.length ≤ 1000000) : EV G (Tb (bs bb)) 24 [flV gs ws] [] = some (.one (.ptr 3 0), [.box [.dc (.slc (gs.map Gr.e)), .dc (.slc (ws.map Wt.e))], .arr 0 3 (gs.map Gr.e), .arr 0 2 (ws.map Wt.e), .box [.bld 1 gs.length, .bld 2 ws.length]]) := by
  refine EV_run rfl ?_
  simp (disch := omega) only [go_sem, h24c, clone_g, clone_w]
end
section
variable {G : Glob} {bb : Bool}
set_option maxHeartbeats 4000000 in
theorem grantErr_v (gs : List Gr) (ws : List Wt) (i : Nat) (hi : i < gs.length) (hl : gs.length ≤ 1000000) : EV G (Tb (bs bb)) 27 [flR gs ws, vi i] [] = some (vi (gErr gs i gs[i]), []) := by
  refine EV_run rfl ?_
  have q := any1_v (G := G) (bb := bb) 59 [ci gs[i].c, ci gs[i].l, ci gs[i].t] (fun h => decide (h.c ≠ gs[i].c)) gs hl (fun h _ => p116_v gs[i] h)
  simp only [List.map_cons, List.map_nil] at q
  rw [show (gs.any fun h => decide (h.c ≠ gs[i].c)) = othA gs gs[i].c from rfl] at q
  have q1 := p113_v (G := G) (bb := bb) gs ws gs[i] 1 hl
  have eg : (gs.map Gr.e)[i]? = some [ci gs[i].c, ci gs[i].l, ci gs[i].t] := by rw [List.getElem?_map, List.getElem?_eq_getElem hi]; rfl
  have hi1 : i - 1 < gs.length := by omega
  have eg1 : (gs.map Gr.e)[i - 1]? = some [ci gs[i-1].c, ci gs[i-1].l, ci gs[i-1].t] := by rw [List.getElem?_map, List.getElem?_eq_getElem hi1]; rfl
  rw [gErr_e, clash_e, grAt gs (i - 1) hi1]
  generalize gs[i] = g at *
  generalize gs[i - 1] = g1 at *
  have c1 : isCl g.c = false ∨ (isCl g.c = true ∧ wi g.l 0 3 = false) ∨ (isCl g.c = true ∧ wi g.l 0 3 = true) := by
    cases isCl g.c <;> cases wi g.l 0 3 <;> simp
  have c2 : (g.l ≥ 2 ∧ g.l ≠ 1 ∧ othL gs g.c 1 = true) ∨ (g.l ≥ 2 ∧ g.l ≠ 1 ∧ othL gs g.c 1 = false ∧ g.l = 3) ∨ (g.l ≥ 2 ∧ g.l ≠ 1 ∧ othL gs g.c 1 = false ∧ g.l ≠ 3) ∨ (¬g.l ≥ 2 ∧ g.l ≠ 3 ∧ g.l = 1) ∨ (¬g.l ≥ 2 ∧ g.l ≠ 3 ∧ g.l ≠ 1) := by
    cases othL gs g.c 1 <;> simp <;> omega
  rcases Nat.eq_zero_or_pos i with rfl | h0
  · rcases c1 with h1 | ⟨h1, h2⟩ | ⟨h1, h2⟩
    · rcases c2 with ⟨k1, k2, k3⟩ | ⟨k1, k2, k3, k4⟩ | ⟨k1, k2, k3, k4⟩ | ⟨k1, k2, k3⟩ | ⟨k1, k2, k3⟩
      · simp (disch := omega) only [go_sem, h27c, q, q1, eg, isClient_v, within_u, unless_u, first4, h1, k1, k2, k3]
      · simp (disch := omega) only [go_sem, h27c, q, q1, eg, isClient_v, within_u, unless_u, first4, h1, k1, k2, k3, eq_true k4]
      · simp (disch := omega) only [go_sem, h27c, q, q1, eg, isClient_v, within_u, unless_u, first4, h1, k1, k2, k3, k4]
      · simp (disch := omega) only [go_sem, h27c, q, q1, eg, isClient_v, within_u, unless_u, first4, h1, k1, k2, eq_true k3]
      · simp (disch := omega) only [go_sem, h27c, q, q1, eg, isClient_v, within_u, unless_u, first4, h1, k1, k2, k3]
    · rcases c2 with ⟨k1, k2, k3⟩ | ⟨k1, k2, k3, k4⟩ | ⟨k1, k2, k3, k4⟩ | ⟨k1, k2, k3⟩ | ⟨k1, k2, k3⟩
      · simp (disch := omega) only [go_sem, h27c, q, q1, eg, isClient_v, within_u, unless_u, first4, h1, h2, k1, k2, k3]
      · simp (disch := omega) only [go_sem, h27c, q, q1, eg, isClient_v, within_u, unless_u, first4, h1, h2, k1, k2, k3, eq_true k4]
      · simp (disch := omega) only [go_sem, h27c, q, q1, eg, isClient_v, within_u, unless_u, first4, h1, h2, k1, k2, k3, k4]
      · simp (disch := omega) only [go_sem, h27c, q, q1, eg, isClient_v, within_u, unless_u, first4, h1, h2, k1, k2, eq_true k3]
      · simp (disch := omega) only [go_sem, h27c, q, q1, eg, isClient_v, within_u, unless_u, first4, h1, h2, k1, k2, k3]
    · rcases c2 with ⟨k1, k2, k3⟩ | ⟨k1, k2, k3, k4⟩ | ⟨k1, k2, k3, k4⟩ | ⟨k1, k2, k3⟩ | ⟨k1, k2, k3⟩
      · simp (disch := omega) only [go_sem, h27c, q, q1, eg, isClient_v, within_u, unless_u, first4, h1, h2, k1, k2, k3]
      · simp (disch := omega) only [go_sem, h27c, q, q1, eg, isClient_v, within_u, unless_u, first4, h1, h2, k1, k2, k3, eq_true k4]
      · simp (disch := omega) only [go_sem, h27c, q, q1, eg, isClient_v, within_u, unless_u, first4, h1, h2, k1, k2, k3, k4]
      · simp (disch := omega) only [go_sem, h27c, q, q1, eg, isClient_v, within_u, unless_u, first4, h1, h2, k1, k2, eq_true k3]
      · simp (disch := omega) only [go_sem, h27c, q, q1, eg, isClient_v, within_u, unless_u, first4, h1, h2, k1, k2, k3]
  · have h0' : ¬ i = 0 := by omega
    rcases c1 with h1 | ⟨h1, h2⟩ | ⟨h1, h2⟩
    · rcases c2 with ⟨k1, k2, k3⟩ | ⟨k1, k2, k3, k4⟩ | ⟨k1, k2, k3, k4⟩ | ⟨k1, k2, k3⟩ | ⟨k1, k2, k3⟩
      · simp (disch := omega) only [go_sem, h27c, q, q1, eg, eg1, max0, h0', isClient_v, within_u, unless_u, first4, h1, k1, k2, k3]
      · simp (disch := omega) only [go_sem, h27c, q, q1, eg, eg1, max0, h0', isClient_v, within_u, unless_u, first4, h1, k1, k2, k3, eq_true k4]
      · simp (disch := omega) only [go_sem, h27c, q, q1, eg, eg1, max0, h0', isClient_v, within_u, unless_u, first4, h1, k1, k2, k3, k4]
      · simp (disch := omega) only [go_sem, h27c, q, q1, eg, eg1, max0, h0', isClient_v, within_u, unless_u, first4, h1, k1, k2, eq_true k3]
      · simp (disch := omega) only [go_sem, h27c, q, q1, eg, eg1, max0, h0', isClient_v, within_u, unless_u, first4, h1, k1, k2, k3]
    · rcases c2 with ⟨k1, k2, k3⟩ | ⟨k1, k2, k3, k4⟩ | ⟨k1, k2, k3, k4⟩ | ⟨k1, k2, k3⟩ | ⟨k1, k2, k3⟩
      · simp (disch := omega) only [go_sem, h27c, q, q1, eg, eg1, max0, h0', isClient_v, within_u, unless_u, first4, h1, h2, k1, k2, k3]
      · simp (disch := omega) only [go_sem, h27c, q, q1, eg, eg1, max0, h0', isClient_v, within_u, unless_u, first4, h1, h2, k1, k2, k3, eq_true k4]
      · simp (disch := omega) only [go_sem, h27c, q, q1, eg, eg1, max0, h0', isClient_v, within_u, unless_u, first4, h1, h2, k1, k2, k3, k4]
      · simp (disch := omega) only [go_sem, h27c, q, q1, eg, eg1, max0, h0', isClient_v, within_u, unless_u, first4, h1, h2, k1, k2, eq_true k3]
      · simp (disch := omega) only [go_sem, h27c, q, q1, eg, eg1, max0, h0', isClient_v, within_u, unless_u, first4, h1, h2, k1, k2, k3]
    · rcases c2 with ⟨k1, k2, k3⟩ | ⟨k1, k2, k3, k4⟩ | ⟨k1, k2, k3, k4⟩ | ⟨k1, k2, k3⟩ | ⟨k1, k2, k3⟩
      · simp (disch := omega) only [go_sem, h27c, q, q1, eg, eg1, max0, h0', isClient_v, within_u, unless_u, first4, h1, h2, k1, k2, k3]
      · simp (disch := omega) only [go_sem, h27c, q, q1, eg, eg1, max0, h0', isClient_v, within_u, unless_u, first4, h1, h2, k1, k2, k3, eq_true k4]
      · simp (disch := omega) only [go_sem, h27c, q, q1, eg, eg1, max0, h0', isClient_v, within_u, unless_u, first4, h1, h2, k1, k2, k3, k4]
      · simp (disch := omega) only [go_sem, h27c, q, q1, eg, eg1, max0, h0', isClient_v, within_u, unless_u, first4, h1, h2, k1, k2, eq_true k3]
      · simp (disch := omega) only [go_sem, h27c, q, q1, eg, eg1, max0, h0', isClient_v, within_u, unless_u, first4, h1, h2, k1, k2, k3]
end
section
variable {G : Glob} {bb : Bool}
theorem p49_v (gs : List Gr) (ws : List Wt) (i : Nat) (hi : i < gs.length) (hl : gs.length ≤ 1000000) (g : Gr) : EV G (Tb (bs bb)) 26 [vi i, g.v, .one (.ref [.ptr (flD gs ws)])] [] = some (vi (gErr gs i gs[i]), []) := by
  refine EV_run rfl ?_
  have q := grantErr_v (G := G) (bb := bb) gs ws i hi hl
  simp (disch := omega) only [go_sem, h26c, q]
end
section
variable {G : Glob} {bb : Bool}
theorem gErrs_e (gs : List Gr) : (List.range gs.length).map (fun i => gErr gs i (gs.getD i ⟨0, 0, 0⟩)) = gErrs gs := rfl
theorem wErrs_e (gs : List Gr) (ws : List Wt) : (List.range ws.length).map (fun i => wErr gs ws i (ws.getD i ⟨0, 0⟩)) = wErrs gs ws := rfl
theorem eachGr_v (gs : List Gr) (ws : List Wt) (hl : gs.length ≤ 1000000) : EV G (Tb (bs bb)) 25 [gsV gs, .one (.fn 26 [.ref [.ptr (flD gs ws)]])] [] = some (twoI (eachE 0 (gErrs gs)), []) := by
  rw [← gErrs_e]
  refine eachG_v 26 _ _ gs hl (fun i hi => ?_)
  rw [grAt gs i hi]
  exact p49_v gs ws i hi hl gs[i]
theorem eachWt_v (gs : List Gr) (ws : List Wt) (hs : Srt gs) (hg : gs.length ≤ 100000) (hl : ws.length ≤ 1000000) : EV G (Tb (bs bb)) 28 [wsV ws, .one (.fn 29 [.ref [.ptr (flD gs ws)]])] [] = some (twoI (eachE 0 (wErrs gs ws)), []) := by
  rw [← wErrs_e]
  refine eachW_v 29 _ _ ws hl (fun i hi => ?_)
  rw [wtAt ws i hi]
  exact p52_v gs ws hs i hi hg hl ws[i]
theorem gErrs_srt {gs : List Gr} (h1 : (eachE 0 (gErrs gs)).2 = 0) : Srt gs := by
  have key : ∀ j (hj : j < gs.length) i (hi : i < j), (gs[i]'(by omega)).c < gs[j].c := by
    intro j
    induction j with
    | zero => intro _ i hi; omega
    | succ j ih =>
      intro hj i hi
      have h5 := eachE_0 h1 (gErr gs (j + 1) (gs.getD (j + 1) ⟨0, 0, 0⟩)) (List.mem_map.2 ⟨j + 1, List.mem_range.2 hj, rfl⟩)
      unfold gErr at h5
      rw [firstE_0] at h5
      have h5 := h5 _ (List.mem_cons_of_mem _ List.mem_cons_self)
      rw [ifE_0 (by decide), Bool.or_eq_true, decide_eq_true_eq, decide_eq_true_eq, Nat.add_sub_cancel, grAt gs j (by omega), grAt gs (j + 1) hj] at h5
      have h5 : gs[j].c < gs[j + 1].c := by omega
      by_cases hij : i = j
      · subst hij; exact h5
      · have := ih (by omega) i (by omega)
        omega
  exact List.pairwise_iff_getElem.2 (fun i j hi hj hij => key j hj i hij)
theorem wErrs_k {gs : List Gr} {w : Wt} {ws : List Wt} (h : (eachE 0 (wErrs gs (w :: ws))).2 = 0) : w.k = 0 ∨ w.k = 2 ∨ w.k = 3 := by
  have h5 := eachE_0 h (wErr gs (w :: ws) 0 w) (List.mem_map.2 ⟨0, List.mem_range.2 (by simp), rfl⟩)
  unfold wErr at h5
  rw [firstE_0] at h5
  have h5 := h5 _ (List.mem_cons_of_mem _ List.mem_cons_self)
  rw [ifE_0 (by decide)] at h5
  simpa [isUs] using h5
theorem checkFile_v (hG : G 0 = some alD) (gs : List Gr) (ws : List Wt) (hg : gs.length ≤ 100000) (hw : ws.length ≤ 100000) : EV G (Tb (bs bb)) 12 [flV gs ws] [] = some (twoI (chk gs ws), []) := by
  refine EV_run rfl ?_
  have q1 := copied_v (G := G) (bb := bb) gs ws (by omega) (by omega)
  have q2 := eachGr_v (G := G) (bb := bb) gs ws (by omega)
  unfold chk
  by_cases h1 : gs.length > 8
  · rw [if_pos (.inl h1)]
    simp (disch := omega) only [go_sem, h12c, h1]
  by_cases h2 : ws.length > 8
  · rw [if_pos (.inr h2)]
    simp (disch := omega) only [go_sem, h12c, h1, h2]
  rw [if_neg (by omega)]
  by_cases h3 : (eachE 0 (gErrs gs)).2 = 0
  · rw [if_neg (by omega)]
    have hs := gErrs_srt h3
    have q3 := eachWt_v (G := G) (bb := bb) gs ws hs hg (by omega)
    by_cases h4 : (eachE 0 (wErrs gs ws)).2 = 0
    · rw [if_neg (by omega)]
      cases ws with
      | nil =>
        show _ = some (twoI (0, 0), [])
        have hn : ([] : List Wt).length = 0 := rfl
        generalize ([] : List Wt) = W at *
        have hn : (W.length : Int) = 0 := by omega
        simp (disch := omega) only [go_sem, h12c, h1, h2, q1, q2, q3, h3, h4, eq_true hn]
      | cons w ws =>
        show _ = some (twoI (0, ifE (decide ((brBs gs w.c w.k).length = 0) && held (brGs gs w.c w.k) w.c w.k) 20), [])
        have hk := wErrs_k h4
        have q4 := breaks_v (G := G) (bb := bb) hG gs (w :: ws) w.c w.k (kOK_us hk) (by omega)
        have q5 := held_v (G := G) (bb := bb) hG (brGs gs w.c w.k) (w :: ws) w.c w.k (kOK_us hk) (by rw [brGs_len]; omega)
        have e0 : ((w :: ws).map Wt.e)[0]? = some [ci w.c, ci w.k] := rfl
        have hn : ¬ (w :: ws).length = 0 := by simp
        have hb := brBs_len gs w.c w.k
        have e1 := brGs_len gs w.c w.k
        simp only [fileH, e1] at q4
        have tk : ((brGs gs w.c w.k).map Gr.e).take gs.length = (brGs gs w.c w.k).map Gr.e := List.take_of_length_le (by rw [List.length_map, e1]; omega)
        generalize w :: ws = W at *
        by_cases h5 : (brBs gs w.c w.k).length = 0
        · have h5' : ((brBs gs w.c w.k).length : Int) = 0 := by omega
          simp (disch := omega) only [go_sem, h12c, h1, h2, q1, q2, q3, h3, h4, q4, q5, e0, hn, eq_true h5, eq_true h5', unless_u, e1, tk]
        · simp (disch := omega) only [go_sem, h12c, h1, h2, q1, q2, q3, h3, h4, q4, q5, e0, hn, h5, unless_u, e1, tk]
    · rw [if_pos (by omega)]
      simp (disch := omega) only [go_sem, h12c, h1, h2, q1, q2, q3, h3, h4]
  · rw [if_pos (by omega)]
    simp (disch := omega) only [go_sem, h12c, h1, h2, q1, q2, h3]
end
section
variable {G : Glob} {bb : Bool}
theorem idx0_v (fn : Nat) (ds : List DC) (p : Gr → Bool) (gs : List Gr) (hl : gs.length ≤ 1000000) (hq : ∀ g ∈ gs, EV G (Tb (bs bb)) fn [g.v, .one (.ref ds)] [] = some (vb (p g), [])) :
    EV G (Tb (bs bb)) 77 [gsV gs, .one (.fn fn [.ref ds])] [] = some (vi (idxG p gs ⟨0, 0, 0⟩), []) := by
  refine EV_run rfl ?_
  simp (disch := omega) only [go_sem, h77c, List.length_map, kpCs_d, idsL_d, renL_d, ctCs_d, killL_d, outJ_m]
  unfold idxG
  rw [EL_fst (fun k => ⟨(gsV gs :: .one (.fn fn [.ref ds]) :: jk 5 (vi gs.length :: vi k :: jk 10 [])), []⟩) (fun k => p (gs.getD k ⟨0, 0, 0⟩) = true) gs.length ?_ ?_]
  rotate_left
  · rfl
  · intro k hk hn
    have h3 := hn k (Nat.le_refl _)
    rw [getDz gs _ k hk] at h3
    have h4 : p gs[k] = false := by simpa using h3
    have q := hq gs[k] (List.getElem_mem hk)
    rw [h4] at q
    simp (disch := omega) only [go_sem, h77l0, List.length_map, Gr.e, q, List.getElem?_map, List.getElem?_eq_getElem hk, kpCs_d, idsL_d, renL_d, ctCs_d, killL_d, outJ_m]
  obtain ⟨hk, hp, hn⟩ := ix_spec (fun k => p (gs.getD k ⟨0, 0, 0⟩) = true) gs.length
  generalize ix (fun k => p (gs.getD k ⟨0, 0, 0⟩) = true) gs.length = k at *
  rcases hp with rfl | ⟨hk', hp⟩
  · rw [if_pos rfl]
    simp (disch := omega) only [go_sem, h77l0, List.length_map, kpCs_d, idsL_d, renL_d, ctCs_d, killL_d, outJ_m]
  · rw [if_neg (by omega)]
    rw [getDz gs _ k hk'] at hp
    have q := hq gs[k] (List.getElem_mem hk')
    rw [hp] at q
    simp (disch := omega) only [go_sem, h77l0, List.length_map, Gr.e, q, List.getElem?_map, List.getElem?_eq_getElem hk', kpCs_d, idsL_d, renL_d, ctCs_d, killL_d, outJ_m]
def dlI (p : Gr → Bool) (l : List Gr) : Nat → Nat
  | 0 => 0
  | j + 1 => if p (l.getD j ⟨0, 0, 0⟩) = true then dlI p l j else dlI p l j + 1
def dlA (p : Gr → Bool) (l : List Gr) : Nat → List Gr
  | 0 => l
  | j + 1 => if p (l.getD j ⟨0, 0, 0⟩) = true then dlA p l j else (dlA p l j).set (dlI p l j) (l.getD j ⟨0, 0, 0⟩)
theorem dlA_len (p : Gr → Bool) (l : List Gr) : ∀ j, (dlA p l j).length = l.length
  | 0 => rfl
  | j + 1 => by
    rw [dlA]; split
    · exact dlA_len p l j
    · rw [List.length_set]; exact dlA_len p l j
theorem dlI_le (p : Gr → Bool) (l : List Gr) : ∀ j, dlI p l j ≤ j
  | 0 => Nat.le_refl _
  | j + 1 => by
    have := dlI_le p l j
    rw [dlI]; split <;> omega
theorem dlA_ge (p : Gr → Bool) (l : List Gr) : ∀ j k, j ≤ k → (dlA p l j)[k]? = l[k]?
  | 0, k, _ => rfl
  | j + 1, k, h => by
    have h1 := dlI_le p l j
    rw [dlA]; split
    · exact dlA_ge p l j k (by omega)
    · rw [List.getElem?_set_ne (by omega)]; exact dlA_ge p l j k (by omega)
theorem take_set_lt {α : Type} (l : List α) (i : Nat) (a : α) (h : i < l.length) : (l.set i a).take (i + 1) = l.take i ++ [a] := by
  rw [List.take_add_one, List.take_set_of_le (Nat.le_refl _), List.getElem?_set_self h]; rfl
theorem dlA_take (p : Gr → Bool) (l : List Gr) : ∀ j, j ≤ l.length → (dlA p l j).take (dlI p l j) = (l.take j).filter fun r => !p r
  | 0, _ => rfl
  | j + 1, h => by
    have ih := dlA_take p l j (by omega)
    have h1 := dlI_le p l j
    have h2 : l.getD j ⟨0, 0, 0⟩ = l[j] := grAt l j (by omega)
    rw [dlA, dlI, h2, List.take_succ_eq_append_getElem (by omega), List.filter_append]
    split
    · rename_i hp
      rw [ih]; simp [hp]
    · rename_i hp
      rw [take_set_lt _ _ _ (by rw [dlA_len]; omega), ih]
      simp [hp]
theorem dlI_len (p : Gr → Bool) (l : List Gr) : dlI p l l.length = (l.filter fun r => !p r).length := by
  have := congrArg List.length (dlA_take p l l.length (Nat.le_refl _))
  rw [List.length_take, dlA_len, List.take_length] at this
  have := dlI_le p l l.length
  omega
theorem dl_before (p : Gr → Bool) (l : List Gr) : ∀ k, k ≤ l.length → (∀ j, j < k → ¬ p (l.getD j ⟨0, 0, 0⟩) = true) → dlI p l k = k ∧ dlA p l k = l
  | 0, _, _ => ⟨rfl, rfl⟩
  | k + 1, h, hn => by
    obtain ⟨h1, h2⟩ := dl_before p l k (by omega) (fun j hj => hn j (by omega))
    have h3 := hn k (by omega)
    rw [dlI, dlA, if_neg h3, if_neg h3, h1, h2, grAt l k (by omega)]
    exact ⟨rfl, List.set_getElem_self _⟩
theorem take_all {α β : Type} (f : α → β) (l : List α) : (l.map f).take l.length = l.map f := by rw [← List.map_take, List.take_length]
theorem clr_front (A : List Gr) (i : Nat) (hi : i ≤ A.length) (z : List DC) : clrE (A.map Gr.e) i (A.length - i) z = (A.take i).map Gr.e ++ List.replicate (A.length - i) z := by
  unfold clrE
  rw [show i + (A.length - i) = (A.map Gr.e).length by simp; omega, List.drop_length, List.append_nil, List.map_take]
theorem deleteFunc_v (p : Gr → Bool) (f : Nat) (a b c : Int) (hf : ∀ r : Gr, EV G (Tb (bs bb)) f [r.v, .one (.ptr 0 0)] [.box [.dc (ci a), .dc (ci b), .dc (ci c)]] = some (vb (p r), [.box [.dc (ci a), .dc (ci b), .dc (ci c)]])) (hv : ∀ r : Gr, EV G (Tb (bs bb)) f [r.v, .one (.ref [ci a, ci b, ci c])] [] = some (vb (p r), [])) (l : List Gr) (hl : l.length ≤ 1000000) :
    EV G (Tb (bs bb)) 68 [.one (.bld 0 l.length), .one (.fn f [.ptr 1 0])] [.arr 0 3 (l.map Gr.e), .box [.dc (ci a), .dc (ci b), .dc (ci c)]] =
      some (.one (.bld 0 (l.filter fun r => !p r).length), [.arr 0 3 ((l.filter fun r => !p r).map Gr.e ++ List.replicate (l.length - (l.filter fun r => !p r).length) [ci 0, ci 0, ci 0]), .box [.dc (ci a), .dc (ci b), .dc (ci c)]]) := by
  refine EV_run rfl ?_
  have hix := idx0_v (G := G) (bb := bb) f [ci a, ci b, ci c] p l hl (fun r _ => hv r)
  unfold idxG at hix
  obtain ⟨hk, hp, hn⟩ := ix_spec (fun k => p (l.getD k ⟨0, 0, 0⟩) = true) l.length
  generalize ix (fun k => p (l.getD k ⟨0, 0, 0⟩) = true) l.length = k at *
  rcases hp with rfl | ⟨hk', hp⟩
  · have hF : (l.filter fun r => !p r) = l := by
      rw [List.filter_eq_self]
      intro r hr
      obtain ⟨j, hj, rfl⟩ := List.mem_iff_getElem.1 hr
      have := hn j hj
      rw [grAt l j hj] at this
      simpa using this
    rw [hF]
    rw [if_pos rfl] at hix
    simp (disch := omega) only [go_sem, h68c, List.length_map, take_all, hix]
    simp
  · rw [if_neg (by omega)] at hix
    obtain ⟨h1, h2⟩ := dl_before p l k hk hn
    have h3 : dlI p l (k + 1) = k ∧ dlA p l (k + 1) = l := by rw [dlI, dlA, if_pos hp, if_pos hp]; exact ⟨h1, h2⟩
    simp (disch := omega) only [go_sem, h68c, List.length_map, take_all, hix]
    rw [EL_loop (fun j => ⟨(.one (.bld 0 l.length) :: .one (.fn f [.ptr 1 0]) :: jk 3 (vi (dlI p l (k + 1 + j) : Nat) :: vi (k + 1 + j : Nat) :: jk 35 [])), [.arr 0 3 ((dlA p l (k + 1 + j)).map Gr.e), .box [.dc (ci a), .dc (ci b), .dc (ci c)]]⟩) (l.length - (k + 1)) ?_ ?_]
    rotate_left
    · simp only [Nat.add_zero, h3.1, h3.2, Int.natCast_add, Int.natCast_one]
      rfl
    · intro j hj
      have hq0 : k + 1 + j < l.length := by omega
      have hA := dlA_len p l (k + 1 + j)
      have hI := dlI_le p l (k + 1 + j)
      have hg : (dlA p l (k + 1 + j))[k + 1 + j]? = some l[k + 1 + j] := by rw [dlA_ge p l _ _ (Nat.le_refl _), List.getElem?_eq_getElem hq0]
      have hfr := hf l[k + 1 + j]
      rw [show k + 1 + (j + 1) = k + 1 + j + 1 by omega, dlI, dlA, grAt l _ hq0]
      generalize dlA p l (k + 1 + j) = A at *
      generalize dlI p l (k + 1 + j) = i at *
      generalize k + 1 + j = q at *
      generalize l[q] = r at *
      cases hq : p r
      · rw [hq] at hfr
        have hset : (A.set i r).map Gr.e = (A.map Gr.e).set i [.raw (.int .i64 r.c), .raw (.int .i64 r.l), .raw (.int .i64 r.t)] := List.map_set
        simp (disch := omega) only [go_sem, h68l0, List.length_map, Gr.e, hfr, hg, hset]
      · rw [hq] at hfr
        simp (disch := omega) only [go_sem, h68l0, List.length_map, Gr.e, hfr, hg]
    · have hA := dlA_len p l l.length
      have hI := dlI_le p l l.length
      have hT := dlA_take p l l.length (Nat.le_refl _)
      have hL := dlI_len p l
      rw [show k + 1 + (l.length - (k + 1)) = l.length by omega]
      have hc := clr_front (dlA p l l.length) (dlI p l l.length) (by omega) [ci 0, ci 0, ci 0]
      rw [hT, List.take_length, hA] at hc
      rw [← hL]
      generalize dlA p l l.length = A at *
      generalize dlI p l l.length = i at *
      by_cases h0 : i = 0
      · subst h0
        rw [Nat.sub_zero] at hc
        have hlen : ((l.filter fun r => !p r).map Gr.e ++ List.replicate l.length [ci 0, ci 0, ci 0]).length = l.length := by simp [← hL]
        simp (disch := omega) only [go_sem, h68l0, List.length_map, Option.map_none, hc, hlen, Nat.sub_zero]
      · have hlen : ((l.filter fun r => !p r).map Gr.e ++ List.replicate (l.length - i) [ci 0, ci 0, ci 0]).length = l.length := by simp [← hL]; omega
        simp (disch := omega) only [go_sem, h68l0, List.length_map, Option.map_none, hc, hlen]
end
section
variable {G : Glob} {bb : Bool}
theorem p175_v (lv : Int) (h : Gr) : EV G (Tb (bs bb)) 71 [h.v, .one (.ptr 0 0)] [.box [.dc (ci lv)]] = some (vb (decide (h.l > lv)), [.box [.dc (ci lv)]]) := by
  refine EV_run rfl ?_
  simp (disch := omega) only [go_sem, h71c]
  try rfl
def abvG (gs : List Gr) (lv : Int) : Bool := gs.any fun h => decide (h.l > lv)
theorem p174_v (lv : Int) (gs : List Gr) (zs : List (List DC)) (hl : gs.length ≤ 1000000) : EV G (Tb (bs bb)) 70 [vi lv, .one (.ptr 0 0)] [.box [.bld 1 gs.length], .arr 0 3 (gs.map Gr.e ++ zs)] = some (vb (abvG gs lv), [.box [.dc (.slc (gs.map Gr.e))], .dead]) := by
  refine EV_run rfl ?_
  have q := any1_v (G := G) (bb := bb) 71 [ci lv] (fun h => decide (h.l > lv)) gs hl (fun h _ => p175_v lv h)
  simp only [List.map_cons, List.map_nil] at q
  rw [show (gs.any fun h => decide (h.l > lv)) = abvG gs lv from rfl] at q
  have tk : (gs.map Gr.e ++ zs).take gs.length = gs.map Gr.e := List.take_left' (by simp)
  simp (disch := omega) only [go_sem, h70c, q, tk, List.length_append, Nat.le_add_right]
theorem p173_v (k c l : Int) (h : Gr) : EV G (Tb (bs bb)) 69 [h.v, .one (.ptr 0 0)] [.box [.dc (ci k), .dc (ci c), .dc (ci l)]] = some (vb (decide (h.c = c)), [.box [.dc (ci k), .dc (ci c), .dc (ci l)]]) := by
  refine EV_run rfl ?_
  simp (disch := omega) only [go_sem, h69c]
  try rfl
theorem p173_r (k c l : Int) (h : Gr) : EV G (Tb (bs bb)) 69 [h.v, .one (.ref [ci k, ci c, ci l])] [] = some (vb (decide (h.c = c)), []) := by
  refine EV_run rfl ?_
  simp (disch := omega) only [go_sem, h69c]
  try rfl
theorem p171_v (k c l : Int) (h : Wt) : EV G (Tb (bs bb)) 67 [h.v, .one (.ptr 0 0)] [.box [.dc (ci k), .dc (ci c), .dc (ci l)]] = some (vb (decide (h.c = c)), [.box [.dc (ci k), .dc (ci c), .dc (ci l)]]) := by
  refine EV_run rfl ?_
  simp (disch := omega) only [go_sem, h67c]
  try rfl
end
section
variable {G : Glob} {bb : Bool}
theorem oth_e (gs : List Gr) (c : Int) : (gs.filter fun r => !(decide (r.c = c))) = othG gs c := by
  unfold othG
  congr 1
  funext g
  simp
theorem mayHave_v (gs : List Gr) (ws : List Wt) (a : Ac) (hl : gs.length ≤ 100000) : EV G (Tb (bs bb)) 47 [flR gs ws, a.v] [] = some (vb (mayH gs ws a), []) := by
  refine EV_run rfl ?_
  have q1 := clone_g (G := G) (bb := bb) gs (by omega)
  have q2 := deleteFunc_v (G := G) (bb := bb) (fun r => decide (r.c = a.c)) 69 a.k a.c a.l (fun r => p173_v a.k a.c a.l r) (fun r => p173_r a.k a.c a.l r) gs (by omega)
  rw [oth_e] at q2
  have hol : (othG gs a.c).length ≤ gs.length := List.length_filter_le _ _
  have q3 := fun lv => p174_v (G := G) (bb := bb) lv (othG gs a.c) (List.replicate (gs.length - (othG gs a.c).length) [ci 0, ci 0, ci 0]) (by omega)
  unfold mayH
  by_cases h0 : ws.length > 0
  · rw [if_pos h0]
    simp (disch := omega) only [go_sem, h47c, q1, q2, q3, h0]
  · rw [if_neg h0]
    by_cases h3 : a.l = 3
    · rw [if_pos h3]
      simp (disch := omega) only [go_sem, h47c, q1, q2, q3, h0, eq_true h3]
      rw [show decide (((othG gs a.c).length : Int) = 0) = decide ((othG gs a.c).length = 0) from decide_eq_decide.2 (by omega)]
    · rw [if_neg h3]
      by_cases h2 : a.l = 2
      · rw [if_pos h2]
        simp (disch := omega) only [go_sem, h47c, q1, q2, q3, h0, h3, eq_true h2]
        rfl
      · rw [if_neg h2]
        simp (disch := omega) only [go_sem, h47c, q1, q2, q3, h0, h3, h2]
        rfl
theorem usErr_e (gs : List Gr) (ws : List Wt) (a : Ac) : usErr gs ws a = firstE [ifE (wi a.k 0 5) 15, ifE (isCl a.c && lvOK a) 2, ifE (!isW ws a.c) 18, ifE (decide (a.k ≠ 0) || !isIn gs a.c) 5, ifE (decide (a.k = 0) || isIn gs a.c) 6] := rfl
set_option maxHeartbeats 2000000 in
theorem usualErr_v (gs : List Gr) (ws : List Wt) (hs : Srt gs) (a : Ac) (hg : gs.length ≤ 100000) (hl : ws.length ≤ 100000) : EV G (Tb (bs bb)) 42 [flR gs ws, a.v] [] = some (vi (usErr gs ws a), []) := by
  refine EV_run rfl ?_
  have q := anyW_v (G := G) (bb := bb) 67 [ci a.k, ci a.c, ci a.l] (fun b => decide (b.c = a.c)) ws (by omega) (fun b _ => p171_v a.k a.c a.l b)
  simp only [List.map_cons, List.map_nil] at q
  rw [show (ws.any fun b => decide (b.c = a.c)) = isW ws a.c from rfl] at q
  rw [usErr_e]
  have hlv : lvOK a = if a.k = 1 then wi a.l 1 3 else decide (a.l = 0) := rfl
  rw [hlv]
  cases h : isIn gs a.c with
  | true =>
    have g1 := grant_y (G := G) (bb := bb) ws hs hg a.c h
    cases hc : isCl a.c with
    | true =>
      by_cases hk : a.k = 0
      · have hk1 : ¬ a.k = 1 := by omega
        simp (disch := omega) only [go_sem, h42c, q, g1, isClient_v, within_u, unless_u, first5, eq_true hk, hk1, h, hc]
        try rfl
      · by_cases hk1 : a.k = 1
        · simp (disch := omega) only [go_sem, h42c, q, g1, isClient_v, within_u, unless_u, first5, hk, eq_true hk1, h, hc]
          try rfl
        · simp (disch := omega) only [go_sem, h42c, q, g1, isClient_v, within_u, unless_u, first5, hk, hk1, h, hc]
          try rfl
    | false =>
      by_cases hk : a.k = 0
      · have hk1 : ¬ a.k = 1 := by omega
        simp (disch := omega) only [go_sem, h42c, q, g1, isClient_v, within_u, unless_u, first5, eq_true hk, hk1, h, hc]
        try rfl
      · by_cases hk1 : a.k = 1
        · simp (disch := omega) only [go_sem, h42c, q, g1, isClient_v, within_u, unless_u, first5, hk, eq_true hk1, h, hc]
          try rfl
        · simp (disch := omega) only [go_sem, h42c, q, g1, isClient_v, within_u, unless_u, first5, hk, hk1, h, hc]
          try rfl
  | false =>
    have g1 := grant_n (G := G) (bb := bb) ws hs hg a.c h
    cases hc : isCl a.c with
    | true =>
      by_cases hk : a.k = 0
      · have hk1 : ¬ a.k = 1 := by omega
        simp (disch := omega) only [go_sem, h42c, q, g1, isClient_v, within_u, unless_u, first5, eq_true hk, hk1, h, hc]
        try rfl
      · by_cases hk1 : a.k = 1
        · simp (disch := omega) only [go_sem, h42c, q, g1, isClient_v, within_u, unless_u, first5, hk, eq_true hk1, h, hc]
          try rfl
        · simp (disch := omega) only [go_sem, h42c, q, g1, isClient_v, within_u, unless_u, first5, hk, hk1, h, hc]
          try rfl
    | false =>
      by_cases hk : a.k = 0
      · have hk1 : ¬ a.k = 1 := by omega
        simp (disch := omega) only [go_sem, h42c, q, g1, isClient_v, within_u, unless_u, first5, eq_true hk, hk1, h, hc]
        try rfl
      · by_cases hk1 : a.k = 1
        · simp (disch := omega) only [go_sem, h42c, q, g1, isClient_v, within_u, unless_u, first5, hk, eq_true hk1, h, hc]
          try rfl
        · simp (disch := omega) only [go_sem, h42c, q, g1, isClient_v, within_u, unless_u, first5, hk, hk1, h, hc]
          try rfl
end
section
variable {G : Glob} {bb : Bool}
theorem bneft : (false != true) = true := rfl
theorem bnett : (true != true) = false := rfl
theorem acErr_e (gs : List Gr) (ws : List Wt) (a : Ac) (h : usErr gs ws a = 0) : acErr gs ws a = if isIn gs a.c = true ∧ wrong (grE gs a.c) a = true then 20 else if a.k = 1 ∧ mayH gs ws a = false then 24 else if isUs a.k = true ∧ ws.length = 8 then 16 else 0 := by
  unfold acErr
  rw [if_neg (by omega)]
set_option maxHeartbeats 4000000 in
theorem actErr_v (gs : List Gr) (ws : List Wt) (hs : Srt gs) (a : Ac) (hg : gs.length ≤ 100000) (hl : ws.length ≤ 100000) : EV G (Tb (bs bb)) 22 [flR gs ws, a.v] [] = some (vi (acErr gs ws a), []) := by
  refine EV_run rfl ?_
  have q := usualErr_v (G := G) (bb := bb) gs ws hs a hg hl
  have q1 := mayHave_v (G := G) (bb := bb) gs ws a hg
  by_cases hu : usErr gs ws a = 0
  · rw [acErr_e gs ws a hu]
    rw [hu] at q
    have e8 : ((ws.length : Int) = 8) = (ws.length = 8) := propext ⟨by omega, by omega⟩
    cases h : isIn gs a.c with
    | true =>
      have g1 := grant_y (G := G) (bb := bb) ws hs hg a.c h
      generalize grE gs a.c = g at *
      have hw : wrong g a = if a.k = 4 then decide (g.t = g.l) else if a.k = 5 then false else if a.k = 1 then decide (g.t ≠ g.l) || decide (a.l ≤ g.l) else decide (g.t ≠ g.l) := rfl
      by_cases ht : g.t = g.l
      · by_cases k4 : a.k = 4
        · have k1 : ¬ a.k = 1 := by omega
          rw [hw, if_pos k4, decide_eq_true ht, if_pos ⟨rfl, rfl⟩]
          simp (disch := omega) only [go_sem, h22c, bneft, bnett, q, g1, Gr.e, eq_true ht, eq_true k4, k1]
        · by_cases k5 : a.k = 5
          · have k1 : ¬ a.k = 1 := by omega
            rw [hw, if_neg k4, if_pos k5, if_neg (by simp), if_neg (by omega)]
            have hus : isUs a.k = false := by unfold isUs; simp; omega
            rw [if_neg (by simp [hus])]
            simp (disch := omega) only [go_sem, h22c, bneft, bnett, q, g1, Gr.e, eq_true ht, k4, eq_true k5, k1, isUse_v, hus]
          · by_cases k1 : a.k = 1
            · by_cases hal : a.l ≤ g.l
              · rw [hw, if_neg k4, if_neg k5, if_pos k1, decide_eq_true hal, Bool.or_true, if_pos ⟨rfl, rfl⟩]
                simp (disch := omega) only [go_sem, h22c, bneft, bnett, q, g1, Gr.e, eq_true ht, k4, k5, eq_true k1, hal]
              · rw [hw, if_neg k4, if_neg k5, if_pos k1, decide_eq_false hal, Bool.or_false, if_neg (by simp [ht])]
                have hus : isUs a.k = false := by unfold isUs; simp; omega
                cases hm : mayH gs ws a with
                | true =>
                  rw [hm] at q1
                  rw [if_neg (by simp), if_neg (by simp [hus])]
                  simp (disch := omega) only [go_sem, h22c, bneft, bnett, q, g1, q1, Gr.e, eq_true ht, k4, k5, eq_true k1, hal, isUse_v, hus]
                | false =>
                  rw [hm] at q1
                  rw [if_pos ⟨k1, rfl⟩]
                  simp (disch := omega) only [go_sem, h22c, bneft, bnett, q, g1, q1, Gr.e, eq_true ht, k4, k5, eq_true k1, hal, isUse_v, hus]
            · rw [hw, if_neg k4, if_neg k5, if_neg k1, if_neg (by simp [ht]), if_neg (fun h => k1 h.1)]
              cases hus : isUs a.k with
              | true =>
                by_cases h8 : ws.length = 8
                · have h8' : (ws.length : Int) = 8 := by omega
                  rw [if_pos ⟨rfl, h8⟩]
                  simp (disch := omega) only [go_sem, h22c, bneft, bnett, q, g1, Gr.e, eq_true ht, k4, k5, k1, isUse_v, hus, eq_true h8']
                · have h8' : ¬ (ws.length : Int) = 8 := by omega
                  rw [if_neg (fun h => h8 h.2)]
                  simp (disch := omega) only [go_sem, h22c, bneft, bnett, q, g1, Gr.e, eq_true ht, k4, k5, k1, isUse_v, hus, h8']
              | false =>
                rw [if_neg (by simp)]
                simp (disch := omega) only [go_sem, h22c, bneft, bnett, q, g1, Gr.e, eq_true ht, k4, k5, k1, isUse_v, hus]
      · by_cases k4 : a.k = 4
        · have k1 : ¬ a.k = 1 := by omega
          rw [hw, if_pos k4, decide_eq_false ht, if_neg (by simp), if_neg (by omega)]
          have hus : isUs a.k = false := by unfold isUs; simp; omega
          rw [if_neg (by simp [hus])]
          simp (disch := omega) only [go_sem, h22c, bneft, bnett, q, g1, Gr.e, ht, eq_true k4, k1, isUse_v, hus]
        · by_cases k5 : a.k = 5
          · have k1 : ¬ a.k = 1 := by omega
            rw [hw, if_neg k4, if_pos k5, if_neg (by simp), if_neg (by omega)]
            have hus : isUs a.k = false := by unfold isUs; simp; omega
            rw [if_neg (by simp [hus])]
            simp (disch := omega) only [go_sem, h22c, bneft, bnett, q, g1, Gr.e, ht, k4, eq_true k5, k1, isUse_v, hus]
          · by_cases k1 : a.k = 1
            · rw [hw, if_neg k4, if_neg k5, if_pos k1, if_pos ⟨rfl, by simp [ht]⟩]
              simp (disch := omega) only [go_sem, h22c, bneft, bnett, q, g1, Gr.e, ht, k4, k5, eq_true k1]
            · rw [hw, if_neg k4, if_neg k5, if_neg k1, if_pos ⟨rfl, by simp [ht]⟩]
              simp (disch := omega) only [go_sem, h22c, bneft, bnett, q, g1, Gr.e, ht, k4, k5, k1]
    | false =>
      have g1 := grant_n (G := G) (bb := bb) ws hs hg a.c h
      rw [if_neg (by simp)]
      by_cases k1 : a.k = 1
      · have hus : isUs a.k = false := by unfold isUs; simp; omega
        cases hm : mayH gs ws a with
        | true =>
          rw [hm] at q1
          rw [if_neg (by simp), if_neg (by simp [hus])]
          simp (disch := omega) only [go_sem, h22c, bneft, bnett, q, g1, q1, eq_true k1, isUse_v, hus]
        | false =>
          rw [hm] at q1
          rw [if_pos ⟨k1, rfl⟩]
          simp (disch := omega) only [go_sem, h22c, bneft, bnett, q, g1, q1, eq_true k1, isUse_v, hus]
      · rw [if_neg (fun h => k1 h.1)]
        cases hus : isUs a.k with
        | true =>
          by_cases h8 : ws.length = 8
          · have h8' : (ws.length : Int) = 8 := by omega
            rw [if_pos ⟨rfl, h8⟩]
            simp (disch := omega) only [go_sem, h22c, bneft, bnett, q, g1, k1, isUse_v, hus, eq_true h8']
          · have h8' : ¬ (ws.length : Int) = 8 := by omega
            rw [if_neg (fun h => h8 h.2)]
            simp (disch := omega) only [go_sem, h22c, bneft, bnett, q, g1, k1, isUse_v, hus, h8']
        | false =>
          rw [if_neg (by simp)]
          simp (disch := omega) only [go_sem, h22c, bneft, bnett, q, g1, k1, isUse_v, hus]
  · have e : acErr gs ws a = usErr gs ws a := by unfold acErr; rw [if_pos hu]
    rw [e]
    simp (disch := omega) only [go_sem, h22c, bneft, bnett, q, hu]
end
section
variable {G : Glob} {bb : Bool}
theorem ins_map (gs : List Gr) (c : Int) : (insG gs c).map Gr.e = ((gs.map Gr.e).take (pos gs c)) ++ [ci c, ci 0, ci 0] :: (gs.map Gr.e).drop (pos gs c) := by
  simp [insG, Gr.e]
theorem ins_len (gs : List Gr) (c : Int) : (insG gs c).length = gs.length + 1 := by
  have := pos_le gs c
  simp [insG]; omega
theorem insert_v (gs : List Gr) (c : Int) (hl : gs.length ≤ 1000000) :
    EV G (Tb (bs bb)) 83 [.one (.bld 0 gs.length), vi (pos gs c : Nat), vl [[ci c, ci 0, ci 0]]] [.arr 0 3 (gs.map Gr.e)] = some (.one (.bld 0 (gs.length + 1)), [.arr 0 3 ((insG gs c).map Gr.e)]) := by
  have hp := pos_le gs c
  refine EV_base rfl ?_
  rw [show (Tb (bs bb)).base = bs bb from rfl]
  unfold bs
  rw [if_neg (by decide), if_neg (by decide), if_pos rfl]
  unfold insK
  simp only
  rw [if_pos ⟨trivial, by omega, by simpa using hp, by simp, by omega, rfl⟩, ins_map]
  simp only [Int.toNat_natCast, List.take_of_length_le (show (gs.map Gr.e).length ≤ gs.length by simp)]
theorem done_v (gs : List Gr) (ws : List Wt) (hs : Srt gs) (c k : Int) (hl : gs.length ≤ 100000) :
    EV G (Tb (bs bb)) 75 [.one (.ptr 0 0), (Wt.mk c k).v] (fileH gs ws) = some (.tup [], fileH (did gs c k) ws) := by
  refine EV_run rfl ?_
  have q := place_v (G := G) (bb := bb) ws hs hl c
  have q1 := insert_v (G := G) (bb := bb) gs c (by omega)
  have e1 := ins_len gs c
  unfold did
  by_cases hk : k = 0
  · cases h : isIn gs c with
    | true =>
      rw [if_neg (by simp)]
      rw [h] at q
      simp (disch := omega) only [go_sem, h75c, q, hk]
    | false =>
      rw [if_pos ⟨hk, rfl⟩]
      rw [h] at q
      simp (disch := omega) only [go_sem, h75c, q, hk, q1]
      unfold fileH
      rw [e1]
  · rw [if_neg (by simp [hk])]
    simp (disch := omega) only [go_sem, h75c, q, hk]
end
end Go.Proofs.YtinageiefahjfaaDoor
