/- The reference's comparisons, of things that are the same; clients that are being broken. Conditions: none. -/
import Derived.Test.YtinageiefahjfaaGreatDoorUi
import Derived.Test.YtinageiefahjfaaGreatDoorWg
import Derived.Test.YtinageiefahjfaaGreatDoorUt
import Derived.Test.YtinageiefahjfaaGreatDoorWk
import Derived.Test.YtinageiefahjfaaGreatDoorRb
namespace Go.Proofs.YtinageiefahjfaaGreatDoor
set_option linter.unusedSimpArgs false
set_option linter.unusedVariables false
set_option maxRecDepth 4000
section
variable {G : Glob} {bb : Bool}
set_option maxHeartbeats 4000000 in
theorem grantErr_v (gs : List Gr) (ws : List Wt) (i : Nat) (hi : i < gs.length) (hl : gs.length ≤ 1000000) : EV G (Tb (bs bb)) 50 [flR gs ws, vi i] [] = some (vi (gErr gs i gs[i]), []) := by
  refine EV_run rfl ?_
  have q := any1_v (G := G) (bb := bb) 116 [ci gs[i].c, ci gs[i].l, ci gs[i].t] (fun h => decide (h.c ≠ gs[i].c)) gs hl (fun h _ => p116_v gs[i] h)
  simp only [List.map_cons, List.map_nil] at q
  rw [show (gs.any fun h => decide (h.c ≠ gs[i].c)) = othA gs gs[i].c from rfl] at q
  have q1 := p113_v (G := G) (bb := bb) gs ws gs[i] 1 hl
  have eg : (gs.map Gr.e)[i]? = some [ci gs[i].c, ci gs[i].l, ci gs[i].t] := by rw [List.getElem?_map, List.getElem?_eq_getElem hi]; rfl
  have hi1 : i - 1 < gs.length := by omega
  have eg1 : (gs.map Gr.e)[i - 1]? = some [ci gs[i-1].c, ci gs[i-1].l, ci gs[i-1].t] := by rw [List.getElem?_map, List.getElem?_eq_getElem hi1]; rfl
  rw [gErr_e, clash_e, grAt gs (i - 1) hi1]
  generalize gs[i] = g at *
  generalize gs[i - 1] = g1 at *
  have c1 : isCl g.c = false ∨ (isCl g.c = true ∧ wi g.l 0 3 = false) ∨ (isCl g.c = true ∧ wi g.l 0 3 = true) := by
    cases isCl g.c <;> cases wi g.l 0 3 <;> simp
  have c2 : (g.l ≥ 2 ∧ g.l ≠ 1 ∧ othL gs g.c 1 = true) ∨ (g.l ≥ 2 ∧ g.l ≠ 1 ∧ othL gs g.c 1 = false ∧ g.l = 3) ∨ (g.l ≥ 2 ∧ g.l ≠ 1 ∧ othL gs g.c 1 = false ∧ g.l ≠ 3) ∨ (¬g.l ≥ 2 ∧ g.l ≠ 3 ∧ g.l = 1) ∨ (¬g.l ≥ 2 ∧ g.l ≠ 3 ∧ g.l ≠ 1) := by
    cases othL gs g.c 1 <;> simp <;> omega
  rcases Nat.eq_zero_or_pos i with rfl | h0
  · rcases c1 with h1 | ⟨h1, h2⟩ | ⟨h1, h2⟩
    · rcases c2 with ⟨k1, k2, k3⟩ | ⟨k1, k2, k3, k4⟩ | ⟨k1, k2, k3, k4⟩ | ⟨k1, k2, k3⟩ | ⟨k1, k2, k3⟩
      · simp (disch := omega) only [go_sem, h50c, q, q1, eg, isClient_v, within_u, unless_u, first4, h1, k1, k2, k3]
      · simp (disch := omega) only [go_sem, h50c, q, q1, eg, isClient_v, within_u, unless_u, first4, h1, k1, k2, k3, eq_true k4]
      · simp (disch := omega) only [go_sem, h50c, q, q1, eg, isClient_v, within_u, unless_u, first4, h1, k1, k2, k3, k4]
      · simp (disch := omega) only [go_sem, h50c, q, q1, eg, isClient_v, within_u, unless_u, first4, h1, k1, k2, eq_true k3]
      · simp (disch := omega) only [go_sem, h50c, q, q1, eg, isClient_v, within_u, unless_u, first4, h1, k1, k2, k3]
    · rcases c2 with ⟨k1, k2, k3⟩ | ⟨k1, k2, k3, k4⟩ | ⟨k1, k2, k3, k4⟩ | ⟨k1, k2, k3⟩ | ⟨k1, k2, k3⟩
      · simp (disch := omega) only [go_sem, h50c, q, q1, eg, isClient_v, within_u, unless_u, first4, h1, h2, k1, k2, k3]
      · simp (disch := omega) only [go_sem, h50c, q, q1, eg, isClient_v, within_u, unless_u, first4, h1, h2, k1, k2, k3, eq_true k4]
      · simp (disch := omega) only [go_sem, h50c, q, q1, eg, isClient_v, within_u, unless_u, first4, h1, h2, k1, k2, k3, k4]
      · simp (disch := omega) only [go_sem, h50c, q, q1, eg, isClient_v, within_u, unless_u, first4, h1, h2, k1, k2, eq_true k3]
      · simp (disch := omega) only [go_sem, h50c, q, q1, eg, isClient_v, within_u, unless_u, first4, h1, h2, k1, k2, k3]
    · rcases c2 with ⟨k1, k2, k3⟩ | ⟨k1, k2, k3, k4⟩ | ⟨k1, k2, k3, k4⟩ | ⟨k1, k2, k3⟩ | ⟨k1, k2, k3⟩
      · simp (disch := omega) only [go_sem, h50c, q, q1, eg, isClient_v, within_u, unless_u, first4, h1, h2, k1, k2, k3]
      · simp (disch := omega) only [go_sem, h50c, q, q1, eg, isClient_v, within_u, unless_u, first4, h1, h2, k1, k2, k3, eq_true k4]
      · simp (disch := omega) only [go_sem, h50c, q, q1, eg, isClient_v, within_u, unless_u, first4, h1, h2, k1, k2, k3, k4]
      · simp (disch := omega) only [go_sem, h50c, q, q1, eg, isClient_v, within_u, unless_u, first4, h1, h2, k1, k2, eq_true k3]
      · simp (disch := omega) only [go_sem, h50c, q, q1, eg, isClient_v, within_u, unless_u, first4, h1, h2, k1, k2, k3]
  · have h0' : ¬ i = 0 := by omega
    rcases c1 with h1 | ⟨h1, h2⟩ | ⟨h1, h2⟩
    · rcases c2 with ⟨k1, k2, k3⟩ | ⟨k1, k2, k3, k4⟩ | ⟨k1, k2, k3, k4⟩ | ⟨k1, k2, k3⟩ | ⟨k1, k2, k3⟩
      · simp (disch := omega) only [go_sem, h50c, q, q1, eg, eg1, max0, h0', isClient_v, within_u, unless_u, first4, h1, k1, k2, k3]
      · simp (disch := omega) only [go_sem, h50c, q, q1, eg, eg1, max0, h0', isClient_v, within_u, unless_u, first4, h1, k1, k2, k3, eq_true k4]
      · simp (disch := omega) only [go_sem, h50c, q, q1, eg, eg1, max0, h0', isClient_v, within_u, unless_u, first4, h1, k1, k2, k3, k4]
      · simp (disch := omega) only [go_sem, h50c, q, q1, eg, eg1, max0, h0', isClient_v, within_u, unless_u, first4, h1, k1, k2, eq_true k3]
      · simp (disch := omega) only [go_sem, h50c, q, q1, eg, eg1, max0, h0', isClient_v, within_u, unless_u, first4, h1, k1, k2, k3]
    · rcases c2 with ⟨k1, k2, k3⟩ | ⟨k1, k2, k3, k4⟩ | ⟨k1, k2, k3, k4⟩ | ⟨k1, k2, k3⟩ | ⟨k1, k2, k3⟩
      · simp (disch := omega) only [go_sem, h50c, q, q1, eg, eg1, max0, h0', isClient_v, within_u, unless_u, first4, h1, h2, k1, k2, k3]
      · simp (disch := omega) only [go_sem, h50c, q, q1, eg, eg1, max0, h0', isClient_v, within_u, unless_u, first4, h1, h2, k1, k2, k3, eq_true k4]
      · simp (disch := omega) only [go_sem, h50c, q, q1, eg, eg1, max0, h0', isClient_v, within_u, unless_u, first4, h1, h2, k1, k2, k3, k4]
      · simp (disch := omega) only [go_sem, h50c, q, q1, eg, eg1, max0, h0', isClient_v, within_u, unless_u, first4, h1, h2, k1, k2, eq_true k3]
      · simp (disch := omega) only [go_sem, h50c, q, q1, eg, eg1, max0, h0', isClient_v, within_u, unless_u, first4, h1, h2, k1, k2, k3]
    · rcases c2 with ⟨k1, k2, k3⟩ | ⟨k1, k2, k3, k4⟩ | ⟨k1, k2, k3, k4⟩ | ⟨k1, k2, k3⟩ | ⟨k1, k2, k3⟩
      · simp (disch := omega) only [go_sem, h50c, q, q1, eg, eg1, max0, h0', isClient_v, within_u, unless_u, first4, h1, h2, k1, k2, k3]
      · simp (disch := omega) only [go_sem, h50c, q, q1, eg, eg1, max0, h0', isClient_v, within_u, unless_u, first4, h1, h2, k1, k2, k3, eq_true k4]
      · simp (disch := omega) only [go_sem, h50c, q, q1, eg, eg1, max0, h0', isClient_v, within_u, unless_u, first4, h1, h2, k1, k2, k3, k4]
      · simp (disch := omega) only [go_sem, h50c, q, q1, eg, eg1, max0, h0', isClient_v, within_u, unless_u, first4, h1, h2, k1, k2, eq_true k3]
      · simp (disch := omega) only [go_sem, h50c, q, q1, eg, eg1, max0, h0', isClient_v, within_u, unless_u, first4, h1, h2, k1, k2, k3]
end
section
variable {G : Glob} {bb : Bool}
theorem p49_v (gs : List Gr) (ws : List Wt) (i : Nat) (hi : i < gs.length) (hl : gs.length ≤ 1000000) (g : Gr) : EV G (Tb (bs bb)) 49 [vi i, g.v, .one (.ref [.ptr (flD gs ws)])] [] = some (vi (gErr gs i gs[i]), []) := by
  refine EV_run rfl ?_
  have q := grantErr_v (G := G) (bb := bb) gs ws i hi hl
  simp (disch := omega) only [go_sem, h49c, q]
end
section
variable {G : Glob} {bb : Bool}
theorem gErrs_e (gs : List Gr) : (List.range gs.length).map (fun i => gErr gs i (gs.getD i ⟨0, 0, 0⟩)) = gErrs gs := rfl
theorem wErrs_e (gs : List Gr) (ws : List Wt) : (List.range ws.length).map (fun i => wErr gs ws i (ws.getD i ⟨0, 0⟩)) = wErrs gs ws := rfl
theorem eachGr_v (gs : List Gr) (ws : List Wt) (hl : gs.length ≤ 1000000) : EV G (Tb (bs bb)) 48 [gsV gs, .one (.fn 49 [.ref [.ptr (flD gs ws)]])] [] = some (twoI (eachE 0 (gErrs gs)), []) := by
  rw [← gErrs_e]
  refine eachG_v 49 _ _ gs hl (fun i hi => ?_)
  rw [grAt gs i hi]
  exact p49_v gs ws i hi hl gs[i]
theorem eachWt_v (gs : List Gr) (ws : List Wt) (hs : Srt gs) (hg : gs.length ≤ 100000) (hl : ws.length ≤ 1000000) : EV G (Tb (bs bb)) 51 [wsV ws, .one (.fn 52 [.ref [.ptr (flD gs ws)]])] [] = some (twoI (eachE 0 (wErrs gs ws)), []) := by
  rw [← wErrs_e]
  refine eachW_v 52 _ _ ws hl (fun i hi => ?_)
  rw [wtAt ws i hi]
  exact p52_v gs ws hs i hi hg hl ws[i]
theorem gErrs_srt {gs : List Gr} (h1 : (eachE 0 (gErrs gs)).2 = 0) : Srt gs := by
  have key : ∀ j (hj : j < gs.length) i (hi : i < j), (gs[i]'(by omega)).c < gs[j].c := by
    intro j
    induction j with
    | zero => intro _ i hi; omega
    | succ j ih =>
      intro hj i hi
      have h5 := eachE_0 h1 (gErr gs (j + 1) (gs.getD (j + 1) ⟨0, 0, 0⟩)) (List.mem_map.2 ⟨j + 1, List.mem_range.2 hj, rfl⟩)
      unfold gErr at h5
      rw [firstE_0] at h5
      have h5 := h5 _ (List.mem_cons_of_mem _ List.mem_cons_self)
      rw [ifE_0 (by decide), Bool.or_eq_true, decide_eq_true_eq, decide_eq_true_eq, Nat.add_sub_cancel, grAt gs j (by omega), grAt gs (j + 1) hj] at h5
      have h5 : gs[j].c < gs[j + 1].c := by omega
      by_cases hij : i = j
      · subst hij; exact h5
      · have := ih (by omega) i (by omega)
        omega
  exact List.pairwise_iff_getElem.2 (fun i j hi hj hij => key j hj i hij)
theorem wErrs_k {gs : List Gr} {w : Wt} {ws : List Wt} (h : (eachE 0 (wErrs gs (w :: ws))).2 = 0) : w.k = 0 ∨ w.k = 2 ∨ w.k = 3 := by
  have h5 := eachE_0 h (wErr gs (w :: ws) 0 w) (List.mem_map.2 ⟨0, List.mem_range.2 (by simp), rfl⟩)
  unfold wErr at h5
  rw [firstE_0] at h5
  have h5 := h5 _ (List.mem_cons_of_mem _ List.mem_cons_self)
  rw [ifE_0 (by decide)] at h5
  simpa [isUs] using h5
theorem checkFile_v (hG : G 0 = some alD) (gs : List Gr) (ws : List Wt) (hg : gs.length ≤ 100000) (hw : ws.length ≤ 100000) : EV G (Tb (bs bb)) 12 [flV gs ws] [] = some (twoI (chk gs ws), []) := by
  refine EV_run rfl ?_
  have q1 := copied_v (G := G) (bb := bb) gs ws (by omega) (by omega)
  have q2 := eachGr_v (G := G) (bb := bb) gs ws (by omega)
  unfold chk
  by_cases h1 : gs.length > 8
  · rw [if_pos (.inl h1)]
    simp (disch := omega) only [go_sem, h12c, h1]
  by_cases h2 : ws.length > 8
  · rw [if_pos (.inr h2)]
    simp (disch := omega) only [go_sem, h12c, h1, h2]
  rw [if_neg (by omega)]
  by_cases h3 : (eachE 0 (gErrs gs)).2 = 0
  · rw [if_neg (by omega)]
    have hs := gErrs_srt h3
    have q3 := eachWt_v (G := G) (bb := bb) gs ws hs hg (by omega)
    by_cases h4 : (eachE 0 (wErrs gs ws)).2 = 0
    · rw [if_neg (by omega)]
      cases ws with
      | nil =>
        show _ = some (twoI (0, 0), [])
        have hn : ([] : List Wt).length = 0 := rfl
        generalize ([] : List Wt) = W at *
        have hn : (W.length : Int) = 0 := by omega
        simp (disch := omega) only [go_sem, h12c, h1, h2, q1, q2, q3, h3, h4, eq_true hn]
      | cons w ws =>
        show _ = some (twoI (0, ifE (decide ((brBs gs w.c w.k).length = 0) && held (brGs gs w.c w.k) w.c w.k) 20), [])
        have hk := wErrs_k h4
        have q4 := breaks_v (G := G) (bb := bb) hG gs (w :: ws) w.c w.k (kOK_us hk) (by omega)
        have q5 := held_v (G := G) (bb := bb) hG (brGs gs w.c w.k) (w :: ws) w.c w.k (kOK_us hk) (by rw [brGs_len]; omega)
        have e0 : ((w :: ws).map Wt.e)[0]? = some [ci w.c, ci w.k] := rfl
        have hn : ¬ (w :: ws).length = 0 := by simp
        have hb := brBs_len gs w.c w.k
        have e1 := brGs_len gs w.c w.k
        simp only [fileH, e1] at q4
        have tk : ((brGs gs w.c w.k).map Gr.e).take gs.length = (brGs gs w.c w.k).map Gr.e := List.take_of_length_le (by rw [List.length_map, e1]; omega)
        generalize w :: ws = W at *
        by_cases h5 : (brBs gs w.c w.k).length = 0
        · have h5' : ((brBs gs w.c w.k).length : Int) = 0 := by omega
          simp (disch := omega) only [go_sem, h12c, h1, h2, q1, q2, q3, h3, h4, q4, q5, e0, hn, eq_true h5, eq_true h5', unless_u, e1, tk]
        · simp (disch := omega) only [go_sem, h12c, h1, h2, q1, q2, q3, h3, h4, q4, q5, e0, hn, h5, unless_u, e1, tk]
    · rw [if_pos (by omega)]
      simp (disch := omega) only [go_sem, h12c, h1, h2, q1, q2, q3, h3, h4]
  · rw [if_pos (by omega)]
    simp (disch := omega) only [go_sem, h12c, h1, h2, q1, q2, h3]
end
section
variable {G : Glob} {bb : Bool}
theorem rnX_M : ∀ (l : List Ac) (gs : List Gr) (ws : List Wt) (out : List An) (n : Nat), (∀ a ∈ l, True) → runM gs ws out n l = if (rnX gs ws out n l).2.2 = 0 then ((rnX gs ws out n l).1, ((n + l.length : Nat) : Int), 0) else (([], [], []), (rnX gs ws out n l).2)
  | [], gs, ws, out, n, _ => by rw [rnX, runM, if_pos rfl]; rfl
  | a :: l, gs, ws, out, n, _ => by
    rw [rnX, runM]
    by_cases he : acErr gs ws a = 0
    · rw [if_pos he, if_pos he, rnX_M l _ _ _ _ (fun _ _ => trivial), List.length_cons, show n + 1 + l.length = n + (l.length + 1) by omega]
    · rw [if_neg he, if_neg he, if_neg (by simpa using he)]
abbrev runV (r : (List Gr × List Wt × List An) × Int × Int) : AV := .tup [.agg [.dc (.slc (r.1.1.map Gr.e)), .dc (.slc (r.1.2.1.map Wt.e))], .one (.dc (.slc (r.1.2.2.map An.e))), .one (.dc (.raw (.int .i64 r.2.1))), .one (.dc (.raw (.int .i64 r.2.2)))]
set_option maxHeartbeats 1000000 in
theorem runOf_v (hG : G 0 = some alD) (l : List Ac) (hl : l.length ≤ 1000000) : EV G (Tb (bs bb)) 15 [acsV l] [] = some (runV (runF l), []) := by
  refine EV_run rfl ?_
  unfold runF
  by_cases h : l.length > 100
  · rw [if_pos h]
    simp (disch := omega) only [go_sem, h15c, h]
    try rfl
  · rw [if_neg h, rnX_M l [] [] [] 0 (fun _ _ => trivial)]
    have q := each61_v (bb := bb) hG l (by omega)
    generalize rnX [] [] [] 0 l = r at *
    obtain ⟨⟨gs, ws, out⟩, n, e⟩ := r
    simp only [runH, List.length_nil, List.map_nil] at q
    by_cases he : e = 0
    · subst he
      rw [if_pos rfl]
      simp (disch := omega) only [go_sem, h15c, h, evJ_6, q, List.take_length]
      rw [fvT_b (by rfl) (by simp)]
      simp (disch := omega) only [go_sem, List.take_length]
    · rw [if_neg (by simpa using he)]
      simp (disch := omega) only [go_sem, h15c, h, evJ_6, q, he]
      rfl
end
section
variable {G : Glob} {bb : Bool}
abbrev rspV (r : List Gr × List Wt × An) : AV := .tup [.agg [.dc (.slc (r.1.map Gr.e)), .dc (.slc (r.2.1.map Wt.e))], .agg [.dc (.raw (.bool r.2.2.d)), .dc (.slc (r.2.2.b.map Br.e)), .dc (.slc (r.2.2.f.map Wt.e))]]
set_option maxHeartbeats 2000000 in
theorem rstep_w (gs : List Gr) (w : Wt) (ws : List Wt) (a : Ac) (hl : gs.length ≤ 1000) (hw : ws.length ≤ 1000) (us : isUs a.k = true) :
    EV G (Tb (bs bb)) 74 [flV gs (w :: ws), a.v] [] = some (rspV (gs, (w :: ws) ++ [⟨a.c, a.k⟩], ⟨false, [], []⟩), []) := by
  refine EV_run rfl ?_
  have q := rcopy_v (G := G) (bb := bb) gs (w :: ws) (by omega) (by simp; omega)
  have q4 := rwaits_v (G := G) (bb := bb) a.k
  rw [us] at q4
  have hn : ¬ ((w :: ws).length : Int) = 0 := by simp; omega
  have hln : (w :: ws).length ≤ 1001 := by simp; omega
  have e1 : ((w :: ws) ++ [(⟨a.c, a.k⟩ : Wt)]).map Wt.e = (w :: ws).map Wt.e ++ [[ci a.c, ci a.k]] := by rw [List.map_append]; rfl
  rw [show rspV (gs, (w :: ws) ++ [⟨a.c, a.k⟩], ⟨false, [], []⟩) = .tup [.agg [.dc (.slc (gs.map Gr.e)), .dc (.slc ((w :: ws).map Wt.e ++ [[ci a.c, ci a.k]]))], .agg [.dc (.raw (.bool false)), .dc (.slc []), .dc (.slc [])]] from by rw [← e1]; rfl]
  generalize w :: ws = W at *
  have tk : List.take (W.length + 1) (W.map Wt.e ++ [[ci a.c, ci a.k]]) = W.map Wt.e ++ [[ci a.c, ci a.k]] := List.take_of_length_le (by simp)
  simp (disch := omega) only [go_sem, h74c, q, q4, hn, List.take_length, allLen_wt]
  rw [fvT_b (by rfl) (by simp)]
  simp (disch := omega) only [go_sem]
  rw [fvT_b (by rfl) (by simp)]
  simp (disch := omega) only [go_sem, tk, List.take_length, List.length_append, List.length_cons, List.length_nil]
  try rfl
end
section
variable {G : Glob} {bb : Bool}
set_option maxHeartbeats 2000000 in
theorem rstep_h (gs : List Gr) (a : Ac) (hl : gs.length ≤ 1000) (us : isUs a.k = true) (hh : held (brGs gs a.c a.k) a.c a.k = true) :
    EV G (Tb (bs bb)) 74 [flV gs [], a.v] [] = some (rspV (brGs gs a.c a.k, [⟨a.c, a.k⟩], ⟨false, brBs gs a.c a.k, []⟩), []) := by
  refine EV_run rfl ?_
  have q := rcopy_v (G := G) (bb := bb) gs [] (by omega) (by simp)
  have q1 := rbroken_v (G := G) (bb := bb) gs [] a.c a.k (by omega) (by simp)
  have q4 := rwaits_v (G := G) (bb := bb) a.k
  have e0 := brGs_len gs a.c a.k
  have q2 := rheld_v (G := G) (bb := bb) (brGs gs a.c a.k) [] a.c a.k (by omega)
  rw [us] at q4
  rw [hh] at q2
  simp only [brkH, flV, List.length_nil, List.map_nil] at q q1 q2
  generalize brGs gs a.c a.k = gs' at *
  generalize brBs gs a.c a.k = bs' at *
  have tg : List.take gs.length (gs'.map Gr.e) = gs'.map Gr.e := List.take_of_length_le (by simp; omega)
  have tb : List.take bs'.length (bs'.map Br.e) = bs'.map Br.e := List.take_of_length_le (by simp)
  simp (maxSteps := 1000000) (disch := omega) only [go_sem, h74c, q, q1, q2, q4, e0, tg, tb, List.take_length, List.length_nil, List.map_nil]
  rw [fvT_b (by rfl) (by simp)]
  simp (disch := omega) only [go_sem]
  rw [fvT_b (by rfl) (by simp)]
  simp (disch := omega) only [go_sem, tg, tb, List.take_length]
  try rfl
end
section
variable {G : Glob} {bb : Bool}
set_option maxHeartbeats 2000000 in
theorem rstep_d (gs : List Gr) (a : Ac) (hl : gs.length ≤ 1000) (us : isUs a.k = true) (hh : held (brGs gs a.c a.k) a.c a.k = false) :
    EV G (Tb (bs bb)) 74 [flV gs [], a.v] [] = some (rspV (didF (brGs gs a.c a.k) a.c a.k, [], ⟨true, brBs gs a.c a.k, []⟩), []) := by
  refine EV_run rfl ?_
  have q := rcopy_v (G := G) (bb := bb) gs [] (by omega) (by simp)
  have q1 := rbroken_v (G := G) (bb := bb) gs [] a.c a.k (by omega) (by simp)
  have q4 := rwaits_v (G := G) (bb := bb) a.k
  have e0 := brGs_len gs a.c a.k
  have q2 := rheld_v (G := G) (bb := bb) (brGs gs a.c a.k) [] a.c a.k (by omega)
  have q3 := rdid_v (G := G) (bb := bb) (brGs gs a.c a.k) [] a.c a.k (by omega)
  rw [us] at q4
  rw [hh] at q2
  simp only [brkH, flV, List.length_nil, List.map_nil] at q q1 q2 q3
  generalize didF (brGs gs a.c a.k) a.c a.k = gd at *
  generalize brGs gs a.c a.k = gs' at *
  generalize brBs gs a.c a.k = bs' at *
  have tg : List.take gs.length (gs'.map Gr.e) = gs'.map Gr.e := List.take_of_length_le (by simp; omega)
  have tb : List.take bs'.length (bs'.map Br.e) = bs'.map Br.e := List.take_of_length_le (by simp)
  simp (maxSteps := 1000000) (disch := omega) only [go_sem, h74c, q, q1, q2, q3, q4, e0, tg, tb, meetE_e, List.take_length, List.length_nil, List.map_nil]
  try rfl
end
section
variable {G : Glob} {bb : Bool}
theorem open_n (hG : G 0 = some alD) (gs : List Gr) (ws : List Wt) (hg : gs.length ≤ 100000) (hw : ws.length ≤ 100000) (h : (chk gs ws).2 ≠ 0) : EV G (Tb (bs bb)) 72 [flV gs ws] [] = some (.tup [.one (.dc (.raw (.pointer none))), .one (.dc (ci (chk gs ws).2))], []) := by
  refine EV_run rfl ?_
  have q := checkFile_v (G := G) (bb := bb) hG gs ws hg hw
  simp (disch := omega) only [go_sem, h72c, q, h]
  try rfl
theorem open_y (hG : G 0 = some alD) (gs : List Gr) (ws : List Wt) (hg : gs.length ≤ 100000) (hw : ws.length ≤ 100000) (h : (chk gs ws).2 = 0) : EV G (Tb (bs bb)) 72 [flV gs ws] [] = some (.tup [.one (.ptr 4 0), .one (.dc (ci 0))], [.box [.dc (.slc (gs.map Gr.e)), .dc (.slc (ws.map Wt.e))], .box [.dc (.slc (gs.map Gr.e)), .dc (.slc (ws.map Wt.e))], .arr 0 3 (gs.map Gr.e), .arr 0 2 (ws.map Wt.e), .box [.bld 2 gs.length, .bld 3 ws.length]]) := by
  refine EV_run rfl ?_
  have q := checkFile_v (G := G) (bb := bb) hG gs ws hg hw
  have q1 := copied_v (G := G) (bb := bb) gs ws (by omega) (by omega)
  simp (disch := omega) only [go_sem, h72c, q, q1, h]
  try rfl
def stpF (gs : List Gr) (ws : List Wt) (a : Ac) : (List Gr × List Wt × An) × Int :=
  if (chk gs ws).2 = 0 then (if acErr gs ws a = 0 then (stp gs ws a, 0) else (([], [], ⟨false, [], []⟩), acErr gs ws a)) else (([], [], ⟨false, [], []⟩), (chk gs ws).2)
abbrev stpV (r : (List Gr × List Wt × An) × Int) : AV := .tup [.agg [.dc (.slc (r.1.1.map Gr.e)), .dc (.slc (r.1.2.1.map Wt.e))], .agg [.dc (.raw (.bool r.1.2.2.d)), .dc (.slc (r.1.2.2.b.map Br.e)), .dc (.slc (r.1.2.2.f.map Wt.e))], .one (.dc (.raw (.int .i64 r.2)))]
theorem ac_us {gs : List Gr} {ws : List Wt} {a : Ac} (h : acErr gs ws a = 0) : (0 ≤ a.k ∧ a.k ≤ 5) ∧ (a.k ≠ 0 → isIn gs a.c = true) := by
  have hu : usErr gs ws a = 0 := by
    unfold acErr at h
    split at h
    · rename_i h1; exact absurd h h1
    · rename_i h1; exact Classical.not_not.1 h1
  obtain ⟨h1, h2, h3, h4, h5⟩ := us_ok hu
  refine ⟨h1, fun h0 => ?_⟩
  cases hi : isIn gs a.c with
  | true => rfl
  | false => exact absurd (h5.2 hi) h0
theorem stepped_v (hG : G 0 = some alD) (gs : List Gr) (ws : List Wt) (a : Ac) (hg : gs.length ≤ 100000) (hw : ws.length ≤ 100000) : EV G (Tb (bs bb)) 22 [flV gs ws, a.v] [] = some (stpV (stpF gs ws a), []) := by
  refine EV_run rfl ?_
  unfold stpF
  by_cases h : (chk gs ws).2 = 0
  · rw [if_pos h]
    have q := open_y (bb := bb) hG gs ws hg hw h
    obtain ⟨hV, hH⟩ := chk_ok h
    have h1 := hV.gl
    have h2 := hV.wl
    have q1 := actErr_v (G := G) (bb := bb) gs ws hV.so a hg hw
    by_cases he : acErr gs ws a = 0
    · rw [if_pos he]
      rw [he] at q1
      obtain ⟨h3, h4⟩ := ac_us he
      have q2 := step_v (bb := bb) hG gs ws a hV.so (fun w hw => kOK_us (hV.wr w hw).2.1) h3 h4 (by omega)
      generalize stp gs ws a = s at *
      obtain ⟨gs', ws', an⟩ := s
      simp only [fileH] at q2
      simp (disch := omega) only [go_sem, h22c, q, q1, q2, evJ_3]
      rw [fvT_b (by rfl) (by simp)]
      simp (disch := omega) only [go_sem]
      rw [fvT_b (by rfl) (by simp)]
      simp (disch := omega) only [go_sem, List.take_length]
      try rfl
    · rw [if_neg he]
      simp (disch := omega) only [go_sem, h22c, q, q1, he]
      try rfl
  · rw [if_neg h]
    have q := open_n (bb := bb) hG gs ws hg hw h
    simp (disch := omega) only [go_sem, h22c, q, h]
    try rfl
end
section
def Nb (gs : List Gr) (ws : List Wt) : Prop := ∀ w ∈ ws, ∀ g ∈ gs, g.c = w.c → g.l ≤ 1
theorem Nb.nil {gs : List Gr} : Nb gs [] := fun w hw => by cases hw
def rdy (gs : List Gr) : List Int := (gs.filter fun g => decide (g.t ≠ g.l)).map (·.c)
end
section
variable {G : Glob} {bb : Bool}
def upd {α : Type} (f : Nat → α) (n : Nat) (x : α) : Nat → α := fun m => if m = n then x else f m
def caC (p s n : Nat) (v : Int) (K : Nat → Int) (D : Nat → Bool) (W : Nat → Int) : List Cel :=
  [.ptr p 0, .dc (ci v), .dc (ci (K 0)), .dc (ci (K 1)), .dc (ci (K 2)), .dc (ci (K 3)), .dc (ci (K 4)), .dc (ci (K 5)), .dc (ci (K 6)), .dc (ci (K 7)), .dc (ci (K 8)),
   .dc (.raw (.bool (D 0))), .dc (.raw (.bool (D 1))), .dc (.raw (.bool (D 2))), .dc (.raw (.bool (D 3))), .dc (.raw (.bool (D 4))), .dc (.raw (.bool (D 5))), .dc (.raw (.bool (D 6))), .dc (.raw (.bool (D 7))), .dc (.raw (.bool (D 8))),
   .dc (ci (W 0)), .dc (ci (W 1)), .dc (ci (W 2)), .dc (ci (W 3)), .dc (ci (W 4)), .dc (ci (W 5)), .dc (ci (W 6)), .dc (ci (W 7)), .dc (ci (W 8)), .bld s n]
def jkC : Bool → Bool → List Cel → List Cel
  | false, false, cs => cs
  | false, true, cs => cs.set 29 .junk
  | true, false, cs => cs.set 0 .junk
  | true, true, cs => (cs.set 0 .junk).set 29 .junk
theorem jk_ff {cs : List Cel} : jkC false false cs = cs := rfl
theorem jk_ft {cs : List Cel} : jkC false true cs = cs.set 29 .junk := rfl
theorem bneff : (false != false) = false := rfl
theorem bnetf : (true != false) = true := rfl
section
variable {p s n : Nat} {v : Int} {K : Nat → Int} {D : Nat → Bool} {W : Nat → Int}
theorem caC_len : (caC p s n v K D W).length = 30 := rfl
theorem caC_0 : ((caC p s n v K D W).drop 0).take 1 = [.ptr p 0] := rfl
theorem caC_0' : (caC p s n v K D W).take 1 = [.ptr p 0] := rfl
theorem caC_1 : ((caC p s n v K D W).drop 1).take 1 = [.dc (ci v)] := rfl
theorem caC_29 : ((caC p s n v K D W).drop 29).take 1 = [.bld s n] := rfl
theorem caC_k {m : Nat} (h : m < 9) : ((caC p s n v K D W).drop (2 + m)).take 1 = [.dc (ci (K m))] := by
  match m, h with
  | 0, _ => rfl | 1, _ => rfl | 2, _ => rfl | 3, _ => rfl | 4, _ => rfl | 5, _ => rfl | 6, _ => rfl | 7, _ => rfl | 8, _ => rfl
theorem caC_d {m : Nat} (h : m < 9) : ((caC p s n v K D W).drop (11 + m)).take 1 = [.dc (.raw (.bool (D m)))] := by
  match m, h with
  | 0, _ => rfl | 1, _ => rfl | 2, _ => rfl | 3, _ => rfl | 4, _ => rfl | 5, _ => rfl | 6, _ => rfl | 7, _ => rfl | 8, _ => rfl
theorem caC_w {m : Nat} (h : m < 9) : ((caC p s n v K D W).drop (20 + m)).take 1 = [.dc (ci (W m))] := by
  match m, h with
  | 0, _ => rfl | 1, _ => rfl | 2, _ => rfl | 3, _ => rfl | 4, _ => rfl | 5, _ => rfl | 6, _ => rfl | 7, _ => rfl | 8, _ => rfl
theorem caP_1 {x : Int} : putAt (caC p s n v K D W) 1 [.dc (ci x)] = caC p s n x K D W := rfl
theorem caP_29 {s' n' : Nat} : putAt (caC p s n v K D W) 29 [.bld s' n'] = caC p s' n' v K D W := rfl
theorem caP_k {m : Nat} (h : m < 9) {x : Int} : putAt (caC p s n v K D W) (2 + m) [.dc (ci x)] = caC p s n v (upd K m x) D W := by
  match m, h with
  | 0, _ => rfl | 1, _ => rfl | 2, _ => rfl | 3, _ => rfl | 4, _ => rfl | 5, _ => rfl | 6, _ => rfl | 7, _ => rfl | 8, _ => rfl
theorem caP_d {m : Nat} (h : m < 9) {x : Bool} : putAt (caC p s n v K D W) (11 + m) [.dc (.raw (.bool x))] = caC p s n v K (upd D m x) W := by
  match m, h with
  | 0, _ => rfl | 1, _ => rfl | 2, _ => rfl | 3, _ => rfl | 4, _ => rfl | 5, _ => rfl | 6, _ => rfl | 7, _ => rfl | 8, _ => rfl
theorem caP_w {m : Nat} (h : m < 9) {x : Int} : putAt (caC p s n v K D W) (20 + m) [.dc (ci x)] = caC p s n v K D (upd W m x) := by
  match m, h with
  | 0, _ => rfl | 1, _ => rfl | 2, _ => rfl | 3, _ => rfl | 4, _ => rfl | 5, _ => rfl | 6, _ => rfl | 7, _ => rfl | 8, _ => rfl
theorem caC_kp {J : List Nat} : kpCs J (caC p s n v K D W) = (memN p J && memN s J) := by
  simp only [caC, kpCs, kpC, Bool.true_and, Bool.and_true]
theorem caC_id : idsL (caC p s n v K D W) = [p, s] := rfl
theorem caC_ren {f : Nat → Nat} : (caC p s n v K D W).map (renC f) = caC (f p) (f s) n v K D W := rfl
theorem caC_ct {m : Nat} : ctCs m (caC p s n v K D W) = jkC (decide (m ≤ p)) (decide (m ≤ s)) (caC p s n v K D W) := by
  by_cases h1 : m ≤ p <;> by_cases h2 : m ≤ s <;> simp [caC, ctCs, ctC, jkC, h1, h2]
theorem caC_ka {A : List Nat} : kaCs A (caC p s n v K D W) = jkC (memN p A) (memN s A) (caC p s n v K D W) := by
  cases h1 : memN p A <;> cases h2 : memN s A <;> simp [caC, kaCs, kaC, jkC, h1, h2]
theorem caC_kl {i : Nat} : klCs i (caC p s n v K D W) = jkC (nq p i) (nq s i) (caC p s n v K D W) := by
  cases h1 : nq p i <;> cases h2 : nq s i <;> simp [caC, klCs, klC, jkC, h1, h2]
theorem caC_kill {f : Nat → Bool} : (caC p s n v K D W).map (killC f) = jkC (f p) (f s) (caC p s n v K D W) := by
  cases h1 : f p <;> cases h2 : f s <;> simp [caC, killC, Cel.keep, jkC, h1, h2]
theorem caJ_29 {s' n' : Nat} : putAt ((caC p s n v K D W).set 29 .junk) 29 [.bld s' n'] = caC p s' n' v K D W := rfl
theorem caJ_len : ((caC p s n v K D W).set 29 .junk).length = 30 := rfl
end
attribute [go_sem] caC_len caC_0 caC_0' caC_1 caC_29 caC_k caC_d caC_w caP_1 caP_29 caP_k caP_d caP_w caC_kp caC_id caC_ren caC_ct caC_ka caC_kl jk_ff jk_ft bneff bnetf caC_kill caJ_29 caJ_len
theorem evJ_5 {call : CallT} {d : Option Nat} {f : FuncId} {avs : List AV} {st : AS} {a0 a1 a2 a3 a4 : Nat} : evJ call d f avs st [a0, a1, a2, a3, a4] = evB call d f avs st [a0, a1, a2, a3, a4] (dstN [a0, a1, a2, a3, a4] && kpH [a0, a1, a2, a3, a4] st.hp [a0, a1, a2, a3, a4] && kpVs [a0, a1, a2, a3, a4] avs) := evJ_e _
def ci0 (i : Int) : List DC := [ci i]
abbrev caH (gs : List Gr) (ws : List Wt) (v : Int) (K : Nat → Int) (D : Nat → Bool) (W : Nat → Int) (sn : List Int) : List AObj := [.box (caC 1 4 sn.length v K D W), .box [.bld 2 gs.length, .bld 3 ws.length], .arr 0 3 (gs.map Gr.e), .arr 0 2 (ws.map Wt.e), .arr 0 1 (sn.map ci0)]
theorem grant_oy {gs : List Gr} (ws : List Wt) (hs : Srt gs) (hl : gs.length ≤ 100000) (c : Int) (h : isIn gs c = true) : EV G (Tb (bs bb)) 78 [.one (.ptr 0 0), vi c] (fileH gs ws) = some (.one (.ept 1 (pos gs c) 3 0), fileH gs ws) := by
  refine EV_run rfl ?_
  obtain ⟨hk, he⟩ := (isIn_iff hs c).1 h
  have q := place_v (G := G) (bb := bb) ws hs hl c
  rw [h] at q
  simp (disch := omega) only [go_sem, h78c, q]
theorem grant_on {gs : List Gr} (ws : List Wt) (hs : Srt gs) (hl : gs.length ≤ 100000) (c : Int) (h : isIn gs c = false) : EV G (Tb (bs bb)) 78 [.one (.ptr 0 0), vi c] (fileH gs ws) = some (.one (.dc (.raw (.pointer none))), fileH gs ws) := by
  refine EV_run rfl ?_
  have q := place_v (G := G) (bb := bb) ws hs hl c
  rw [h] at q
  simp (disch := omega) only [go_sem, h78c, q]
def lvF (gs : List Gr) (c : Int) : Int := if isIn gs c = true then (grE gs c).l else -1
def brF (gs : List Gr) (c : Int) : Bool := if isIn gs c = true then decide ((grE gs c).t ≠ (grE gs c).l) else false
theorem level_v {gs : List Gr} (ws : List Wt) (hs : Srt gs) (hl : gs.length ≤ 100000) (v : Int) (K : Nat → Int) (D : Nat → Bool) (W : Nat → Int) (sn : List Int) (c : Int) :
    EV G (Tb (bs bb)) 132 [.one (.ptr 0 0), vi c] (caH gs ws v K D W sn) = some (.tup [.one (.dc (ci (lvF gs c))), .one (.dc (.raw (.bool (brF gs c))))], caH gs ws v K D W sn) := by
  refine EV_run rfl ?_
  unfold lvF brF
  cases h : isIn gs c with
  | true =>
    have q := grant_oy (G := G) (bb := bb) ws hs hl c h
    obtain ⟨hk, he⟩ := (isIn_iff hs c).1 h
    have eg : (gs.map Gr.e)[pos gs c]? = some [ci (grE gs c).c, ci (grE gs c).l, ci (grE gs c).t] := by rw [List.getElem?_map, List.getElem?_eq_getElem hk, grE, grAt gs _ hk]; rfl
    generalize grE gs c = g at *
    simp (disch := omega) only [go_sem, h132c, q, evJ_5, eg]
  | false =>
    have q := grant_on (G := G) (bb := bb) ws hs hl c h
    simp (disch := omega) only [go_sem, h132c, q, evJ_5]
end
section
variable {G : Glob} {bb : Bool}
theorem sameW_v (l : List Wt) (hl : l.length ≤ 1000000) : EV G (Tb (bs bb)) 65 [vl (l.map Wt.e), vl (l.map Wt.e)] [] = some (vb true, []) := by
  refine EV_run rfl ?_
  simp (disch := omega) only [go_sem, h65c]
  rw [EL_loop (fun j => ⟨(vl (l.map Wt.e) :: vl (l.map Wt.e) :: jk 3 (vi j :: jk 20 [])), []⟩) l.length ?_ ?_]
  rotate_left
  · rfl
  · intro j hj
    have eg : (l.map Wt.e)[j]? = some [ci l[j].c, ci l[j].k] := by rw [List.getElem?_map, List.getElem?_eq_getElem hj]; rfl
    generalize l[j] = g at *
    simp (disch := omega) only [go_sem, h65l0, eg]
  simp (disch := omega) only [go_sem, h65l0]
theorem sameB_v (l : List Br) (hl : l.length ≤ 1000000) : EV G (Tb (bs bb)) 26 [vl (l.map Br.e), vl (l.map Br.e)] [] = some (vb true, []) := by
  refine EV_run rfl ?_
  simp (disch := omega) only [go_sem, h26c]
  rw [EL_loop (fun j => ⟨(vl (l.map Br.e) :: vl (l.map Br.e) :: jk 3 (vi j :: jk 20 [])), []⟩) l.length ?_ ?_]
  rotate_left
  · rfl
  · intro j hj
    have eg : (l.map Br.e)[j]? = some [ci l[j].c, ci l[j].t] := by rw [List.getElem?_map, List.getElem?_eq_getElem hj]; rfl
    generalize l[j] = g at *
    simp (disch := omega) only [go_sem, h26l0, eg]
  simp (disch := omega) only [go_sem, h26l0]
theorem same_v (gs : List Gr) (ws : List Wt) (hl : gs.length ≤ 1000000) (hw : ws.length ≤ 1000000) : EV G (Tb (bs bb)) 17 [flV gs ws, flV gs ws] [] = some (vb true, []) := by
  refine EV_run rfl ?_
  have q := sameW_v (G := G) (bb := bb) ws hw
  simp (disch := omega) only [go_sem, h17c, q]
  rw [EL_loop (fun j => ⟨(jk 2 (.one (.ptr 0 0) :: .one (.ptr 1 0) :: jk 1 (vi j :: jk 33 []))), [.box [.dc (.slc (gs.map Gr.e)), .dc (.slc (ws.map Wt.e))], .box [.dc (.slc (gs.map Gr.e)), .dc (.slc (ws.map Wt.e))]]⟩) gs.length ?_ ?_]
  rotate_left
  · rfl
  · intro j hj
    have eg : (gs.map Gr.e)[j]? = some [ci gs[j].c, ci gs[j].l, ci gs[j].t] := by rw [List.getElem?_map, List.getElem?_eq_getElem hj]; rfl
    generalize gs[j] = g at *
    simp (disch := omega) only [go_sem, h17l0, eg]
  simp (disch := omega) only [go_sem, h17l0]
theorem sameAn_v (a : An) (hb : a.b.length ≤ 1000000) (hf : a.f.length ≤ 1000000) : EV G (Tb (bs bb)) 18 [a.v, a.v] [] = some (vb true, []) := by
  refine EV_run rfl ?_
  have q := sameW_v (G := G) (bb := bb) a.f hf
  have q1 := sameB_v (G := G) (bb := bb) a.b hb
  simp (disch := omega) only [go_sem, h18c, q, q1, beq_self_eq_true]
def rdyK (gs : List Gr) (k : Nat) : List Int := rdy (gs.take k)
theorem rdyK_s (gs : List Gr) (k : Nat) (h : k < gs.length) : rdyK gs (k + 1) = rdyK gs k ++ (if gs[k].t ≠ gs[k].l then [gs[k].c] else []) := by
  unfold rdyK rdy
  rw [List.take_add_one, List.getElem?_eq_getElem h, Option.toList_some, List.filter_append, List.map_append]
  congr 1
  by_cases h1 : gs[k].t = gs[k].l
  · simp [h1]
  · simp [h1]
theorem rdyK_len (gs : List Gr) (k : Nat) : (rdyK gs k).length ≤ k := by
  unfold rdyK rdy
  rw [List.length_map]
  have := List.length_filter_le (fun g : Gr => decide (g.t ≠ g.l)) (gs.take k)
  have := List.length_take_le k gs
  omega
theorem rdyK_all (gs : List Gr) : rdyK gs gs.length = rdy gs := by unfold rdyK; rw [List.take_length]
theorem rready_v (gs : List Gr) (ws : List Wt) (hl : gs.length ≤ 100000) : EV G (Tb (bs bb)) 32 [flV gs ws] [] = some (vl ((rdy gs).map ci0), []) := by
  refine EV_run rfl ?_
  simp (disch := omega) only [go_sem, h32c]
  rw [EL_loop (fun j => ⟨(jk 1 (.one (.ptr 0 0) :: jk 1 (.one (.bld 1 (rdyK gs j).length) :: vi j :: jk 30 []))), [.box [.dc (.slc (gs.map Gr.e)), .dc (.slc (ws.map Wt.e))], .arr 0 1 ((rdyK gs j).map ci0)]⟩) gs.length ?_ ?_]
  rotate_left
  · rfl
  · intro j hj
    have eg : (gs.map Gr.e)[j]? = some [ci gs[j].c, ci gs[j].l, ci gs[j].t] := by rw [List.getElem?_map, List.getElem?_eq_getElem hj]; rfl
    rw [rdyK_s gs j hj]
    have ln := rdyK_len gs j
    generalize rdyK gs j = R at *
    generalize gs[j] = g at *
    by_cases h1 : g.t = g.l
    · rw [if_neg (by simp [h1]), List.append_nil]
      simp (disch := omega) only [go_sem, h32l0, eg, eq_true h1]
    · rw [if_pos h1]
      have tk : List.take R.length (R.map ci0) = R.map ci0 := List.take_of_length_le (by simp)
      simp (disch := omega) only [go_sem, h32l0, eg, h1, tk, List.map_append, List.map_cons, List.map_nil, List.length_append, List.length_cons, List.length_nil, ci0]
  rw [rdyK_all]
  have tk : List.take (rdy gs).length ((rdy gs).map ci0) = (rdy gs).map ci0 := List.take_of_length_le (by simp)
  simp (disch := omega) only [go_sem, h32l0, tk]
end
end Go.Proofs.YtinageiefahjfaaGreatDoor
