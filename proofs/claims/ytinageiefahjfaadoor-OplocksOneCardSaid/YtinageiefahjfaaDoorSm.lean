/- One writer, or readers, and nobody waits for ever: the law's walk. Conditions: none. -/
import Derived.Test.YtinageiefahjfaaDoorSh
import Derived.Test.YtinageiefahjfaaDoorVk
namespace Go.Proofs.YtinageiefahjfaaDoor
set_option linter.unusedSimpArgs false
set_option linter.unusedVariables false
set_option maxRecDepth 4000
variable {G : Glob} {bb : Bool}
theorem awake_b : EV G (Tb (bs true)) 5 [] [] = some (vb true, []) := EV_base rfl rfl
theorem fpV_t {l : List TV} : fpV (.tup l) = [] := Eq.trans rfl rfl
theorem few_y (gs : List Gr) (ws : List Wt) (h1 : gs.length ≤ 12) (h2 : ws.length ≤ 12) : EV G (Tb (bs bb)) 13 [flV gs ws] [] = some (vb true, []) := by
  refine EV_run rfl ?_
  have h1' : (gs.length : Int) ≤ 12 := by omega
  have h2' : (ws.length : Int) ≤ 12 := by omega
  simp (disch := omega) only [go_sem, h13c, h1', h2', decide_true]
theorem bit_v (p : Prop) [Decidable p] : EV G (Tb (bs bb)) 14 [.one (.dc (.raw (.bool (decide p))))] [] = some (vi (if p then 1 else 0), []) := by
  refine EV_run rfl ?_
  by_cases h : p
  · rw [if_pos h, decide_eq_true h]
    simp (disch := omega) only [go_sem, h14c]
  · rw [if_neg h, decide_eq_false h]
    simp (disch := omega) only [go_sem, h14c]
theorem abv_s (gs : List Gr) (m : Int) (k : Nat) (h : k < gs.length) : abv (gs.take (k + 1)) m = abv (gs.take k) m + if gs[k].l > m then 1 else 0 := by
  unfold abv
  rw [List.take_add_one, List.getElem?_eq_getElem h, Option.toList_some, List.countP_append]
  simp [List.countP_cons]
theorem abv_le (gs : List Gr) (m : Int) : abv gs m ≤ gs.length := List.countP_le_length
theorem stpF_o {gs : List Gr} {ws : List Wt} (hV : Vd gs ws) (hH : Hd gs ws) (a : Ac) : stpF gs ws a = if acErr gs ws a = 0 then (stp gs ws a, 0) else (([], [], ⟨false, [], []⟩), acErr gs ws a) := by
  unfold stpF
  rw [if_pos (chk_iff.2 ⟨hV, hH⟩)]
def on1 (l : List Ac) (k : Nat) (gs : List Gr) (ws : List Wt) : AS := ⟨(acsV l :: jk 2 (.one (.ptr 0 0) :: vi k :: jk 192 [])), [.box [.dc (.slc (gs.map Gr.e)), .dc (.slc (ws.map Wt.e))]]⟩
def on0 (l : List Ac) : AS := ⟨(acsV l :: jk 2 (.one (.ptr 0 0) :: vi ((0 : Nat) : Int) :: jk 192 [])), [.box [.dc (.raw (.slice none 0 0)), .dc (.raw (.slice none 0 0))]]⟩
def lvS (l : List Ac) (k : Nat) (gs : List Gr) (ws : List Wt) (an : An) (j : Nat) : AS := ⟨(acsV l :: jk 2 (.one (.ptr 0 0) :: vi k :: jk 5 (vi (abv (gs.take j) 1) :: vi (abv (gs.take j) 0) :: vi j :: jk 184 []))), [.box [.dc (.slc (gs.map Gr.e)), .dc (.slc (ws.map Wt.e))], .box [.dc (.slc (gs.map Gr.e)), .dc (.slc (ws.map Wt.e))], .box [.dc (.raw (.bool an.d)), .dc (.slc (an.b.map Br.e)), .dc (.slc (an.f.map Wt.e))], .box [.dc (.slc (gs.map Gr.e)), .dc (.slc (ws.map Wt.e))], .box [.bld 5 gs.length, .bld 6 ws.length], .arr 0 3 (gs.map Gr.e), .arr 0 2 (ws.map Wt.e)]⟩
theorem lv_round (l : List Ac) (k : Nat) (gs : List Gr) (ws : List Wt) (hg : gs.length ≤ 1000) (an : An) (j : Nat) (hj : j < gs.length) :
    rnK [0, 2, 0, 5, 0, 0] 7 (EC (EV G (Tb (bs bb))) G h4l0 (lvS l k gs ws an j)) = some (lvS l k gs ws an (j + 1)) := by
  have eg : (gs.map Gr.e)[j]? = some [ci gs[j].c, ci gs[j].l, ci gs[j].t] := by rw [List.getElem?_map, List.getElem?_eq_getElem hj]; rfl
  have l1 := abv_le (gs.take j) 1
  have l0 := abv_le (gs.take j) 0
  have lt := List.length_take_le j gs
  unfold lvS
  rw [abv_s gs 1 j hj, abv_s gs 0 j hj]
  generalize abv (gs.take j) 1 = A at *
  generalize abv (gs.take j) 0 = B at *
  generalize gs[j] = g at *
  have q1 := bit_v (G := G) (bb := bb) (g.l > 1)
  have q0 := bit_v (G := G) (bb := bb) (g.l > 0)
  by_cases h1 : g.l > 1
  · have h0 : g.l > 0 := by omega
    rw [if_pos h1] at q1 ⊢
    rw [if_pos h0] at q0 ⊢
    simp (disch := omega) only [go_sem, h4l0, eg, q1, q0]
    try rfl
  · rw [if_neg h1] at q1 ⊢
    by_cases h0 : g.l > 0
    · rw [if_pos h0] at q0 ⊢
      simp (disch := omega) only [go_sem, h4l0, eg, q1, q0]
      try rfl
    · rw [if_neg h0] at q0 ⊢
      simp (disch := omega) only [go_sem, h4l0, eg, q1, q0]
      try rfl
set_option maxHeartbeats 4000000 in
theorem on1_go (hG : G 0 = some alD) (l : List Ac) (k : Nat) (gs : List Gr) (ws : List Wt) (a : Ac) (hk : k < l.length) (ha : l[k] = a) (hl : l.length ≤ 1000) (hV : Vd gs ws) (hH : Hd gs ws) (he : acErr gs ws a = 0) :
    rnK [0, 2, 0] 1 (EC (EV G (Tb (bs bb))) G h4l1 (on1 l k gs ws)) = some (on1 l (k + 1) (stp gs ws a).1 (stp gs ws a).2.1) := by
  have eg : (l.map Ac.e)[k]? = some [ci a.k, ci a.c, ci a.l] := by rw [List.getElem?_map, List.getElem?_eq_getElem hk, ha]; rfl
  have hg := hV.gl
  have hw := hV.wl
  obtain ⟨hV', hH'⟩ := stp_ok hV hH he
  have hg' := hV'.gl
  have hw' := hV'.wl
  have q1 := rcopy_v (G := G) (bb := bb) gs ws (by first | omega | simp) (by first | omega | simp)
  have q2 := stepped_v (bb := bb) hG gs ws a (by first | omega | simp) (by first | omega | simp)
  rw [stpF_o hV hH, if_pos he] at q2
  generalize stp gs ws a = s at *
  obtain ⟨gs', ws', an⟩ := s
  simp only at hV' hH' hg' hw' ⊢
  simp only [stpV, flV, List.map_nil, List.length_nil] at q1 q2
  have q3 := rcopy_v (G := G) (bb := bb) gs' ws' (by omega) (by omega)
  have q4 := checkFile_v (bb := bb) hG gs' ws' (by omega) (by omega)
  have q5 := few_y (G := G) (bb := bb) gs' ws' (by omega) (by omega)
  have q6 := readyIn_v (bb := bb) hG gs' ws' (by omega) (by omega)
  have hc : chk gs' ws' = (0, 0) := chk_of hV' hH'
  rw [hc] at q4 q6
  rw [if_pos rfl] at q6
  obtain ⟨a1, a2⟩ := abv_one hV'
  unfold on1
  simp (disch := omega) only [go_sem, h4l1, fpV_t, eg, q1, q2, List.map_nil]
  rw [fvT_b (by rfl) (by simp)]
  simp (disch := omega) only [go_sem, fpV_t]
  rw [fvT_b (by rfl) (by simp)]
  simp (disch := omega) only [go_sem, fpV_t, q3, q4, q5, List.take_length]
  rw [EL_loop (fun j => lvS l k gs' ws' an j) gs'.length ?_ (fun j hj => lv_round l k gs' ws' (by omega) an j hj)]
  rotate_left
  · rfl
  unfold lvS
  try unfold on1
  rw [List.take_length]
  by_cases hws : ws' = []
  · subst hws
    simp only [flV, List.map_nil, List.length_nil] at q3 q6
    by_cases hA : abv gs' 1 = 1
    · have hB := a2 hA
      have hA' : ((abv gs' 1 : Nat) : Int) = 1 := by omega
      have hB' : ¬ ((abv gs' 0 : Nat) : Int) > 1 := by omega
      have hA2 : ¬ ((abv gs' 1 : Nat) : Int) > 1 := by omega
      simp (disch := omega) only [go_sem, h4l0, q3, q6, eq_true hA', hA2, hB', List.map_nil, List.length_nil, List.take_length]
      try rfl
    · have hA' : ¬ ((abv gs' 1 : Nat) : Int) = 1 := by omega
      have hA2 : ¬ ((abv gs' 1 : Nat) : Int) > 1 := by omega
      simp (disch := omega) only [go_sem, h4l0, q3, q6, hA', hA2, List.map_nil, List.length_nil, List.take_length]
      try rfl
  · obtain ⟨g, hgm, hgt⟩ := wait_br hV' hH' hws
    have hr : (rdy gs').length ≠ 0 := by
      have : g.c ∈ rdy gs' := List.mem_map.2 ⟨g, List.mem_filter.2 ⟨hgm, by simpa using hgt⟩, rfl⟩
      have := List.length_pos_of_mem this
      omega
    have hr' : ¬ ((rdy gs').length : Int) = 0 := by omega
    have hwl : (ws'.length : Int) > 0 := by
      have := List.length_pos_iff.2 hws
      omega
    by_cases hA : abv gs' 1 = 1
    · have hB := a2 hA
      have hA' : ((abv gs' 1 : Nat) : Int) = 1 := by omega
      have hB' : ¬ ((abv gs' 0 : Nat) : Int) > 1 := by omega
      have hA2 : ¬ ((abv gs' 1 : Nat) : Int) > 1 := by omega
      simp (disch := omega) only [go_sem, h4l0, q3, q6, eq_true hA', hA2, hB', hr', hwl, List.take_length]
      try rfl
    · have hA' : ¬ ((abv gs' 1 : Nat) : Int) = 1 := by omega
      have hA2 : ¬ ((abv gs' 1 : Nat) : Int) > 1 := by omega
      simp (disch := omega) only [go_sem, h4l0, q3, q6, hA', hA2, hr', hwl, List.take_length]
      try rfl
set_option maxHeartbeats 4000000 in
theorem on0_go (hG : G 0 = some alD) (l : List Ac) (a : Ac) (hk : 0 < l.length) (ha : l[0] = a) (hl : l.length ≤ 1000) (hV : Vd [] []) (hH : Hd [] []) (he : acErr [] [] a = 0) :
    rnK [0, 2, 0] 1 (EC (EV G (Tb (bs bb))) G h4l1 (on0 l)) = some (on1 l 1 (stp [] [] a).1 (stp [] [] a).2.1) := by
  have eg : (l.map Ac.e)[0]? = some [ci a.k, ci a.c, ci a.l] := by rw [List.getElem?_map, List.getElem?_eq_getElem hk, ha]; rfl
  have hg := hV.gl
  have hw := hV.wl
  obtain ⟨hV', hH'⟩ := stp_ok hV hH he
  have hg' := hV'.gl
  have hw' := hV'.wl
  have q1 := rcopy_v (G := G) (bb := bb) [] [] (by first | omega | simp) (by first | omega | simp)
  have q2 := stepped_v (bb := bb) hG [] [] a (by first | omega | simp) (by first | omega | simp)
  rw [stpF_o hV hH, if_pos he] at q2
  generalize stp [] [] a = s at *
  obtain ⟨gs', ws', an⟩ := s
  simp only at hV' hH' hg' hw' ⊢
  simp only [stpV, flV, List.map_nil, List.length_nil] at q1 q2
  have q3 := rcopy_v (G := G) (bb := bb) gs' ws' (by omega) (by omega)
  have q4 := checkFile_v (bb := bb) hG gs' ws' (by omega) (by omega)
  have q5 := few_y (G := G) (bb := bb) gs' ws' (by omega) (by omega)
  have q6 := readyIn_v (bb := bb) hG gs' ws' (by omega) (by omega)
  have hc : chk gs' ws' = (0, 0) := chk_of hV' hH'
  rw [hc] at q4 q6
  rw [if_pos rfl] at q6
  obtain ⟨a1, a2⟩ := abv_one hV'
  unfold on0
  simp (disch := omega) only [go_sem, h4l1, fpV_t, eg, q1, q2, List.map_nil]
  rw [fvT_b (by rfl) (by simp)]
  simp (disch := omega) only [go_sem, fpV_t]
  rw [fvT_b (by rfl) (by simp)]
  simp (disch := omega) only [go_sem, fpV_t, q3, q4, q5, List.take_length]
  rw [EL_loop (fun j => lvS l 0 gs' ws' an j) gs'.length ?_ (fun j hj => lv_round l 0 gs' ws' (by omega) an j hj)]
  rotate_left
  · rfl
  unfold lvS
  try unfold on1
  rw [List.take_length]
  by_cases hws : ws' = []
  · subst hws
    simp only [flV, List.map_nil, List.length_nil] at q3 q6
    by_cases hA : abv gs' 1 = 1
    · have hB := a2 hA
      have hA' : ((abv gs' 1 : Nat) : Int) = 1 := by omega
      have hB' : ¬ ((abv gs' 0 : Nat) : Int) > 1 := by omega
      have hA2 : ¬ ((abv gs' 1 : Nat) : Int) > 1 := by omega
      simp (disch := omega) only [go_sem, h4l0, q3, q6, eq_true hA', hA2, hB', List.map_nil, List.length_nil, List.take_length]
      try rfl
    · have hA' : ¬ ((abv gs' 1 : Nat) : Int) = 1 := by omega
      have hA2 : ¬ ((abv gs' 1 : Nat) : Int) > 1 := by omega
      simp (disch := omega) only [go_sem, h4l0, q3, q6, hA', hA2, List.map_nil, List.length_nil, List.take_length]
      try rfl
  · obtain ⟨g, hgm, hgt⟩ := wait_br hV' hH' hws
    have hr : (rdy gs').length ≠ 0 := by
      have : g.c ∈ rdy gs' := List.mem_map.2 ⟨g, List.mem_filter.2 ⟨hgm, by simpa using hgt⟩, rfl⟩
      have := List.length_pos_of_mem this
      omega
    have hr' : ¬ ((rdy gs').length : Int) = 0 := by omega
    have hwl : (ws'.length : Int) > 0 := by
      have := List.length_pos_iff.2 hws
      omega
    by_cases hA : abv gs' 1 = 1
    · have hB := a2 hA
      have hA' : ((abv gs' 1 : Nat) : Int) = 1 := by omega
      have hB' : ¬ ((abv gs' 0 : Nat) : Int) > 1 := by omega
      have hA2 : ¬ ((abv gs' 1 : Nat) : Int) > 1 := by omega
      simp (disch := omega) only [go_sem, h4l0, q3, q6, eq_true hA', hA2, hB', hr', hwl, List.take_length]
      try rfl
    · have hA' : ¬ ((abv gs' 1 : Nat) : Int) = 1 := by omega
      have hA2 : ¬ ((abv gs' 1 : Nat) : Int) > 1 := by omega
      simp (disch := omega) only [go_sem, h4l0, q3, q6, hA', hA2, hr', hwl, List.take_length]
      try rfl
def ownS (gs : List Gr) (ws W dn : List Wt) (n : Int) : AS := ⟨(jk 3 (.one (.ptr 0 0) :: jk 11 (.one (.bld 1 W.length) :: .one (.bld 2 dn.length) :: vi n :: jk 179 []))), [.box [.dc (.slc (gs.map Gr.e)), .dc (.slc (ws.map Wt.e))], .arr 0 2 (W.map Wt.e), .arr 0 2 (dn.map Wt.e)]⟩
set_option maxHeartbeats 4000000 in
theorem own_go (hG : G 0 = some alD) (gs : List Gr) (w : Wt) (ws W dn : List Wt) (n : Int) (c : Int) (r : List Int) (hn : n ≠ 0) (hn2 : 0 ≤ n ∧ n ≤ 1000) (hd : dn.length ≤ 1000) (hV : Vd gs (w :: ws)) (hH : Hd gs (w :: ws)) (hr : rdy gs = c :: r) (he : acErr gs (w :: ws) ⟨4, c, 0⟩ = 0) :
    rnK [3, 11, 0, 0] 3 (EC (EV G (Tb (bs bb))) G h4l2 (ownS gs (w :: ws) W dn n)) = some (ownS (stp gs (w :: ws) ⟨4, c, 0⟩).1 (stp gs (w :: ws) ⟨4, c, 0⟩).2.1 W (dn ++ (stp gs (w :: ws) ⟨4, c, 0⟩).2.2.f) (n - 1)) := by
  have hg := hV.gl
  have hw := hV.wl
  have hf := (stp_f gs (w :: ws) ⟨4, c, 0⟩).2
  have q1 := rcopy_v (G := G) (bb := bb) gs (w :: ws) (by omega) (by omega)
  have q2 := stepped_v (bb := bb) hG gs (w :: ws) ⟨4, c, 0⟩ (by omega) (by omega)
  have q6 := readyIn_v (bb := bb) hG gs (w :: ws) (by omega) (by omega)
  have hc : chk gs (w :: ws) = (0, 0) := chk_of hV hH
  rw [hc] at q6
  rw [if_pos rfl, hr] at q6
  rw [stpF_o hV hH, if_pos he] at q2
  have hwl : (((w :: ws).length : Nat) : Int) > 0 := by rw [List.length_cons]; omega
  generalize w :: ws = L at *
  generalize stp gs L ⟨4, c, 0⟩ = s at *
  obtain ⟨gs', ws', an⟩ := s
  simp only [stpV] at q2 hf ⊢
  have hrl : (c :: r).length = r.length + 1 := rfl
  have eg : ((c :: r).map ci0)[0]? = some [ci c] := rfl
  have hrz : ¬ (((c :: r).length : Nat) : Int) = 0 := by rw [hrl]; omega
  generalize c :: r = R at *
  have td : List.take dn.length (dn.map Wt.e) = dn.map Wt.e := List.take_of_length_le (by simp)
  unfold ownS
  simp (disch := omega) only [go_sem, h4l2, fpV_t, hwl, q1, q2, q6, hn, eg, hrz, List.take_length]
  rw [fvT_b (by rfl) (by simp)]
  simp (disch := omega) only [go_sem, fpV_t]
  rw [fvT_b (by rfl) (by simp)]
  simp (disch := omega) only [go_sem, fpV_t, td, allLen_wt, List.map_append, List.length_append, List.take_length]
  try rfl
theorem own_end (hG : G 0 = some alD) (gs : List Gr) (ws : List Wt) (hV : Vd gs ws) (hH : Hd gs ws) (hN : Nb gs ws) : ∃ (g : List Gr) (n : Int), EL (EV G (Tb (bs bb))) G h4l2 [3, 11, 0, 0] 3 (ownS gs ws ws [] ((gs.length : Int) + (ws.length : Int))) = fnK (EV G (Tb (bs bb))) G h4l2 [3, 11, 0, 0] 3 (EC (EV G (Tb (bs bb))) G h4l2 (ownS g [] ws ws n)) := by
  have hg := hV.gl
  have hw := hV.wl
  match ws, hV, hH, hN, hw with
  | [], hV, hH, hN, hw => exact ⟨gs, _, EL_unf⟩
  | w :: ws, hV, hH, hN, hw =>
    obtain ⟨c, r, h1, h2, h3, h4⟩ := ack_may hV hH hN
    have hB := (h4 3 (fun g hg => (hV.rg g hg).2.1.2)).2
    obtain ⟨hV1, hH1⟩ := stp_ok hV hH h2
    have hN1 := stp_nb hV hH hN h2
    have hsp := thr_spl (w :: ws) (ackG gs c)
    have es : stp gs (w :: ws) ⟨4, c, 0⟩ = thA (thr (ackG gs c) (w :: ws)) := by unfold stp; rw [if_neg (by simp)]; exact if_pos rfl
    have r1 := own_go (bb := bb) hG gs w ws (w :: ws) [] ((gs.length : Int) + ((w :: ws).length : Int)) c r (by rw [List.length_cons]; omega) (by omega) (by simp) hV hH h1 h2
    rw [es] at hV1 hH1 hN1 r1
    rw [EL_unf, fnK_of r1]
    generalize thr (ackG gs c) (w :: ws) = t at *
    obtain ⟨g1, w1, b1, f1⟩ := t
    simp only [thA, List.nil_append] at hV1 hH1 hN1 hB hsp ⊢
    match w1, hV1, hH1, hN1, hsp with
    | [], hV1, hH1, hN1, hsp =>
      rw [List.append_nil] at hsp
      rw [hsp]
      exact ⟨g1, _, EL_unf⟩
    | w1 :: ws1, hV1, hH1, hN1, hsp =>
      obtain ⟨c1, s1, i1, i2, i3, i4⟩ := ack_may hV1 hH1 hN1
      have hB1 := (i4 2 (fun g hg => by have := hB g hg; omega)).2
      obtain ⟨hV2, hH2⟩ := stp_ok hV1 hH1 i2
      have hN2 := stp_nb hV1 hH1 hN1 i2
      have hsp2 := thr_spl (w1 :: ws1) (ackG g1 c1)
      have es2 : stp g1 (w1 :: ws1) ⟨4, c1, 0⟩ = thA (thr (ackG g1 c1) (w1 :: ws1)) := by unfold stp; rw [if_neg (by simp)]; exact if_pos rfl
      have hfl : f1.length ≤ 8 := by
        have := congrArg List.length hsp
        rw [List.length_append] at this
        omega
      have r2 := own_go (bb := bb) hG g1 w1 ws1 (w :: ws) f1 ((gs.length : Int) + ((w :: ws).length : Int) - 1) c1 s1 (by simp only [List.length_cons] at *; omega) (by simp only [List.length_cons] at *; omega) (by omega) hV1 hH1 i1 i2
      rw [es2] at hV2 hH2 hN2 r2
      rw [EL_unf, fnK_of r2]
      generalize thr (ackG g1 c1) (w1 :: ws1) = t2 at *
      obtain ⟨g2, w2, b2, f2⟩ := t2
      simp only [thA] at hV2 hH2 hN2 hB1 hsp2 ⊢
      match w2, hV2, hH2, hN2, hsp2 with
      | [], hV2, hH2, hN2, hsp2 =>
        rw [List.append_nil] at hsp2
        rw [hsp2, hsp]
        exact ⟨g2, _, EL_unf⟩
      | w2 :: ws2, hV2, hH2, hN2, hsp2 =>
        obtain ⟨c2, s2, j1, j2, j3, j4⟩ := ack_may hV2 hH2 hN2
        have := (j4 1 (fun g hg => by have := hB1 g hg; omega)).1
        omega
def owbS (gs : List Gr) (ws W dn : List Wt) (n : Int) : AS := ⟨(jk 3 (.one (.ptr 0 0) :: jk 11 (.one (.bld 3 W.length) :: .one (.bld 4 dn.length) :: vi n :: jk 179 []))), [.box [.dc (.slc (gs.map Gr.e)), .dc (.slc (ws.map Wt.e))], .box [.dc (.slc []), .dc (.slc [])], .box [.dc (.raw (.bool false)), .dc (.slc []), .dc (.slc [])], .arr 0 2 (W.map Wt.e), .arr 0 2 (dn.map Wt.e)]⟩
set_option maxHeartbeats 4000000 in
theorem owb_go (hG : G 0 = some alD) (gs : List Gr) (w : Wt) (ws W dn : List Wt) (n : Int) (c : Int) (r : List Int) (hn : n ≠ 0) (hn2 : 0 ≤ n ∧ n ≤ 1000) (hd : dn.length ≤ 1000) (hV : Vd gs (w :: ws)) (hH : Hd gs (w :: ws)) (hr : rdy gs = c :: r) (he : acErr gs (w :: ws) ⟨4, c, 0⟩ = 0) :
    rnK [3, 11, 0, 0] 5 (EC (EV G (Tb (bs bb))) G h4l2 (owbS gs (w :: ws) W dn n)) = some (owbS (stp gs (w :: ws) ⟨4, c, 0⟩).1 (stp gs (w :: ws) ⟨4, c, 0⟩).2.1 W (dn ++ (stp gs (w :: ws) ⟨4, c, 0⟩).2.2.f) (n - 1)) := by
  have hg := hV.gl
  have hw := hV.wl
  have hf := (stp_f gs (w :: ws) ⟨4, c, 0⟩).2
  have q1 := rcopy_v (G := G) (bb := bb) gs (w :: ws) (by omega) (by omega)
  have q2 := stepped_v (bb := bb) hG gs (w :: ws) ⟨4, c, 0⟩ (by omega) (by omega)
  have q6 := readyIn_v (bb := bb) hG gs (w :: ws) (by omega) (by omega)
  have hc : chk gs (w :: ws) = (0, 0) := chk_of hV hH
  rw [hc] at q6
  rw [if_pos rfl, hr] at q6
  rw [stpF_o hV hH, if_pos he] at q2
  have hwl : (((w :: ws).length : Nat) : Int) > 0 := by rw [List.length_cons]; omega
  generalize w :: ws = L at *
  generalize stp gs L ⟨4, c, 0⟩ = s at *
  obtain ⟨gs', ws', an⟩ := s
  simp only [stpV] at q2 hf ⊢
  have hrl : (c :: r).length = r.length + 1 := rfl
  have eg : ((c :: r).map ci0)[0]? = some [ci c] := rfl
  have hrz : ¬ (((c :: r).length : Nat) : Int) = 0 := by rw [hrl]; omega
  generalize c :: r = R at *
  have td : List.take dn.length (dn.map Wt.e) = dn.map Wt.e := List.take_of_length_le (by simp)
  unfold owbS
  simp (disch := omega) only [go_sem, h4l2, fpV_t, hwl, q1, q2, q6, hn, eg, hrz, List.take_length]
  rw [fvT_b (by rfl) (by simp)]
  simp (disch := omega) only [go_sem, fpV_t]
  rw [fvT_b (by rfl) (by simp)]
  simp (disch := omega) only [go_sem, fpV_t, td, allLen_wt, List.map_append, List.length_append, List.take_length]
  try rfl
theorem owb_end (hG : G 0 = some alD) (gs : List Gr) (ws : List Wt) (hV : Vd gs ws) (hH : Hd gs ws) (hN : Nb gs ws) : ∃ (g : List Gr) (n : Int), EL (EV G (Tb (bs bb))) G h4l2 [3, 11, 0, 0] 5 (owbS gs ws ws [] ((gs.length : Int) + (ws.length : Int))) = fnK (EV G (Tb (bs bb))) G h4l2 [3, 11, 0, 0] 5 (EC (EV G (Tb (bs bb))) G h4l2 (owbS g [] ws ws n)) := by
  have hg := hV.gl
  have hw := hV.wl
  match ws, hV, hH, hN, hw with
  | [], hV, hH, hN, hw => exact ⟨gs, _, EL_unf⟩
  | w :: ws, hV, hH, hN, hw =>
    obtain ⟨c, r, h1, h2, h3, h4⟩ := ack_may hV hH hN
    have hB := (h4 3 (fun g hg => (hV.rg g hg).2.1.2)).2
    obtain ⟨hV1, hH1⟩ := stp_ok hV hH h2
    have hN1 := stp_nb hV hH hN h2
    have hsp := thr_spl (w :: ws) (ackG gs c)
    have es : stp gs (w :: ws) ⟨4, c, 0⟩ = thA (thr (ackG gs c) (w :: ws)) := by unfold stp; rw [if_neg (by simp)]; exact if_pos rfl
    have r1 := owb_go (bb := bb) hG gs w ws (w :: ws) [] ((gs.length : Int) + ((w :: ws).length : Int)) c r (by rw [List.length_cons]; omega) (by omega) (by simp) hV hH h1 h2
    rw [es] at hV1 hH1 hN1 r1
    rw [EL_unf, fnK_of r1]
    generalize thr (ackG gs c) (w :: ws) = t at *
    obtain ⟨g1, w1, b1, f1⟩ := t
    simp only [thA, List.nil_append] at hV1 hH1 hN1 hB hsp ⊢
    match w1, hV1, hH1, hN1, hsp with
    | [], hV1, hH1, hN1, hsp =>
      rw [List.append_nil] at hsp
      rw [hsp]
      exact ⟨g1, _, EL_unf⟩
    | w1 :: ws1, hV1, hH1, hN1, hsp =>
      obtain ⟨c1, s1, i1, i2, i3, i4⟩ := ack_may hV1 hH1 hN1
      have hB1 := (i4 2 (fun g hg => by have := hB g hg; omega)).2
      obtain ⟨hV2, hH2⟩ := stp_ok hV1 hH1 i2
      have hN2 := stp_nb hV1 hH1 hN1 i2
      have hsp2 := thr_spl (w1 :: ws1) (ackG g1 c1)
      have es2 : stp g1 (w1 :: ws1) ⟨4, c1, 0⟩ = thA (thr (ackG g1 c1) (w1 :: ws1)) := by unfold stp; rw [if_neg (by simp)]; exact if_pos rfl
      have hfl : f1.length ≤ 8 := by
        have := congrArg List.length hsp
        rw [List.length_append] at this
        omega
      have r2 := owb_go (bb := bb) hG g1 w1 ws1 (w :: ws) f1 ((gs.length : Int) + ((w :: ws).length : Int) - 1) c1 s1 (by simp only [List.length_cons] at *; omega) (by simp only [List.length_cons] at *; omega) (by omega) hV1 hH1 i1 i2
      rw [es2] at hV2 hH2 hN2 r2
      rw [EL_unf, fnK_of r2]
      generalize thr (ackG g1 c1) (w1 :: ws1) = t2 at *
      obtain ⟨g2, w2, b2, f2⟩ := t2
      simp only [thA] at hV2 hH2 hN2 hB1 hsp2 ⊢
      match w2, hV2, hH2, hN2, hsp2 with
      | [], hV2, hH2, hN2, hsp2 =>
        rw [List.append_nil] at hsp2
        rw [hsp2, hsp]
        exact ⟨g2, _, EL_unf⟩
      | w2 :: ws2, hV2, hH2, hN2, hsp2 =>
        obtain ⟨c2, s2, j1, j2, j3, j4⟩ := ack_may hV2 hH2 hN2
        have := (j4 1 (fun g hg => by have := hB1 g hg; omega)).1
        omega
noncomputable def onR (G : Glob) (bb : Bool) (l : List Ac) : Option (Exit × AS) := EL (EV G (Tb (bs bb))) G h4l1 [0, 2, 0] 1 (on0 l)
theorem on_all {st : AS} {l : List Ac} (h0 : st = on0 l) : EL (EV G (Tb (bs bb))) G h4l1 [0, 2, 0] 1 st = onR G bb l := by subst h0; rfl
theorem on1_run (hG : G 0 = some alD) (l : List Ac) (hl : l.length ≤ 1000) : ∀ (rest : List Ac) (k : Nat) (gs : List Gr) (ws : List Wt), l.drop k = rest → k ≤ l.length → Vd gs ws → Hd gs ws → Nb gs ws →
    ∃ (j : Nat) (g : List Gr) (w : List Wt), j ≤ l.length ∧ Vd g w ∧ Hd g w ∧ Nb g w ∧ (j = l.length ∨ ∃ h : j < l.length, acErr g w l[j] ≠ 0) ∧ EL (EV G (Tb (bs bb))) G h4l1 [0, 2, 0] 1 (on1 l k gs ws) = fnK (EV G (Tb (bs bb))) G h4l1 [0, 2, 0] 1 (EC (EV G (Tb (bs bb))) G h4l1 (on1 l j g w))
  | [], k, gs, ws, hd, hk, hV, hH, hN => by
    have hkl : k = l.length := by
      have := congrArg List.length hd
      simp at this; omega
    exact ⟨k, gs, ws, hk, hV, hH, hN, .inl hkl, EL_unf⟩
  | a :: rest, k, gs, ws, hd, hk, hV, hH, hN => by
    have hkl : k < l.length := by
      have := congrArg List.length hd
      simp at this; omega
    have ha : l[k] = a := by
      have := List.drop_eq_getElem_cons hkl
      rw [hd] at this
      injection this with this _
      exact this.symm
    have hd' : l.drop (k + 1) = rest := by
      have := List.drop_eq_getElem_cons hkl
      rw [hd] at this
      injection this with _ this
      exact this.symm
    by_cases he : acErr gs ws a = 0
    · obtain ⟨h1, h2⟩ := stp_ok hV hH he
      have h3 := stp_nb hV hH hN he
      obtain ⟨j, g, w, i1, i2, i3, i4, i5, i6⟩ := on1_run hG l hl rest (k + 1) _ _ hd' (by omega) h1 h2 h3
      exact ⟨j, g, w, i1, i2, i3, i4, i5, by rw [EL_unf, fnK_of (on1_go hG l k gs ws a hkl ha hl hV hH he), i6]⟩
    · exact ⟨k, gs, ws, hk, hV, hH, hN, .inr ⟨hkl, by rw [ha]; exact he⟩, EL_unf⟩
theorem on_run (hG : G 0 = some alD) (l : List Ac) (hl : l.length ≤ 1000) : ((l = [] ∨ ∃ h : 0 < l.length, acErr [] [] l[0] ≠ 0) ∧ onR G bb l = fnK (EV G (Tb (bs bb))) G h4l1 [0, 2, 0] 1 (EC (EV G (Tb (bs bb))) G h4l1 (on0 l))) ∨
    ∃ (j : Nat) (g : List Gr) (w : List Wt), j ≤ l.length ∧ Vd g w ∧ Hd g w ∧ Nb g w ∧ (j = l.length ∨ ∃ h : j < l.length, acErr g w l[j] ≠ 0) ∧ onR G bb l = fnK (EV G (Tb (bs bb))) G h4l1 [0, 2, 0] 1 (EC (EV G (Tb (bs bb))) G h4l1 (on1 l j g w)) := by
  unfold onR
  match l, hl with
  | [], _ => exact .inl ⟨.inl rfl, EL_unf⟩
  | a :: r, hl =>
    by_cases he : acErr [] [] a = 0
    · right
      obtain ⟨h1, h2⟩ := stp_ok Vd.nil Hd.nil he
      have h3 := stp_nb Vd.nil Hd.nil Nb.nil he
      obtain ⟨j, g, w, i1, i2, i3, i4, i5, i6⟩ := on1_run (bb := bb) hG (a :: r) hl r 1 _ _ rfl (by simp) h1 h2 h3
      exact ⟨j, g, w, i1, i2, i3, i4, i5, by rw [EL_unf, fnK_of (on0_go hG (a :: r) a (by simp) rfl hl Vd.nil Hd.nil he), i6]⟩
    · exact .inl ⟨.inr ⟨by simp, he⟩, EL_unf⟩
theorem own_st {st : AS} (gs : List Gr) (ws W dn : List Wt) (n : Int) (h0 : st = ownS gs ws W dn n) : EL (EV G (Tb (bs bb))) G h4l2 [3, 11, 0, 0] 3 st = EL (EV G (Tb (bs bb))) G h4l2 [3, 11, 0, 0] 3 (ownS gs ws W dn n) := by rw [h0]
def ocnS (gs : List Gr) (W : List Wt) (j : Nat) : AS := ⟨(jk 15 (.one (.bld 1 W.length) :: .one (.bld 2 W.length) :: jk 6 (vi j :: jk 173 []))), [.box [.dc (.slc (gs.map Gr.e)), .dc (.slc [])], .arr 0 2 (W.map Wt.e), .arr 0 2 (W.map Wt.e)]⟩
theorem ocn_loop {st : AS} (gs : List Gr) (W : List Wt) (hl : W.length ≤ 1000) (h0 : st = ocnS gs W 0) : EL (EV G (Tb (bs bb))) G h4l3 [15, 0, 6] 3 st = fnK (EV G (Tb (bs bb))) G h4l3 [15, 0, 6] 3 (EC (EV G (Tb (bs bb))) G h4l3 (ocnS gs W W.length)) := by
  refine EL_loop (fun j => ocnS gs W j) W.length h0 (fun j hj => ?_)
  have eg : (W.map Wt.e)[j]? = some [ci W[j].c, ci W[j].k] := by rw [List.getElem?_map, List.getElem?_eq_getElem hj]; rfl
  generalize W[j] = g at *
  unfold ocnS
  simp (disch := omega) only [go_sem, h4l3, eg]
theorem owb_st {st : AS} (gs : List Gr) (ws W dn : List Wt) (n : Int) (h0 : st = owbS gs ws W dn n) : EL (EV G (Tb (bs bb))) G h4l2 [3, 11, 0, 0] 5 st = EL (EV G (Tb (bs bb))) G h4l2 [3, 11, 0, 0] 5 (owbS gs ws W dn n) := by rw [h0]
def ocbS (gs : List Gr) (W : List Wt) (j : Nat) : AS := ⟨(jk 15 (.one (.bld 3 W.length) :: .one (.bld 4 W.length) :: jk 6 (vi j :: jk 173 []))), [.box [.dc (.slc (gs.map Gr.e)), .dc (.slc [])], .box [.dc (.slc []), .dc (.slc [])], .box [.dc (.raw (.bool false)), .dc (.slc []), .dc (.slc [])], .arr 0 2 (W.map Wt.e), .arr 0 2 (W.map Wt.e)]⟩
theorem ocb_loop {st : AS} (gs : List Gr) (W : List Wt) (hl : W.length ≤ 1000) (h0 : st = ocbS gs W 0) : EL (EV G (Tb (bs bb))) G h4l3 [15, 0, 6] 5 st = fnK (EV G (Tb (bs bb))) G h4l3 [15, 0, 6] 5 (EC (EV G (Tb (bs bb))) G h4l3 (ocbS gs W W.length)) := by
  refine EL_loop (fun j => ocbS gs W j) W.length h0 (fun j hj => ?_)
  have eg : (W.map Wt.e)[j]? = some [ci W[j].c, ci W[j].k] := by rw [List.getElem?_map, List.getElem?_eq_getElem hj]; rfl
  generalize W[j] = g at *
  unfold ocbS
  simp (disch := omega) only [go_sem, h4l3, eg]
set_option maxHeartbeats 4000000 in
theorem one_v (hG : G 0 = some alD) (l : List Ac) : EV G (Tb (bs true)) 4 [acsV l] [] = some (vb true, []) := by
  refine EV_run rfl ?_
  by_cases h : l.length > 60
  · have h' : (l.length : Int) > 60 := by omega
    simp (disch := omega) only [go_sem, h4c, awake_b, h']
  · have h' : ¬ (l.length : Int) > 60 := by omega
    have hr := on_run (bb := true) hG l (by omega)
    simp (disch := omega) only [go_sem, h4c, awake_b, h']
    rw [on_all (bb := true) (l := l) ?_]
    rotate_left
    · rfl
    rcases hr with ⟨hc, e⟩ | ⟨j, g, w, hj, hV, hH, hN, hc, e⟩
    · rw [e]
      unfold on0
      rcases hc with hc | ⟨h0, hc⟩
      · subst hc
        simp (disch := omega) only [go_sem, h4l1, List.map_nil, List.length_nil]
        rw [EL_unf]
        simp (disch := omega) only [go_sem, h4l2, List.map_nil, List.length_nil]
        rw [EL_unf]
        simp (disch := omega) only [go_sem, h4l3, List.map_nil, List.length_nil]
      · have eg : (l.map Ac.e)[0]? = some [ci l[0].k, ci l[0].c, ci l[0].l] := by rw [List.getElem?_map, List.getElem?_eq_getElem h0]; rfl
        have q1 := rcopy_v (G := G) (bb := true) [] [] (by simp) (by simp)
        have q2 := stepped_v (bb := true) hG [] [] l[0] (by simp) (by simp)
        rw [stpF_o Vd.nil Hd.nil, if_neg hc] at q2
        simp only [stpV, flV, List.map_nil, List.length_nil] at q1 q2
        simp (disch := omega) only [go_sem, h4l1, fpV_t, eg, q1, q2, List.map_nil]
        rw [fvT_b (by rfl) (by simp)]
        simp (disch := omega) only [go_sem, fpV_t]
        rw [fvT_b (by rfl) (by simp)]
        simp (disch := omega) only [go_sem, fpV_t, hc, List.map_nil, List.length_nil]
        rw [EL_unf]
        simp (disch := omega) only [go_sem, h4l2, List.map_nil, List.length_nil]
        rw [EL_unf]
        simp (disch := omega) only [go_sem, h4l3, List.map_nil, List.length_nil]
    · have hg := hV.gl
      have hw := hV.wl
      rw [e]
      unfold on1
      rcases hc with hc | ⟨h0, hc⟩
      · subst hc
        simp (disch := omega) only [go_sem, h4l1, List.take_length, allLen_wt]
        obtain ⟨g', n', eo⟩ := own_end (bb := true) hG g w hV hH hN
        rw [own_st g w w [] ((g.length : Int) + (w.length : Int)) ?_]
        rotate_left
        · rfl
        rw [eo]
        unfold ownS
        simp (disch := omega) only [go_sem, h4l2, List.map_nil, List.length_nil]
        rw [ocn_loop g' w (by omega) ?_]
        rotate_left
        · rfl
        unfold ocnS
        simp (disch := omega) only [go_sem, h4l3]
      · have eg : (l.map Ac.e)[j]? = some [ci l[j].k, ci l[j].c, ci l[j].l] := by rw [List.getElem?_map, List.getElem?_eq_getElem h0]; rfl
        have q1 := rcopy_v (G := G) (bb := true) g w (by omega) (by omega)
        have q2 := stepped_v (bb := true) hG g w l[j] (by omega) (by omega)
        rw [stpF_o hV hH, if_neg hc] at q2
        simp only [stpV, flV, List.map_nil] at q1 q2
        simp (disch := omega) only [go_sem, h4l1, fpV_t, eg, q1, q2, List.map_nil]
        rw [fvT_b (by rfl) (by simp)]
        simp (disch := omega) only [go_sem, fpV_t]
        rw [fvT_b (by rfl) (by simp)]
        simp (disch := omega) only [go_sem, fpV_t, hc, List.map_nil, List.length_nil, List.take_length, allLen_wt]
        obtain ⟨g', n', eo⟩ := owb_end (bb := true) hG g w hV hH hN
        rw [owb_st g w w [] ((g.length : Int) + (w.length : Int)) ?_]
        rotate_left
        · rfl
        rw [eo]
        unfold owbS
        simp (disch := omega) only [go_sem, h4l2, List.map_nil, List.length_nil]
        rw [ocb_loop g' w (by omega) ?_]
        rotate_left
        · rfl
        unfold ocbS
        simp (disch := omega) only [go_sem, h4l3]
end Go.Proofs.YtinageiefahjfaaDoor
