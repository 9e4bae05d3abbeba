/- Caches: a use. Conditions: none. -/
import Derived.Test.YtinageiefahjfaaGreatDoorVj
namespace Go.Proofs.YtinageiefahjfaaGreatDoor
set_option linter.unusedSimpArgs false
set_option linter.unusedVariables false
set_option maxRecDepth 4000
section
variable {G : Glob} {bb : Bool}
theorem effF_gs (x : Ca) (c k : Int) : (effF x c k).gs = x.gs ∧ (effF x c k).ws = x.ws ∧ (effF x c k).sn.length ≤ x.sn.length + 1 := by
  unfold effF
  repeat' split
  all_goals simp
def effL (x : Ca) (l : List Wt) : Ca := l.foldl (fun y a => effF y a.c a.k) x
theorem effL_gs (x : Ca) (l : List Wt) : (effL x l).gs = x.gs ∧ (effL x l).ws = x.ws ∧ (effL x l).sn.length ≤ x.sn.length + l.length := by
  unfold effL
  induction l generalizing x with
  | nil => simp
  | cons a l ih =>
    simp only [List.foldl_cons, List.length_cons]
    have h1 := effF_gs x a.c a.k
    have h2 := ih (effF x a.c a.k)
    exact ⟨h2.1.trans h1.1, h2.2.1.trans h1.2.1, by omega⟩
theorem effL_next (x : Ca) (l : List Wt) (j : Nat) (hj : j < l.length) : effL x (l.take (j + 1)) = effF (effL x (l.take j)) l[j].c l[j].k := by
  unfold effL
  rw [List.take_add_one, List.getElem?_eq_getElem hj, Option.toList_some, List.foldl_append]
  rfl
def drpF (x : Ca) (j : Nat) : Ca := { x with K := fun n => if n < j ∧ lvF x.gs n < 1 then -1 else x.K n, D := fun n => if n < j ∧ lvF x.gs n < 1 then false else x.D n }
theorem drpF_0 (x : Ca) : drpF x 0 = x := by
  unfold drpF
  simp
theorem drpF_y (x : Ca) (j : Nat) (h : lvF x.gs j < 1) : drpF x (j + 1) = { drpF x j with K := upd (drpF x j).K j (-1), D := upd (drpF x j).D j false } := by
  unfold drpF upd
  simp only [Ca.mk.injEq, true_and, and_true]
  constructor
  · funext n
    by_cases hn : n = j
    · subst hn; simp [h]
    · simp only [hn, if_false]
      by_cases h2 : n < j
      · simp [h2, Nat.lt_succ_of_lt h2]
      · have : ¬ n < j + 1 := by omega
        simp [h2, this]
  · funext n
    by_cases hn : n = j
    · subst hn; simp [h]
    · simp only [hn, if_false]
      by_cases h2 : n < j
      · simp [h2, Nat.lt_succ_of_lt h2]
      · have : ¬ n < j + 1 := by omega
        simp [h2, this]
theorem drpF_n (x : Ca) (j : Nat) (h : ¬ lvF x.gs j < 1) : drpF x (j + 1) = drpF x j := by
  unfold drpF
  simp only [Ca.mk.injEq, true_and, and_true]
  constructor
  · funext n
    by_cases hn : n = j
    · subst hn; simp [h]
    · have e : (n < j + 1) = (n < j) := propext ⟨by omega, by omega⟩
      simp [e]
  · funext n
    by_cases hn : n = j
    · subst hn; simp [h]
    · have e : (n < j + 1) = (n < j) := propext ⟨by omega, by omega⟩
      simp [e]
theorem thr_f : ∀ (ws : List Wt) (gs : List Gr), ∀ w ∈ (thr gs ws).2.2.2, w ∈ ws
  | [], gs, w, h => by simp [thr] at h
  | a :: ws, gs, w, h => by
    rw [thr] at h
    split at h
    · simp at h
    · simp only [List.mem_cons] at h
      rcases h with rfl | h
      · exact List.mem_cons_self
      · exact List.mem_cons_of_mem _ (thr_f ws _ w h)
theorem thr_fl : ∀ (ws : List Wt) (gs : List Gr), (thr gs ws).2.2.2.length ≤ ws.length
  | [], gs => by simp [thr]
  | a :: ws, gs => by
    rw [thr]
    split
    · simp
    · have := thr_fl ws (did (brGs gs a.c a.k) a.c a.k)
      simp only [List.length_cons]
      omega
theorem stp_f (gs : List Gr) (ws : List Wt) (a : Ac) : (∀ w ∈ (stp gs ws a).2.2.f, w ∈ ws) ∧ (stp gs ws a).2.2.f.length ≤ ws.length := by
  unfold stp
  split
  · simp
  · split
    · exact ⟨thr_f ws _, thr_fl ws _⟩
    · split
      · exact ⟨thr_f ws _, thr_fl ws _⟩
      · rw [useF_f]; simp
def usE (x : Ca) (k c l u : Int) : Int := firstE [ifE (wi u 0 (if k = 3 then 999 else 0)) 2, usErr x.gs x.ws ⟨k, c, l⟩]
def giv (x : Ca) (k c u : Int) : Ca := if (k = 4 ∨ k = 5) ∧ x.D c.toNat = true then { x with v := x.K c.toNat, D := upd x.D c.toNat false, W := upd x.W c.toNat u } else { x with W := upd x.W c.toNat u }
def actF (x : Ca) (k c l u : Int) : Ca :=
  drpF (effL (if (stp x.gs x.ws ⟨k, c, l⟩).2.2.d = true then effF { giv x k c u with gs := (stp x.gs x.ws ⟨k, c, l⟩).1, ws := (stp x.gs x.ws ⟨k, c, l⟩).2.1 } c k else { giv x k c u with gs := (stp x.gs x.ws ⟨k, c, l⟩).1, ws := (stp x.gs x.ws ⟨k, c, l⟩).2.1 }) (stp x.gs x.ws ⟨k, c, l⟩).2.2.f) 9
def usF (x : Ca) (k c l u : Int) : Ca × Int :=
  if usE x k c l u ≠ 0 then (x, usE x k c l u)
  else match aloF x k c u with
    | some y => (y, 0)
    | none => if acErr x.gs x.ws ⟨k, c, l⟩ ≠ 0 then (x, acErr x.gs x.ws ⟨k, c, l⟩) else (actF x k c l u, 0)
theorem first2 (a b : Int) : EV G (Tb (bs bb)) 117 [vl [[ci a], [ci b]]] [] = some (vi (firstE [a, b]), []) := first_v [a, b] (by simp)
abbrev usH (x : Ca) (k c l u : Int) (z : List (List DC)) (a : An) : List AObj := [.box (caC 1 4 x.sn.length x.v x.K x.D x.W), .box [.bld 2 x.gs.length, .bld 3 x.ws.length], .arr 0 3 (x.gs.map Gr.e), .arr 0 2 (x.ws.map Wt.e), .arr 0 1 (x.sn.map ci0), .box [.dc (ci k), .dc (ci c), .dc (ci l), .dc (ci u)], .arr 0 1 z, .box [.dc (.raw (.bool a.d)), .dc (.slc (a.b.map Br.e)), .dc (.slc (a.f.map Wt.e))]]
def fr0 (x : Ca) (k c l u : Int) (z : List (List DC)) (a : An) (j : Nat) : AS := ⟨(.one (.ptr 0 0) :: jk 107 (vl (a.f.map Wt.e) :: vi a.f.length :: vi j :: jk 29 [])), usH x k c l u z a⟩
def dr0 (x : Ca) (k c l u : Int) (z : List (List DC)) (a : An) (j : Nat) : AS := ⟨(.one (.ptr 0 0) :: jk 117 (vi j :: jk 21 [])), usH x k c l u z a⟩
theorem fr_round (x : Ca) (hs : Srt x.gs) (hl : x.gs.length ≤ 1000) (hn : x.sn.length ≤ 10000) (k c l u : Int) (z : List (List DC)) (a : An) (hf : a.f.length ≤ 10) (j : Nat) (hj : j < a.f.length) (w : Wt) (hw : a.f[j] = w) (hc : 1 ≤ w.c ∧ w.c ≤ 8) :
    rnK [0, 107, 0, 0] 8 (EC (EV G (Tb (bs bb))) G h68l0 (fr0 x k c l u z a j)) = some (fr0 (effF x w.c w.k) k c l u z a (j + 1)) := by
  have q := effect_v (G := G) (bb := bb) x hs (by omega) (by omega) w.c w.k hc
  have eg : (a.f.map Wt.e)[j]? = some [ci w.c, ci w.k] := by rw [List.getElem?_map, List.getElem?_eq_getElem hj, hw]; rfl
  generalize effF x w.c w.k = y at *
  unfold fr0 usH
  simp only [Ca.h, caH] at q
  simp (disch := omega) only [go_sem, h68l0, evJ_5, eg, q]
theorem fr_loop {st : AS} (x : Ca) (hs : Srt x.gs) (hl : x.gs.length ≤ 1000) (hn : x.sn.length + 20 ≤ 10000) (k c l u : Int) (z : List (List DC)) (a : An) (hf : a.f.length ≤ 10) (hc : ∀ w ∈ a.f, 1 ≤ w.c ∧ w.c ≤ 8) (h0 : st = fr0 x k c l u z a 0) :
    EL (EV G (Tb (bs bb))) G h68l0 [0, 107, 0, 0] 8 st = fnK (EV G (Tb (bs bb))) G h68l0 [0, 107, 0, 0] 8 (EC (EV G (Tb (bs bb))) G h68l0 (fr0 (effL x a.f) k c l u z a a.f.length)) := by
  subst h0
  have h := EL_loop (call := EV G (Tb (bs bb))) (G := G) (a := h68l0) (L := [0, 107, 0, 0]) (m := 8) (fun j => fr0 (effL x (a.f.take j)) k c l u z a j) a.f.length rfl (fun j hj => by
    have e := effL_gs x (a.f.take j)
    rw [List.length_take] at e
    rw [effL_next x a.f j hj]
    exact fr_round _ (by rw [e.1]; exact hs) (by rw [e.1]; exact hl) (by omega) k c l u z a hf j hj a.f[j] rfl (hc _ (List.getElem_mem hj)))
  rw [List.take_length] at h
  exact h
theorem dr_round (x : Ca) (hs : Srt x.gs) (hl : x.gs.length ≤ 1000) (k c l u : Int) (z : List (List DC)) (a : An) (j : Nat) (hj : j < 9) :
    rnK [0, 117] 8 (EC (EV G (Tb (bs bb))) G h68l1 (dr0 (drpF x j) k c l u z a j)) = some (dr0 (drpF x (j + 1)) k c l u z a (j + 1)) := by
  have q := level_v (G := G) (bb := bb) x.ws hs (by omega) x.v (drpF x j).K (drpF x j).D x.W x.sn j
  have ek : drpF x j = { x with K := (drpF x j).K, D := (drpF x j).D } := rfl
  by_cases h : lvF x.gs j < 1
  · rw [drpF_y x j h, ek]
    generalize (drpF x j).K = K at *
    generalize (drpF x j).D = D at *
    obtain ⟨gs, ws, v, K0, D0, W, sn⟩ := x
    unfold dr0
    simp only [caH] at q h
    simp (disch := omega) only [go_sem, h68l1, evJ_5, q, h, tn1]
  · rw [drpF_n x j h, ek]
    generalize (drpF x j).K = K at *
    generalize (drpF x j).D = D at *
    obtain ⟨gs, ws, v, K0, D0, W, sn⟩ := x
    unfold dr0
    simp only [caH] at q h
    simp (disch := omega) only [go_sem, h68l1, evJ_5, q, h, tn1]
theorem tail2 {st : AS} (x : Ca) (hs : Srt x.gs) (hl : x.gs.length ≤ 1000) (hn : x.sn.length + 20 ≤ 10000) (k c l u : Int) (z : List (List DC)) (a : An) (hf : a.f.length ≤ 10) (hc : ∀ w ∈ a.f, 1 ≤ w.c ∧ w.c ≤ 8) (h0 : st = fr0 x k c l u z a 0) :
    retZ false [RetV.tmp 4] 5 (sqK (EV G (Tb (bs bb))) G (((HC.region [Oo 118 (AI.mov (Ki 0))]).seq (HC.block 2 (HC.loop [0, 117] h68l1))).seq ((HC.region [Oo 4 (AI.mov (Ki 0))]).seq HC.ret)) (blkK 0 (EL (EV G (Tb (bs bb))) G h68l0 [0, 107, 0, 0] 8 st))) = some (vi 0, (drpF (effL x a.f) 9).h) := by
  rw [fr_loop x hs hl hn k c l u z a hf hc h0]
  have e := effL_gs x a.f
  generalize effL x a.f = y at *
  have hs' : Srt y.gs := by rw [e.1]; exact hs
  have hl' : y.gs.length ≤ 1000 := by rw [e.1]; exact hl
  unfold fr0
  simp (disch := omega) only [go_sem, h68l0]
  rw [EL_loop (fun j => dr0 (drpF y j) k c l u z a j) 9 ?_ ?_]
  rotate_left
  · rw [drpF_0]; rfl
  · intro j hj
    exact dr_round y hs' hl' k c l u z a j hj
  generalize drpF y 9 = z at *
  unfold dr0
  simp (disch := omega) only [go_sem, h68l1]
  try rfl
theorem giv_gs (x : Ca) (k c u : Int) : (giv x k c u).gs = x.gs ∧ (giv x k c u).ws = x.ws ∧ (giv x k c u).sn = x.sn := by
  unfold giv
  split <;> simp
end
section
variable {G : Glob} {bb : Bool}
def aft (x : Ca) (k c l u : Int) : Ca := ⟨(stp x.gs x.ws ⟨k, c, l⟩).1, (stp x.gs x.ws ⟨k, c, l⟩).2.1, (giv x k c u).v, (giv x k c u).K, (giv x k c u).D, (giv x k c u).W, (giv x k c u).sn⟩
theorem actF_e (x : Ca) (k c l u : Int) : actF x k c l u = drpF (effL (if (stp x.gs x.ws ⟨k, c, l⟩).2.2.d = true then effF (aft x k c l u) c k else aft x k c l u) (stp x.gs x.ws ⟨k, c, l⟩).2.2.f) 9 := rfl
set_option maxHeartbeats 8000000 in
theorem cact_k4D (hG : G 0 = some alD) (gs : List Gr) (ws : List Wt) (v : Int) (K : Nat → Int) (D : Nat → Bool) (W : Nat → Int) (sn : List Int) (hv : Vd gs ws) (hh : Hd gs ws) (hn : sn.length ≤ 9000) (k c l u : Int) (hu : usE ⟨gs, ws, v, K, D, W, sn⟩ k c l u = 0) (ha : aloF ⟨gs, ws, v, K, D, W, sn⟩ k c u = none) (he : acErr gs ws ⟨k, c, l⟩ = 0) (k4 : k = 4) (hd : D c.toNat = true) :
    EV G (Tb (bs bb)) 68 [.one (.ptr 0 0), .agg [.dc (ci k), .dc (ci c), .dc (ci l), .dc (ci u)]] (caH gs ws v K D W sn) = some (vi 0, (actF ⟨gs, ws, v, K, D, W, sn⟩ k c l u).h) := by
  refine EV_run rfl ?_
  have n3 : ¬ k = 3 := by omega
  have h1 := hv.gl
  have h2 := hv.wl
  have q1 := usualErr_v (G := G) (bb := bb) gs ws hv.so ⟨k, c, l⟩ (by omega) (by omega)
  have q2 := actErr_v (G := G) (bb := bb) gs ws hv.so ⟨k, c, l⟩ (by omega) (by omega)
  have eus : usE ⟨gs, ws, v, K, D, W, sn⟩ k c l u = firstE [ifE (wi u 0 (if k = 3 then 999 else 0)) 2, usErr gs ws ⟨k, c, l⟩] := rfl
  rw [eus, if_neg n3] at hu
  have hu1 : usErr gs ws ⟨k, c, l⟩ = 0 := by
    rw [firstE_0] at hu
    exact hu _ (by simp)
  obtain ⟨c1, c2, c3, c4, c5⟩ := us_ok hu1
  simp only at c1 c2 c5
  have hcn : c.toNat < 9 := by omega
  have qa := alone_v (G := G) (bb := bb) ⟨gs, ws, v, K, D, W, sn⟩ hv.so (by simp only; omega) (by simp only; omega) k c l u c2
  rw [ha] at qa
  simp only [Ca.h, caH, Option.isSome_none, Option.getD_none] at qa
  obtain ⟨d1, d2⟩ := ac_us he
  have q3 := step_v (G := G) (bb := bb) hG gs ws ⟨k, c, l⟩ hv.so (fun w hw => kOK_us (hv.wr w hw).2.1) d1 d2 (by omega)
  obtain ⟨hV', _⟩ := stp_ok hv hh he
  have hsf := stp_f gs ws ⟨k, c, l⟩
  have hsc : ∀ w ∈ (stp gs ws ⟨k, c, l⟩).2.2.f, 1 ≤ w.c ∧ w.c ≤ 8 := fun w hw => (hv.wr w (hsf.1 w hw)).1
  have hsl := hsf.2
  have eg : giv ⟨gs, ws, v, K, D, W, sn⟩ k c u = ⟨gs, ws, K c.toNat, K, upd D c.toNat false, upd W c.toNat u, sn⟩ := by unfold giv; rw [if_pos ⟨by omega, hd⟩]
  rw [actF_e]
  unfold aft
  rw [eg]
  simp only
  generalize stp gs ws ⟨k, c, l⟩ = s at *
  obtain ⟨gs', ws', an⟩ := s
  simp only [fileH] at q3 hV' hsc hsl ⊢
  have hg' := hV'.gl
  cases hdn : an.d with
  | true =>
    have q4 := effect_v (G := G) (bb := bb) ⟨gs', ws', K c.toNat, K, upd D c.toNat false, upd W c.toNat u, sn⟩ hV'.so (by simp only; omega) (by simp only; omega) c k c2
    have ee := effF_gs ⟨gs', ws', K c.toNat, K, upd D c.toNat false, upd W c.toNat u, sn⟩ c k
    rw [if_pos rfl]
    have tl := fun st h0 => tail2 (G := G) (bb := bb) (st := st) (effF ⟨gs', ws', K c.toNat, K, upd D c.toNat false, upd W c.toNat u, sn⟩ c k) (by rw [ee.1]; exact hV'.so) (by rw [ee.1]; simp only; omega) (by simp only at ee; omega) k c l u [[ci (ifE (wi u 0 (if k = 3 then 999 else 0)) 2)], [ci (usErr gs ws ⟨k, c, l⟩)]] an (by omega) hsc h0
    generalize effF ⟨gs', ws', K c.toNat, K, upd D c.toNat false, upd W c.toNat u, sn⟩ c k = y at *
    simp only [Ca.h, caH] at q4 ⊢
    simp (disch := omega) only [go_sem, h68c, n3, eq_true k4, hd, within_u, unless_u, q1, q2, q3, q4, hdn, first2, hu, evJ_5, qa, tn1]
    refine tl _ ?_
    simp only [n3, if_false]
    unfold fr0 usH
    rw [hdn]
    rfl
  | false =>
    have tl := fun st h0 => tail2 (G := G) (bb := bb) (st := st) ⟨gs', ws', K c.toNat, K, upd D c.toNat false, upd W c.toNat u, sn⟩ hV'.so (by simp only; omega) (by simp only; omega) k c l u [[ci (ifE (wi u 0 (if k = 3 then 999 else 0)) 2)], [ci (usErr gs ws ⟨k, c, l⟩)]] an (by omega) hsc h0
    rw [if_neg (by simp)]
    simp (disch := omega) only [go_sem, h68c, n3, eq_true k4, hd, within_u, unless_u, q1, q2, q3, hdn, first2, hu, evJ_5, qa, tn1]
    refine tl _ ?_
    simp only [n3, if_false]
    unfold fr0 usH
    rw [hdn]
    rfl
set_option maxHeartbeats 8000000 in
theorem cact_k4N (hG : G 0 = some alD) (gs : List Gr) (ws : List Wt) (v : Int) (K : Nat → Int) (D : Nat → Bool) (W : Nat → Int) (sn : List Int) (hv : Vd gs ws) (hh : Hd gs ws) (hn : sn.length ≤ 9000) (k c l u : Int) (hu : usE ⟨gs, ws, v, K, D, W, sn⟩ k c l u = 0) (ha : aloF ⟨gs, ws, v, K, D, W, sn⟩ k c u = none) (he : acErr gs ws ⟨k, c, l⟩ = 0) (k4 : k = 4) (hd : D c.toNat = false) :
    EV G (Tb (bs bb)) 68 [.one (.ptr 0 0), .agg [.dc (ci k), .dc (ci c), .dc (ci l), .dc (ci u)]] (caH gs ws v K D W sn) = some (vi 0, (actF ⟨gs, ws, v, K, D, W, sn⟩ k c l u).h) := by
  refine EV_run rfl ?_
  have n3 : ¬ k = 3 := by omega
  have h1 := hv.gl
  have h2 := hv.wl
  have q1 := usualErr_v (G := G) (bb := bb) gs ws hv.so ⟨k, c, l⟩ (by omega) (by omega)
  have q2 := actErr_v (G := G) (bb := bb) gs ws hv.so ⟨k, c, l⟩ (by omega) (by omega)
  have eus : usE ⟨gs, ws, v, K, D, W, sn⟩ k c l u = firstE [ifE (wi u 0 (if k = 3 then 999 else 0)) 2, usErr gs ws ⟨k, c, l⟩] := rfl
  rw [eus, if_neg n3] at hu
  have hu1 : usErr gs ws ⟨k, c, l⟩ = 0 := by
    rw [firstE_0] at hu
    exact hu _ (by simp)
  obtain ⟨c1, c2, c3, c4, c5⟩ := us_ok hu1
  simp only at c1 c2 c5
  have hcn : c.toNat < 9 := by omega
  have qa := alone_v (G := G) (bb := bb) ⟨gs, ws, v, K, D, W, sn⟩ hv.so (by simp only; omega) (by simp only; omega) k c l u c2
  rw [ha] at qa
  simp only [Ca.h, caH, Option.isSome_none, Option.getD_none] at qa
  obtain ⟨d1, d2⟩ := ac_us he
  have q3 := step_v (G := G) (bb := bb) hG gs ws ⟨k, c, l⟩ hv.so (fun w hw => kOK_us (hv.wr w hw).2.1) d1 d2 (by omega)
  obtain ⟨hV', _⟩ := stp_ok hv hh he
  have hsf := stp_f gs ws ⟨k, c, l⟩
  have hsc : ∀ w ∈ (stp gs ws ⟨k, c, l⟩).2.2.f, 1 ≤ w.c ∧ w.c ≤ 8 := fun w hw => (hv.wr w (hsf.1 w hw)).1
  have hsl := hsf.2
  have eg : giv ⟨gs, ws, v, K, D, W, sn⟩ k c u = ⟨gs, ws, v, K, D, upd W c.toNat u, sn⟩ := by unfold giv; rw [if_neg (by simp [hd])]
  rw [actF_e]
  unfold aft
  rw [eg]
  simp only
  generalize stp gs ws ⟨k, c, l⟩ = s at *
  obtain ⟨gs', ws', an⟩ := s
  simp only [fileH] at q3 hV' hsc hsl ⊢
  have hg' := hV'.gl
  cases hdn : an.d with
  | true =>
    have q4 := effect_v (G := G) (bb := bb) ⟨gs', ws', v, K, D, upd W c.toNat u, sn⟩ hV'.so (by simp only; omega) (by simp only; omega) c k c2
    have ee := effF_gs ⟨gs', ws', v, K, D, upd W c.toNat u, sn⟩ c k
    rw [if_pos rfl]
    have tl := fun st h0 => tail2 (G := G) (bb := bb) (st := st) (effF ⟨gs', ws', v, K, D, upd W c.toNat u, sn⟩ c k) (by rw [ee.1]; exact hV'.so) (by rw [ee.1]; simp only; omega) (by simp only at ee; omega) k c l u [[ci (ifE (wi u 0 (if k = 3 then 999 else 0)) 2)], [ci (usErr gs ws ⟨k, c, l⟩)]] an (by omega) hsc h0
    generalize effF ⟨gs', ws', v, K, D, upd W c.toNat u, sn⟩ c k = y at *
    simp only [Ca.h, caH] at q4 ⊢
    simp (disch := omega) only [go_sem, h68c, n3, eq_true k4, hd, within_u, unless_u, q1, q2, q3, q4, hdn, first2, hu, evJ_5, qa, tn1]
    refine tl _ ?_
    simp only [n3, if_false]
    unfold fr0 usH
    rw [hdn]
    rfl
  | false =>
    have tl := fun st h0 => tail2 (G := G) (bb := bb) (st := st) ⟨gs', ws', v, K, D, upd W c.toNat u, sn⟩ hV'.so (by simp only; omega) (by simp only; omega) k c l u [[ci (ifE (wi u 0 (if k = 3 then 999 else 0)) 2)], [ci (usErr gs ws ⟨k, c, l⟩)]] an (by omega) hsc h0
    rw [if_neg (by simp)]
    simp (disch := omega) only [go_sem, h68c, n3, eq_true k4, hd, within_u, unless_u, q1, q2, q3, hdn, first2, hu, evJ_5, qa, tn1]
    refine tl _ ?_
    simp only [n3, if_false]
    unfold fr0 usH
    rw [hdn]
    rfl
set_option maxHeartbeats 8000000 in
theorem cact_k5D (hG : G 0 = some alD) (gs : List Gr) (ws : List Wt) (v : Int) (K : Nat → Int) (D : Nat → Bool) (W : Nat → Int) (sn : List Int) (hv : Vd gs ws) (hh : Hd gs ws) (hn : sn.length ≤ 9000) (k c l u : Int) (hu : usE ⟨gs, ws, v, K, D, W, sn⟩ k c l u = 0) (ha : aloF ⟨gs, ws, v, K, D, W, sn⟩ k c u = none) (he : acErr gs ws ⟨k, c, l⟩ = 0) (k5 : k = 5) (hd : D c.toNat = true) :
    EV G (Tb (bs bb)) 68 [.one (.ptr 0 0), .agg [.dc (ci k), .dc (ci c), .dc (ci l), .dc (ci u)]] (caH gs ws v K D W sn) = some (vi 0, (actF ⟨gs, ws, v, K, D, W, sn⟩ k c l u).h) := by
  refine EV_run rfl ?_
  have n3 : ¬ k = 3 := by omega
  have n4 : ¬ k = 4 := by omega
  have h1 := hv.gl
  have h2 := hv.wl
  have q1 := usualErr_v (G := G) (bb := bb) gs ws hv.so ⟨k, c, l⟩ (by omega) (by omega)
  have q2 := actErr_v (G := G) (bb := bb) gs ws hv.so ⟨k, c, l⟩ (by omega) (by omega)
  have eus : usE ⟨gs, ws, v, K, D, W, sn⟩ k c l u = firstE [ifE (wi u 0 (if k = 3 then 999 else 0)) 2, usErr gs ws ⟨k, c, l⟩] := rfl
  rw [eus, if_neg n3] at hu
  have hu1 : usErr gs ws ⟨k, c, l⟩ = 0 := by
    rw [firstE_0] at hu
    exact hu _ (by simp)
  obtain ⟨c1, c2, c3, c4, c5⟩ := us_ok hu1
  simp only at c1 c2 c5
  have hcn : c.toNat < 9 := by omega
  have qa := alone_v (G := G) (bb := bb) ⟨gs, ws, v, K, D, W, sn⟩ hv.so (by simp only; omega) (by simp only; omega) k c l u c2
  rw [ha] at qa
  simp only [Ca.h, caH, Option.isSome_none, Option.getD_none] at qa
  obtain ⟨d1, d2⟩ := ac_us he
  have q3 := step_v (G := G) (bb := bb) hG gs ws ⟨k, c, l⟩ hv.so (fun w hw => kOK_us (hv.wr w hw).2.1) d1 d2 (by omega)
  obtain ⟨hV', _⟩ := stp_ok hv hh he
  have hsf := stp_f gs ws ⟨k, c, l⟩
  have hsc : ∀ w ∈ (stp gs ws ⟨k, c, l⟩).2.2.f, 1 ≤ w.c ∧ w.c ≤ 8 := fun w hw => (hv.wr w (hsf.1 w hw)).1
  have hsl := hsf.2
  have eg : giv ⟨gs, ws, v, K, D, W, sn⟩ k c u = ⟨gs, ws, K c.toNat, K, upd D c.toNat false, upd W c.toNat u, sn⟩ := by unfold giv; rw [if_pos ⟨by omega, hd⟩]
  rw [actF_e]
  unfold aft
  rw [eg]
  simp only
  generalize stp gs ws ⟨k, c, l⟩ = s at *
  obtain ⟨gs', ws', an⟩ := s
  simp only [fileH] at q3 hV' hsc hsl ⊢
  have hg' := hV'.gl
  cases hdn : an.d with
  | true =>
    have q4 := effect_v (G := G) (bb := bb) ⟨gs', ws', K c.toNat, K, upd D c.toNat false, upd W c.toNat u, sn⟩ hV'.so (by simp only; omega) (by simp only; omega) c k c2
    have ee := effF_gs ⟨gs', ws', K c.toNat, K, upd D c.toNat false, upd W c.toNat u, sn⟩ c k
    rw [if_pos rfl]
    have tl := fun st h0 => tail2 (G := G) (bb := bb) (st := st) (effF ⟨gs', ws', K c.toNat, K, upd D c.toNat false, upd W c.toNat u, sn⟩ c k) (by rw [ee.1]; exact hV'.so) (by rw [ee.1]; simp only; omega) (by simp only at ee; omega) k c l u [[ci (ifE (wi u 0 (if k = 3 then 999 else 0)) 2)], [ci (usErr gs ws ⟨k, c, l⟩)]] an (by omega) hsc h0
    generalize effF ⟨gs', ws', K c.toNat, K, upd D c.toNat false, upd W c.toNat u, sn⟩ c k = y at *
    simp only [Ca.h, caH] at q4 ⊢
    simp (disch := omega) only [go_sem, h68c, n3, n4, eq_true k5, hd, within_u, unless_u, q1, q2, q3, q4, hdn, first2, hu, evJ_5, qa, tn1]
    refine tl _ ?_
    simp only [n3, if_false]
    unfold fr0 usH
    rw [hdn]
    rfl
  | false =>
    have tl := fun st h0 => tail2 (G := G) (bb := bb) (st := st) ⟨gs', ws', K c.toNat, K, upd D c.toNat false, upd W c.toNat u, sn⟩ hV'.so (by simp only; omega) (by simp only; omega) k c l u [[ci (ifE (wi u 0 (if k = 3 then 999 else 0)) 2)], [ci (usErr gs ws ⟨k, c, l⟩)]] an (by omega) hsc h0
    rw [if_neg (by simp)]
    simp (disch := omega) only [go_sem, h68c, n3, n4, eq_true k5, hd, within_u, unless_u, q1, q2, q3, hdn, first2, hu, evJ_5, qa, tn1]
    refine tl _ ?_
    simp only [n3, if_false]
    unfold fr0 usH
    rw [hdn]
    rfl
set_option maxHeartbeats 8000000 in
theorem cact_k5N (hG : G 0 = some alD) (gs : List Gr) (ws : List Wt) (v : Int) (K : Nat → Int) (D : Nat → Bool) (W : Nat → Int) (sn : List Int) (hv : Vd gs ws) (hh : Hd gs ws) (hn : sn.length ≤ 9000) (k c l u : Int) (hu : usE ⟨gs, ws, v, K, D, W, sn⟩ k c l u = 0) (ha : aloF ⟨gs, ws, v, K, D, W, sn⟩ k c u = none) (he : acErr gs ws ⟨k, c, l⟩ = 0) (k5 : k = 5) (hd : D c.toNat = false) :
    EV G (Tb (bs bb)) 68 [.one (.ptr 0 0), .agg [.dc (ci k), .dc (ci c), .dc (ci l), .dc (ci u)]] (caH gs ws v K D W sn) = some (vi 0, (actF ⟨gs, ws, v, K, D, W, sn⟩ k c l u).h) := by
  refine EV_run rfl ?_
  have n3 : ¬ k = 3 := by omega
  have n4 : ¬ k = 4 := by omega
  have h1 := hv.gl
  have h2 := hv.wl
  have q1 := usualErr_v (G := G) (bb := bb) gs ws hv.so ⟨k, c, l⟩ (by omega) (by omega)
  have q2 := actErr_v (G := G) (bb := bb) gs ws hv.so ⟨k, c, l⟩ (by omega) (by omega)
  have eus : usE ⟨gs, ws, v, K, D, W, sn⟩ k c l u = firstE [ifE (wi u 0 (if k = 3 then 999 else 0)) 2, usErr gs ws ⟨k, c, l⟩] := rfl
  rw [eus, if_neg n3] at hu
  have hu1 : usErr gs ws ⟨k, c, l⟩ = 0 := by
    rw [firstE_0] at hu
    exact hu _ (by simp)
  obtain ⟨c1, c2, c3, c4, c5⟩ := us_ok hu1
  simp only at c1 c2 c5
  have hcn : c.toNat < 9 := by omega
  have qa := alone_v (G := G) (bb := bb) ⟨gs, ws, v, K, D, W, sn⟩ hv.so (by simp only; omega) (by simp only; omega) k c l u c2
  rw [ha] at qa
  simp only [Ca.h, caH, Option.isSome_none, Option.getD_none] at qa
  obtain ⟨d1, d2⟩ := ac_us he
  have q3 := step_v (G := G) (bb := bb) hG gs ws ⟨k, c, l⟩ hv.so (fun w hw => kOK_us (hv.wr w hw).2.1) d1 d2 (by omega)
  obtain ⟨hV', _⟩ := stp_ok hv hh he
  have hsf := stp_f gs ws ⟨k, c, l⟩
  have hsc : ∀ w ∈ (stp gs ws ⟨k, c, l⟩).2.2.f, 1 ≤ w.c ∧ w.c ≤ 8 := fun w hw => (hv.wr w (hsf.1 w hw)).1
  have hsl := hsf.2
  have eg : giv ⟨gs, ws, v, K, D, W, sn⟩ k c u = ⟨gs, ws, v, K, D, upd W c.toNat u, sn⟩ := by unfold giv; rw [if_neg (by simp [hd])]
  rw [actF_e]
  unfold aft
  rw [eg]
  simp only
  generalize stp gs ws ⟨k, c, l⟩ = s at *
  obtain ⟨gs', ws', an⟩ := s
  simp only [fileH] at q3 hV' hsc hsl ⊢
  have hg' := hV'.gl
  cases hdn : an.d with
  | true =>
    have q4 := effect_v (G := G) (bb := bb) ⟨gs', ws', v, K, D, upd W c.toNat u, sn⟩ hV'.so (by simp only; omega) (by simp only; omega) c k c2
    have ee := effF_gs ⟨gs', ws', v, K, D, upd W c.toNat u, sn⟩ c k
    rw [if_pos rfl]
    have tl := fun st h0 => tail2 (G := G) (bb := bb) (st := st) (effF ⟨gs', ws', v, K, D, upd W c.toNat u, sn⟩ c k) (by rw [ee.1]; exact hV'.so) (by rw [ee.1]; simp only; omega) (by simp only at ee; omega) k c l u [[ci (ifE (wi u 0 (if k = 3 then 999 else 0)) 2)], [ci (usErr gs ws ⟨k, c, l⟩)]] an (by omega) hsc h0
    generalize effF ⟨gs', ws', v, K, D, upd W c.toNat u, sn⟩ c k = y at *
    simp only [Ca.h, caH] at q4 ⊢
    simp (disch := omega) only [go_sem, h68c, n3, n4, eq_true k5, hd, within_u, unless_u, q1, q2, q3, q4, hdn, first2, hu, evJ_5, qa, tn1]
    refine tl _ ?_
    simp only [n3, if_false]
    unfold fr0 usH
    rw [hdn]
    rfl
  | false =>
    have tl := fun st h0 => tail2 (G := G) (bb := bb) (st := st) ⟨gs', ws', v, K, D, upd W c.toNat u, sn⟩ hV'.so (by simp only; omega) (by simp only; omega) k c l u [[ci (ifE (wi u 0 (if k = 3 then 999 else 0)) 2)], [ci (usErr gs ws ⟨k, c, l⟩)]] an (by omega) hsc h0
    rw [if_neg (by simp)]
    simp (disch := omega) only [go_sem, h68c, n3, n4, eq_true k5, hd, within_u, unless_u, q1, q2, q3, hdn, first2, hu, evJ_5, qa, tn1]
    refine tl _ ?_
    simp only [n3, if_false]
    unfold fr0 usH
    rw [hdn]
    rfl
set_option maxHeartbeats 8000000 in
theorem cact_k3 (hG : G 0 = some alD) (gs : List Gr) (ws : List Wt) (v : Int) (K : Nat → Int) (D : Nat → Bool) (W : Nat → Int) (sn : List Int) (hv : Vd gs ws) (hh : Hd gs ws) (hn : sn.length ≤ 9000) (k c l u : Int) (hu : usE ⟨gs, ws, v, K, D, W, sn⟩ k c l u = 0) (ha : aloF ⟨gs, ws, v, K, D, W, sn⟩ k c u = none) (he : acErr gs ws ⟨k, c, l⟩ = 0) (k3 : k = 3) :
    EV G (Tb (bs bb)) 68 [.one (.ptr 0 0), .agg [.dc (ci k), .dc (ci c), .dc (ci l), .dc (ci u)]] (caH gs ws v K D W sn) = some (vi 0, (actF ⟨gs, ws, v, K, D, W, sn⟩ k c l u).h) := by
  refine EV_run rfl ?_
  have n4 : ¬ k = 4 := by omega
  have n5 : ¬ k = 5 := by omega
  have h1 := hv.gl
  have h2 := hv.wl
  have q1 := usualErr_v (G := G) (bb := bb) gs ws hv.so ⟨k, c, l⟩ (by omega) (by omega)
  have q2 := actErr_v (G := G) (bb := bb) gs ws hv.so ⟨k, c, l⟩ (by omega) (by omega)
  have eus : usE ⟨gs, ws, v, K, D, W, sn⟩ k c l u = firstE [ifE (wi u 0 (if k = 3 then 999 else 0)) 2, usErr gs ws ⟨k, c, l⟩] := rfl
  rw [eus, if_pos k3] at hu
  have hu1 : usErr gs ws ⟨k, c, l⟩ = 0 := by
    rw [firstE_0] at hu
    exact hu _ (by simp)
  obtain ⟨c1, c2, c3, c4, c5⟩ := us_ok hu1
  simp only at c1 c2 c5
  have hcn : c.toNat < 9 := by omega
  have qa := alone_v (G := G) (bb := bb) ⟨gs, ws, v, K, D, W, sn⟩ hv.so (by simp only; omega) (by simp only; omega) k c l u c2
  rw [ha] at qa
  simp only [Ca.h, caH, Option.isSome_none, Option.getD_none] at qa
  obtain ⟨d1, d2⟩ := ac_us he
  have q3 := step_v (G := G) (bb := bb) hG gs ws ⟨k, c, l⟩ hv.so (fun w hw => kOK_us (hv.wr w hw).2.1) d1 d2 (by omega)
  obtain ⟨hV', _⟩ := stp_ok hv hh he
  have hsf := stp_f gs ws ⟨k, c, l⟩
  have hsc : ∀ w ∈ (stp gs ws ⟨k, c, l⟩).2.2.f, 1 ≤ w.c ∧ w.c ≤ 8 := fun w hw => (hv.wr w (hsf.1 w hw)).1
  have hsl := hsf.2
  have eg : giv ⟨gs, ws, v, K, D, W, sn⟩ k c u = ⟨gs, ws, v, K, D, upd W c.toNat u, sn⟩ := by unfold giv; rw [if_neg (fun h => by omega)]
  rw [actF_e]
  unfold aft
  rw [eg]
  simp only
  generalize stp gs ws ⟨k, c, l⟩ = s at *
  obtain ⟨gs', ws', an⟩ := s
  simp only [fileH] at q3 hV' hsc hsl ⊢
  have hg' := hV'.gl
  cases hdn : an.d with
  | true =>
    have q4 := effect_v (G := G) (bb := bb) ⟨gs', ws', v, K, D, upd W c.toNat u, sn⟩ hV'.so (by simp only; omega) (by simp only; omega) c k c2
    have ee := effF_gs ⟨gs', ws', v, K, D, upd W c.toNat u, sn⟩ c k
    rw [if_pos rfl]
    have tl := fun st h0 => tail2 (G := G) (bb := bb) (st := st) (effF ⟨gs', ws', v, K, D, upd W c.toNat u, sn⟩ c k) (by rw [ee.1]; exact hV'.so) (by rw [ee.1]; simp only; omega) (by simp only at ee; omega) k c l u [[ci (ifE (wi u 0 (if k = 3 then 999 else 0)) 2)], [ci (usErr gs ws ⟨k, c, l⟩)]] an (by omega) hsc h0
    generalize effF ⟨gs', ws', v, K, D, upd W c.toNat u, sn⟩ c k = y at *
    simp only [Ca.h, caH] at q4 ⊢
    simp (disch := omega) only [go_sem, h68c, eq_true k3, n4, n5, within_u, unless_u, q1, q2, q3, q4, hdn, first2, hu, evJ_5, qa, tn1]
    refine tl _ ?_
    simp only [eq_true k3, if_true]
    unfold fr0 usH
    rw [hdn]
    rfl
  | false =>
    have tl := fun st h0 => tail2 (G := G) (bb := bb) (st := st) ⟨gs', ws', v, K, D, upd W c.toNat u, sn⟩ hV'.so (by simp only; omega) (by simp only; omega) k c l u [[ci (ifE (wi u 0 (if k = 3 then 999 else 0)) 2)], [ci (usErr gs ws ⟨k, c, l⟩)]] an (by omega) hsc h0
    rw [if_neg (by simp)]
    simp (disch := omega) only [go_sem, h68c, eq_true k3, n4, n5, within_u, unless_u, q1, q2, q3, hdn, first2, hu, evJ_5, qa, tn1]
    refine tl _ ?_
    simp only [eq_true k3, if_true]
    unfold fr0 usH
    rw [hdn]
    rfl
set_option maxHeartbeats 8000000 in
theorem cact_kO (hG : G 0 = some alD) (gs : List Gr) (ws : List Wt) (v : Int) (K : Nat → Int) (D : Nat → Bool) (W : Nat → Int) (sn : List Int) (hv : Vd gs ws) (hh : Hd gs ws) (hn : sn.length ≤ 9000) (k c l u : Int) (hu : usE ⟨gs, ws, v, K, D, W, sn⟩ k c l u = 0) (ha : aloF ⟨gs, ws, v, K, D, W, sn⟩ k c u = none) (he : acErr gs ws ⟨k, c, l⟩ = 0) (n3 : ¬ k = 3) (n4 : ¬ k = 4) (n5 : ¬ k = 5) :
    EV G (Tb (bs bb)) 68 [.one (.ptr 0 0), .agg [.dc (ci k), .dc (ci c), .dc (ci l), .dc (ci u)]] (caH gs ws v K D W sn) = some (vi 0, (actF ⟨gs, ws, v, K, D, W, sn⟩ k c l u).h) := by
  refine EV_run rfl ?_
  have h1 := hv.gl
  have h2 := hv.wl
  have q1 := usualErr_v (G := G) (bb := bb) gs ws hv.so ⟨k, c, l⟩ (by omega) (by omega)
  have q2 := actErr_v (G := G) (bb := bb) gs ws hv.so ⟨k, c, l⟩ (by omega) (by omega)
  have eus : usE ⟨gs, ws, v, K, D, W, sn⟩ k c l u = firstE [ifE (wi u 0 (if k = 3 then 999 else 0)) 2, usErr gs ws ⟨k, c, l⟩] := rfl
  rw [eus, if_neg n3] at hu
  have hu1 : usErr gs ws ⟨k, c, l⟩ = 0 := by
    rw [firstE_0] at hu
    exact hu _ (by simp)
  obtain ⟨c1, c2, c3, c4, c5⟩ := us_ok hu1
  simp only at c1 c2 c5
  have hcn : c.toNat < 9 := by omega
  have qa := alone_v (G := G) (bb := bb) ⟨gs, ws, v, K, D, W, sn⟩ hv.so (by simp only; omega) (by simp only; omega) k c l u c2
  rw [ha] at qa
  simp only [Ca.h, caH, Option.isSome_none, Option.getD_none] at qa
  obtain ⟨d1, d2⟩ := ac_us he
  have q3 := step_v (G := G) (bb := bb) hG gs ws ⟨k, c, l⟩ hv.so (fun w hw => kOK_us (hv.wr w hw).2.1) d1 d2 (by omega)
  obtain ⟨hV', _⟩ := stp_ok hv hh he
  have hsf := stp_f gs ws ⟨k, c, l⟩
  have hsc : ∀ w ∈ (stp gs ws ⟨k, c, l⟩).2.2.f, 1 ≤ w.c ∧ w.c ≤ 8 := fun w hw => (hv.wr w (hsf.1 w hw)).1
  have hsl := hsf.2
  have eg : giv ⟨gs, ws, v, K, D, W, sn⟩ k c u = ⟨gs, ws, v, K, D, upd W c.toNat u, sn⟩ := by unfold giv; rw [if_neg (fun h => by omega)]
  rw [actF_e]
  unfold aft
  rw [eg]
  simp only
  generalize stp gs ws ⟨k, c, l⟩ = s at *
  obtain ⟨gs', ws', an⟩ := s
  simp only [fileH] at q3 hV' hsc hsl ⊢
  have hg' := hV'.gl
  cases hdn : an.d with
  | true =>
    have q4 := effect_v (G := G) (bb := bb) ⟨gs', ws', v, K, D, upd W c.toNat u, sn⟩ hV'.so (by simp only; omega) (by simp only; omega) c k c2
    have ee := effF_gs ⟨gs', ws', v, K, D, upd W c.toNat u, sn⟩ c k
    rw [if_pos rfl]
    have tl := fun st h0 => tail2 (G := G) (bb := bb) (st := st) (effF ⟨gs', ws', v, K, D, upd W c.toNat u, sn⟩ c k) (by rw [ee.1]; exact hV'.so) (by rw [ee.1]; simp only; omega) (by simp only at ee; omega) k c l u [[ci (ifE (wi u 0 (if k = 3 then 999 else 0)) 2)], [ci (usErr gs ws ⟨k, c, l⟩)]] an (by omega) hsc h0
    generalize effF ⟨gs', ws', v, K, D, upd W c.toNat u, sn⟩ c k = y at *
    simp only [Ca.h, caH] at q4 ⊢
    simp (disch := omega) only [go_sem, h68c, n3, n4, n5, within_u, unless_u, q1, q2, q3, q4, hdn, first2, hu, evJ_5, qa, tn1]
    refine tl _ ?_
    simp only [n3, if_false]
    unfold fr0 usH
    rw [hdn]
    rfl
  | false =>
    have tl := fun st h0 => tail2 (G := G) (bb := bb) (st := st) ⟨gs', ws', v, K, D, upd W c.toNat u, sn⟩ hV'.so (by simp only; omega) (by simp only; omega) k c l u [[ci (ifE (wi u 0 (if k = 3 then 999 else 0)) 2)], [ci (usErr gs ws ⟨k, c, l⟩)]] an (by omega) hsc h0
    rw [if_neg (by simp)]
    simp (disch := omega) only [go_sem, h68c, n3, n4, n5, within_u, unless_u, q1, q2, q3, hdn, first2, hu, evJ_5, qa, tn1]
    refine tl _ ?_
    simp only [n3, if_false]
    unfold fr0 usH
    rw [hdn]
    rfl
end
section
variable {G : Glob} {bb : Bool}
set_option maxHeartbeats 8000000 in
theorem cuse_v (hG : G 0 = some alD) (x : Ca) (hv : Vd x.gs x.ws) (hh : Hd x.gs x.ws) (hn : x.sn.length ≤ 9000) (k c l u : Int) :
    EV G (Tb (bs bb)) 68 [.one (.ptr 0 0), .agg [.dc (ci k), .dc (ci c), .dc (ci l), .dc (ci u)]] x.h = some (vi (usF x k c l u).2, (usF x k c l u).1.h) := by
  have h1 := hv.gl
  have h2 := hv.wl
  have q1 := usualErr_v (G := G) (bb := bb) x.gs x.ws hv.so ⟨k, c, l⟩ (by omega) (by omega)
  have q2 := actErr_v (G := G) (bb := bb) x.gs x.ws hv.so ⟨k, c, l⟩ (by omega) (by omega)
  unfold usF
  have eus : usE x k c l u = firstE [ifE (wi u 0 (if k = 3 then 999 else 0)) 2, usErr x.gs x.ws ⟨k, c, l⟩] := rfl
  by_cases hu : usE x k c l u = 0
  · rw [if_neg (by omega)]
    rw [eus] at hu
    have hu1 : usErr x.gs x.ws ⟨k, c, l⟩ = 0 := by
      rw [firstE_0] at hu
      exact hu _ (by simp)
    obtain ⟨k1, k2, k3, k4, k5⟩ := us_ok hu1
    simp only at k1 k2 k5
    have qa := alone_v (G := G) (bb := bb) x hv.so (by omega) (by omega) k c l u k2
    cases ha : aloF x k c u with
    | some y =>
      rw [ha] at qa
      simp only [Ca.h, caH, Option.isSome_some, Option.getD_some] at qa ⊢
      by_cases k3 : k = 3
      · rw [if_pos k3] at hu
        refine EV_run rfl ?_
        simp (disch := omega) only [go_sem, h68c, eq_true k3, within_u, unless_u, q1, first2, hu, evJ_5, qa]
        try rfl
      · rw [if_neg k3] at hu
        refine EV_run rfl ?_
        simp (disch := omega) only [go_sem, h68c, k3, within_u, unless_u, q1, first2, hu, evJ_5, qa]
        try rfl
    | none =>
      rw [ha] at qa
      simp only [Ca.h, caH, Option.isSome_none, Option.getD_none] at qa ⊢
      by_cases he : acErr x.gs x.ws ⟨k, c, l⟩ = 0
      · rw [if_neg (by omega)]
        obtain ⟨gs, ws, v, K, D, W, sn⟩ := x
        by_cases k4 : k = 4
        · cases hd : D c.toNat with
          | true => exact cact_k4D hG gs ws v K D W sn hv hh hn k c l u (by rw [eus]; exact hu) ha he k4 hd
          | false => exact cact_k4N hG gs ws v K D W sn hv hh hn k c l u (by rw [eus]; exact hu) ha he k4 hd
        · by_cases k5 : k = 5
          · cases hd : D c.toNat with
            | true => exact cact_k5D hG gs ws v K D W sn hv hh hn k c l u (by rw [eus]; exact hu) ha he k5 hd
            | false => exact cact_k5N hG gs ws v K D W sn hv hh hn k c l u (by rw [eus]; exact hu) ha he k5 hd
          · by_cases k3 : k = 3
            · exact cact_k3 hG gs ws v K D W sn hv hh hn k c l u (by rw [eus]; exact hu) ha he k3
            · exact cact_kO hG gs ws v K D W sn hv hh hn k c l u (by rw [eus]; exact hu) ha he k3 k4 k5
      · rw [if_pos he]
        by_cases k3 : k = 3
        · rw [if_pos k3] at hu
          refine EV_run rfl ?_
          simp (disch := omega) only [go_sem, h68c, eq_true k3, within_u, unless_u, q1, q2, he, first2, hu, evJ_5, qa]
          try rfl
        · rw [if_neg k3] at hu
          refine EV_run rfl ?_
          simp (disch := omega) only [go_sem, h68c, k3, within_u, unless_u, q1, q2, he, first2, hu, evJ_5, qa]
          try rfl
  · rw [if_pos hu]
    rw [eus] at hu ⊢
    by_cases k3 : k = 3
    · rw [if_pos k3] at hu ⊢
      refine EV_run rfl ?_
      simp (disch := omega) only [go_sem, h68c, eq_true k3, within_u, unless_u, q1, first2, hu]
      try rfl
    · rw [if_neg k3] at hu ⊢
      refine EV_run rfl ?_
      simp (disch := omega) only [go_sem, h68c, k3, within_u, unless_u, q1, first2, hu]
      try rfl
end
end Go.Proofs.YtinageiefahjfaaGreatDoor
