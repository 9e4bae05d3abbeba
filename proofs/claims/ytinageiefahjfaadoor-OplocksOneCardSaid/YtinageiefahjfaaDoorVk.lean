/- Caches: uses. Conditions: none. -/
import Derived.Test.YtinageiefahjfaaDoorSh
import Derived.Test.YtinageiefahjfaaDoorUl
namespace Go.Proofs.YtinageiefahjfaaDoor
set_option linter.unusedSimpArgs false
set_option linter.unusedVariables false
set_option maxRecDepth 4000
section
variable {G : Glob} {bb : Bool}
theorem evJ_6 {call : CallT} {d : Option Nat} {f : FuncId} {avs : List AV} {st : AS} {a0 a1 a2 a3 a4 a5 : Nat} : evJ call d f avs st [a0, a1, a2, a3, a4, a5] = evB call d f avs st [a0, a1, a2, a3, a4, a5] (dstN [a0, a1, a2, a3, a4, a5] && kpH [a0, a1, a2, a3, a4, a5] st.hp [a0, a1, a2, a3, a4, a5] && kpVs [a0, a1, a2, a3, a4, a5] avs) := evJ_e _
abbrev acsV (l : List Ac) : AV := vl (l.map Ac.e)
abbrev runH (gs : List Gr) (ws : List Wt) (out : List An) : List AObj := [.box [.ptr 1 0], .box [.bld 2 gs.length, .bld 3 ws.length], .arr 0 3 (gs.map Gr.e), .arr 0 2 (ws.map Wt.e), .box [.bld 5 out.length], .arr 0 3 (out.map An.e)]
theorem vd_k {gs : List Gr} {ws : List Wt} (h : Vd gs ws) : ∀ w ∈ ws, kOK w.k := fun w hw => kOK_us (h.wr w hw).2.1
theorem ac_in {gs : List Gr} {ws : List Wt} {a : Ac} (h : acErr gs ws a = 0) : (0 ≤ a.k ∧ a.k ≤ 5) ∧ (a.k ≠ 0 → isIn gs a.c = true) := by
  have hu : usErr gs ws a = 0 := by
    unfold acErr at h
    split at h
    · rename_i h1; exact absurd h h1
    · rename_i h1; exact Classical.not_not.1 h1
  obtain ⟨h1, h2, h3, h4, h5⟩ := us_ok hu
  refine ⟨h1, fun h0 => ?_⟩
  cases hi : isIn gs a.c with
  | true => rfl
  | false => exact absurd (h5.2 hi) h0
set_option maxHeartbeats 2000000 in
theorem p62_v (hG : G 0 = some alD) (gs : List Gr) (ws : List Wt) (out : List An) (hv : Vd gs ws) (i : Int) (a : Ac) (ho : out.length ≤ 1000) :
    EV G (Tb (bs bb)) 36 [vi i, a.v, .one (.ptr 0 0), .one (.ptr 4 0)] (runH gs ws out) = some (vi (acErr gs ws a), if acErr gs ws a = 0 then runH (stp gs ws a).1 (stp gs ws a).2.1 (out ++ [(stp gs ws a).2.2]) else runH gs ws out) := by
  refine EV_run rfl ?_
  have h1 := hv.gl
  have h2 := hv.wl
  have q := actErr_v (G := G) (bb := bb) gs ws hv.so a (by omega) (by omega)
  by_cases he : acErr gs ws a = 0
  · rw [if_pos he]
    rw [he] at q ⊢
    obtain ⟨h3, h4⟩ := ac_in he
    have q1 := step_v (G := G) (bb := bb) hG gs ws a hv.so (vd_k hv) h3 h4 (by omega)
    simp only [fileH] at q1
    simp only [runH]
    simp (disch := omega) only [go_sem, h36c, q, q1, List.take_length, List.length_append, List.length_cons, List.length_nil, List.map_append, List.map_cons, List.map_nil, An.e]
  · rw [if_neg he]
    simp (disch := omega) only [go_sem, h36c, q, he]
end
section
variable {G : Glob} {bb : Bool}
theorem meet_sw {n0 i j : Nat} {s s' : AS} (h1 : Nat.ble n0 i = true) (h2 : Nat.ble n0 j = true) (h3 : Nat.blt i s'.hp.length = true) (h4 : Nat.blt j s'.hp.length = true) (h : prm [(i, j)] s' = s) : meetE n0 (some s) (some s') = some s :=
  meetE_p [(i, j)] (fun x hx => by
    rw [List.mem_singleton] at hx
    subst hx
    exact ⟨Nat.le_of_ble_eq_true h1, Nat.le_of_ble_eq_true h2, Nat.le_of_ble_eq_true h3, Nat.le_of_ble_eq_true h4⟩) h
theorem meet23 {s s' : AS} (h3 : Nat.blt 2 s'.hp.length = true) (h4 : Nat.blt 3 s'.hp.length = true) (h : prm [(2, 3)] s' = s) : meetE 2 (some s) (some s') = some s := meet_sw rfl rfl h3 h4 h
theorem rcopy_v (gs : List Gr) (ws : List Wt) (hg : gs.length ≤ 100000) (hw : ws.length ≤ 100000) : EV G (Tb (bs bb)) 11 [flV gs ws] [] = some (.agg [.bld 2 gs.length, .bld 3 ws.length], [.box [.dc (.slc (gs.map Gr.e)), .dc (.slc (ws.map Wt.e))], .box [.bld 2 gs.length, .bld 3 ws.length], .arr 0 3 (gs.map Gr.e), .arr 0 2 (ws.map Wt.e)]) := by
  refine EV_run rfl ?_
  simp (disch := omega) only [go_sem, h11c, allLen_gr, allLen_wt]
  repeat
    first
    | rw [meetE_e]
    | (rw [meet23 ?_ ?_ ?_]
       rotate_left
       · rfl
       · rfl
       · rfl)
  simp (disch := omega) only [go_sem]
end
section
variable {G : Glob} {bb : Bool}
structure Ca where
  gs : List Gr
  ws : List Wt
  v : Int
  K : Nat → Int
  D : Nat → Bool
  W : Nat → Int
  sn : List Int
abbrev Ca.h (x : Ca) : List AObj := caH x.gs x.ws x.v x.K x.D x.W x.sn
def effF (x : Ca) (c k : Int) : Ca :=
  if k = 2 then (if lvF x.gs c ≥ 1 then { x with sn := x.sn ++ [x.v], K := upd x.K c.toNat x.v, D := upd x.D c.toNat false } else { x with sn := x.sn ++ [x.v] })
  else if k = 3 then (if lvF x.gs c ≥ 1 then { x with v := x.W c.toNat, K := upd x.K c.toNat (x.W c.toNat), D := upd x.D c.toNat false } else { x with v := x.W c.toNat })
  else x
def aloF (x : Ca) (k c u : Int) : Option Ca :=
  if k = 2 ∧ lvF x.gs c ≥ 1 ∧ x.K c.toNat ≠ -1 then some { x with sn := x.sn ++ [x.K c.toNat] }
  else if k = 3 ∧ lvF x.gs c ≥ 2 ∧ brF x.gs c = false then some { x with K := upd x.K c.toNat u, D := upd x.D c.toNat true }
  else none
theorem fvT_c {st : AS} {id off : Nat} {y : Cel} {p s n : Nat} {v : Int} {K : Nat → Int} {D : Nat → Bool} {W : Nat → Int} (h : off + 1 ≤ 30) : fvT 1 id off [y] st (some (.box (caC p s n v K D W))) = some (⟨st.sl, st.hp.set id (.box (putAt (caC p s n v K D W) off [y]))⟩, [id], [id]) := fvT_b rfl h
theorem tn1 (c : Int) : c.toNat * 1 = c.toNat := Nat.mul_one _
set_option maxHeartbeats 2000000 in
theorem effect_v (x : Ca) (hs : Srt x.gs) (hl : x.gs.length ≤ 100000) (hn : x.sn.length ≤ 100000) (c k : Int) (hc : 1 ≤ c ∧ c ≤ 8) :
    EV G (Tb (bs bb)) 44 [.one (.ptr 0 0), (Wt.mk c k).v] x.h = some (.tup [], (effF x c k).h) := by
  obtain ⟨gs, ws, v, K, D, W, sn⟩ := x
  refine EV_run rfl ?_
  have hcn : c.toNat < 9 := by omega
  unfold effF
  by_cases k2 : k = 2
  · have q := level_v (G := G) (bb := bb) ws hs hl v K D W (sn ++ [v]) c
    simp only at hn hs hl
    simp only [caH, List.length_append, List.length_cons, List.length_nil, List.map_append, List.map_cons, List.map_nil, Nat.zero_add, ci0] at q
    rw [if_pos k2]
    by_cases hlv : lvF gs c ≥ 1
    · rw [if_pos hlv]
      simp (disch := omega) only [go_sem, h44c, fvT_c, evJ_5, eq_true k2, q, hlv, tn1, List.take_length, List.length_append, List.length_cons, List.length_nil, List.map_append, List.map_cons, List.map_nil, ci0]
      simp only [Ca.h, caH, List.length_append, List.length_cons, List.length_nil, List.map_append, List.map_cons, List.map_nil, ci0, Nat.zero_add]
    · rw [if_neg hlv]
      simp (disch := omega) only [go_sem, h44c, fvT_c, evJ_5, eq_true k2, q, hlv, tn1, List.take_length, List.length_append, List.length_cons, List.length_nil, List.map_append, List.map_cons, List.map_nil, ci0]
      simp only [Ca.h, caH, List.length_append, List.length_cons, List.length_nil, List.map_append, List.map_cons, List.map_nil, ci0, Nat.zero_add]
  · rw [if_neg k2]
    by_cases k3 : k = 3
    · have q := level_v (G := G) (bb := bb) ws hs hl (W c.toNat) K D W sn c
      rw [if_pos k3]
      by_cases hlv : lvF gs c ≥ 1
      · rw [if_pos hlv]
        simp (disch := omega) only [go_sem, h44c, fvT_c, evJ_5, k2, eq_true k3, q, hlv, tn1, List.take_length]
      · rw [if_neg hlv]
        simp (disch := omega) only [go_sem, h44c, fvT_c, evJ_5, k2, eq_true k3, q, hlv, tn1, List.take_length]
    · rw [if_neg k3]
      simp (disch := omega) only [go_sem, h44c, fvT_c, k2, k3]
set_option maxHeartbeats 2000000 in
theorem alone_v (x : Ca) (hs : Srt x.gs) (hl : x.gs.length ≤ 100000) (hn : x.sn.length ≤ 100000) (k c l u : Int) (hc : 1 ≤ c ∧ c ≤ 8) :
    EV G (Tb (bs bb)) 43 [.one (.ptr 0 0), .agg [.dc (ci k), .dc (ci c), .dc (ci l), .dc (ci u)]] x.h = some (vb (aloF x k c u).isSome, ((aloF x k c u).getD x).h) := by
  obtain ⟨gs, ws, v, K, D, W, sn⟩ := x
  refine EV_run rfl ?_
  have hcn : c.toNat < 9 := by omega
  have q := level_v (G := G) (bb := bb) ws hs hl v K D W sn c
  simp only at hn hs hl
  unfold aloF
  by_cases k2 : k = 2
  · have k3 : ¬ k = 3 := by omega
    by_cases h1 : lvF gs c ≥ 1
    · by_cases h2 : K c.toNat = -1
      · rw [if_neg (fun h => h.2.2 h2), if_neg (fun h => k3 h.1)]
        simp (disch := omega) only [go_sem, h43c, evJ_5, eq_true k2, k3, q, h1, eq_true h2, tn1]
        try rfl
      · rw [if_pos ⟨k2, h1, h2⟩]
        simp (disch := omega) only [go_sem, h43c, evJ_5, eq_true k2, k3, q, h1, h2, tn1, List.take_length]
        simp only [Ca.h, caH, List.length_append, List.length_cons, List.length_nil, List.map_append, List.map_cons, List.map_nil, ci0, Nat.zero_add, Option.isSome_some, Option.getD_some]
    · rw [if_neg (fun h => h1 h.2.1), if_neg (fun h => k3 h.1)]
      simp (disch := omega) only [go_sem, h43c, evJ_5, eq_true k2, k3, q, h1, tn1]
      try rfl
  · rw [if_neg (fun h => k2 h.1)]
    by_cases k3 : k = 3
    · by_cases h1 : lvF gs c ≥ 2
      · cases h2 : brF gs c with
        | true =>
          rw [h2] at q
          rw [if_neg (by simp)]
          simp (disch := omega) only [go_sem, h43c, evJ_5, k2, eq_true k3, q, h1, tn1]
          try rfl
        | false =>
          rw [h2] at q
          rw [if_pos ⟨k3, h1, rfl⟩]
          simp (disch := omega) only [go_sem, h43c, evJ_5, k2, eq_true k3, q, h1, tn1]
          try rfl
      · rw [if_neg (fun h => h1 h.2.1)]
        simp (disch := omega) only [go_sem, h43c, evJ_5, k2, eq_true k3, q, h1, tn1]
        try rfl
    · rw [if_neg (fun h => k3 h.1)]
      simp (disch := omega) only [go_sem, h43c, evJ_5, k2, k3, q, tn1]
      try rfl
end
section
variable {G : Glob} {bb : Bool}
theorem effF_gs (x : Ca) (c k : Int) : (effF x c k).gs = x.gs ∧ (effF x c k).ws = x.ws ∧ (effF x c k).sn.length ≤ x.sn.length + 1 := by
  unfold effF
  repeat' split
  all_goals simp
def effL (x : Ca) (l : List Wt) : Ca := l.foldl (fun y a => effF y a.c a.k) x
theorem effL_gs (x : Ca) (l : List Wt) : (effL x l).gs = x.gs ∧ (effL x l).ws = x.ws ∧ (effL x l).sn.length ≤ x.sn.length + l.length := by
  unfold effL
  induction l generalizing x with
  | nil => simp
  | cons a l ih =>
    simp only [List.foldl_cons, List.length_cons]
    have h1 := effF_gs x a.c a.k
    have h2 := ih (effF x a.c a.k)
    exact ⟨h2.1.trans h1.1, h2.2.1.trans h1.2.1, by omega⟩
theorem effL_next (x : Ca) (l : List Wt) (j : Nat) (hj : j < l.length) : effL x (l.take (j + 1)) = effF (effL x (l.take j)) l[j].c l[j].k := by
  unfold effL
  rw [List.take_add_one, List.getElem?_eq_getElem hj, Option.toList_some, List.foldl_append]
  rfl
def drpF (x : Ca) (j : Nat) : Ca := { x with K := fun n => if n < j ∧ lvF x.gs n < 1 then -1 else x.K n, D := fun n => if n < j ∧ lvF x.gs n < 1 then false else x.D n }
theorem drpF_0 (x : Ca) : drpF x 0 = x := by
  unfold drpF
  simp
theorem drpF_y (x : Ca) (j : Nat) (h : lvF x.gs j < 1) : drpF x (j + 1) = { drpF x j with K := upd (drpF x j).K j (-1), D := upd (drpF x j).D j false } := by
  unfold drpF upd
  simp only [Ca.mk.injEq, true_and, and_true]
  constructor
  · funext n
    by_cases hn : n = j
    · subst hn; simp [h]
    · simp only [hn, if_false]
      by_cases h2 : n < j
      · simp [h2, Nat.lt_succ_of_lt h2]
      · have : ¬ n < j + 1 := by omega
        simp [h2, this]
  · funext n
    by_cases hn : n = j
    · subst hn; simp [h]
    · simp only [hn, if_false]
      by_cases h2 : n < j
      · simp [h2, Nat.lt_succ_of_lt h2]
      · have : ¬ n < j + 1 := by omega
        simp [h2, this]
theorem drpF_n (x : Ca) (j : Nat) (h : ¬ lvF x.gs j < 1) : drpF x (j + 1) = drpF x j := by
  unfold drpF
  simp only [Ca.mk.injEq, true_and, and_true]
  constructor
  · funext n
    by_cases hn : n = j
    · subst hn; simp [h]
    · have e : (n < j + 1) = (n < j) := propext ⟨by omega, by omega⟩
      simp [e]
  · funext n
    by_cases hn : n = j
    · subst hn; simp [h]
    · have e : (n < j + 1) = (n < j) := propext ⟨by omega, by omega⟩
      simp [e]
theorem thr_f : ∀ (ws : List Wt) (gs : List Gr), ∀ w ∈ (thr gs ws).2.2.2, w ∈ ws
  | [], gs, w, h => by simp [thr] at h
  | a :: ws, gs, w, h => by
    rw [thr] at h
    split at h
    · simp at h
    · simp only [List.mem_cons] at h
      rcases h with rfl | h
      · exact List.mem_cons_self
      · exact List.mem_cons_of_mem _ (thr_f ws _ w h)
theorem thr_fl : ∀ (ws : List Wt) (gs : List Gr), (thr gs ws).2.2.2.length ≤ ws.length
  | [], gs => by simp [thr]
  | a :: ws, gs => by
    rw [thr]
    split
    · simp
    · have := thr_fl ws (did (brGs gs a.c a.k) a.c a.k)
      simp only [List.length_cons]
      omega
theorem stp_f (gs : List Gr) (ws : List Wt) (a : Ac) : (∀ w ∈ (stp gs ws a).2.2.f, w ∈ ws) ∧ (stp gs ws a).2.2.f.length ≤ ws.length := by
  unfold stp
  split
  · simp
  · split
    · exact ⟨thr_f ws _, thr_fl ws _⟩
    · split
      · exact ⟨thr_f ws _, thr_fl ws _⟩
      · rw [useF_f]; simp
def usE (x : Ca) (k c l u : Int) : Int := firstE [ifE (wi u 0 (if k = 3 then 999 else 0)) 2, usErr x.gs x.ws ⟨k, c, l⟩]
def giv (x : Ca) (k c u : Int) : Ca := if (k = 4 ∨ k = 5) ∧ x.D c.toNat = true then { x with v := x.K c.toNat, D := upd x.D c.toNat false, W := upd x.W c.toNat u } else { x with W := upd x.W c.toNat u }
def actF (x : Ca) (k c l u : Int) : Ca :=
  drpF (effL (if (stp x.gs x.ws ⟨k, c, l⟩).2.2.d = true then effF { giv x k c u with gs := (stp x.gs x.ws ⟨k, c, l⟩).1, ws := (stp x.gs x.ws ⟨k, c, l⟩).2.1 } c k else { giv x k c u with gs := (stp x.gs x.ws ⟨k, c, l⟩).1, ws := (stp x.gs x.ws ⟨k, c, l⟩).2.1 }) (stp x.gs x.ws ⟨k, c, l⟩).2.2.f) 9
def usF (x : Ca) (k c l u : Int) : Ca × Int :=
  if usE x k c l u ≠ 0 then (x, usE x k c l u)
  else match aloF x k c u with
    | some y => (y, 0)
    | none => if acErr x.gs x.ws ⟨k, c, l⟩ ≠ 0 then (x, acErr x.gs x.ws ⟨k, c, l⟩) else (actF x k c l u, 0)
theorem first2 (a b : Int) : EV G (Tb (bs bb)) 40 [vl [[ci a], [ci b]]] [] = some (vi (firstE [a, b]), []) := first_v [a, b] (by simp)
abbrev usH (x : Ca) (k c l u : Int) (z : List (List DC)) (a : An) : List AObj := [.box (caC 1 4 x.sn.length x.v x.K x.D x.W), .box [.bld 2 x.gs.length, .bld 3 x.ws.length], .arr 0 3 (x.gs.map Gr.e), .arr 0 2 (x.ws.map Wt.e), .arr 0 1 (x.sn.map ci0), .box [.dc (ci k), .dc (ci c), .dc (ci l), .dc (ci u)], .arr 0 1 z, .box [.dc (.raw (.bool a.d)), .dc (.slc (a.b.map Br.e)), .dc (.slc (a.f.map Wt.e))]]
def fr0 (x : Ca) (k c l u : Int) (z : List (List DC)) (a : An) (j : Nat) : AS := ⟨(.one (.ptr 0 0) :: jk 107 (vl (a.f.map Wt.e) :: vi a.f.length :: vi j :: jk 29 [])), usH x k c l u z a⟩
def dr0 (x : Ca) (k c l u : Int) (z : List (List DC)) (a : An) (j : Nat) : AS := ⟨(.one (.ptr 0 0) :: jk 117 (vi j :: jk 21 [])), usH x k c l u z a⟩
theorem fr_round (x : Ca) (hs : Srt x.gs) (hl : x.gs.length ≤ 1000) (hn : x.sn.length ≤ 10000) (k c l u : Int) (z : List (List DC)) (a : An) (hf : a.f.length ≤ 10) (j : Nat) (hj : j < a.f.length) (w : Wt) (hw : a.f[j] = w) (hc : 1 ≤ w.c ∧ w.c ≤ 8) :
    rnK [0, 107, 0, 0] 8 (EC (EV G (Tb (bs bb))) G h20l0 (fr0 x k c l u z a j)) = some (fr0 (effF x w.c w.k) k c l u z a (j + 1)) := by
  have q := effect_v (G := G) (bb := bb) x hs (by omega) (by omega) w.c w.k hc
  have eg : (a.f.map Wt.e)[j]? = some [ci w.c, ci w.k] := by rw [List.getElem?_map, List.getElem?_eq_getElem hj, hw]; rfl
  generalize effF x w.c w.k = y at *
  unfold fr0 usH
  simp only [Ca.h, caH] at q
  simp (disch := omega) only [go_sem, h20l0, evJ_5, eg, q]
theorem fr_loop {st : AS} (x : Ca) (hs : Srt x.gs) (hl : x.gs.length ≤ 1000) (hn : x.sn.length + 20 ≤ 10000) (k c l u : Int) (z : List (List DC)) (a : An) (hf : a.f.length ≤ 10) (hc : ∀ w ∈ a.f, 1 ≤ w.c ∧ w.c ≤ 8) (h0 : st = fr0 x k c l u z a 0) :
    EL (EV G (Tb (bs bb))) G h20l0 [0, 107, 0, 0] 8 st = fnK (EV G (Tb (bs bb))) G h20l0 [0, 107, 0, 0] 8 (EC (EV G (Tb (bs bb))) G h20l0 (fr0 (effL x a.f) k c l u z a a.f.length)) := by
  subst h0
  have h := EL_loop (call := EV G (Tb (bs bb))) (G := G) (a := h20l0) (L := [0, 107, 0, 0]) (m := 8) (fun j => fr0 (effL x (a.f.take j)) k c l u z a j) a.f.length rfl (fun j hj => by
    have e := effL_gs x (a.f.take j)
    rw [List.length_take] at e
    rw [effL_next x a.f j hj]
    exact fr_round _ (by rw [e.1]; exact hs) (by rw [e.1]; exact hl) (by omega) k c l u z a hf j hj a.f[j] rfl (hc _ (List.getElem_mem hj)))
  rw [List.take_length] at h
  exact h
theorem dr_round (x : Ca) (hs : Srt x.gs) (hl : x.gs.length ≤ 1000) (k c l u : Int) (z : List (List DC)) (a : An) (j : Nat) (hj : j < 9) :
    rnK [0, 117] 8 (EC (EV G (Tb (bs bb))) G h20l1 (dr0 (drpF x j) k c l u z a j)) = some (dr0 (drpF x (j + 1)) k c l u z a (j + 1)) := by
  have q := level_v (G := G) (bb := bb) x.ws hs (by omega) x.v (drpF x j).K (drpF x j).D x.W x.sn j
  have ek : drpF x j = { x with K := (drpF x j).K, D := (drpF x j).D } := rfl
  by_cases h : lvF x.gs j < 1
  · rw [drpF_y x j h, ek]
    generalize (drpF x j).K = K at *
    generalize (drpF x j).D = D at *
    obtain ⟨gs, ws, v, K0, D0, W, sn⟩ := x
    unfold dr0
    simp only [caH] at q h
    simp (disch := omega) only [go_sem, h20l1, evJ_5, q, h, tn1]
  · rw [drpF_n x j h, ek]
    generalize (drpF x j).K = K at *
    generalize (drpF x j).D = D at *
    obtain ⟨gs, ws, v, K0, D0, W, sn⟩ := x
    unfold dr0
    simp only [caH] at q h
    simp (disch := omega) only [go_sem, h20l1, evJ_5, q, h, tn1]
theorem tail2 {st : AS} (x : Ca) (hs : Srt x.gs) (hl : x.gs.length ≤ 1000) (hn : x.sn.length + 20 ≤ 10000) (k c l u : Int) (z : List (List DC)) (a : An) (hf : a.f.length ≤ 10) (hc : ∀ w ∈ a.f, 1 ≤ w.c ∧ w.c ≤ 8) (h0 : st = fr0 x k c l u z a 0) :
    retZ false [RetV.tmp 4] 5 (sqK (EV G (Tb (bs bb))) G (((HC.region [Oo 118 (AI.mov (Ki 0))]).seq (HC.block 2 (HC.loop [0, 117] h20l1))).seq ((HC.region [Oo 4 (AI.mov (Ki 0))]).seq HC.ret)) (blkK 0 (EL (EV G (Tb (bs bb))) G h20l0 [0, 107, 0, 0] 8 st))) = some (vi 0, (drpF (effL x a.f) 9).h) := by
  rw [fr_loop x hs hl hn k c l u z a hf hc h0]
  have e := effL_gs x a.f
  generalize effL x a.f = y at *
  have hs' : Srt y.gs := by rw [e.1]; exact hs
  have hl' : y.gs.length ≤ 1000 := by rw [e.1]; exact hl
  unfold fr0
  simp (disch := omega) only [go_sem, h20l0]
  rw [EL_loop (fun j => dr0 (drpF y j) k c l u z a j) 9 ?_ ?_]
  rotate_left
  · rw [drpF_0]; rfl
  · intro j hj
    exact dr_round y hs' hl' k c l u z a j hj
  generalize drpF y 9 = z at *
  unfold dr0
  simp (disch := omega) only [go_sem, h20l1]
  try rfl
theorem giv_gs (x : Ca) (k c u : Int) : (giv x k c u).gs = x.gs ∧ (giv x k c u).ws = x.ws ∧ (giv x k c u).sn = x.sn := by
  unfold giv
  split <;> simp
end
end Go.Proofs.YtinageiefahjfaaDoor
