/- The reference's Run; the law of runs. Conditions: none. -/
import Derived.Test.YtinageiefahjfaaGreatDoorSg
import Derived.Test.YtinageiefahjfaaGreatDoorWg
import Derived.Test.YtinageiefahjfaaGreatDoorWo
import Derived.Test.YtinageiefahjfaaGreatDoorSo
namespace Go.Proofs.YtinageiefahjfaaGreatDoor
set_option linter.unusedSimpArgs false
set_option linter.unusedVariables false
set_option maxRecDepth 4000
section
variable {G : Glob} {bb : Bool}
structure Ca where
  gs : List Gr
  ws : List Wt
  v : Int
  K : Nat → Int
  D : Nat → Bool
  W : Nat → Int
  sn : List Int
abbrev Ca.h (x : Ca) : List AObj := caH x.gs x.ws x.v x.K x.D x.W x.sn
def effF (x : Ca) (c k : Int) : Ca :=
  if k = 2 then (if lvF x.gs c ≥ 1 then { x with sn := x.sn ++ [x.v], K := upd x.K c.toNat x.v, D := upd x.D c.toNat false } else { x with sn := x.sn ++ [x.v] })
  else if k = 3 then (if lvF x.gs c ≥ 1 then { x with v := x.W c.toNat, K := upd x.K c.toNat (x.W c.toNat), D := upd x.D c.toNat false } else { x with v := x.W c.toNat })
  else x
def aloF (x : Ca) (k c u : Int) : Option Ca :=
  if k = 2 ∧ lvF x.gs c ≥ 1 ∧ x.K c.toNat ≠ -1 then some { x with sn := x.sn ++ [x.K c.toNat] }
  else if k = 3 ∧ lvF x.gs c ≥ 2 ∧ brF x.gs c = false then some { x with K := upd x.K c.toNat u, D := upd x.D c.toNat true }
  else none
theorem fvT_c {st : AS} {id off : Nat} {y : Cel} {p s n : Nat} {v : Int} {K : Nat → Int} {D : Nat → Bool} {W : Nat → Int} (h : off + 1 ≤ 30) : fvT 1 id off [y] st (some (.box (caC p s n v K D W))) = some (⟨st.sl, st.hp.set id (.box (putAt (caC p s n v K D W) off [y]))⟩, [id], [id]) := fvT_b rfl h
theorem tn1 (c : Int) : c.toNat * 1 = c.toNat := Nat.mul_one _
set_option maxHeartbeats 2000000 in
theorem effect_v (x : Ca) (hs : Srt x.gs) (hl : x.gs.length ≤ 100000) (hn : x.sn.length ≤ 100000) (c k : Int) (hc : 1 ≤ c ∧ c ≤ 8) :
    EV G (Tb (bs bb)) 131 [.one (.ptr 0 0), (Wt.mk c k).v] x.h = some (.tup [], (effF x c k).h) := by
  obtain ⟨gs, ws, v, K, D, W, sn⟩ := x
  refine EV_run rfl ?_
  have hcn : c.toNat < 9 := by omega
  unfold effF
  by_cases k2 : k = 2
  · have q := level_v (G := G) (bb := bb) ws hs hl v K D W (sn ++ [v]) c
    simp only at hn hs hl
    simp only [caH, List.length_append, List.length_cons, List.length_nil, List.map_append, List.map_cons, List.map_nil, Nat.zero_add, ci0] at q
    rw [if_pos k2]
    by_cases hlv : lvF gs c ≥ 1
    · rw [if_pos hlv]
      simp (disch := omega) only [go_sem, h131c, fvT_c, evJ_5, eq_true k2, q, hlv, tn1, List.take_length, List.length_append, List.length_cons, List.length_nil, List.map_append, List.map_cons, List.map_nil, ci0]
      simp only [Ca.h, caH, List.length_append, List.length_cons, List.length_nil, List.map_append, List.map_cons, List.map_nil, ci0, Nat.zero_add]
    · rw [if_neg hlv]
      simp (disch := omega) only [go_sem, h131c, fvT_c, evJ_5, eq_true k2, q, hlv, tn1, List.take_length, List.length_append, List.length_cons, List.length_nil, List.map_append, List.map_cons, List.map_nil, ci0]
      simp only [Ca.h, caH, List.length_append, List.length_cons, List.length_nil, List.map_append, List.map_cons, List.map_nil, ci0, Nat.zero_add]
  · rw [if_neg k2]
    by_cases k3 : k = 3
    · have q := level_v (G := G) (bb := bb) ws hs hl (W c.toNat) K D W sn c
      rw [if_pos k3]
      by_cases hlv : lvF gs c ≥ 1
      · rw [if_pos hlv]
        simp (disch := omega) only [go_sem, h131c, fvT_c, evJ_5, k2, eq_true k3, q, hlv, tn1, List.take_length]
      · rw [if_neg hlv]
        simp (disch := omega) only [go_sem, h131c, fvT_c, evJ_5, k2, eq_true k3, q, hlv, tn1, List.take_length]
    · rw [if_neg k3]
      simp (disch := omega) only [go_sem, h131c, fvT_c, k2, k3]
set_option maxHeartbeats 2000000 in
theorem alone_v (x : Ca) (hs : Srt x.gs) (hl : x.gs.length ≤ 100000) (hn : x.sn.length ≤ 100000) (k c l u : Int) (hc : 1 ≤ c ∧ c ≤ 8) :
    EV G (Tb (bs bb)) 130 [.one (.ptr 0 0), .agg [.dc (ci k), .dc (ci c), .dc (ci l), .dc (ci u)]] x.h = some (vb (aloF x k c u).isSome, ((aloF x k c u).getD x).h) := by
  obtain ⟨gs, ws, v, K, D, W, sn⟩ := x
  refine EV_run rfl ?_
  have hcn : c.toNat < 9 := by omega
  have q := level_v (G := G) (bb := bb) ws hs hl v K D W sn c
  simp only at hn hs hl
  unfold aloF
  by_cases k2 : k = 2
  · have k3 : ¬ k = 3 := by omega
    by_cases h1 : lvF gs c ≥ 1
    · by_cases h2 : K c.toNat = -1
      · rw [if_neg (fun h => h.2.2 h2), if_neg (fun h => k3 h.1)]
        simp (disch := omega) only [go_sem, h130c, evJ_5, eq_true k2, k3, q, h1, eq_true h2, tn1]
        try rfl
      · rw [if_pos ⟨k2, h1, h2⟩]
        simp (disch := omega) only [go_sem, h130c, evJ_5, eq_true k2, k3, q, h1, h2, tn1, List.take_length]
        simp only [Ca.h, caH, List.length_append, List.length_cons, List.length_nil, List.map_append, List.map_cons, List.map_nil, ci0, Nat.zero_add, Option.isSome_some, Option.getD_some]
    · rw [if_neg (fun h => h1 h.2.1), if_neg (fun h => k3 h.1)]
      simp (disch := omega) only [go_sem, h130c, evJ_5, eq_true k2, k3, q, h1, tn1]
      try rfl
  · rw [if_neg (fun h => k2 h.1)]
    by_cases k3 : k = 3
    · by_cases h1 : lvF gs c ≥ 2
      · cases h2 : brF gs c with
        | true =>
          rw [h2] at q
          rw [if_neg (by simp)]
          simp (disch := omega) only [go_sem, h130c, evJ_5, k2, eq_true k3, q, h1, tn1]
          try rfl
        | false =>
          rw [h2] at q
          rw [if_pos ⟨k3, h1, rfl⟩]
          simp (disch := omega) only [go_sem, h130c, evJ_5, k2, eq_true k3, q, h1, tn1]
          try rfl
      · rw [if_neg (fun h => h1 h.2.1)]
        simp (disch := omega) only [go_sem, h130c, evJ_5, k2, eq_true k3, q, h1, tn1]
        try rfl
    · rw [if_neg (fun h => k3 h.1)]
      simp (disch := omega) only [go_sem, h130c, evJ_5, k2, k3, q, tn1]
      try rfl
end
section
variable {G : Glob} {bb : Bool}
theorem effF_gs (x : Ca) (c k : Int) : (effF x c k).gs = x.gs ∧ (effF x c k).ws = x.ws ∧ (effF x c k).sn.length ≤ x.sn.length + 1 := by
  unfold effF
  repeat' split
  all_goals simp
def effL (x : Ca) (l : List Wt) : Ca := l.foldl (fun y a => effF y a.c a.k) x
theorem effL_gs (x : Ca) (l : List Wt) : (effL x l).gs = x.gs ∧ (effL x l).ws = x.ws ∧ (effL x l).sn.length ≤ x.sn.length + l.length := by
  unfold effL
  induction l generalizing x with
  | nil => simp
  | cons a l ih =>
    simp only [List.foldl_cons, List.length_cons]
    have h1 := effF_gs x a.c a.k
    have h2 := ih (effF x a.c a.k)
    exact ⟨h2.1.trans h1.1, h2.2.1.trans h1.2.1, by omega⟩
theorem effL_next (x : Ca) (l : List Wt) (j : Nat) (hj : j < l.length) : effL x (l.take (j + 1)) = effF (effL x (l.take j)) l[j].c l[j].k := by
  unfold effL
  rw [List.take_add_one, List.getElem?_eq_getElem hj, Option.toList_some, List.foldl_append]
  rfl
def drpF (x : Ca) (j : Nat) : Ca := { x with K := fun n => if n < j ∧ lvF x.gs n < 1 then -1 else x.K n, D := fun n => if n < j ∧ lvF x.gs n < 1 then false else x.D n }
theorem drpF_0 (x : Ca) : drpF x 0 = x := by
  unfold drpF
  simp
theorem drpF_y (x : Ca) (j : Nat) (h : lvF x.gs j < 1) : drpF x (j + 1) = { drpF x j with K := upd (drpF x j).K j (-1), D := upd (drpF x j).D j false } := by
  unfold drpF upd
  simp only [Ca.mk.injEq, true_and, and_true]
  constructor
  · funext n
    by_cases hn : n = j
    · subst hn; simp [h]
    · simp only [hn, if_false]
      by_cases h2 : n < j
      · simp [h2, Nat.lt_succ_of_lt h2]
      · have : ¬ n < j + 1 := by omega
        simp [h2, this]
  · funext n
    by_cases hn : n = j
    · subst hn; simp [h]
    · simp only [hn, if_false]
      by_cases h2 : n < j
      · simp [h2, Nat.lt_succ_of_lt h2]
      · have : ¬ n < j + 1 := by omega
        simp [h2, this]
theorem drpF_n (x : Ca) (j : Nat) (h : ¬ lvF x.gs j < 1) : drpF x (j + 1) = drpF x j := by
  unfold drpF
  simp only [Ca.mk.injEq, true_and, and_true]
  constructor
  · funext n
    by_cases hn : n = j
    · subst hn; simp [h]
    · have e : (n < j + 1) = (n < j) := propext ⟨by omega, by omega⟩
      simp [e]
  · funext n
    by_cases hn : n = j
    · subst hn; simp [h]
    · have e : (n < j + 1) = (n < j) := propext ⟨by omega, by omega⟩
      simp [e]
theorem thr_f : ∀ (ws : List Wt) (gs : List Gr), ∀ w ∈ (thr gs ws).2.2.2, w ∈ ws
  | [], gs, w, h => by simp [thr] at h
  | a :: ws, gs, w, h => by
    rw [thr] at h
    split at h
    · simp at h
    · simp only [List.mem_cons] at h
      rcases h with rfl | h
      · exact List.mem_cons_self
      · exact List.mem_cons_of_mem _ (thr_f ws _ w h)
theorem thr_fl : ∀ (ws : List Wt) (gs : List Gr), (thr gs ws).2.2.2.length ≤ ws.length
  | [], gs => by simp [thr]
  | a :: ws, gs => by
    rw [thr]
    split
    · simp
    · have := thr_fl ws (did (brGs gs a.c a.k) a.c a.k)
      simp only [List.length_cons]
      omega
theorem stp_f (gs : List Gr) (ws : List Wt) (a : Ac) : (∀ w ∈ (stp gs ws a).2.2.f, w ∈ ws) ∧ (stp gs ws a).2.2.f.length ≤ ws.length := by
  unfold stp
  split
  · simp
  · split
    · exact ⟨thr_f ws _, thr_fl ws _⟩
    · split
      · exact ⟨thr_f ws _, thr_fl ws _⟩
      · rw [useF_f]; simp
def usE (x : Ca) (k c l u : Int) : Int := firstE [ifE (wi u 0 (if k = 3 then 999 else 0)) 2, usErr x.gs x.ws ⟨k, c, l⟩]
def giv (x : Ca) (k c u : Int) : Ca := if (k = 4 ∨ k = 5) ∧ x.D c.toNat = true then { x with v := x.K c.toNat, D := upd x.D c.toNat false, W := upd x.W c.toNat u } else { x with W := upd x.W c.toNat u }
def actF (x : Ca) (k c l u : Int) : Ca :=
  drpF (effL (if (stp x.gs x.ws ⟨k, c, l⟩).2.2.d = true then effF { giv x k c u with gs := (stp x.gs x.ws ⟨k, c, l⟩).1, ws := (stp x.gs x.ws ⟨k, c, l⟩).2.1 } c k else { giv x k c u with gs := (stp x.gs x.ws ⟨k, c, l⟩).1, ws := (stp x.gs x.ws ⟨k, c, l⟩).2.1 }) (stp x.gs x.ws ⟨k, c, l⟩).2.2.f) 9
def usF (x : Ca) (k c l u : Int) : Ca × Int :=
  if usE x k c l u ≠ 0 then (x, usE x k c l u)
  else match aloF x k c u with
    | some y => (y, 0)
    | none => if acErr x.gs x.ws ⟨k, c, l⟩ ≠ 0 then (x, acErr x.gs x.ws ⟨k, c, l⟩) else (actF x k c l u, 0)
theorem first2 (a b : Int) : EV G (Tb (bs bb)) 117 [vl [[ci a], [ci b]]] [] = some (vi (firstE [a, b]), []) := first_v [a, b] (by simp)
abbrev usH (x : Ca) (k c l u : Int) (z : List (List DC)) (a : An) : List AObj := [.box (caC 1 4 x.sn.length x.v x.K x.D x.W), .box [.bld 2 x.gs.length, .bld 3 x.ws.length], .arr 0 3 (x.gs.map Gr.e), .arr 0 2 (x.ws.map Wt.e), .arr 0 1 (x.sn.map ci0), .box [.dc (ci k), .dc (ci c), .dc (ci l), .dc (ci u)], .arr 0 1 z, .box [.dc (.raw (.bool a.d)), .dc (.slc (a.b.map Br.e)), .dc (.slc (a.f.map Wt.e))]]
def fr0 (x : Ca) (k c l u : Int) (z : List (List DC)) (a : An) (j : Nat) : AS := ⟨(.one (.ptr 0 0) :: jk 107 (vl (a.f.map Wt.e) :: vi a.f.length :: vi j :: jk 29 [])), usH x k c l u z a⟩
def dr0 (x : Ca) (k c l u : Int) (z : List (List DC)) (a : An) (j : Nat) : AS := ⟨(.one (.ptr 0 0) :: jk 117 (vi j :: jk 21 [])), usH x k c l u z a⟩
theorem fr_round (x : Ca) (hs : Srt x.gs) (hl : x.gs.length ≤ 1000) (hn : x.sn.length ≤ 10000) (k c l u : Int) (z : List (List DC)) (a : An) (hf : a.f.length ≤ 10) (j : Nat) (hj : j < a.f.length) (w : Wt) (hw : a.f[j] = w) (hc : 1 ≤ w.c ∧ w.c ≤ 8) :
    rnK [0, 107, 0, 0] 8 (EC (EV G (Tb (bs bb))) G h68l0 (fr0 x k c l u z a j)) = some (fr0 (effF x w.c w.k) k c l u z a (j + 1)) := by
  have q := effect_v (G := G) (bb := bb) x hs (by omega) (by omega) w.c w.k hc
  have eg : (a.f.map Wt.e)[j]? = some [ci w.c, ci w.k] := by rw [List.getElem?_map, List.getElem?_eq_getElem hj, hw]; rfl
  generalize effF x w.c w.k = y at *
  unfold fr0 usH
  simp only [Ca.h, caH] at q
  simp (disch := omega) only [go_sem, h68l0, evJ_5, eg, q]
theorem fr_loop {st : AS} (x : Ca) (hs : Srt x.gs) (hl : x.gs.length ≤ 1000) (hn : x.sn.length + 20 ≤ 10000) (k c l u : Int) (z : List (List DC)) (a : An) (hf : a.f.length ≤ 10) (hc : ∀ w ∈ a.f, 1 ≤ w.c ∧ w.c ≤ 8) (h0 : st = fr0 x k c l u z a 0) :
    EL (EV G (Tb (bs bb))) G h68l0 [0, 107, 0, 0] 8 st = fnK (EV G (Tb (bs bb))) G h68l0 [0, 107, 0, 0] 8 (EC (EV G (Tb (bs bb))) G h68l0 (fr0 (effL x a.f) k c l u z a a.f.length)) := by
  subst h0
  have h := EL_loop (call := EV G (Tb (bs bb))) (G := G) (a := h68l0) (L := [0, 107, 0, 0]) (m := 8) (fun j => fr0 (effL x (a.f.take j)) k c l u z a j) a.f.length rfl (fun j hj => by
    have e := effL_gs x (a.f.take j)
    rw [List.length_take] at e
    rw [effL_next x a.f j hj]
    exact fr_round _ (by rw [e.1]; exact hs) (by rw [e.1]; exact hl) (by omega) k c l u z a hf j hj a.f[j] rfl (hc _ (List.getElem_mem hj)))
  rw [List.take_length] at h
  exact h
theorem dr_round (x : Ca) (hs : Srt x.gs) (hl : x.gs.length ≤ 1000) (k c l u : Int) (z : List (List DC)) (a : An) (j : Nat) (hj : j < 9) :
    rnK [0, 117] 8 (EC (EV G (Tb (bs bb))) G h68l1 (dr0 (drpF x j) k c l u z a j)) = some (dr0 (drpF x (j + 1)) k c l u z a (j + 1)) := by
  have q := level_v (G := G) (bb := bb) x.ws hs (by omega) x.v (drpF x j).K (drpF x j).D x.W x.sn j
  have ek : drpF x j = { x with K := (drpF x j).K, D := (drpF x j).D } := rfl
  by_cases h : lvF x.gs j < 1
  · rw [drpF_y x j h, ek]
    generalize (drpF x j).K = K at *
    generalize (drpF x j).D = D at *
    obtain ⟨gs, ws, v, K0, D0, W, sn⟩ := x
    unfold dr0
    simp only [caH] at q h
    simp (disch := omega) only [go_sem, h68l1, evJ_5, q, h, tn1]
  · rw [drpF_n x j h, ek]
    generalize (drpF x j).K = K at *
    generalize (drpF x j).D = D at *
    obtain ⟨gs, ws, v, K0, D0, W, sn⟩ := x
    unfold dr0
    simp only [caH] at q h
    simp (disch := omega) only [go_sem, h68l1, evJ_5, q, h, tn1]
theorem tail2 {st : AS} (x : Ca) (hs : Srt x.gs) (hl : x.gs.length ≤ 1000) (hn : x.sn.length + 20 ≤ 10000) (k c l u : Int) (z : List (List DC)) (a : An) (hf : a.f.length ≤ 10) (hc : ∀ w ∈ a.f, 1 ≤ w.c ∧ w.c ≤ 8) (h0 : st = fr0 x k c l u z a 0) :
    retZ false [RetV.tmp 4] 5 (sqK (EV G (Tb (bs bb))) G (((HC.region [Oo 118 (AI.mov (Ki 0))]).seq (HC.block 2 (HC.loop [0, 117] h68l1))).seq ((HC.region [Oo 4 (AI.mov (Ki 0))]).seq HC.ret)) (blkK 0 (EL (EV G (Tb (bs bb))) G h68l0 [0, 107, 0, 0] 8 st))) = some (vi 0, (drpF (effL x a.f) 9).h) := by
  rw [fr_loop x hs hl hn k c l u z a hf hc h0]
  have e := effL_gs x a.f
  generalize effL x a.f = y at *
  have hs' : Srt y.gs := by rw [e.1]; exact hs
  have hl' : y.gs.length ≤ 1000 := by rw [e.1]; exact hl
  unfold fr0
  simp (disch := omega) only [go_sem, h68l0]
  rw [EL_loop (fun j => dr0 (drpF y j) k c l u z a j) 9 ?_ ?_]
  rotate_left
  · rw [drpF_0]; rfl
  · intro j hj
    exact dr_round y hs' hl' k c l u z a j hj
  generalize drpF y 9 = z at *
  unfold dr0
  simp (disch := omega) only [go_sem, h68l1]
  try rfl
theorem giv_gs (x : Ca) (k c u : Int) : (giv x k c u).gs = x.gs ∧ (giv x k c u).ws = x.ws ∧ (giv x k c u).sn = x.sn := by
  unfold giv
  split <;> simp
end
section
variable {G : Glob} {bb : Bool}
theorem awake_b : EV G (Tb (bs true)) 10 [] [] = some (vb true, []) := EV_base rfl rfl
def fewB (gs : List Gr) (ws : List Wt) : Bool := decide (gs.length ≤ 12 ∧ ws.length ≤ 12)
theorem few_v (gs : List Gr) (ws : List Wt) : EV G (Tb (bs bb)) 11 [flV gs ws] [] = some (vb (fewB gs ws), []) := by
  refine EV_run rfl ?_
  unfold fewB
  by_cases h1 : gs.length ≤ 12
  · have h1' : (gs.length : Int) ≤ 12 := by omega
    by_cases h2 : ws.length ≤ 12
    · have h2' : (ws.length : Int) ≤ 12 := by omega
      rw [decide_eq_true ⟨h1, h2⟩]
      simp (disch := omega) only [go_sem, h11c, h1', h2', decide_true]
    · have h2' : ¬ (ws.length : Int) ≤ 12 := by omega
      rw [decide_eq_false (fun h => h2 h.2)]
      simp (disch := omega) only [go_sem, h11c, h1', h2', decide_false]
  · have h1' : ¬ (gs.length : Int) ≤ 12 := by omega
    rw [decide_eq_false (fun h => h1 h.1)]
    simp (disch := omega) only [go_sem, h11c, h1', decide_false]
theorem few_p {gs : List Gr} {ws : List Wt} (h : fewB gs ws = true) : gs.length ≤ 12 ∧ ws.length ≤ 12 := by simpa [fewB] using h
end
section
variable {G : Glob} {bb : Bool}
theorem did_le1 (gs : List Gr) (c k : Int) : (did gs c k).length ≤ gs.length + 1 := by
  unfold did insG
  split
  · simp; omega
  · omega
theorem thr_bl : ∀ (ws : List Wt) (gs : List Gr), (thr gs ws).2.2.1.length ≤ ws.length * (gs.length + ws.length)
  | [], gs => by simp [thr]
  | w :: ws, gs => by
    have h1 := brBs_len gs w.c w.k
    rw [thr, List.length_cons, Nat.succ_mul]
    split
    · simp only; omega
    · have h2 := thr_bl ws (did (brGs gs w.c w.k) w.c w.k)
      have h3 := did_le1 (brGs gs w.c w.k) w.c w.k
      rw [brGs_len] at h3
      have h4 : ws.length * ((did (brGs gs w.c w.k) w.c w.k).length + ws.length) ≤ ws.length * (gs.length + (ws.length + 1)) := Nat.mul_le_mul_left _ (by omega)
      simp only [List.length_append]
      omega
theorem stp_bl {gs : List Gr} {ws : List Wt} {a : Ac} (h : Vd gs ws) (hi : a.k ≠ 0 → isIn gs a.c = true) (hk : 0 ≤ a.k ∧ a.k ≤ 5) : (stp gs ws a).2.2.b.length ≤ 200 ∧ (stp gs ws a).2.2.f.length ≤ 8 := by
  have hg := h.gl
  have hw := h.wl
  refine ⟨?_, Nat.le_trans (stp_f gs ws a).2 hw⟩
  unfold stp
  have key : ∀ gs0 : List Gr, gs0.length ≤ 8 → (thr gs0 ws).2.2.1.length ≤ 200 := fun gs0 h0 => by
    have h1 := thr_bl ws gs0
    have h2 : ws.length * (gs0.length + ws.length) ≤ 8 * 16 := Nat.mul_le_mul hw (by omega)
    omega
  split
  · simp
  · split
    · exact key _ (by rw [ack_len]; exact hg)
    · split
      · rename_i h5
        exact key _ (by rw [del_len h.so (hi (by omega))]; omega)
      · unfold useF
        have := brBs_len gs a.c a.k
        split
        · split <;> simp only <;> omega
        · simp
theorem rstepped_v (gs : List Gr) (ws : List Wt) (a : Ac) (hg : gs.length ≤ 100000) (hw : ws.length ≤ 100000) : EV G (Tb (bs bb)) 23 [flV gs ws, a.v] [] = some (stpV (stpF gs ws a), []) := by
  refine EV_run rfl ?_
  unfold stpF
  have q := rerr_v (G := G) (bb := bb) gs ws hg hw
  by_cases h : (chk gs ws).2 = 0
  · rw [if_pos h]
    rw [h] at q
    obtain ⟨hV, hH⟩ := chk_ok h
    have h1 := hV.gl
    have h2 := hV.wl
    have q1 := racErr_v (G := G) (bb := bb) gs ws a hV.so hg hw
    by_cases he : acErr gs ws a = 0
    · rw [if_pos he]
      rw [he] at q1
      have q2 := rstep_v (G := G) (bb := bb) hV hH he
      generalize stp gs ws a = s at *
      obtain ⟨gs', ws', an⟩ := s
      simp only at q2 ⊢
      simp (disch := omega) only [go_sem, h23c, q, q1, q2]
      rw [fvT_b (by rfl) (by simp)]
      simp (disch := omega) only [go_sem]
      rw [fvT_b (by rfl) (by simp)]
      simp (disch := omega) only [go_sem, List.take_length]
      try rfl
    · rw [if_neg he]
      simp (disch := omega) only [go_sem, h23c, q, q1, he]
      try rfl
  · rw [if_neg h]
    simp (disch := omega) only [go_sem, h23c, q, h]
    try rfl
theorem fpV_t {l : List TV} : fpV (.tup l) = [] := Eq.trans rfl rfl
end
section
variable {G : Glob} {bb : Bool}
def rr1 (l : List Ac) (k : Nat) (gs : List Gr) (ws : List Wt) (out : List An) : AS := ⟨(acsV l :: jk 1 (.one (.ptr 0 0) :: jk 3 (.one (.ptr 1 0) :: .one (.bld 2 out.length) :: vi k :: jk 38 []))), [.box [.dc (.raw (.slice none 0 0)), .dc (.raw (.slice none 0 0))], .box [.dc (.slc (gs.map Gr.e)), .dc (.slc (ws.map Wt.e))], .arr 0 3 (out.map An.e)]⟩
def rr0 (l : List Ac) : AS := ⟨(acsV l :: jk 1 (.one (.ptr 0 0) :: jk 3 (.one (.ptr 1 0) :: .one (.bld 2 0) :: vi ((0 : Nat) : Int) :: jk 38 []))), [.box [.dc (.raw (.slice none 0 0)), .dc (.raw (.slice none 0 0))], .box [.dc (.raw (.slice none 0 0)), .dc (.raw (.slice none 0 0))], .arr 0 3 []]⟩
theorem stpF_v {gs : List Gr} {ws : List Wt} (hV : Vd gs ws) (hH : Hd gs ws) (a : Ac) : stpF gs ws a = if acErr gs ws a = 0 then (stp gs ws a, 0) else (([], [], ⟨false, [], []⟩), acErr gs ws a) := by
  unfold stpF
  rw [if_pos (chk_iff.2 ⟨hV, hH⟩)]
theorem rr1_go (l : List Ac) (k : Nat) (gs : List Gr) (ws : List Wt) (out : List An) (a : Ac) (hk : k < l.length) (ha : l[k] = a) (hl : l.length ≤ 1000) (ho : out.length ≤ 1000) (hg : gs.length ≤ 1000) (hw : ws.length ≤ 1000) (gs' : List Gr) (ws' : List Wt) (an : An) (he : stpF gs ws a = ((gs', ws', an), 0)) :
    rnK [0, 1, 3, 0, 0] 3 (EC (EV G (Tb (bs bb))) G h16l0 (rr1 l k gs ws out)) = some (rr1 l (k + 1) gs' ws' (out ++ [an])) := by
  have eg : (l.map Ac.e)[k]? = some [ci a.k, ci a.c, ci a.l] := by rw [List.getElem?_map, List.getElem?_eq_getElem hk, ha]; rfl
  have q := rstepped_v (G := G) (bb := bb) gs ws a (by omega) (by omega)
  rw [he] at q
  simp only [stpV] at q
  unfold rr1
  have tk : List.take out.length (out.map An.e) = out.map An.e := List.take_of_length_le (by simp)
  simp (disch := omega) only [go_sem, h16l0, fpV_t, eg, q, tk, List.take_length, List.map_append, List.map_cons, List.map_nil, List.length_append, List.length_cons, List.length_nil, An.e]
  rw [fvT_b (by rfl) (by simp)]
  simp (disch := omega) only [go_sem, fpV_t]
  rw [fvT_b (by rfl) (by simp)]
  simp (disch := omega) only [go_sem, fpV_t, eg, tk, List.take_length, List.map_append, List.map_cons, List.map_nil, List.length_append, List.length_cons, List.length_nil, An.e]
theorem rr0_go (l : List Ac) (a : Ac) (hk : 0 < l.length) (ha : l[0] = a) (hl : l.length ≤ 1000) (gs' : List Gr) (ws' : List Wt) (an : An) (he : stpF [] [] a = ((gs', ws', an), 0)) :
    rnK [0, 1, 3, 0, 0] 3 (EC (EV G (Tb (bs bb))) G h16l0 (rr0 l)) = some (rr1 l 1 gs' ws' [an]) := by
  have eg : (l.map Ac.e)[0]? = some [ci a.k, ci a.c, ci a.l] := by rw [List.getElem?_map, List.getElem?_eq_getElem hk, ha]; rfl
  have q := rstepped_v (G := G) (bb := bb) [] [] a (by simp) (by simp)
  rw [he] at q
  simp only [flV, stpV, List.map_nil] at q
  unfold rr0 rr1
  simp (disch := omega) only [go_sem, h16l0, fpV_t, eg, q, List.take_length, List.map_append, List.map_cons, List.map_nil, List.length_append, List.length_cons, List.length_nil, An.e]
  rw [fvT_b (by rfl) (by simp)]
  simp (disch := omega) only [go_sem, fpV_t]
  rw [fvT_b (by rfl) (by simp)]
  simp (disch := omega) only [go_sem, fpV_t, List.take_length, List.take_zero, List.map_append, List.map_cons, List.map_nil, List.length_append, List.length_cons, List.length_nil, List.nil_append, An.e]
  try rfl
theorem rr1_key (l : List Ac) (hl : l.length ≤ 100) : ∀ (rest : List Ac) (k : Nat) (gs : List Gr) (ws : List Wt) (out : List An), l.drop k = rest → k ≤ l.length → Vd gs ws → Hd gs ws → out.length ≤ k →
    retZ false [RetV.cell 2 true 2, RetV.tmp 3, RetV.tmp 4, RetV.tmp 5] 0 (sqK (EV G (Tb (bs bb))) G ((HC.region [Oo 43 (AI.load true 2 (AArg.t 6)), Oo 44 (AI.mov (AArg.t 7)), Oo 45 (AI.mov (AArg.t 0)), Oo 46 (AI.lenL (AArg.t 45)), On (AI.store 2 (AArg.t 2) (AArg.t 43)), Oo 3 (AI.mov (AArg.t 44)), Oo 4 (AI.mov (AArg.t 46)), Oo 5 (AI.mov (Ki 0))]).seq HC.ret) (blkK 0 (EL (EV G (Tb (bs bb))) G h16l0 [0, 1, 3, 0, 0] 3 (rr1 l k gs ws out)))) =
      some (runV (runM gs ws out k rest), [])
  | [], k, gs, ws, out, hd, hk, hv, hh, ho => by
    have hkl : k = l.length := by
      have := congrArg List.length hd
      simp at this; omega
    subst hkl
    have tk : List.take out.length (out.map An.e) = out.map An.e := List.take_of_length_le (by simp)
    rw [EL_unf, runM]
    unfold rr1
    simp (disch := omega) only [go_sem, h16l0, tk]
    try rfl
  | a :: rest, k, gs, ws, out, hd, hk, hv, hh, ho => by
    have hkl : k < l.length := by
      have := congrArg List.length hd
      simp at this; omega
    have ha : l[k] = a := by
      have := List.drop_eq_getElem_cons hkl
      rw [hd] at this
      injection this with this _
      exact this.symm
    have hd' : l.drop (k + 1) = rest := by
      have := List.drop_eq_getElem_cons hkl
      rw [hd] at this
      injection this with _ this
      exact this.symm
    have hg := hv.gl
    have hw := hv.wl
    have es := stpF_v hv hh a
    by_cases he : acErr gs ws a = 0
    · obtain ⟨h1, h2⟩ := stp_ok hv hh he
      rw [if_pos he] at es
      have ih := rr1_key l hl rest (k + 1) (stp gs ws a).1 (stp gs ws a).2.1 (out ++ [(stp gs ws a).2.2]) hd' (by omega) h1 h2 (by simp; omega)
      rw [EL_unf, fnK_of (rr1_go l k gs ws out a hkl ha (by omega) (by omega) (by omega) (by omega) (stp gs ws a).1 (stp gs ws a).2.1 (stp gs ws a).2.2 es), ih, runM, if_pos he]
    · rw [if_neg he] at es
      have eg : (l.map Ac.e)[k]? = some [ci a.k, ci a.c, ci a.l] := by rw [List.getElem?_map, List.getElem?_eq_getElem hkl, ha]; rfl
      have q := rstepped_v (G := G) (bb := bb) gs ws a (by omega) (by omega)
      rw [es] at q
      simp only [stpV] at q
      rw [EL_unf, runM, if_neg he]
      unfold rr1
      simp (disch := omega) only [go_sem, h16l0, fpV_t, eg, q, he, List.map_nil]
      rw [fvT_b (by rfl) (by simp)]
      simp (disch := omega) only [go_sem, fpV_t]
      rw [fvT_b (by rfl) (by simp)]
      simp (disch := omega) only [go_sem, fpV_t, he, List.map_nil]
      try rfl
theorem rrun_v (l : List Ac) (hl : l.length ≤ 1000000) : EV G (Tb (bs bb)) 16 [acsV l] [] = some (runV (runF l), []) := by
  refine EV_run rfl ?_
  unfold runF
  by_cases h : l.length > 100
  · rw [if_pos h]
    simp (disch := omega) only [go_sem, h16c, h]
    try rfl
  · rw [if_neg h]
    simp (disch := omega) only [go_sem, h16c, h]
    match l, h with
    | [], h =>
      rw [EL_unf]
      simp (disch := omega) only [go_sem, h16l0, List.map_nil, List.length_nil]
      try rfl
    | a :: l, h =>
      have es := stpF_v Vd.nil Hd.nil a
      have e0 : ((0 : Nat) : Int) = 0 := rfl
      by_cases he : acErr [] [] a = 0
      · obtain ⟨h1, h2⟩ := stp_ok Vd.nil Hd.nil he
        rw [if_pos he] at es
        have ih := rr1_key (G := G) (bb := bb) (a :: l) (by omega) l 1 (stp [] [] a).1 (stp [] [] a).2.1 [(stp [] [] a).2.2] rfl (by simp) h1 h2 (by simp)
        have hr := rr0_go (G := G) (bb := bb) (a :: l) a (by simp) rfl (by omega) (stp [] [] a).1 (stp [] [] a).2.1 (stp [] [] a).2.2 es
        unfold rr0 at hr
        rw [e0] at hr
        rw [EL_unf]
        refine Eq.trans (congrArg (fun x => retZ false [RetV.cell 2 true 2, RetV.tmp 3, RetV.tmp 4, RetV.tmp 5] 0 (sqK (EV G (Tb (bs bb))) G _ (blkK 0 x))) (fnK_of hr)) ?_
        rw [ih, runM, if_pos he]
        rfl
      · rw [if_neg he] at es
        have eg : ((a :: l).map Ac.e)[0]? = some [ci a.k, ci a.c, ci a.l] := rfl
        have q := rstepped_v (G := G) (bb := bb) [] [] a (by simp) (by simp)
        rw [es] at q
        simp only [flV, stpV, List.map_nil] at q
        have hn : ((a :: l).length : Int) > 0 := by rw [List.length_cons]; omega
        rw [EL_unf, runM, if_neg he]
        generalize a :: l = L at *
        simp (disch := omega) only [go_sem, h16l0, fpV_t, eg, q, he, List.map_nil]
        rw [fvT_b (by rfl) (by simp)]
        simp (disch := omega) only [go_sem, fpV_t]
        rw [fvT_b (by rfl) (by simp)]
        simp (disch := omega) only [go_sem, fpV_t, he, List.map_nil]
        try rfl
theorem runM_ok : ∀ (l : List Ac) (gs : List Gr) (ws : List Wt) (out : List An) (n : Nat), Vd gs ws → Hd gs ws → (∀ a ∈ out, a.b.length ≤ 200 ∧ a.f.length ≤ 8) →
    (runM gs ws out n l).1.1.length ≤ 8 ∧ (runM gs ws out n l).1.2.1.length ≤ 8 ∧ (∀ a ∈ (runM gs ws out n l).1.2.2, a.b.length ≤ 200 ∧ a.f.length ≤ 8) ∧ (runM gs ws out n l).1.2.2.length ≤ out.length + l.length
  | [], gs, ws, out, n, hv, hh, ho => ⟨hv.gl, hv.wl, ho, by simp [runM]⟩
  | a :: l, gs, ws, out, n, hv, hh, ho => by
    rw [runM]
    by_cases he : acErr gs ws a = 0
    · rw [if_pos he]
      obtain ⟨h1, h2⟩ := stp_ok hv hh he
      obtain ⟨h3, h4⟩ := ac_us he
      have h5 := stp_bl hv h4 h3
      obtain ⟨i1, i2, i3, i4⟩ := runM_ok l _ _ (out ++ [(stp gs ws a).2.2]) (n + 1) h1 h2 (fun x hx => by
        rw [List.mem_append, List.mem_singleton] at hx
        rcases hx with hx | rfl
        · exact ho x hx
        · exact h5)
      refine ⟨i1, i2, i3, ?_⟩
      simp at i4 ⊢
      omega
    · rw [if_neg he]
      simp
theorem runF_ok (l : List Ac) : (runF l).1.1.length ≤ 8 ∧ (runF l).1.2.1.length ≤ 8 ∧ (∀ a ∈ (runF l).1.2.2, a.b.length ≤ 200 ∧ a.f.length ≤ 8) ∧ (runF l).1.2.2.length ≤ 100 := by
  unfold runF
  split
  · simp
  · rename_i h
    obtain ⟨i1, i2, i3, i4⟩ := runM_ok l [] [] [] 0 Vd.nil Hd.nil (by simp)
    exact ⟨i1, i2, i3, by simp at i4; omega⟩
theorem runs_v (hG : G 0 = some alD) (l : List Ac) : EV G (Tb (bs true)) 4 [acsV l] [] = some (vb true, []) := by
  refine EV_run rfl ?_
  by_cases h : l.length > 110
  · have h' : (l.length : Int) > 110 := by omega
    simp (disch := omega) only [go_sem, h4c, awake_b, h']
  · have h' : ¬ (l.length : Int) > 110 := by omega
    have q1 := runOf_v (bb := true) hG l (by omega)
    have q2 := rrun_v (G := G) (bb := true) l (by omega)
    obtain ⟨i1, i2, i3, i4⟩ := runF_ok l
    have al3 : allLen 3 (l.map Ac.e) = true := allLen_map (f := Ac.e) (n := 3) (fun _ => rfl) l
    generalize runF l = r at *
    obtain ⟨⟨gs, ws, out⟩, n, e⟩ := r
    simp only at i1 i2 i3 i4 q1 q2
    have q3 := same_v (G := G) (bb := true) gs ws (by omega) (by omega)
    simp (disch := omega) only [go_sem, h4c, awake_b, h', q1, q2, q3, List.take_length, al3]
    rw [EL_loop (fun j => ⟨(jk 4 (vl (out.map An.e) :: jk 3 (vl (out.map An.e) :: jk 2 (vi j :: jk 58 [])))), [.dead, .box [.dc (.slc (gs.map Gr.e)), .dc (.slc (ws.map Wt.e))], .box [.dc (.slc (gs.map Gr.e)), .dc (.slc (ws.map Wt.e))]]⟩) out.length ?_ ?_]
    rotate_left
    · rfl
    · intro j hj
      have eg : (out.map An.e)[j]? = some [.raw (.bool out[j].d), .slc (out[j].b.map Br.e), .slc (out[j].f.map Wt.e)] := by rw [List.getElem?_map, List.getElem?_eq_getElem hj]; rfl
      have i5 := i3 out[j] (List.getElem_mem hj)
      generalize out[j] = an at *
      have q4 := sameAn_v (G := G) (bb := true) an (by omega) (by omega)
      simp (disch := omega) only [go_sem, h4l0, eg, q4]
    simp (disch := omega) only [go_sem, h4l0]
end
end Go.Proofs.YtinageiefahjfaaGreatDoor
