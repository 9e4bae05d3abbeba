/- The reference: Stepped, Breaks; the law of steps. Conditions: none. -/
import Derived.Test.YtinageiefahjfaaGreatDoorWo
import Derived.Test.YtinageiefahjfaaGreatDoorWg
import Derived.Test.YtinageiefahjfaaGreatDoorSo
namespace Go.Proofs.YtinageiefahjfaaGreatDoor
section
set_option maxRecDepth 4000
set_option linter.unusedSimpArgs false
set_option linter.unusedVariables false
variable {G : Glob} {bb : Bool}
/-- caches -/
structure Ca where
  gs : List Gr
  ws : List Wt
  v : Int
  K : Nat → Int
  D : Nat → Bool
  W : Nat → Int
  sn : List Int
abbrev Ca.h (x : Ca) : List AObj := caH x.gs x.ws x.v x.K x.D x.W x.sn
def effF (x : Ca) (c k : Int) : Ca :=
  if k = 2 then (if lvF x.gs c ≥ 1 then { x with sn := x.sn ++ [x.v], K := upd x.K c.toNat x.v, D := upd x.D c.toNat false } else { x with sn := x.sn ++ [x.v] })
  else if k = 3 then (if lvF x.gs c ≥ 1 then { x with v := x.W c.toNat, K := upd x.K c.toNat (x.W c.toNat), D := upd x.D c.toNat false } else { x with v := x.W c.toNat })
  else x
def aloF (x : Ca) (k c u : Int) : Option Ca :=
  if k = 2 ∧ lvF x.gs c ≥ 1 ∧ x.K c.toNat ≠ -1 then some { x with sn := x.sn ++ [x.K c.toNat] }
  else if k = 3 ∧ lvF x.gs c ≥ 2 ∧ brF x.gs c = false then some { x with K := upd x.K c.toNat u, D := upd x.D c.toNat true }
  else none
theorem fvT_c {st : AS} {id off : Nat} {y : Cel} {p s n : Nat} {v : Int} {K : Nat → Int} {D : Nat → Bool} {W : Nat → Int} (h : off + 1 ≤ 30) : fvT 1 id off [y] st (some (.box (caC p s n v K D W))) = some (⟨st.sl, st.hp.set id (.box (putAt (caC p s n v K D W) off [y]))⟩, [id], [id]) := fvT_b rfl h
theorem tn1 (c : Int) : c.toNat * 1 = c.toNat := Nat.mul_one _
set_option maxHeartbeats 2000000 in
theorem effect_v (x : Ca) (hs : Srt x.gs) (hl : x.gs.length ≤ 100000) (hn : x.sn.length ≤ 100000) (c k : Int) (hc : 1 ≤ c ∧ c ≤ 8) :
    EV G (Tb (bs bb)) 131 [.one (.ptr 0 0), (Wt.mk c k).v] x.h = some (.tup [], (effF x c k).h) := by
  obtain ⟨gs, ws, v, K, D, W, sn⟩ := x
  refine EV_run rfl ?_
  have hcn : c.toNat < 9 := by omega
  unfold effF
  by_cases k2 : k = 2
  · have q := level_v (G := G) (bb := bb) ws hs hl v K D W (sn ++ [v]) c
    simp only at hn hs hl
    simp only [caH, List.length_append, List.length_cons, List.length_nil, List.map_append, List.map_cons, List.map_nil, Nat.zero_add, ci0] at q
    rw [if_pos k2]
    by_cases hlv : lvF gs c ≥ 1
    · rw [if_pos hlv]
      simp (disch := omega) only [go_sem, h131c, fvT_c, evJ_5, eq_true k2, q, hlv, tn1, List.take_length, List.length_append, List.length_cons, List.length_nil, List.map_append, List.map_cons, List.map_nil, ci0]
      simp only [Ca.h, caH, List.length_append, List.length_cons, List.length_nil, List.map_append, List.map_cons, List.map_nil, ci0, Nat.zero_add]
    · rw [if_neg hlv]
      simp (disch := omega) only [go_sem, h131c, fvT_c, evJ_5, eq_true k2, q, hlv, tn1, List.take_length, List.length_append, List.length_cons, List.length_nil, List.map_append, List.map_cons, List.map_nil, ci0]
      simp only [Ca.h, caH, List.length_append, List.length_cons, List.length_nil, List.map_append, List.map_cons, List.map_nil, ci0, Nat.zero_add]
  · rw [if_neg k2]
    by_cases k3 : k = 3
    · have q := level_v (G := G) (bb := bb) ws hs hl (W c.toNat) K D W sn c
      rw [if_pos k3]
      by_cases hlv : lvF gs c ≥ 1
      · rw [if_pos hlv]
        simp (disch := omega) only [go_sem, h131c, fvT_c, evJ_5, k2, eq_true k3, q, hlv, tn1, List.take_length]
      · rw [if_neg hlv]
        simp (disch := omega) only [go_sem, h131c, fvT_c, evJ_5, k2, eq_true k3, q, hlv, tn1, List.take_length]
    · rw [if_neg k3]
      simp (disch := omega) only [go_sem, h131c, fvT_c, k2, k3]
set_option maxHeartbeats 2000000 in
theorem alone_v (x : Ca) (hs : Srt x.gs) (hl : x.gs.length ≤ 100000) (hn : x.sn.length ≤ 100000) (k c l u : Int) (hc : 1 ≤ c ∧ c ≤ 8) :
    EV G (Tb (bs bb)) 130 [.one (.ptr 0 0), .agg [.dc (ci k), .dc (ci c), .dc (ci l), .dc (ci u)]] x.h = some (vb (aloF x k c u).isSome, ((aloF x k c u).getD x).h) := by
  obtain ⟨gs, ws, v, K, D, W, sn⟩ := x
  refine EV_run rfl ?_
  have hcn : c.toNat < 9 := by omega
  have q := level_v (G := G) (bb := bb) ws hs hl v K D W sn c
  simp only at hn hs hl
  unfold aloF
  by_cases k2 : k = 2
  · have k3 : ¬ k = 3 := by omega
    by_cases h1 : lvF gs c ≥ 1
    · by_cases h2 : K c.toNat = -1
      · rw [if_neg (fun h => h.2.2 h2), if_neg (fun h => k3 h.1)]
        simp (disch := omega) only [go_sem, h130c, evJ_5, eq_true k2, k3, q, h1, eq_true h2, tn1]
        try rfl
      · rw [if_pos ⟨k2, h1, h2⟩]
        simp (disch := omega) only [go_sem, h130c, evJ_5, eq_true k2, k3, q, h1, h2, tn1, List.take_length]
        simp only [Ca.h, caH, List.length_append, List.length_cons, List.length_nil, List.map_append, List.map_cons, List.map_nil, ci0, Nat.zero_add, Option.isSome_some, Option.getD_some]
    · rw [if_neg (fun h => h1 h.2.1), if_neg (fun h => k3 h.1)]
      simp (disch := omega) only [go_sem, h130c, evJ_5, eq_true k2, k3, q, h1, tn1]
      try rfl
  · rw [if_neg (fun h => k2 h.1)]
    by_cases k3 : k = 3
    · by_cases h1 : lvF gs c ≥ 2
      · cases h2 : brF gs c with
        | true =>
          rw [h2] at q
          rw [if_neg (by simp)]
          simp (disch := omega) only [go_sem, h130c, evJ_5, k2, eq_true k3, q, h1, tn1]
          try rfl
        | false =>
          rw [h2] at q
          rw [if_pos ⟨k3, h1, rfl⟩]
          simp (disch := omega) only [go_sem, h130c, evJ_5, k2, eq_true k3, q, h1, tn1]
          try rfl
      · rw [if_neg (fun h => h1 h.2.1)]
        simp (disch := omega) only [go_sem, h130c, evJ_5, k2, eq_true k3, q, h1, tn1]
        try rfl
    · rw [if_neg (fun h => k3 h.1)]
      simp (disch := omega) only [go_sem, h130c, evJ_5, k2, k3, q, tn1]
      try rfl
end
section
set_option maxRecDepth 4000
set_option linter.unusedSimpArgs false
set_option linter.unusedVariables false
variable {G : Glob} {bb : Bool}
theorem effF_gs (x : Ca) (c k : Int) : (effF x c k).gs = x.gs ∧ (effF x c k).ws = x.ws ∧ (effF x c k).sn.length ≤ x.sn.length + 1 := by
  unfold effF
  repeat' split
  all_goals simp
def effL (x : Ca) (l : List Wt) : Ca := l.foldl (fun y a => effF y a.c a.k) x
theorem effL_gs (x : Ca) (l : List Wt) : (effL x l).gs = x.gs ∧ (effL x l).ws = x.ws ∧ (effL x l).sn.length ≤ x.sn.length + l.length := by
  unfold effL
  induction l generalizing x with
  | nil => simp
  | cons a l ih =>
    simp only [List.foldl_cons, List.length_cons]
    have h1 := effF_gs x a.c a.k
    have h2 := ih (effF x a.c a.k)
    exact ⟨h2.1.trans h1.1, h2.2.1.trans h1.2.1, by omega⟩
theorem effL_next (x : Ca) (l : List Wt) (j : Nat) (hj : j < l.length) : effL x (l.take (j + 1)) = effF (effL x (l.take j)) l[j].c l[j].k := by
  unfold effL
  rw [List.take_add_one, List.getElem?_eq_getElem hj, Option.toList_some, List.foldl_append]
  rfl
/-- clients without a level forget what they keep: the first ones -/
def drpF (x : Ca) (j : Nat) : Ca := { x with K := fun n => if n < j ∧ lvF x.gs n < 1 then -1 else x.K n, D := fun n => if n < j ∧ lvF x.gs n < 1 then false else x.D n }
theorem drpF_0 (x : Ca) : drpF x 0 = x := by
  unfold drpF
  simp
theorem drpF_y (x : Ca) (j : Nat) (h : lvF x.gs j < 1) : drpF x (j + 1) = { drpF x j with K := upd (drpF x j).K j (-1), D := upd (drpF x j).D j false } := by
  unfold drpF upd
  simp only [Ca.mk.injEq, true_and, and_true]
  constructor
  · funext n
    by_cases hn : n = j
    · subst hn; simp [h]
    · simp only [hn, if_false]
      by_cases h2 : n < j
      · simp [h2, Nat.lt_succ_of_lt h2]
      · have : ¬ n < j + 1 := by omega
        simp [h2, this]
  · funext n
    by_cases hn : n = j
    · subst hn; simp [h]
    · simp only [hn, if_false]
      by_cases h2 : n < j
      · simp [h2, Nat.lt_succ_of_lt h2]
      · have : ¬ n < j + 1 := by omega
        simp [h2, this]
theorem drpF_n (x : Ca) (j : Nat) (h : ¬ lvF x.gs j < 1) : drpF x (j + 1) = drpF x j := by
  unfold drpF
  simp only [Ca.mk.injEq, true_and, and_true]
  constructor
  · funext n
    by_cases hn : n = j
    · subst hn; simp [h]
    · have e : (n < j + 1) = (n < j) := propext ⟨by omega, by omega⟩
      simp [e]
  · funext n
    by_cases hn : n = j
    · subst hn; simp [h]
    · have e : (n < j + 1) = (n < j) := propext ⟨by omega, by omega⟩
      simp [e]
theorem thr_f : ∀ (ws : List Wt) (gs : List Gr), ∀ w ∈ (thr gs ws).2.2.2, w ∈ ws
  | [], gs, w, h => by simp [thr] at h
  | a :: ws, gs, w, h => by
    rw [thr] at h
    split at h
    · simp at h
    · simp only [List.mem_cons] at h
      rcases h with rfl | h
      · exact List.mem_cons_self
      · exact List.mem_cons_of_mem _ (thr_f ws _ w h)
theorem thr_fl : ∀ (ws : List Wt) (gs : List Gr), (thr gs ws).2.2.2.length ≤ ws.length
  | [], gs => by simp [thr]
  | a :: ws, gs => by
    rw [thr]
    split
    · simp
    · have := thr_fl ws (did (brGs gs a.c a.k) a.c a.k)
      simp only [List.length_cons]
      omega
theorem stp_f (gs : List Gr) (ws : List Wt) (a : Ac) : (∀ w ∈ (stp gs ws a).2.2.f, w ∈ ws) ∧ (stp gs ws a).2.2.f.length ≤ ws.length := by
  unfold stp
  split
  · simp
  · split
    · exact ⟨thr_f ws _, thr_fl ws _⟩
    · split
      · exact ⟨thr_f ws _, thr_fl ws _⟩
      · rw [useF_f]; simp
def usE (x : Ca) (k c l u : Int) : Int := firstE [ifE (wi u 0 (if k = 3 then 999 else 0)) 2, usErr x.gs x.ws ⟨k, c, l⟩]
def giv (x : Ca) (k c u : Int) : Ca := if (k = 4 ∨ k = 5) ∧ x.D c.toNat = true then { x with v := x.K c.toNat, D := upd x.D c.toNat false, W := upd x.W c.toNat u } else { x with W := upd x.W c.toNat u }
def actF (x : Ca) (k c l u : Int) : Ca :=
  drpF (effL (if (stp x.gs x.ws ⟨k, c, l⟩).2.2.d = true then effF { giv x k c u with gs := (stp x.gs x.ws ⟨k, c, l⟩).1, ws := (stp x.gs x.ws ⟨k, c, l⟩).2.1 } c k else { giv x k c u with gs := (stp x.gs x.ws ⟨k, c, l⟩).1, ws := (stp x.gs x.ws ⟨k, c, l⟩).2.1 }) (stp x.gs x.ws ⟨k, c, l⟩).2.2.f) 9
def usF (x : Ca) (k c l u : Int) : Ca × Int :=
  if usE x k c l u ≠ 0 then (x, usE x k c l u)
  else match aloF x k c u with
    | some y => (y, 0)
    | none => if acErr x.gs x.ws ⟨k, c, l⟩ ≠ 0 then (x, acErr x.gs x.ws ⟨k, c, l⟩) else (actF x k c l u, 0)
theorem first2 (a b : Int) : EV G (Tb (bs bb)) 117 [vl [[ci a], [ci b]]] [] = some (vi (firstE [a, b]), []) := first_v [a, b] (by simp)
/-- the state of the loops -/
abbrev usH (x : Ca) (k c l u : Int) (z : List (List DC)) (a : An) : List AObj := [.box (caC 1 4 x.sn.length x.v x.K x.D x.W), .box [.bld 2 x.gs.length, .bld 3 x.ws.length], .arr 0 3 (x.gs.map Gr.e), .arr 0 2 (x.ws.map Wt.e), .arr 0 1 (x.sn.map ci0), .box [.dc (ci k), .dc (ci c), .dc (ci l), .dc (ci u)], .arr 0 1 z, .box [.dc (.raw (.bool a.d)), .dc (.slc (a.b.map Br.e)), .dc (.slc (a.f.map Wt.e))]]
def fr0 (x : Ca) (k c l u : Int) (z : List (List DC)) (a : An) (j : Nat) : AS := ⟨(.one (.ptr 0 0) :: jk 107 (vl (a.f.map Wt.e) :: vi a.f.length :: vi j :: jk 29 [])), usH x k c l u z a⟩
def dr0 (x : Ca) (k c l u : Int) (z : List (List DC)) (a : An) (j : Nat) : AS := ⟨(.one (.ptr 0 0) :: jk 117 (vi j :: jk 21 [])), usH x k c l u z a⟩
theorem fr_round (x : Ca) (hs : Srt x.gs) (hl : x.gs.length ≤ 1000) (hn : x.sn.length ≤ 10000) (k c l u : Int) (z : List (List DC)) (a : An) (hf : a.f.length ≤ 10) (j : Nat) (hj : j < a.f.length) (w : Wt) (hw : a.f[j] = w) (hc : 1 ≤ w.c ∧ w.c ≤ 8) :
    rnK [0, 107, 0, 0] 8 (EC (EV G (Tb (bs bb))) G h68l0 (fr0 x k c l u z a j)) = some (fr0 (effF x w.c w.k) k c l u z a (j + 1)) := by
  have q := effect_v (G := G) (bb := bb) x hs (by omega) (by omega) w.c w.k hc
  have eg : (a.f.map Wt.e)[j]? = some [ci w.c, ci w.k] := by rw [List.getElem?_map, List.getElem?_eq_getElem hj, hw]; rfl
  generalize effF x w.c w.k = y at *
  unfold fr0 usH
  simp only [Ca.h, caH] at q
  simp (disch := omega) only [go_sem, h68l0, evJ_5, eg, q]
theorem fr_loop {st : AS} (x : Ca) (hs : Srt x.gs) (hl : x.gs.length ≤ 1000) (hn : x.sn.length + 20 ≤ 10000) (k c l u : Int) (z : List (List DC)) (a : An) (hf : a.f.length ≤ 10) (hc : ∀ w ∈ a.f, 1 ≤ w.c ∧ w.c ≤ 8) (h0 : st = fr0 x k c l u z a 0) :
    EL (EV G (Tb (bs bb))) G h68l0 [0, 107, 0, 0] 8 st = fnK (EV G (Tb (bs bb))) G h68l0 [0, 107, 0, 0] 8 (EC (EV G (Tb (bs bb))) G h68l0 (fr0 (effL x a.f) k c l u z a a.f.length)) := by
  subst h0
  have h := EL_loop (call := EV G (Tb (bs bb))) (G := G) (a := h68l0) (L := [0, 107, 0, 0]) (m := 8) (fun j => fr0 (effL x (a.f.take j)) k c l u z a j) a.f.length rfl (fun j hj => by
    have e := effL_gs x (a.f.take j)
    rw [List.length_take] at e
    rw [effL_next x a.f j hj]
    exact fr_round _ (by rw [e.1]; exact hs) (by rw [e.1]; exact hl) (by omega) k c l u z a hf j hj a.f[j] rfl (hc _ (List.getElem_mem hj)))
  rw [List.take_length] at h
  exact h
theorem dr_round (x : Ca) (hs : Srt x.gs) (hl : x.gs.length ≤ 1000) (k c l u : Int) (z : List (List DC)) (a : An) (j : Nat) (hj : j < 9) :
    rnK [0, 117] 8 (EC (EV G (Tb (bs bb))) G h68l1 (dr0 (drpF x j) k c l u z a j)) = some (dr0 (drpF x (j + 1)) k c l u z a (j + 1)) := by
  have q := level_v (G := G) (bb := bb) x.ws hs (by omega) x.v (drpF x j).K (drpF x j).D x.W x.sn j
  have ek : drpF x j = { x with K := (drpF x j).K, D := (drpF x j).D } := rfl
  by_cases h : lvF x.gs j < 1
  · rw [drpF_y x j h, ek]
    generalize (drpF x j).K = K at *
    generalize (drpF x j).D = D at *
    obtain ⟨gs, ws, v, K0, D0, W, sn⟩ := x
    unfold dr0
    simp only [caH] at q h
    simp (disch := omega) only [go_sem, h68l1, evJ_5, q, h, tn1]
  · rw [drpF_n x j h, ek]
    generalize (drpF x j).K = K at *
    generalize (drpF x j).D = D at *
    obtain ⟨gs, ws, v, K0, D0, W, sn⟩ := x
    unfold dr0
    simp only [caH] at q h
    simp (disch := omega) only [go_sem, h68l1, evJ_5, q, h, tn1]
theorem tail2 {st : AS} (x : Ca) (hs : Srt x.gs) (hl : x.gs.length ≤ 1000) (hn : x.sn.length + 20 ≤ 10000) (k c l u : Int) (z : List (List DC)) (a : An) (hf : a.f.length ≤ 10) (hc : ∀ w ∈ a.f, 1 ≤ w.c ∧ w.c ≤ 8) (h0 : st = fr0 x k c l u z a 0) :
    retZ false [RetV.tmp 4] 5 (sqK (EV G (Tb (bs bb))) G (((HC.region [Oo 118 (AI.mov (Ki 0))]).seq (HC.block 2 (HC.loop [0, 117] h68l1))).seq ((HC.region [Oo 4 (AI.mov (Ki 0))]).seq HC.ret)) (blkK 0 (EL (EV G (Tb (bs bb))) G h68l0 [0, 107, 0, 0] 8 st))) = some (vi 0, (drpF (effL x a.f) 9).h) := by
  rw [fr_loop x hs hl hn k c l u z a hf hc h0]
  have e := effL_gs x a.f
  generalize effL x a.f = y at *
  have hs' : Srt y.gs := by rw [e.1]; exact hs
  have hl' : y.gs.length ≤ 1000 := by rw [e.1]; exact hl
  unfold fr0
  simp (disch := omega) only [go_sem, h68l0]
  rw [EL_loop (fun j => dr0 (drpF y j) k c l u z a j) 9 ?_ ?_]
  rotate_left
  · rw [drpF_0]; rfl
  · intro j hj
    exact dr_round y hs' hl' k c l u z a j hj
  generalize drpF y 9 = z at *
  unfold dr0
  simp (disch := omega) only [go_sem, h68l1]
  try rfl
theorem giv_gs (x : Ca) (k c u : Int) : (giv x k c u).gs = x.gs ∧ (giv x k c u).ws = x.ws ∧ (giv x k c u).sn = x.sn := by
  unfold giv
  split <;> simp
end
section
set_option maxRecDepth 4000
set_option linter.unusedSimpArgs false
set_option linter.unusedVariables false
variable {G : Glob} {bb : Bool}
theorem awake_b : EV G (Tb (bs true)) 10 [] [] = some (vb true, []) := EV_base rfl rfl
def fewB (gs : List Gr) (ws : List Wt) : Bool := decide (gs.length ≤ 12 ∧ ws.length ≤ 12)
theorem few_v (gs : List Gr) (ws : List Wt) : EV G (Tb (bs bb)) 11 [flV gs ws] [] = some (vb (fewB gs ws), []) := by
  refine EV_run rfl ?_
  unfold fewB
  by_cases h1 : gs.length ≤ 12
  · have h1' : (gs.length : Int) ≤ 12 := by omega
    by_cases h2 : ws.length ≤ 12
    · have h2' : (ws.length : Int) ≤ 12 := by omega
      rw [decide_eq_true ⟨h1, h2⟩]
      simp (disch := omega) only [go_sem, h11c, h1', h2', decide_true]
    · have h2' : ¬ (ws.length : Int) ≤ 12 := by omega
      rw [decide_eq_false (fun h => h2 h.2)]
      simp (disch := omega) only [go_sem, h11c, h1', h2', decide_false]
  · have h1' : ¬ (gs.length : Int) ≤ 12 := by omega
    rw [decide_eq_false (fun h => h1 h.1)]
    simp (disch := omega) only [go_sem, h11c, h1', decide_false]
theorem few_p {gs : List Gr} {ws : List Wt} (h : fewB gs ws = true) : gs.length ≤ 12 ∧ ws.length ≤ 12 := by simpa [fewB] using h
end
section
set_option maxRecDepth 4000
set_option linter.unusedSimpArgs false
set_option linter.unusedVariables false
variable {G : Glob} {bb : Bool}
theorem did_le1 (gs : List Gr) (c k : Int) : (did gs c k).length ≤ gs.length + 1 := by
  unfold did insG
  split
  · simp; omega
  · omega
theorem thr_bl : ∀ (ws : List Wt) (gs : List Gr), (thr gs ws).2.2.1.length ≤ ws.length * (gs.length + ws.length)
  | [], gs => by simp [thr]
  | w :: ws, gs => by
    have h1 := brBs_len gs w.c w.k
    rw [thr, List.length_cons, Nat.succ_mul]
    split
    · simp only; omega
    · have h2 := thr_bl ws (did (brGs gs w.c w.k) w.c w.k)
      have h3 := did_le1 (brGs gs w.c w.k) w.c w.k
      rw [brGs_len] at h3
      have h4 : ws.length * ((did (brGs gs w.c w.k) w.c w.k).length + ws.length) ≤ ws.length * (gs.length + (ws.length + 1)) := Nat.mul_le_mul_left _ (by omega)
      simp only [List.length_append]
      omega
theorem stp_bl {gs : List Gr} {ws : List Wt} {a : Ac} (h : Vd gs ws) (hi : a.k ≠ 0 → isIn gs a.c = true) (hk : 0 ≤ a.k ∧ a.k ≤ 5) : (stp gs ws a).2.2.b.length ≤ 200 ∧ (stp gs ws a).2.2.f.length ≤ 8 := by
  have hg := h.gl
  have hw := h.wl
  refine ⟨?_, Nat.le_trans (stp_f gs ws a).2 hw⟩
  unfold stp
  have key : ∀ gs0 : List Gr, gs0.length ≤ 8 → (thr gs0 ws).2.2.1.length ≤ 200 := fun gs0 h0 => by
    have h1 := thr_bl ws gs0
    have h2 : ws.length * (gs0.length + ws.length) ≤ 8 * 16 := Nat.mul_le_mul hw (by omega)
    omega
  split
  · simp
  · split
    · exact key _ (by rw [ack_len]; exact hg)
    · split
      · rename_i h5
        exact key _ (by rw [del_len h.so (hi (by omega))]; omega)
      · unfold useF
        have := brBs_len gs a.c a.k
        split
        · split <;> simp only <;> omega
        · simp
theorem rstepped_v (gs : List Gr) (ws : List Wt) (a : Ac) (hg : gs.length ≤ 100000) (hw : ws.length ≤ 100000) : EV G (Tb (bs bb)) 23 [flV gs ws, a.v] [] = some (stpV (stpF gs ws a), []) := by
  refine EV_run rfl ?_
  unfold stpF
  have q := rerr_v (G := G) (bb := bb) gs ws hg hw
  by_cases h : (chk gs ws).2 = 0
  · rw [if_pos h]
    rw [h] at q
    obtain ⟨hV, hH⟩ := chk_ok h
    have h1 := hV.gl
    have h2 := hV.wl
    have q1 := racErr_v (G := G) (bb := bb) gs ws a hV.so hg hw
    by_cases he : acErr gs ws a = 0
    · rw [if_pos he]
      rw [he] at q1
      have q2 := rstep_v (G := G) (bb := bb) hV hH he
      generalize stp gs ws a = s at *
      obtain ⟨gs', ws', an⟩ := s
      simp only at q2 ⊢
      simp (disch := omega) only [go_sem, h23c, q, q1, q2]
      rw [fvT_b (by rfl) (by simp)]
      simp (disch := omega) only [go_sem]
      rw [fvT_b (by rfl) (by simp)]
      simp (disch := omega) only [go_sem, List.take_length]
      try rfl
    · rw [if_neg he]
      simp (disch := omega) only [go_sem, h23c, q, q1, he]
      try rfl
  · rw [if_neg h]
    simp (disch := omega) only [go_sem, h23c, q, h]
    try rfl
theorem rbreaks_v (gs : List Gr) (ws : List Wt) (a : Ac) (hg : gs.length ≤ 100000) (hw : ws.length ≤ 100000) : EV G (Tb (bs bb)) 25 [flV gs ws, a.v] [] = some (bfV (bfF gs ws a), []) := by
  refine EV_run rfl ?_
  unfold bfF
  have q := rerr_v (G := G) (bb := bb) gs ws hg hw
  by_cases h : (chk gs ws).2 = 0
  · rw [if_pos h]
    rw [h] at q
    obtain ⟨hV, hH⟩ := chk_ok h
    have q1 := racErr_v (G := G) (bb := bb) gs ws a hV.so hg hw
    by_cases he : acErr gs ws a = 0
    · rw [if_pos he]
      rw [he] at q1
      cases hu : isUs a.k with
      | true =>
        by_cases h2 : ws.length = 0
        · have h2' : ¬ (ws.length : Int) > 0 := by omega
          rw [if_pos ⟨rfl, h2⟩]
          have q2 := rbroken_v (G := G) (bb := bb) gs ws a.c a.k hg hw
          have tb : List.take (brBs gs a.c a.k).length ((brBs gs a.c a.k).map Br.e) = (brBs gs a.c a.k).map Br.e := List.take_of_length_le (by simp)
          simp only [brkH] at q2
          simp (disch := omega) only [go_sem, h25c, q, q1, q2, rwaits_v, hu, h2', tb, List.take_length]
          try rfl
        · have h2' : (ws.length : Int) > 0 := by omega
          rw [if_neg (fun h => h2 h.2)]
          simp (disch := omega) only [go_sem, h25c, q, q1, rwaits_v, hu, h2']
          try rfl
      | false =>
        rw [if_neg (by simp)]
        simp (disch := omega) only [go_sem, h25c, q, q1, rwaits_v, hu]
        try rfl
    · rw [if_neg he]
      simp (disch := omega) only [go_sem, h25c, q, q1, he]
      try rfl
  · rw [if_neg h]
    simp (disch := omega) only [go_sem, h25c, q, h]
    try rfl
theorem stpF_len (gs : List Gr) (ws : List Wt) (a : Ac) : (stpF gs ws a).1.1.length ≤ 8 ∧ (stpF gs ws a).1.2.1.length ≤ 8 ∧ (stpF gs ws a).1.2.2.b.length ≤ 200 ∧ (stpF gs ws a).1.2.2.f.length ≤ 8 := by
  unfold stpF
  split
  · rename_i h
    obtain ⟨hV, hH⟩ := chk_ok h
    split
    · rename_i he
      obtain ⟨h1, h2⟩ := stp_ok hV hH he
      obtain ⟨h3, h4⟩ := ac_us he
      have h5 := stp_bl hV h4 h3
      exact ⟨h1.gl, h1.wl, h5⟩
    · simp
  · simp
theorem bfF_len (gs : List Gr) (ws : List Wt) (a : Ac) : (bfF gs ws a).1.length ≤ gs.length := by
  have := brBs_len gs a.c a.k
  unfold bfF
  repeat' split
  all_goals simp
  all_goals omega
theorem fpV_t {l : List TV} : fpV (.tup l) = [] := Eq.trans rfl rfl
theorem steps_v (hG : G 0 = some alD) (gs : List Gr) (ws : List Wt) (a : Ac) : EV G (Tb (bs true)) 6 [flV gs ws, a.v] [] = some (vb true, []) := by
  refine EV_run rfl ?_
  have qf := few_v (G := G) (bb := true) gs ws
  cases hf : fewB gs ws with
  | false =>
    rw [hf] at qf
    simp (disch := omega) only [go_sem, h6c, awake_b, qf]
  | true =>
    rw [hf] at qf
    obtain ⟨h1, h2⟩ := few_p hf
    have q1 := rcopy_v (G := G) (bb := true) gs ws (by omega) (by omega)
    have q2 := stepped_v (G := G) (bb := true) hG gs ws a (by omega) (by omega)
    have q3 := rstepped_v (G := G) (bb := true) gs ws a (by omega) (by omega)
    have q4 := breaksFor_v (G := G) (bb := true) hG gs ws a (by omega) (by omega)
    have q5 := rbreaks_v (G := G) (bb := true) gs ws a (by omega) (by omega)
    obtain ⟨l1, l2, l3, l4⟩ := stpF_len gs ws a
    have l5 := bfF_len gs ws a
    generalize stpF gs ws a = r at *
    generalize bfF gs ws a = r2 at *
    obtain ⟨⟨gs', ws', an⟩, e⟩ := r
    obtain ⟨bs', e2⟩ := r2
    simp only [stpV, bfV] at l1 l2 l3 l4 l5 q2 q3 q4 q5
    have q6 := same_v (G := G) (bb := true) gs' ws' (by omega) (by omega)
    have q7 := sameAn_v (G := G) (bb := true) an (by omega) (by omega)
    have q8 := sameB_v (G := G) (bb := true) bs' (by omega)
    simp (disch := omega) only [go_sem, h6c, fpV_t, awake_b, qf, q1, q2, q3, q4, q5, q6, q7, q8, List.take_length]
    rw [fvT_b (by rfl) (by simp)]
    simp (disch := omega) only [go_sem]
    rw [fvT_b (by rfl) (by simp)]
    simp (disch := omega) only [go_sem, q1, q2, q3, q4, q5, q6, q7, q8, List.take_length]
    try rfl
end
end Go.Proofs.YtinageiefahjfaaGreatDoor
