/- Runs of acts: the loop. Conditions: none. -/
import Derived.Test.YtinageiefahjfaaGreatDoorUi
import Derived.Test.YtinageiefahjfaaGreatDoorWg
import Derived.Test.YtinageiefahjfaaGreatDoorWk
namespace Go.Proofs.YtinageiefahjfaaGreatDoor
set_option linter.unusedSimpArgs false
set_option linter.unusedVariables false
set_option maxRecDepth 4000
section
variable {G : Glob} {bb : Bool}
theorem idx0_v (fn : Nat) (ds : List DC) (p : Gr → Bool) (gs : List Gr) (hl : gs.length ≤ 1000000) (hq : ∀ g ∈ gs, EV G (Tb (bs bb)) fn [g.v, .one (.ref ds)] [] = some (vb (p g), [])) :
    EV G (Tb (bs bb)) 169 [gsV gs, .one (.fn fn [.ref ds])] [] = some (vi (idxG p gs ⟨0, 0, 0⟩), []) := by
  refine EV_run rfl ?_
  simp (disch := omega) only [go_sem, h169c, List.length_map, kpCs_d, idsL_d, renL_d, ctCs_d, killL_d, outJ_m]
  unfold idxG
  rw [EL_fst (fun k => ⟨(gsV gs :: .one (.fn fn [.ref ds]) :: jk 5 (vi gs.length :: vi k :: jk 10 [])), []⟩) (fun k => p (gs.getD k ⟨0, 0, 0⟩) = true) gs.length ?_ ?_]
  rotate_left
  · rfl
  · intro k hk hn
    have h3 := hn k (Nat.le_refl _)
    rw [getDz gs _ k hk] at h3
    have h4 : p gs[k] = false := by simpa using h3
    have q := hq gs[k] (List.getElem_mem hk)
    rw [h4] at q
    simp (disch := omega) only [go_sem, h169l0, List.length_map, Gr.e, q, List.getElem?_map, List.getElem?_eq_getElem hk, kpCs_d, idsL_d, renL_d, ctCs_d, killL_d, outJ_m]
  obtain ⟨hk, hp, hn⟩ := ix_spec (fun k => p (gs.getD k ⟨0, 0, 0⟩) = true) gs.length
  generalize ix (fun k => p (gs.getD k ⟨0, 0, 0⟩) = true) gs.length = k at *
  rcases hp with rfl | ⟨hk', hp⟩
  · rw [if_pos rfl]
    simp (disch := omega) only [go_sem, h169l0, List.length_map, kpCs_d, idsL_d, renL_d, ctCs_d, killL_d, outJ_m]
  · rw [if_neg (by omega)]
    rw [getDz gs _ k hk'] at hp
    have q := hq gs[k] (List.getElem_mem hk')
    rw [hp] at q
    simp (disch := omega) only [go_sem, h169l0, List.length_map, Gr.e, q, List.getElem?_map, List.getElem?_eq_getElem hk', kpCs_d, idsL_d, renL_d, ctCs_d, killL_d, outJ_m]
def dlI (p : Gr → Bool) (l : List Gr) : Nat → Nat
  | 0 => 0
  | j + 1 => if p (l.getD j ⟨0, 0, 0⟩) = true then dlI p l j else dlI p l j + 1
def dlA (p : Gr → Bool) (l : List Gr) : Nat → List Gr
  | 0 => l
  | j + 1 => if p (l.getD j ⟨0, 0, 0⟩) = true then dlA p l j else (dlA p l j).set (dlI p l j) (l.getD j ⟨0, 0, 0⟩)
theorem dlA_len (p : Gr → Bool) (l : List Gr) : ∀ j, (dlA p l j).length = l.length
  | 0 => rfl
  | j + 1 => by
    rw [dlA]; split
    · exact dlA_len p l j
    · rw [List.length_set]; exact dlA_len p l j
theorem dlI_le (p : Gr → Bool) (l : List Gr) : ∀ j, dlI p l j ≤ j
  | 0 => Nat.le_refl _
  | j + 1 => by
    have := dlI_le p l j
    rw [dlI]; split <;> omega
theorem dlA_ge (p : Gr → Bool) (l : List Gr) : ∀ j k, j ≤ k → (dlA p l j)[k]? = l[k]?
  | 0, k, _ => rfl
  | j + 1, k, h => by
    have h1 := dlI_le p l j
    rw [dlA]; split
    · exact dlA_ge p l j k (by omega)
    · rw [List.getElem?_set_ne (by omega)]; exact dlA_ge p l j k (by omega)
theorem take_set_lt {α : Type} (l : List α) (i : Nat) (a : α) (h : i < l.length) : (l.set i a).take (i + 1) = l.take i ++ [a] := by
  rw [List.take_add_one, List.take_set_of_le (Nat.le_refl _), List.getElem?_set_self h]; rfl
theorem dlA_take (p : Gr → Bool) (l : List Gr) : ∀ j, j ≤ l.length → (dlA p l j).take (dlI p l j) = (l.take j).filter fun r => !p r
  | 0, _ => rfl
  | j + 1, h => by
    have ih := dlA_take p l j (by omega)
    have h1 := dlI_le p l j
    have h2 : l.getD j ⟨0, 0, 0⟩ = l[j] := grAt l j (by omega)
    rw [dlA, dlI, h2, List.take_succ_eq_append_getElem (by omega), List.filter_append]
    split
    · rename_i hp
      rw [ih]; simp [hp]
    · rename_i hp
      rw [take_set_lt _ _ _ (by rw [dlA_len]; omega), ih]
      simp [hp]
theorem dlI_len (p : Gr → Bool) (l : List Gr) : dlI p l l.length = (l.filter fun r => !p r).length := by
  have := congrArg List.length (dlA_take p l l.length (Nat.le_refl _))
  rw [List.length_take, dlA_len, List.take_length] at this
  have := dlI_le p l l.length
  omega
theorem dl_before (p : Gr → Bool) (l : List Gr) : ∀ k, k ≤ l.length → (∀ j, j < k → ¬ p (l.getD j ⟨0, 0, 0⟩) = true) → dlI p l k = k ∧ dlA p l k = l
  | 0, _, _ => ⟨rfl, rfl⟩
  | k + 1, h, hn => by
    obtain ⟨h1, h2⟩ := dl_before p l k (by omega) (fun j hj => hn j (by omega))
    have h3 := hn k (by omega)
    rw [dlI, dlA, if_neg h3, if_neg h3, h1, h2, grAt l k (by omega)]
    exact ⟨rfl, List.set_getElem_self _⟩
theorem take_all {α β : Type} (f : α → β) (l : List α) : (l.map f).take l.length = l.map f := by rw [← List.map_take, List.take_length]
theorem clr_front (A : List Gr) (i : Nat) (hi : i ≤ A.length) (z : List DC) : clrE (A.map Gr.e) i (A.length - i) z = (A.take i).map Gr.e ++ List.replicate (A.length - i) z := by
  unfold clrE
  rw [show i + (A.length - i) = (A.map Gr.e).length by simp; omega, List.drop_length, List.append_nil, List.map_take]
theorem deleteFunc_v (p : Gr → Bool) (f : Nat) (a b c : Int) (hf : ∀ r : Gr, EV G (Tb (bs bb)) f [r.v, .one (.ptr 0 0)] [.box [.dc (ci a), .dc (ci b), .dc (ci c)]] = some (vb (p r), [.box [.dc (ci a), .dc (ci b), .dc (ci c)]])) (hv : ∀ r : Gr, EV G (Tb (bs bb)) f [r.v, .one (.ref [ci a, ci b, ci c])] [] = some (vb (p r), [])) (l : List Gr) (hl : l.length ≤ 1000000) :
    EV G (Tb (bs bb)) 172 [.one (.bld 0 l.length), .one (.fn f [.ptr 1 0])] [.arr 0 3 (l.map Gr.e), .box [.dc (ci a), .dc (ci b), .dc (ci c)]] =
      some (.one (.bld 0 (l.filter fun r => !p r).length), [.arr 0 3 ((l.filter fun r => !p r).map Gr.e ++ List.replicate (l.length - (l.filter fun r => !p r).length) [ci 0, ci 0, ci 0]), .box [.dc (ci a), .dc (ci b), .dc (ci c)]]) := by
  refine EV_run rfl ?_
  have hix := idx0_v (G := G) (bb := bb) f [ci a, ci b, ci c] p l hl (fun r _ => hv r)
  unfold idxG at hix
  obtain ⟨hk, hp, hn⟩ := ix_spec (fun k => p (l.getD k ⟨0, 0, 0⟩) = true) l.length
  generalize ix (fun k => p (l.getD k ⟨0, 0, 0⟩) = true) l.length = k at *
  rcases hp with rfl | ⟨hk', hp⟩
  · have hF : (l.filter fun r => !p r) = l := by
      rw [List.filter_eq_self]
      intro r hr
      obtain ⟨j, hj, rfl⟩ := List.mem_iff_getElem.1 hr
      have := hn j hj
      rw [grAt l j hj] at this
      simpa using this
    rw [hF]
    rw [if_pos rfl] at hix
    simp (disch := omega) only [go_sem, h172c, List.length_map, take_all, hix]
    simp
  · rw [if_neg (by omega)] at hix
    obtain ⟨h1, h2⟩ := dl_before p l k hk hn
    have h3 : dlI p l (k + 1) = k ∧ dlA p l (k + 1) = l := by rw [dlI, dlA, if_pos hp, if_pos hp]; exact ⟨h1, h2⟩
    simp (disch := omega) only [go_sem, h172c, List.length_map, take_all, hix]
    rw [EL_loop (fun j => ⟨(.one (.bld 0 l.length) :: .one (.fn f [.ptr 1 0]) :: jk 3 (vi (dlI p l (k + 1 + j) : Nat) :: vi (k + 1 + j : Nat) :: jk 35 [])), [.arr 0 3 ((dlA p l (k + 1 + j)).map Gr.e), .box [.dc (ci a), .dc (ci b), .dc (ci c)]]⟩) (l.length - (k + 1)) ?_ ?_]
    rotate_left
    · simp only [Nat.add_zero, h3.1, h3.2, Int.natCast_add, Int.natCast_one]
      rfl
    · intro j hj
      have hq0 : k + 1 + j < l.length := by omega
      have hA := dlA_len p l (k + 1 + j)
      have hI := dlI_le p l (k + 1 + j)
      have hg : (dlA p l (k + 1 + j))[k + 1 + j]? = some l[k + 1 + j] := by rw [dlA_ge p l _ _ (Nat.le_refl _), List.getElem?_eq_getElem hq0]
      have hfr := hf l[k + 1 + j]
      rw [show k + 1 + (j + 1) = k + 1 + j + 1 by omega, dlI, dlA, grAt l _ hq0]
      generalize dlA p l (k + 1 + j) = A at *
      generalize dlI p l (k + 1 + j) = i at *
      generalize k + 1 + j = q at *
      generalize l[q] = r at *
      cases hq : p r
      · rw [hq] at hfr
        have hset : (A.set i r).map Gr.e = (A.map Gr.e).set i [.raw (.int .i64 r.c), .raw (.int .i64 r.l), .raw (.int .i64 r.t)] := List.map_set
        simp (disch := omega) only [go_sem, h172l0, List.length_map, Gr.e, hfr, hg, hset]
      · rw [hq] at hfr
        simp (disch := omega) only [go_sem, h172l0, List.length_map, Gr.e, hfr, hg]
    · have hA := dlA_len p l l.length
      have hI := dlI_le p l l.length
      have hT := dlA_take p l l.length (Nat.le_refl _)
      have hL := dlI_len p l
      rw [show k + 1 + (l.length - (k + 1)) = l.length by omega]
      have hc := clr_front (dlA p l l.length) (dlI p l l.length) (by omega) [ci 0, ci 0, ci 0]
      rw [hT, List.take_length, hA] at hc
      rw [← hL]
      generalize dlA p l l.length = A at *
      generalize dlI p l l.length = i at *
      by_cases h0 : i = 0
      · subst h0
        rw [Nat.sub_zero] at hc
        have hlen : ((l.filter fun r => !p r).map Gr.e ++ List.replicate l.length [ci 0, ci 0, ci 0]).length = l.length := by simp [← hL]
        simp (disch := omega) only [go_sem, h172l0, List.length_map, Option.map_none, hc, hlen, Nat.sub_zero]
      · have hlen : ((l.filter fun r => !p r).map Gr.e ++ List.replicate (l.length - i) [ci 0, ci 0, ci 0]).length = l.length := by simp [← hL]; omega
        simp (disch := omega) only [go_sem, h172l0, List.length_map, Option.map_none, hc, hlen]
end
section
variable {G : Glob} {bb : Bool}
theorem p175_v (lv : Int) (h : Gr) : EV G (Tb (bs bb)) 175 [h.v, .one (.ptr 0 0)] [.box [.dc (ci lv)]] = some (vb (decide (h.l > lv)), [.box [.dc (ci lv)]]) := by
  refine EV_run rfl ?_
  simp (disch := omega) only [go_sem, h175c]
  try rfl
def abvG (gs : List Gr) (lv : Int) : Bool := gs.any fun h => decide (h.l > lv)
theorem p174_v (lv : Int) (gs : List Gr) (zs : List (List DC)) (hl : gs.length ≤ 1000000) : EV G (Tb (bs bb)) 174 [vi lv, .one (.ptr 0 0)] [.box [.bld 1 gs.length], .arr 0 3 (gs.map Gr.e ++ zs)] = some (vb (abvG gs lv), [.box [.dc (.slc (gs.map Gr.e))], .dead]) := by
  refine EV_run rfl ?_
  have q := any1_v (G := G) (bb := bb) 175 [ci lv] (fun h => decide (h.l > lv)) gs hl (fun h _ => p175_v lv h)
  simp only [List.map_cons, List.map_nil] at q
  rw [show (gs.any fun h => decide (h.l > lv)) = abvG gs lv from rfl] at q
  have tk : (gs.map Gr.e ++ zs).take gs.length = gs.map Gr.e := List.take_left' (by simp)
  simp (disch := omega) only [go_sem, h174c, q, tk, List.length_append, Nat.le_add_right]
theorem p173_v (k c l : Int) (h : Gr) : EV G (Tb (bs bb)) 173 [h.v, .one (.ptr 0 0)] [.box [.dc (ci k), .dc (ci c), .dc (ci l)]] = some (vb (decide (h.c = c)), [.box [.dc (ci k), .dc (ci c), .dc (ci l)]]) := by
  refine EV_run rfl ?_
  simp (disch := omega) only [go_sem, h173c]
  try rfl
theorem p173_r (k c l : Int) (h : Gr) : EV G (Tb (bs bb)) 173 [h.v, .one (.ref [ci k, ci c, ci l])] [] = some (vb (decide (h.c = c)), []) := by
  refine EV_run rfl ?_
  simp (disch := omega) only [go_sem, h173c]
  try rfl
theorem p171_v (k c l : Int) (h : Wt) : EV G (Tb (bs bb)) 171 [h.v, .one (.ptr 0 0)] [.box [.dc (ci k), .dc (ci c), .dc (ci l)]] = some (vb (decide (h.c = c)), [.box [.dc (ci k), .dc (ci c), .dc (ci l)]]) := by
  refine EV_run rfl ?_
  simp (disch := omega) only [go_sem, h171c]
  try rfl
end
section
variable {G : Glob} {bb : Bool}
theorem oth_e (gs : List Gr) (c : Int) : (gs.filter fun r => !(decide (r.c = c))) = othG gs c := by
  unfold othG
  congr 1
  funext g
  simp
theorem mayHave_v (gs : List Gr) (ws : List Wt) (a : Ac) (hl : gs.length ≤ 100000) : EV G (Tb (bs bb)) 125 [flR gs ws, a.v] [] = some (vb (mayH gs ws a), []) := by
  refine EV_run rfl ?_
  have q1 := clone_g (G := G) (bb := bb) gs (by omega)
  have q2 := deleteFunc_v (G := G) (bb := bb) (fun r => decide (r.c = a.c)) 173 a.k a.c a.l (fun r => p173_v a.k a.c a.l r) (fun r => p173_r a.k a.c a.l r) gs (by omega)
  rw [oth_e] at q2
  have hol : (othG gs a.c).length ≤ gs.length := List.length_filter_le _ _
  have q3 := fun lv => p174_v (G := G) (bb := bb) lv (othG gs a.c) (List.replicate (gs.length - (othG gs a.c).length) [ci 0, ci 0, ci 0]) (by omega)
  unfold mayH
  by_cases h0 : ws.length > 0
  · rw [if_pos h0]
    simp (disch := omega) only [go_sem, h125c, q1, q2, q3, h0]
  · rw [if_neg h0]
    by_cases h3 : a.l = 3
    · rw [if_pos h3]
      simp (disch := omega) only [go_sem, h125c, q1, q2, q3, h0, eq_true h3]
      rw [show decide (((othG gs a.c).length : Int) = 0) = decide ((othG gs a.c).length = 0) from decide_eq_decide.2 (by omega)]
    · rw [if_neg h3]
      by_cases h2 : a.l = 2
      · rw [if_pos h2]
        simp (disch := omega) only [go_sem, h125c, q1, q2, q3, h0, h3, eq_true h2]
        rfl
      · rw [if_neg h2]
        simp (disch := omega) only [go_sem, h125c, q1, q2, q3, h0, h3, h2]
        rfl
theorem usErr_e (gs : List Gr) (ws : List Wt) (a : Ac) : usErr gs ws a = firstE [ifE (wi a.k 0 5) 15, ifE (isCl a.c && lvOK a) 2, ifE (!isW ws a.c) 18, ifE (decide (a.k ≠ 0) || !isIn gs a.c) 5, ifE (decide (a.k = 0) || isIn gs a.c) 6] := rfl
set_option maxHeartbeats 2000000 in
theorem usualErr_v (gs : List Gr) (ws : List Wt) (hs : Srt gs) (a : Ac) (hg : gs.length ≤ 100000) (hl : ws.length ≤ 100000) : EV G (Tb (bs bb)) 124 [flR gs ws, a.v] [] = some (vi (usErr gs ws a), []) := by
  refine EV_run rfl ?_
  have q := anyW_v (G := G) (bb := bb) 171 [ci a.k, ci a.c, ci a.l] (fun b => decide (b.c = a.c)) ws (by omega) (fun b _ => p171_v a.k a.c a.l b)
  simp only [List.map_cons, List.map_nil] at q
  rw [show (ws.any fun b => decide (b.c = a.c)) = isW ws a.c from rfl] at q
  rw [usErr_e]
  have hlv : lvOK a = if a.k = 1 then wi a.l 1 3 else decide (a.l = 0) := rfl
  rw [hlv]
  cases h : isIn gs a.c with
  | true =>
    have g1 := grant_y (G := G) (bb := bb) ws hs hg a.c h
    cases hc : isCl a.c with
    | true =>
      by_cases hk : a.k = 0
      · have hk1 : ¬ a.k = 1 := by omega
        simp (disch := omega) only [go_sem, h124c, q, g1, isClient_v, within_u, unless_u, first5, eq_true hk, hk1, h, hc]
        try rfl
      · by_cases hk1 : a.k = 1
        · simp (disch := omega) only [go_sem, h124c, q, g1, isClient_v, within_u, unless_u, first5, hk, eq_true hk1, h, hc]
          try rfl
        · simp (disch := omega) only [go_sem, h124c, q, g1, isClient_v, within_u, unless_u, first5, hk, hk1, h, hc]
          try rfl
    | false =>
      by_cases hk : a.k = 0
      · have hk1 : ¬ a.k = 1 := by omega
        simp (disch := omega) only [go_sem, h124c, q, g1, isClient_v, within_u, unless_u, first5, eq_true hk, hk1, h, hc]
        try rfl
      · by_cases hk1 : a.k = 1
        · simp (disch := omega) only [go_sem, h124c, q, g1, isClient_v, within_u, unless_u, first5, hk, eq_true hk1, h, hc]
          try rfl
        · simp (disch := omega) only [go_sem, h124c, q, g1, isClient_v, within_u, unless_u, first5, hk, hk1, h, hc]
          try rfl
  | false =>
    have g1 := grant_n (G := G) (bb := bb) ws hs hg a.c h
    cases hc : isCl a.c with
    | true =>
      by_cases hk : a.k = 0
      · have hk1 : ¬ a.k = 1 := by omega
        simp (disch := omega) only [go_sem, h124c, q, g1, isClient_v, within_u, unless_u, first5, eq_true hk, hk1, h, hc]
        try rfl
      · by_cases hk1 : a.k = 1
        · simp (disch := omega) only [go_sem, h124c, q, g1, isClient_v, within_u, unless_u, first5, hk, eq_true hk1, h, hc]
          try rfl
        · simp (disch := omega) only [go_sem, h124c, q, g1, isClient_v, within_u, unless_u, first5, hk, hk1, h, hc]
          try rfl
    | false =>
      by_cases hk : a.k = 0
      · have hk1 : ¬ a.k = 1 := by omega
        simp (disch := omega) only [go_sem, h124c, q, g1, isClient_v, within_u, unless_u, first5, eq_true hk, hk1, h, hc]
        try rfl
      · by_cases hk1 : a.k = 1
        · simp (disch := omega) only [go_sem, h124c, q, g1, isClient_v, within_u, unless_u, first5, hk, eq_true hk1, h, hc]
          try rfl
        · simp (disch := omega) only [go_sem, h124c, q, g1, isClient_v, within_u, unless_u, first5, hk, hk1, h, hc]
          try rfl
end
section
variable {G : Glob} {bb : Bool}
theorem bneft : (false != true) = true := rfl
theorem bnett : (true != true) = false := rfl
theorem acErr_e (gs : List Gr) (ws : List Wt) (a : Ac) (h : usErr gs ws a = 0) : acErr gs ws a = if isIn gs a.c = true ∧ wrong (grE gs a.c) a = true then 20 else if a.k = 1 ∧ mayH gs ws a = false then 24 else if isUs a.k = true ∧ ws.length = 8 then 16 else 0 := by
  unfold acErr
  rw [if_neg (by omega)]
set_option maxHeartbeats 4000000 in
theorem actErr_v (gs : List Gr) (ws : List Wt) (hs : Srt gs) (a : Ac) (hg : gs.length ≤ 100000) (hl : ws.length ≤ 100000) : EV G (Tb (bs bb)) 63 [flR gs ws, a.v] [] = some (vi (acErr gs ws a), []) := by
  refine EV_run rfl ?_
  have q := usualErr_v (G := G) (bb := bb) gs ws hs a hg hl
  have q1 := mayHave_v (G := G) (bb := bb) gs ws a hg
  by_cases hu : usErr gs ws a = 0
  · rw [acErr_e gs ws a hu]
    rw [hu] at q
    have e8 : ((ws.length : Int) = 8) = (ws.length = 8) := propext ⟨by omega, by omega⟩
    cases h : isIn gs a.c with
    | true =>
      have g1 := grant_y (G := G) (bb := bb) ws hs hg a.c h
      generalize grE gs a.c = g at *
      have hw : wrong g a = if a.k = 4 then decide (g.t = g.l) else if a.k = 5 then false else if a.k = 1 then decide (g.t ≠ g.l) || decide (a.l ≤ g.l) else decide (g.t ≠ g.l) := rfl
      by_cases ht : g.t = g.l
      · by_cases k4 : a.k = 4
        · have k1 : ¬ a.k = 1 := by omega
          rw [hw, if_pos k4, decide_eq_true ht, if_pos ⟨rfl, rfl⟩]
          simp (disch := omega) only [go_sem, h63c, bneft, bnett, q, g1, Gr.e, eq_true ht, eq_true k4, k1]
        · by_cases k5 : a.k = 5
          · have k1 : ¬ a.k = 1 := by omega
            rw [hw, if_neg k4, if_pos k5, if_neg (by simp), if_neg (by omega)]
            have hus : isUs a.k = false := by unfold isUs; simp; omega
            rw [if_neg (by simp [hus])]
            simp (disch := omega) only [go_sem, h63c, bneft, bnett, q, g1, Gr.e, eq_true ht, k4, eq_true k5, k1, isUse_v, hus]
          · by_cases k1 : a.k = 1
            · by_cases hal : a.l ≤ g.l
              · rw [hw, if_neg k4, if_neg k5, if_pos k1, decide_eq_true hal, Bool.or_true, if_pos ⟨rfl, rfl⟩]
                simp (disch := omega) only [go_sem, h63c, bneft, bnett, q, g1, Gr.e, eq_true ht, k4, k5, eq_true k1, hal]
              · rw [hw, if_neg k4, if_neg k5, if_pos k1, decide_eq_false hal, Bool.or_false, if_neg (by simp [ht])]
                have hus : isUs a.k = false := by unfold isUs; simp; omega
                cases hm : mayH gs ws a with
                | true =>
                  rw [hm] at q1
                  rw [if_neg (by simp), if_neg (by simp [hus])]
                  simp (disch := omega) only [go_sem, h63c, bneft, bnett, q, g1, q1, Gr.e, eq_true ht, k4, k5, eq_true k1, hal, isUse_v, hus]
                | false =>
                  rw [hm] at q1
                  rw [if_pos ⟨k1, rfl⟩]
                  simp (disch := omega) only [go_sem, h63c, bneft, bnett, q, g1, q1, Gr.e, eq_true ht, k4, k5, eq_true k1, hal, isUse_v, hus]
            · rw [hw, if_neg k4, if_neg k5, if_neg k1, if_neg (by simp [ht]), if_neg (fun h => k1 h.1)]
              cases hus : isUs a.k with
              | true =>
                by_cases h8 : ws.length = 8
                · have h8' : (ws.length : Int) = 8 := by omega
                  rw [if_pos ⟨rfl, h8⟩]
                  simp (disch := omega) only [go_sem, h63c, bneft, bnett, q, g1, Gr.e, eq_true ht, k4, k5, k1, isUse_v, hus, eq_true h8']
                · have h8' : ¬ (ws.length : Int) = 8 := by omega
                  rw [if_neg (fun h => h8 h.2)]
                  simp (disch := omega) only [go_sem, h63c, bneft, bnett, q, g1, Gr.e, eq_true ht, k4, k5, k1, isUse_v, hus, h8']
              | false =>
                rw [if_neg (by simp)]
                simp (disch := omega) only [go_sem, h63c, bneft, bnett, q, g1, Gr.e, eq_true ht, k4, k5, k1, isUse_v, hus]
      · by_cases k4 : a.k = 4
        · have k1 : ¬ a.k = 1 := by omega
          rw [hw, if_pos k4, decide_eq_false ht, if_neg (by simp), if_neg (by omega)]
          have hus : isUs a.k = false := by unfold isUs; simp; omega
          rw [if_neg (by simp [hus])]
          simp (disch := omega) only [go_sem, h63c, bneft, bnett, q, g1, Gr.e, ht, eq_true k4, k1, isUse_v, hus]
        · by_cases k5 : a.k = 5
          · have k1 : ¬ a.k = 1 := by omega
            rw [hw, if_neg k4, if_pos k5, if_neg (by simp), if_neg (by omega)]
            have hus : isUs a.k = false := by unfold isUs; simp; omega
            rw [if_neg (by simp [hus])]
            simp (disch := omega) only [go_sem, h63c, bneft, bnett, q, g1, Gr.e, ht, k4, eq_true k5, k1, isUse_v, hus]
          · by_cases k1 : a.k = 1
            · rw [hw, if_neg k4, if_neg k5, if_pos k1, if_pos ⟨rfl, by simp [ht]⟩]
              simp (disch := omega) only [go_sem, h63c, bneft, bnett, q, g1, Gr.e, ht, k4, k5, eq_true k1]
            · rw [hw, if_neg k4, if_neg k5, if_neg k1, if_pos ⟨rfl, by simp [ht]⟩]
              simp (disch := omega) only [go_sem, h63c, bneft, bnett, q, g1, Gr.e, ht, k4, k5, k1]
    | false =>
      have g1 := grant_n (G := G) (bb := bb) ws hs hg a.c h
      rw [if_neg (by simp)]
      by_cases k1 : a.k = 1
      · have hus : isUs a.k = false := by unfold isUs; simp; omega
        cases hm : mayH gs ws a with
        | true =>
          rw [hm] at q1
          rw [if_neg (by simp), if_neg (by simp [hus])]
          simp (disch := omega) only [go_sem, h63c, bneft, bnett, q, g1, q1, eq_true k1, isUse_v, hus]
        | false =>
          rw [hm] at q1
          rw [if_pos ⟨k1, rfl⟩]
          simp (disch := omega) only [go_sem, h63c, bneft, bnett, q, g1, q1, eq_true k1, isUse_v, hus]
      · rw [if_neg (fun h => k1 h.1)]
        cases hus : isUs a.k with
        | true =>
          by_cases h8 : ws.length = 8
          · have h8' : (ws.length : Int) = 8 := by omega
            rw [if_pos ⟨rfl, h8⟩]
            simp (disch := omega) only [go_sem, h63c, bneft, bnett, q, g1, k1, isUse_v, hus, eq_true h8']
          · have h8' : ¬ (ws.length : Int) = 8 := by omega
            rw [if_neg (fun h => h8 h.2)]
            simp (disch := omega) only [go_sem, h63c, bneft, bnett, q, g1, k1, isUse_v, hus, h8']
        | false =>
          rw [if_neg (by simp)]
          simp (disch := omega) only [go_sem, h63c, bneft, bnett, q, g1, k1, isUse_v, hus]
  · have e : acErr gs ws a = usErr gs ws a := by unfold acErr; rw [if_pos hu]
    rw [e]
    simp (disch := omega) only [go_sem, h63c, bneft, bnett, q, hu]
end
section
variable {G : Glob} {bb : Bool}
def An.e (a : An) : List DC := [.raw (.bool a.d), .slc (a.b.map Br.e), .slc (a.f.map Wt.e)]
abbrev An.v (a : An) : AV := .agg [.dc (.raw (.bool a.d)), .dc (.slc (a.b.map Br.e)), .dc (.slc (a.f.map Wt.e))]
theorem req_map (gs : List Gr) (c l : Int) : (reqG gs c l).map Gr.e = (gs.map Gr.e).set (pos gs c) [ci (grE gs c).c, ci l, ci l] := by
  unfold reqG; rw [List.map_set]; rfl
theorem ack_map (gs : List Gr) (c : Int) : (ackG gs c).map Gr.e = (gs.map Gr.e).set (pos gs c) [ci (grE gs c).c, ci (grE gs c).t, ci (grE gs c).t] := by
  unfold ackG; rw [List.map_set]; rfl
theorem req_len (gs : List Gr) (c l : Int) : (reqG gs c l).length = gs.length := by simp [reqG]
theorem ack_len (gs : List Gr) (c : Int) : (ackG gs c).length = gs.length := by simp [ackG]
theorem Srt_set {gs : List Gr} (hs : Srt gs) {c : Int} (hi : isIn gs c = true) (g' : Gr) (hg : g'.c = c) : Srt (gs.set (pos gs c) g') := by
  obtain ⟨f, h1, h2, _, _⟩ := set_map hs hi g' hg
  rw [h1]
  exact Srt_map h2 hs
theorem Srt_del {gs : List Gr} (hs : Srt gs) {c : Int} (hi : isIn gs c = true) : Srt (delG gs c) := by
  rw [delG_eq hs hi]
  exact List.Pairwise.sublist List.filter_sublist hs
theorem del_len {gs : List Gr} (hs : Srt gs) {c : Int} (hi : isIn gs c = true) : (delG gs c).length = gs.length - 1 := by
  obtain ⟨hp, he⟩ := (isIn_iff hs c).1 hi
  simp [delG]; omega
theorem thA_1 (p : List Gr × List Wt × List Br × List Wt) : (thA p).1 = p.1 := rfl
theorem thA_2 (p : List Gr × List Wt × List Br × List Wt) : (thA p).2.1 = p.2.1 := rfl
theorem useF_f (gs : List Gr) (ws : List Wt) (c k : Int) : (useF gs ws c k).2.2.f = [] := by
  unfold useF
  split
  · split <;> rfl
  · rfl
set_option maxHeartbeats 2000000 in
theorem step_v (hG : G 0 = some alD) (gs : List Gr) (ws : List Wt) (a : Ac) (hs : Srt gs) (hk : ∀ w ∈ ws, kOK w.k) (ha : 0 ≤ a.k ∧ a.k ≤ 5) (hi : a.k ≠ 0 → isIn gs a.c = true) (hl : gs.length + ws.length ≤ 900) :
    EV G (Tb (bs bb)) 64 [.one (.ptr 0 0), a.v] (fileH gs ws) = some (An.v (stp gs ws a).2.2, fileH (stp gs ws a).1 (stp gs ws a).2.1) := by
  refine EV_run rfl ?_
  have q := place_v (G := G) (bb := bb) ws hs (by omega) a.c
  unfold stp
  by_cases k1 : a.k = 1
  · rw [if_pos k1]
    have h := hi (by omega)
    obtain ⟨hp, he⟩ := (isIn_iff hs a.c).1 h
    have eg : (gs.map Gr.e)[pos gs a.c]? = some [ci (grE gs a.c).c, ci (grE gs a.c).l, ci (grE gs a.c).t] := by rw [List.getElem?_map, List.getElem?_eq_getElem hp, grE, grAt gs _ hp]; rfl
    have hp' : pos gs a.c < (gs.map Gr.e).length := by simpa using hp
    have e1 := fun x => set_get (x := x) hp'
    simp only [fileH, req_map, req_len]
    simp (disch := omega) only [go_sem, h64c, q, eq_true k1, eg, e1, List.set_set, List.length_set]
    rfl
  rw [if_neg k1]
  by_cases k4 : a.k = 4
  · rw [if_pos k4]
    have h := hi (by omega)
    obtain ⟨hp, he⟩ := (isIn_iff hs a.c).1 h
    have eg : (gs.map Gr.e)[pos gs a.c]? = some [ci (grE gs a.c).c, ci (grE gs a.c).l, ci (grE gs a.c).t] := by rw [List.getElem?_map, List.getElem?_eq_getElem hp, grE, grAt gs _ hp]; rfl
    have hp' : pos gs a.c < (gs.map Gr.e).length := by simpa using hp
    have e1 := fun x => set_get (x := x) hp'
    have q1 := thr_v (bb := bb) hG (ackG gs a.c) ws (Srt_set hs h _ (grE_mem hs h).2) hk (by rw [ack_len]; omega)
    simp only [fileH, ack_map, ack_len] at q1
    rw [thA_1, thA_2]
    simp only [fileH, thA]
    simp (disch := omega) only [go_sem, h64c, q, k1, eq_true k4, eg, e1, List.set_set, List.length_set, q1]
  rw [if_neg k4]
  by_cases k5 : a.k = 5
  · rw [if_pos k5]
    have h := hi (by omega)
    obtain ⟨hp, he⟩ := (isIn_iff hs a.c).1 h
    have q2 := delG_v (G := G) (bb := bb) gs (pos gs a.c) hp (by omega)
    have q1 := thr_v (bb := bb) hG (delG gs a.c) ws (Srt_del hs h) hk (by rw [del_len hs h]; omega)
    rw [show gs.take (pos gs a.c) ++ gs.drop (pos gs a.c + 1) = delG gs a.c from rfl] at q2
    simp only [fileH, del_len hs h] at q1
    rw [thA_1, thA_2]
    simp only [fileH, thA]
    simp (disch := omega) only [go_sem, h64c, q, k1, k4, eq_true k5, q1, q2]
  rw [if_neg k5]
  have q1 := use_v (bb := bb) hG gs ws hs a.c a.k (by unfold kOK; omega) (by omega) (by omega)
  simp only [fileH] at q1
  simp only [fileH, useF_f]
  simp (disch := omega) only [go_sem, h64c, q, k1, k4, k5, q1]
  unfold An.v
  rw [useF_f]
  rfl
end
section
variable {G : Glob} {bb : Bool}
theorem evJ_6 {call : CallT} {d : Option Nat} {f : FuncId} {avs : List AV} {st : AS} {a0 a1 a2 a3 a4 a5 : Nat} : evJ call d f avs st [a0, a1, a2, a3, a4, a5] = evB call d f avs st [a0, a1, a2, a3, a4, a5] (dstN [a0, a1, a2, a3, a4, a5] && kpH [a0, a1, a2, a3, a4, a5] st.hp [a0, a1, a2, a3, a4, a5] && kpVs [a0, a1, a2, a3, a4, a5] avs) := evJ_e _
abbrev acsV (l : List Ac) : AV := vl (l.map Ac.e)
abbrev runH (gs : List Gr) (ws : List Wt) (out : List An) : List AObj := [.box [.ptr 1 0], .box [.bld 2 gs.length, .bld 3 ws.length], .arr 0 3 (gs.map Gr.e), .arr 0 2 (ws.map Wt.e), .box [.bld 5 out.length], .arr 0 3 (out.map An.e)]
theorem vd_k {gs : List Gr} {ws : List Wt} (h : Vd gs ws) : ∀ w ∈ ws, kOK w.k := fun w hw => kOK_us (h.wr w hw).2.1
theorem ac_in {gs : List Gr} {ws : List Wt} {a : Ac} (h : acErr gs ws a = 0) : (0 ≤ a.k ∧ a.k ≤ 5) ∧ (a.k ≠ 0 → isIn gs a.c = true) := by
  have hu : usErr gs ws a = 0 := by
    unfold acErr at h
    split at h
    · rename_i h1; exact absurd h h1
    · rename_i h1; exact Classical.not_not.1 h1
  obtain ⟨h1, h2, h3, h4, h5⟩ := us_ok hu
  refine ⟨h1, fun h0 => ?_⟩
  cases hi : isIn gs a.c with
  | true => rfl
  | false => exact absurd (h5.2 hi) h0
set_option maxHeartbeats 2000000 in
theorem p62_v (hG : G 0 = some alD) (gs : List Gr) (ws : List Wt) (out : List An) (hv : Vd gs ws) (i : Int) (a : Ac) (ho : out.length ≤ 1000) :
    EV G (Tb (bs bb)) 62 [vi i, a.v, .one (.ptr 0 0), .one (.ptr 4 0)] (runH gs ws out) = some (vi (acErr gs ws a), if acErr gs ws a = 0 then runH (stp gs ws a).1 (stp gs ws a).2.1 (out ++ [(stp gs ws a).2.2]) else runH gs ws out) := by
  refine EV_run rfl ?_
  have h1 := hv.gl
  have h2 := hv.wl
  have q := actErr_v (G := G) (bb := bb) gs ws hv.so a (by omega) (by omega)
  by_cases he : acErr gs ws a = 0
  · rw [if_pos he]
    rw [he] at q ⊢
    obtain ⟨h3, h4⟩ := ac_in he
    have q1 := step_v (G := G) (bb := bb) hG gs ws a hv.so (vd_k hv) h3 h4 (by omega)
    simp only [fileH] at q1
    simp only [runH]
    simp (disch := omega) only [go_sem, h62c, q, q1, List.take_length, List.length_append, List.length_cons, List.length_nil, List.map_append, List.map_cons, List.map_nil, An.e]
  · rw [if_neg he]
    simp (disch := omega) only [go_sem, h62c, q, he]
end
section
variable {G : Glob} {bb : Bool}
def rnX : List Gr → List Wt → List An → Nat → List Ac → (List Gr × List Wt × List An) × Int × Int
  | gs, ws, out, n, [] => ((gs, ws, out), 0, 0)
  | gs, ws, out, n, a :: l => if acErr gs ws a = 0 then rnX (stp gs ws a).1 (stp gs ws a).2.1 (out ++ [(stp gs ws a).2.2]) (n + 1) l else ((gs, ws, out), n, acErr gs ws a)
def eaS (l : List Ac) (k : Nat) (gs : List Gr) (ws : List Wt) (out : List An) : AS := ⟨(jk 1 (.one (.fn 62 [.ptr 0 0, .ptr 4 0]) :: jk 7 (acsV l :: vi l.length :: vi k :: jk 13 []))), runH gs ws out⟩
theorem each61_key (hG : G 0 = some alD) (l : List Ac) (hl : l.length ≤ 100) : ∀ (rest : List Ac) (k : Nat) (gs : List Gr) (ws : List Wt) (out : List An), l.drop k = rest → k ≤ l.length → Vd gs ws → Hd gs ws → out.length ≤ k →
    retZ false [RetV.tmp 4, RetV.tmp 5] 6 (sqK (EV G (Tb (bs bb))) G ((HC.region [Oo 4 (AI.mov (Ki 0)), Oo 5 (AI.mov (Ki 0))]).seq HC.ret) (blkK 0 (EL (EV G (Tb (bs bb))) G h61l0 [1, 7, 0, 0] 6 (eaS l k gs ws out)))) =
      some (twoI (rnX gs ws out k rest).2, runH (rnX gs ws out k rest).1.1 (rnX gs ws out k rest).1.2.1 (rnX gs ws out k rest).1.2.2)
  | [], k, gs, ws, out, hd, hk, hv, hh, ho => by
    have hkl : k = l.length := by
      have := congrArg List.length hd
      simp at this; omega
    subst hkl
    rw [EL_unf, rnX]
    unfold eaS
    simp only [runH]
    simp (disch := omega) only [go_sem, h61l0]
  | a :: rest, k, gs, ws, out, hd, hk, hv, hh, ho => by
    have hkl : k < l.length := by
      have := congrArg List.length hd
      simp at this; omega
    have ha : l[k] = a := by
      have := List.drop_eq_getElem_cons hkl
      rw [hd] at this
      injection this with this _
      exact this.symm
    have hd' : l.drop (k + 1) = rest := by
      have := List.drop_eq_getElem_cons hkl
      rw [hd] at this
      injection this with _ this
      exact this.symm
    have eg : (l.map Ac.e)[k]? = some [ci a.k, ci a.c, ci a.l] := by rw [List.getElem?_map, List.getElem?_eq_getElem hkl, ha]; rfl
    have q := p62_v (bb := bb) hG gs ws out hv k a (by omega)
    by_cases he : acErr gs ws a = 0
    · obtain ⟨h1, h2⟩ := stp_ok hv hh he
      have ih := each61_key hG l hl rest (k + 1) (stp gs ws a).1 (stp gs ws a).2.1 (out ++ [(stp gs ws a).2.2]) hd' (by omega) h1 h2 (by simp; omega)
      have hr : rnK [1, 7, 0, 0] 6 (EC (EV G (Tb (bs bb))) G h61l0 (eaS l k gs ws out)) = some (eaS l (k + 1) (stp gs ws a).1 (stp gs ws a).2.1 (out ++ [(stp gs ws a).2.2])) := by
        unfold eaS
        rw [if_pos he, he] at q
        generalize stp gs ws a = s at *
        simp only [runH] at q ⊢
        simp (disch := omega) only [go_sem, h61l0, evJ_6, eg, q]
      rw [EL_unf, fnK_of hr, ih, rnX, if_pos he]
    · rw [EL_unf, rnX, if_neg he]
      unfold eaS
      rw [if_neg he] at q
      simp only [runH] at q ⊢
      simp (disch := omega) only [go_sem, h61l0, evJ_6, eg, q, he]
theorem each61_v (hG : G 0 = some alD) (l : List Ac) (hl : l.length ≤ 100) : EV G (Tb (bs bb)) 61 [acsV l, .one (.fn 62 [.ptr 0 0, .ptr 4 0])] (runH [] [] []) = some (twoI (rnX [] [] [] 0 l).2, runH (rnX [] [] [] 0 l).1.1 (rnX [] [] [] 0 l).1.2.1 (rnX [] [] [] 0 l).1.2.2) := by
  refine EV_run rfl ?_
  have q := each61_key (bb := bb) hG l hl l 0 [] [] [] rfl (by omega) Vd.nil Hd.nil (by simp)
  rw [← q]
  simp (disch := omega) only [go_sem, h61c]
  rfl
end
end Go.Proofs.YtinageiefahjfaaGreatDoor
