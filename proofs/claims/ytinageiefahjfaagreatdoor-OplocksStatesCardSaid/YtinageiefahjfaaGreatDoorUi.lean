/- The breaks of an act. Conditions: none. -/
import Derived.Test.YtinageiefahjfaaGreatDoorTh
import Derived.Test.YtinageiefahjfaaGreatDoorRb
namespace Go.Proofs.YtinageiefahjfaaGreatDoor
set_option linter.unusedSimpArgs false
set_option linter.unusedVariables false
set_option maxRecDepth 4000
section
variable {G : Glob} {bb : Bool}
def Gr.e (g : Gr) : List DC := [ci g.c, ci g.l, ci g.t]
def Wt.e (g : Wt) : List DC := [ci g.c, ci g.k]
def Br.e (g : Br) : List DC := [ci g.c, ci g.t]
def Ac.e (g : Ac) : List DC := [ci g.k, ci g.c, ci g.l]
abbrev Gr.v (g : Gr) : AV := .agg [.dc (ci g.c), .dc (ci g.l), .dc (ci g.t)]
abbrev Wt.v (g : Wt) : AV := .agg [.dc (ci g.c), .dc (ci g.k)]
abbrev Ac.v (g : Ac) : AV := .agg [.dc (ci g.k), .dc (ci g.c), .dc (ci g.l)]
abbrev gsV (gs : List Gr) : AV := vl (gs.map Gr.e)
abbrev wsV (ws : List Wt) : AV := vl (ws.map Wt.e)
abbrev flV (gs : List Gr) (ws : List Wt) : AV := .agg [.dc (.slc (gs.map Gr.e)), .dc (.slc (ws.map Wt.e))]
abbrev flD (gs : List Gr) (ws : List Wt) : List DC := [.slc (gs.map Gr.e), .slc (ws.map Wt.e)]
abbrev flR (gs : List Gr) (ws : List Wt) : AV := .one (.ref (flD gs ws))
def ci1 (e : Int) : List DC := [ci e]
abbrev el (l : List Int) : List (List DC) := l.map ci1
theorem within_v (n lo hi : Int) : EV G (Tb (bs bb)) 112 [vi n, vi lo, vi hi] [] = some (vb (decide (lo ≤ n ∧ n ≤ hi)), []) := by
  refine EV_run rfl ?_
  by_cases h : lo ≤ n
  all_goals simp (disch := omega) only [go_sem, h112c]
  all_goals simp [h]
theorem unless_v (b : Bool) (e : Int) : EV G (Tb (bs bb)) 55 [vb b, vi e] [] = some (vi (if b = true then 0 else e), []) := by
  refine EV_run rfl ?_
  cases b
  all_goals simp (disch := omega) only [go_sem, h55c]
  all_goals rfl
theorem isClient_v (n : Int) : EV G (Tb (bs bb)) 111 [vi n] [] = some (vb (isCl n), []) := by
  refine EV_run rfl ?_
  simp (disch := omega) only [go_sem, h111c, within_v]
  rfl
theorem isUse_v (k : Int) : EV G (Tb (bs bb)) 75 [vi k] [] = some (vb (isUs k), []) := by
  refine EV_run rfl ?_
  by_cases h1 : k = 0
  · simp (disch := omega) only [go_sem, h75c]
    simp [isUs, h1]
  · by_cases h2 : k = 2
    · simp (disch := omega) only [go_sem, h75c]
      simp [isUs, h2]
    · simp (disch := omega) only [go_sem, h75c]
      simp [isUs, h1, h2]
theorem first_v (l : List Int) (hl : l.length ≤ 1000) : EV G (Tb (bs bb)) 117 [vl (el l)] [] = some (vi (firstE l), []) := by
  refine EV_run rfl ?_
  simp (disch := omega) only [go_sem, h117c, List.length_map]
  rw [EL_fst (fun k => ⟨(jk 5 (vl (el l) :: vi l.length :: vi k :: jk 7 [])), []⟩) (fun k => l.getD k 0 ≠ 0) l.length ?_ ?_]
  rotate_left
  · rfl
  · intro k hk hn
    have hz := hn k (Nat.le_refl _)
    rw [getD_at l k hk] at hz
    simp (disch := omega) only [go_sem, h117l0, List.length_map, ci1]
  obtain ⟨hk, hp, hn⟩ := ix_spec (fun k => l.getD k 0 ≠ 0) l.length
  generalize ix (fun k => l.getD k 0 ≠ 0) l.length = k at *
  rw [firstE_ix l k hn hp]
  rcases hp with rfl | ⟨hk', hp⟩
  · simp (disch := omega) only [go_sem, h117l0]
    simp [List.getD_eq_getElem?_getD]
  · rw [getD_at l k hk'] at hp ⊢
    simp (disch := omega) only [go_sem, h117l0, ci1]
theorem cmp_v (x y : Int) : EV G (Tb (bs bb)) 163 [vi x, vi y] [] = some (vi (if x < y then -1 else if x > y then 1 else 0), []) := by
  refine EV_run rfl ?_
  have hn : ∀ z : Int, EV G (Tb (bs bb)) 195 [vi z] [] = some (vb false, []) := fun z => by
    refine EV_run rfl ?_
    simp (disch := omega) only [go_sem, h195c]
  by_cases h1 : x < y
  · simp (disch := omega) only [go_sem, h163c, hn]
  · by_cases h2 : x > y
    · simp (disch := omega) only [go_sem, h163c, hn]
    · simp (disch := omega) only [go_sem, h163c, hn]
theorem pl1_v (g : Gr) (c : Int) : EV G (Tb (bs bb)) 177 [g.v, vi c] [] = some (vi (if g.c < c then -1 else if g.c > c then 1 else 0), []) := by
  refine EV_run rfl ?_
  simp (disch := omega) only [go_sem, h177c, cmp_v]
theorem search_v {gs : List Gr} (hs : Srt gs) (hl : gs.length ≤ 100000) (c : Int) : EV G (Tb (bs bb)) 176 [gsV gs, vi c, .one (.fn 177 [])] [] = some (.tup [.one (.dc (.raw (.int .i64 (pos gs c : Nat)))), .one (.dc (.raw (.bool (isIn gs c))))], []) := by
  refine EV_run rfl ?_
  simp (disch := omega) only [go_sem, h176c, List.length_map]
  have hp := pos_le gs c
  rw [EL_ind (α := Nat × Nat) (fun z => ⟨(gsV gs :: vi c :: .one (.fn 177 []) :: jk 5 (vi gs.length :: vi z.1 :: vi z.2 :: jk 38 [])), []⟩)
    (fun _ => some (.exit 0, ⟨(gsV gs :: vi c :: .one (.fn 177 []) :: jk 5 (vi gs.length :: vi (pos gs c) :: vi (pos gs c) :: jk 4 (vi (pos gs c) :: vi (pos gs c) :: vb false :: jk 31 []))), []⟩)) (fun z => z.2 - z.1) (0, gs.length) (fun z => z.1 ≤ pos gs c ∧ pos gs c ≤ z.2 ∧ z.2 ≤ gs.length) ?_ ?_ ?_]
  · by_cases hk : pos gs c < gs.length
    · have h0 : ¬ gs[pos gs c].c < c := fun h => by have := (pos_iff hs c _ hk).1 h; omega
      by_cases he : gs[pos gs c].c = c
      · have hi : isIn gs c = true := (isIn_iff hs c).2 ⟨hk, he⟩
        simp (disch := omega) only [go_sem, hi, pl1_v, Gr.e, List.getElem?_map, List.getElem?_eq_getElem hk]
      · have hi : isIn gs c = false := by
          cases h : isIn gs c with
          | false => rfl
          | true => obtain ⟨_, h2⟩ := (isIn_iff hs c).1 h; exact absurd h2 he
        simp (disch := omega) only [go_sem, hi, pl1_v, Gr.e, List.getElem?_map, List.getElem?_eq_getElem hk]
        simp
    · have hi : isIn gs c = false := by
        cases h : isIn gs c with
        | false => rfl
        | true => obtain ⟨h1, _⟩ := (isIn_iff hs c).1 h; exact absurd h1 hk
      simp (disch := omega) only [go_sem, hi]
  · rfl
  · exact ⟨by simp, by simpa using hp, Nat.le_refl _⟩
  · rintro ⟨i, j⟩ ⟨h1, h2, h3⟩
    simp only at h1 h2 h3
    by_cases hij : i < j
    · left
      have hm : (i + j) / 2 < gs.length := by omega
      have hmid : IntKind.i64.wrap ((IntKind.u64.wrap ((i : Int) + (j : Int))).fdiv (2 ^ min 1 64)) = (((i + j) / 2 : Nat) : Int) := by
        have e1 : IntKind.u64.wrap ((i : Int) + (j : Int)) = (i : Int) + (j : Int) := by
          have e0 : (2 ^ IntKind.u64.bits : Int) = 18446744073709551616 := by decide
          unfold IntKind.wrap
          simp only [e0, IntKind.signed, Bool.false_and, Bool.false_eq_true, if_false]
          omega
        have e2 : ((2 : Int) ^ min 1 64) = 2 := by decide
        rw [e1, e2, Int.fdiv_eq_ediv_of_nonneg _ (by omega), wrap64 (by omega)]
        omega
      by_cases hc : gs[(i + j) / 2].c < c
      · have := (pos_iff hs c _ hm).1 hc
        refine ⟨((i + j) / 2 + 1, j), ⟨by simp only; omega, h2, h3⟩, by simp only; omega, ?_, rfl⟩
        simp (disch := omega) only [go_sem, h176l0, pl1_v, Gr.e, hmid, List.getElem?_map, List.getElem?_eq_getElem hm]
      · have : ¬ (i + j) / 2 < pos gs c := fun h => hc ((pos_iff hs c _ hm).2 h)
        refine ⟨(i, (i + j) / 2), ⟨h1, by simp only; omega, by simp only; omega⟩, by simp only; omega, ?_, rfl⟩
        simp (disch := omega) only [go_sem, h176l0, pl1_v, Gr.e, hmid, List.getElem?_map, List.getElem?_eq_getElem hm]
    · right
      have e1 : i = pos gs c := by omega
      have e2 : j = pos gs c := by omega
      subst e1; subst e2
      simp (disch := omega) only [go_sem, h176l0]
      simp
theorem place_v {gs : List Gr} (ws : List Wt) (hs : Srt gs) (hl : gs.length ≤ 100000) (c : Int) : EV G (Tb (bs bb)) 126 [flR gs ws, vi c] [] = some (.tup [.one (.dc (.raw (.int .i64 (pos gs c : Nat)))), .one (.dc (.raw (.bool (isIn gs c))))], []) := by
  refine EV_run rfl ?_
  simp (disch := omega) only [go_sem, h126c, search_v hs hl]
theorem grant_y {gs : List Gr} (ws : List Wt) (hs : Srt gs) (hl : gs.length ≤ 100000) (c : Int) (h : isIn gs c = true) : EV G (Tb (bs bb)) 78 [flR gs ws, vi c] [] = some (.one (.ref (grE gs c).e), []) := by
  refine EV_run rfl ?_
  obtain ⟨hk, he⟩ := (isIn_iff hs c).1 h
  have e : grE gs c = gs[pos gs c] := grAt gs _ hk
  rw [e]
  simp (disch := omega) only [go_sem, h78c, place_v ws hs hl, h, Gr.e]
theorem grant_n {gs : List Gr} (ws : List Wt) (hs : Srt gs) (hl : gs.length ≤ 100000) (c : Int) (h : isIn gs c = false) : EV G (Tb (bs bb)) 78 [flR gs ws, vi c] [] = some (.one (.dc (.raw (.pointer none))), []) := by
  refine EV_run rfl ?_
  simp (disch := omega) only [go_sem, h78c, place_v ws hs hl, h]
end
section
variable {G : Glob} {bb : Bool}
def alD : List DC := [ci 2, ci 0, ci 1, ci 0]
theorem kpCs_d (J : List Nat) : ∀ ds : List DC, kpCs J (ds.map Cel.dc) = true
  | [] => rfl
  | d :: ds => by rw [List.map_cons, kpCs, kpCs_d J ds]; rfl
theorem idsL_d : ∀ ds : List DC, idsL (ds.map Cel.dc) = []
  | [] => rfl
  | d :: ds => by rw [List.map_cons, idsL, idsL_d ds]; rfl
theorem renL_d (f : Nat → Nat) : ∀ ds : List DC, List.map (renC f) (ds.map Cel.dc) = ds.map Cel.dc
  | [] => rfl
  | d :: ds => by rw [List.map_cons, List.map_cons, renL_d f ds]; rfl
theorem ctCs_d (m : Nat) : ∀ ds : List DC, ctCs m (ds.map Cel.dc) = ds.map Cel.dc
  | [] => rfl
  | d :: ds => by rw [List.map_cons, ctCs, ctCs_d m ds]; rfl
theorem killL_d (f : Nat → Bool) : ∀ ds : List DC, List.map (killC f) (ds.map Cel.dc) = ds.map Cel.dc
  | [] => rfl
  | d :: ds => by rw [List.map_cons, List.map_cons, killL_d f ds]; rfl
theorem mapM1 {α β : Type} (f : α → Option β) (x : α) : [x].mapM f = (f x).map fun c => [c] := by
  cases h : f x <;> simp [List.mapM_cons, h]
theorem mapM2 {α β : Type} (f : α → Option β) (x y : α) : [x, y].mapM f = (f x).bind fun a => (f y).map fun b => [a, b] := by
  simp only [List.mapM_cons, List.mapM_nil]
  cases f x <;> cases f y <;> rfl
theorem all_gr (l : List Gr) : ((l.map Gr.e).all fun e => decide (e.length = 3)) = true := by simp [Gr.e]
theorem all_wt (l : List Wt) : ((l.map Wt.e).all fun e => decide (e.length = 2)) = true := by simp [Wt.e]
theorem outJ_m (J : List Nat) (x : Nat) : outJ J x = !memN x J := by rw [memN_eq]; rfl
attribute [go_sem] kpCs_d idsL_d renL_d ctCs_d killL_d outJ_m mapM1 mapM2 oneOf Option.map_some Option.map_none Option.bind_some all_gr all_wt List.getElem?_nil List.length_map
noncomputable def idxG {α : Type} (p : α → Bool) (l : List α) (z : α) : Int := if ix (fun k => p (l.getD k z) = true) l.length = l.length then -1 else (ix (fun k => p (l.getD k z) = true) l.length : Nat)
theorem getDz {α : Type} (l : List α) (z : α) (k : Nat) (h : k < l.length) : l.getD k z = l[k] := by simp [List.getD_eq_getElem?_getD, List.getElem?_eq_getElem h]
theorem idxG_pos {α : Type} (p : α → Bool) (l : List α) (z : α) : decide (0 ≤ idxG p l z) = l.any p := by
  unfold idxG
  obtain ⟨hk, hp, hn⟩ := ix_spec (fun k => p (l.getD k z) = true) l.length
  generalize ix (fun k => p (l.getD k z) = true) l.length = k at *
  rcases hp with rfl | ⟨hk', hp⟩
  · rw [if_pos rfl]
    symm
    rw [show decide ((0 : Int) ≤ -1) = false from rfl, List.any_eq_false]
    intro x hx
    obtain ⟨j, hj, rfl⟩ := List.getElem_of_mem hx
    have := hn j hj
    rw [getDz l z j hj] at this
    exact this
  · rw [if_neg (by omega), decide_eq_true (by omega)]
    symm
    rw [List.any_eq_true]
    rw [getDz l z k hk'] at hp
    exact ⟨_, List.getElem_mem hk', hp⟩
theorem any1_i (fn : Nat) (ds : List DC) (p : Gr → Bool) (gs : List Gr) (hl : gs.length ≤ 1000000) (hq : ∀ g ∈ gs, EV G (Tb (bs bb)) fn [g.v, .one (.ptr 0 0)] [.box (ds.map Cel.dc)] = some (vb (p g), [.box (ds.map Cel.dc)])) :
    EV G (Tb (bs bb)) 169 [gsV gs, .one (.fn fn [.ptr 0 0])] [.box (ds.map Cel.dc)] = some (vi (idxG p gs ⟨0, 0, 0⟩), [.box (ds.map Cel.dc)]) := by
  refine EV_run rfl ?_
  simp (disch := omega) only [go_sem, h169c, List.length_map, kpCs_d, idsL_d, renL_d, ctCs_d, killL_d, outJ_m]
  unfold idxG
  rw [EL_fst (fun k => ⟨(gsV gs :: .one (.fn fn [.ptr 0 0]) :: jk 5 (vi gs.length :: vi k :: jk 10 [])), [.box (ds.map Cel.dc)]⟩) (fun k => p (gs.getD k ⟨0, 0, 0⟩) = true) gs.length ?_ ?_]
  rotate_left
  · rfl
  · intro k hk hn
    have h3 := hn k (Nat.le_refl _)
    rw [getDz gs _ k hk] at h3
    have h4 : p gs[k] = false := by simpa using h3
    have q := hq gs[k] (List.getElem_mem hk)
    rw [h4] at q
    simp (disch := omega) only [go_sem, h169l0, List.length_map, Gr.e, q, List.getElem?_map, List.getElem?_eq_getElem hk, kpCs_d, idsL_d, renL_d, ctCs_d, killL_d, outJ_m]
  obtain ⟨hk, hp, hn⟩ := ix_spec (fun k => p (gs.getD k ⟨0, 0, 0⟩) = true) gs.length
  generalize ix (fun k => p (gs.getD k ⟨0, 0, 0⟩) = true) gs.length = k at *
  rcases hp with rfl | ⟨hk', hp⟩
  · rw [if_pos rfl]
    simp (disch := omega) only [go_sem, h169l0, List.length_map, kpCs_d, idsL_d, renL_d, ctCs_d, killL_d, outJ_m]
  · rw [if_neg (by omega)]
    rw [getDz gs _ k hk'] at hp
    have q := hq gs[k] (List.getElem_mem hk')
    rw [hp] at q
    simp (disch := omega) only [go_sem, h169l0, List.length_map, Gr.e, q, List.getElem?_map, List.getElem?_eq_getElem hk', kpCs_d, idsL_d, renL_d, ctCs_d, killL_d, outJ_m]
theorem any1_v (fn : Nat) (ds : List DC) (p : Gr → Bool) (gs : List Gr) (hl : gs.length ≤ 1000000) (hq : ∀ g ∈ gs, EV G (Tb (bs bb)) fn [g.v, .one (.ptr 0 0)] [.box (ds.map Cel.dc)] = some (vb (p g), [.box (ds.map Cel.dc)])) :
    EV G (Tb (bs bb)) 114 [gsV gs, .one (.fn fn [.ptr 0 0])] [.box (ds.map Cel.dc)] = some (vb (gs.any p), [.box (ds.map Cel.dc)]) := by
  refine EV_run rfl ?_
  have q := any1_i fn ds p gs hl hq
  have e := idxG_pos p gs ⟨0, 0, 0⟩
  simp (disch := omega) only [go_sem, h114c, q, kpCs_d, idsL_d, renL_d, ctCs_d, killL_d, outJ_m]
  rw [← e]
theorem any2_i (fn : Nat) (ds es : List DC) (p : Gr → Bool) (gs : List Gr) (hl : gs.length ≤ 1000000) (hq : ∀ g ∈ gs, EV G (Tb (bs bb)) fn [g.v, .one (.ptr 0 0), .one (.ptr 1 0)] [.box (ds.map Cel.dc), .box (es.map Cel.dc)] = some (vb (p g), [.box (ds.map Cel.dc), .box (es.map Cel.dc)])) :
    EV G (Tb (bs bb)) 169 [gsV gs, .one (.fn fn [.ptr 0 0, .ptr 1 0])] [.box (ds.map Cel.dc), .box (es.map Cel.dc)] = some (vi (idxG p gs ⟨0, 0, 0⟩), [.box (ds.map Cel.dc), .box (es.map Cel.dc)]) := by
  refine EV_run rfl ?_
  simp (disch := omega) only [go_sem, h169c, List.length_map, kpCs_d, idsL_d, renL_d, ctCs_d, killL_d, outJ_m]
  unfold idxG
  rw [EL_fst (fun k => ⟨(gsV gs :: .one (.fn fn [.ptr 0 0, .ptr 1 0]) :: jk 5 (vi gs.length :: vi k :: jk 10 [])), [.box (ds.map Cel.dc), .box (es.map Cel.dc)]⟩) (fun k => p (gs.getD k ⟨0, 0, 0⟩) = true) gs.length ?_ ?_]
  rotate_left
  · rfl
  · intro k hk hn
    have h3 := hn k (Nat.le_refl _)
    rw [getDz gs _ k hk] at h3
    have h4 : p gs[k] = false := by simpa using h3
    have q := hq gs[k] (List.getElem_mem hk)
    rw [h4] at q
    simp (disch := omega) only [go_sem, h169l0, List.length_map, Gr.e, q, List.getElem?_map, List.getElem?_eq_getElem hk, kpCs_d, idsL_d, renL_d, ctCs_d, killL_d, outJ_m]
  obtain ⟨hk, hp, hn⟩ := ix_spec (fun k => p (gs.getD k ⟨0, 0, 0⟩) = true) gs.length
  generalize ix (fun k => p (gs.getD k ⟨0, 0, 0⟩) = true) gs.length = k at *
  rcases hp with rfl | ⟨hk', hp⟩
  · rw [if_pos rfl]
    simp (disch := omega) only [go_sem, h169l0, List.length_map, kpCs_d, idsL_d, renL_d, ctCs_d, killL_d, outJ_m]
  · rw [if_neg (by omega)]
    rw [getDz gs _ k hk'] at hp
    have q := hq gs[k] (List.getElem_mem hk')
    rw [hp] at q
    simp (disch := omega) only [go_sem, h169l0, List.length_map, Gr.e, q, List.getElem?_map, List.getElem?_eq_getElem hk', kpCs_d, idsL_d, renL_d, ctCs_d, killL_d, outJ_m]
theorem any2_v (fn : Nat) (ds es : List DC) (p : Gr → Bool) (gs : List Gr) (hl : gs.length ≤ 1000000) (hq : ∀ g ∈ gs, EV G (Tb (bs bb)) fn [g.v, .one (.ptr 0 0), .one (.ptr 1 0)] [.box (ds.map Cel.dc), .box (es.map Cel.dc)] = some (vb (p g), [.box (ds.map Cel.dc), .box (es.map Cel.dc)])) :
    EV G (Tb (bs bb)) 114 [gsV gs, .one (.fn fn [.ptr 0 0, .ptr 1 0])] [.box (ds.map Cel.dc), .box (es.map Cel.dc)] = some (vb (gs.any p), [.box (ds.map Cel.dc), .box (es.map Cel.dc)]) := by
  refine EV_run rfl ?_
  have q := any2_i fn ds es p gs hl hq
  have e := idxG_pos p gs ⟨0, 0, 0⟩
  simp (disch := omega) only [go_sem, h114c, q, kpCs_d, idsL_d, renL_d, ctCs_d, killL_d, outJ_m]
  rw [← e]
theorem anyW_i (fn : Nat) (ds : List DC) (p : Wt → Bool) (gs : List Wt) (hl : gs.length ≤ 1000000) (hq : ∀ g ∈ gs, EV G (Tb (bs bb)) fn [g.v, .one (.ptr 0 0)] [.box (ds.map Cel.dc)] = some (vb (p g), [.box (ds.map Cel.dc)])) :
    EV G (Tb (bs bb)) 170 [wsV gs, .one (.fn fn [.ptr 0 0])] [.box (ds.map Cel.dc)] = some (vi (idxG p gs ⟨0, 0⟩), [.box (ds.map Cel.dc)]) := by
  refine EV_run rfl ?_
  simp (disch := omega) only [go_sem, h170c, List.length_map, kpCs_d, idsL_d, renL_d, ctCs_d, killL_d, outJ_m]
  unfold idxG
  rw [EL_fst (fun k => ⟨(wsV gs :: .one (.fn fn [.ptr 0 0]) :: jk 5 (vi gs.length :: vi k :: jk 10 [])), [.box (ds.map Cel.dc)]⟩) (fun k => p (gs.getD k ⟨0, 0⟩) = true) gs.length ?_ ?_]
  rotate_left
  · rfl
  · intro k hk hn
    have h3 := hn k (Nat.le_refl _)
    rw [getDz gs _ k hk] at h3
    have h4 : p gs[k] = false := by simpa using h3
    have q := hq gs[k] (List.getElem_mem hk)
    rw [h4] at q
    simp (disch := omega) only [go_sem, h170l0, List.length_map, Wt.e, q, List.getElem?_map, List.getElem?_eq_getElem hk, kpCs_d, idsL_d, renL_d, ctCs_d, killL_d, outJ_m]
  obtain ⟨hk, hp, hn⟩ := ix_spec (fun k => p (gs.getD k ⟨0, 0⟩) = true) gs.length
  generalize ix (fun k => p (gs.getD k ⟨0, 0⟩) = true) gs.length = k at *
  rcases hp with rfl | ⟨hk', hp⟩
  · rw [if_pos rfl]
    simp (disch := omega) only [go_sem, h170l0, List.length_map, kpCs_d, idsL_d, renL_d, ctCs_d, killL_d, outJ_m]
  · rw [if_neg (by omega)]
    rw [getDz gs _ k hk'] at hp
    have q := hq gs[k] (List.getElem_mem hk')
    rw [hp] at q
    simp (disch := omega) only [go_sem, h170l0, List.length_map, Wt.e, q, List.getElem?_map, List.getElem?_eq_getElem hk', kpCs_d, idsL_d, renL_d, ctCs_d, killL_d, outJ_m]
theorem anyW_v (fn : Nat) (ds : List DC) (p : Wt → Bool) (gs : List Wt) (hl : gs.length ≤ 1000000) (hq : ∀ g ∈ gs, EV G (Tb (bs bb)) fn [g.v, .one (.ptr 0 0)] [.box (ds.map Cel.dc)] = some (vb (p g), [.box (ds.map Cel.dc)])) :
    EV G (Tb (bs bb)) 118 [wsV gs, .one (.fn fn [.ptr 0 0])] [.box (ds.map Cel.dc)] = some (vb (gs.any p), [.box (ds.map Cel.dc)]) := by
  refine EV_run rfl ?_
  have q := anyW_i fn ds p gs hl hq
  have e := idxG_pos p gs ⟨0, 0⟩
  simp (disch := omega) only [go_sem, h118c, q, kpCs_d, idsL_d, renL_d, ctCs_d, killL_d, outJ_m]
  rw [← e]
def kOK (k : Int) : Prop := k = 0 ∨ k = 1 ∨ k = 2 ∨ k = 3
theorem kOK_us {k : Int} (h : k = 0 ∨ k = 2 ∨ k = 3) : kOK k := by unfold kOK; omega
theorem tn2 : Int.toNat 2 = 2 := rfl
theorem tn3 : Int.toNat 3 = 3 := rfl
theorem al0 : al 0 = 2 := rfl
theorem al1 : al 1 = 0 := rfl
theorem al2 : al 2 = 1 := rfl
theorem al3 : al 3 = 0 := rfl
theorem held1_v (hG : G 0 = some alD) (c k : Int) (hk : kOK k) (g : Gr) : EV G (Tb (bs bb)) 120 [g.v, .one (.ptr 0 0)] [.box [.dc (ci c), .dc (ci k)]] = some (vb (decide (g.c ≠ c) && decide (g.l > al k)), [.box [.dc (ci c), .dc (ci k)]]) := by
  refine EV_run rfl ?_
  unfold alD at hG
  by_cases h : g.c = c
  · simp (disch := omega) only [go_sem, h120c, h]
  · rcases hk with rfl | rfl | rfl | rfl
    · simp (disch := omega) only [go_sem, h120c, h, hG, al0, tn2, tn3, List.drop_succ_cons, List.drop_zero]
      rfl
    · simp (disch := omega) only [go_sem, h120c, h, hG, al1, tn2, tn3, List.drop_succ_cons, List.drop_zero]
      rfl
    · simp (disch := omega) only [go_sem, h120c, h, hG, al2, tn2, tn3, List.drop_succ_cons, List.drop_zero]
      rfl
    · simp (disch := omega) only [go_sem, h120c, h, hG, al3, tn2, tn3, List.drop_succ_cons, List.drop_zero]
      rfl
theorem held_v (hG : G 0 = some alD) (gs : List Gr) (ws : List Wt) (c k : Int) (hk : kOK k) (hl : gs.length ≤ 1000000) : EV G (Tb (bs bb)) 56 [flR gs ws, (Wt.mk c k).v] [] = some (vb (held gs c k), []) := by
  refine EV_run rfl ?_
  have q := any1_v (G := G) (bb := bb) 120 [ci c, ci k] (fun g => decide (g.c ≠ c) && decide (g.l > al k)) gs hl (fun g _ => held1_v hG c k hk g)
  simp only [List.map_cons, List.map_nil] at q
  rw [show (gs.any fun g => decide (g.c ≠ c) && decide (g.l > al k)) = held gs c k from rfl] at q
  simp (disch := omega) only [go_sem, h56c, q]
end
section
variable {G : Glob} {bb : Bool}
def othL (gs : List Gr) (c lv : Int) : Bool := gs.any fun h => decide (h.c ≠ c) && decide (h.l ≥ lv)
def othA (gs : List Gr) (c : Int) : Bool := gs.any fun h => decide (h.c ≠ c)
theorem clash_e (gs : List Gr) (g : Gr) : clash gs g = (decide (g.l ≥ 2) && othL gs g.c 1 || decide (g.l = 3) && othA gs g.c) := rfl
theorem p115_v (g h : Gr) (lv : Int) : EV G (Tb (bs bb)) 115 [h.v, .one (.ptr 0 0), .one (.ptr 1 0)] [.box [.dc (ci g.c), .dc (ci g.l), .dc (ci g.t)], .box [.dc (ci lv)]] = some (vb (decide (h.c ≠ g.c) && decide (h.l ≥ lv)), [.box [.dc (ci g.c), .dc (ci g.l), .dc (ci g.t)], .box [.dc (ci lv)]]) := by
  refine EV_run rfl ?_
  by_cases c : h.c = g.c
  · simp (disch := omega) only [go_sem, h115c, c]
  · simp (disch := omega) only [go_sem, h115c, c]
    try rfl
theorem p116_v (g h : Gr) : EV G (Tb (bs bb)) 116 [h.v, .one (.ptr 0 0)] [.box [.dc (ci g.c), .dc (ci g.l), .dc (ci g.t)]] = some (vb (decide (h.c ≠ g.c)), [.box [.dc (ci g.c), .dc (ci g.l), .dc (ci g.t)]]) := by
  refine EV_run rfl ?_
  simp (disch := omega) only [go_sem, h116c]
  try rfl
theorem p113_v (gs : List Gr) (ws : List Wt) (g : Gr) (lv : Int) (hl : gs.length ≤ 1000000) : EV G (Tb (bs bb)) 113 [vi lv, .one (.ptr 0 0), .one (.ptr 1 0)] [.box [.ref (flD gs ws)], .box [.dc (ci g.c), .dc (ci g.l), .dc (ci g.t)]] = some (vb (othL gs g.c lv), [.box [.ref (flD gs ws)], .box [.dc (ci g.c), .dc (ci g.l), .dc (ci g.t)]]) := by
  refine EV_run rfl ?_
  have q := any2_v (G := G) (bb := bb) 115 [ci g.c, ci g.l, ci g.t] [ci lv] (fun h => decide (h.c ≠ g.c) && decide (h.l ≥ lv)) gs hl (fun h _ => p115_v g h lv)
  simp only [List.map_cons, List.map_nil] at q
  rw [show (gs.any fun h => decide (h.c ≠ g.c) && decide (h.l ≥ lv)) = othL gs g.c lv from rfl] at q
  simp (disch := omega) only [go_sem, h113c, q]
def wi (n lo hi : Int) : Bool := decide (lo ≤ n ∧ n ≤ hi)
theorem within_u (n lo hi : Int) : EV G (Tb (bs bb)) 112 [vi n, vi lo, vi hi] [] = some (vb (wi n lo hi), []) := within_v n lo hi
theorem unless_u (b : Bool) (e : Int) : EV G (Tb (bs bb)) 55 [vb b, vi e] [] = some (vi (ifE b e), []) := unless_v b e
theorem first4 (a b c d : Int) : EV G (Tb (bs bb)) 117 [vl [[ci a], [ci b], [ci c], [ci d]]] [] = some (vi (firstE [a, b, c, d]), []) := first_v [a, b, c, d] (by simp)
theorem first5 (a b c d e : Int) : EV G (Tb (bs bb)) 117 [vl [[ci a], [ci b], [ci c], [ci d], [ci e]]] [] = some (vi (firstE [a, b, c, d, e]), []) := first_v [a, b, c, d, e] (by simp)
theorem gErr_e (gs : List Gr) (i : Nat) (g : Gr) : gErr gs i g = firstE [ifE (isCl g.c && wi g.l 0 3 && wi g.t 0 g.l) 2, ifE (decide (i = 0) || decide ((gs.getD (i - 1) ⟨0, 0, 0⟩).c < g.c)) 9, ifE (decide (g.l ≠ 1) || decide (g.t = g.l)) 20, ifE (!clash gs g) 13] := rfl
theorem max0 (i : Nat) : (if (i : Int) - 1 > 0 then (i : Int) - 1 else 0) = ((i - 1 : Nat) : Int) := by split <;> omega
end
section
variable {G : Glob} {bb : Bool}
theorem p119_v (a b : Wt) : EV G (Tb (bs bb)) 119 [b.v, .one (.ptr 0 0)] [.box [.dc (ci a.c), .dc (ci a.k)]] = some (vb (decide (b.c = a.c)), [.box [.dc (ci a.c), .dc (ci a.k)]]) := by
  refine EV_run rfl ?_
  simp (disch := omega) only [go_sem, h119c]
  try rfl
theorem wErr_e (gs : List Gr) (ws : List Wt) (i : Nat) (a : Wt) : wErr gs ws i a = firstE [ifE (isCl a.c) 2, ifE (isUs a.k) 15, ifE (!isW (ws.take i) a.c) 23, ifE (decide (a.k ≠ 0) || !isIn gs a.c) 5, ifE (decide (a.k = 0) || isIn gs a.c) 6] := rfl
theorem map_take' (ws : List Wt) (i : Nat) : (ws.map Wt.e).take i = (ws.take i).map Wt.e := (List.map_take).symm
set_option maxHeartbeats 1000000 in
theorem waitErr_v (gs : List Gr) (ws : List Wt) (hs : Srt gs) (i : Nat) (hi : i < ws.length) (hg : gs.length ≤ 100000) (hl : ws.length ≤ 1000000) : EV G (Tb (bs bb)) 53 [flR gs ws, vi i] [] = some (vi (wErr gs ws i ws[i]), []) := by
  refine EV_run rfl ?_
  have q := anyW_v (G := G) (bb := bb) 119 [ci ws[i].c, ci ws[i].k] (fun b => decide (b.c = ws[i].c)) (ws.take i) (by rw [List.length_take]; omega) (fun b _ => p119_v ws[i] b)
  simp only [List.map_cons, List.map_nil] at q
  rw [show ((ws.take i).any fun b => decide (b.c = ws[i].c)) = isW (ws.take i) ws[i].c from rfl] at q
  have eg : (ws.map Wt.e)[i]? = some [ci ws[i].c, ci ws[i].k] := by rw [List.getElem?_map, List.getElem?_eq_getElem hi]; rfl
  rw [wErr_e]
  generalize ws[i] = a at *
  have hin : i ≤ ws.length := by omega
  cases h : isIn gs a.c with
  | true =>
    have g1 := grant_y (G := G) (bb := bb) ws hs hg a.c h
    by_cases hk : a.k = 0
    · simp (disch := omega) only [go_sem, h53c, q, eg, g1, map_take', isClient_v, isUse_v, unless_u, first5, eq_true hk, h]
      try rfl
    · simp (disch := omega) only [go_sem, h53c, q, eg, g1, map_take', isClient_v, isUse_v, unless_u, first5, hk, h]
      try rfl
  | false =>
    have g1 := grant_n (G := G) (bb := bb) ws hs hg a.c h
    by_cases hk : a.k = 0
    · simp (disch := omega) only [go_sem, h53c, q, eg, g1, map_take', isClient_v, isUse_v, unless_u, first5, eq_true hk, h]
      try rfl
    · simp (disch := omega) only [go_sem, h53c, q, eg, g1, map_take', isClient_v, isUse_v, unless_u, first5, hk, h]
      try rfl
theorem p52_v (gs : List Gr) (ws : List Wt) (hs : Srt gs) (i : Nat) (hi : i < ws.length) (hg : gs.length ≤ 100000) (hl : ws.length ≤ 1000000) (a : Wt) : EV G (Tb (bs bb)) 52 [vi i, a.v, .one (.ref [.ptr (flD gs ws)])] [] = some (vi (wErr gs ws i ws[i]), []) := by
  refine EV_run rfl ?_
  have q := waitErr_v (G := G) (bb := bb) gs ws hs i hi hg hl
  simp (disch := omega) only [go_sem, h52c, q]
end
section
variable {G : Glob} {bb : Bool}
theorem each_at (e : Nat → Int) (n k : Nat) (h : k < n) : ((List.range n).map e).getD k 0 = e k := by
  rw [getD_at _ k (by simpa using h)]; simp
theorem each_r (e : Nat → Int) (n j : Nat) (hn : ∀ k, k < j → ¬ e k ≠ 0) (h3 : j = n ∨ (j < n ∧ e j ≠ 0)) : eachE 0 ((List.range n).map e) = if j = n then (0, 0) else ((j : Int), e j) := by
  rcases h3 with rfl | ⟨h3, h4⟩
  · rw [if_pos rfl]
    refine eachE_no _ 0 (fun k hk => ?_)
    have hk : k < j := by simpa using hk
    rw [each_at e j k hk]
    exact hn k hk
  · rw [if_neg (by omega), eachE_ix _ j 0 (fun k hk => by rw [each_at e n k (by omega)]; exact hn k hk) (by simpa using h3) (by rw [each_at e n j h3]; exact h4), each_at e n j h3, Nat.zero_add]
abbrev twoI (r : Int × Int) : AV := .tup [.one (.dc (.raw (.int .i64 r.1))), .one (.dc (.raw (.int .i64 r.2)))]
theorem eachG_v (fn : Nat) (ds : List DC) (e : Nat → Int) (gs : List Gr) (hl : gs.length ≤ 1000000) (hq : ∀ i (hi : i < gs.length), EV G (Tb (bs bb)) fn [vi i, gs[i].v, .one (.ref ds)] [] = some (vi (e i), [])) :
    EV G (Tb (bs bb)) 48 [gsV gs, .one (.fn fn [.ref ds])] [] = some (twoI (eachE 0 ((List.range gs.length).map e)), []) := by
  refine EV_run rfl ?_
  simp (disch := omega) only [go_sem, h48c]
  rw [EL_fst (fun k => ⟨(jk 1 (.one (.fn fn [.ref ds]) :: jk 7 (gsV gs :: vi gs.length :: vi k :: jk 13 []))), []⟩) (fun k => e k ≠ 0) gs.length ?_ ?_]
  rotate_left
  · rfl
  · intro k hk hn
    have h3 := hn k (Nat.le_refl _)
    have h4 : e k = 0 := by omega
    have q := hq k hk
    rw [h4] at q
    simp (disch := omega) only [go_sem, h48l0, Gr.e, q, List.getElem?_map, List.getElem?_eq_getElem hk]
  obtain ⟨hk, hp, hn⟩ := ix_spec (fun k => e k ≠ 0) gs.length
  generalize ix (fun k => e k ≠ 0) gs.length = k at *
  rw [each_r e gs.length k hn hp]
  rcases hp with rfl | ⟨hk', hp⟩
  · rw [if_pos rfl]
    simp (disch := omega) only [go_sem, h48l0]
  · rw [if_neg (by omega)]
    have q := hq k hk'
    simp (disch := omega) only [go_sem, h48l0, Gr.e, q, List.getElem?_map, List.getElem?_eq_getElem hk', hp]
theorem eachW_v (fn : Nat) (ds : List DC) (e : Nat → Int) (gs : List Wt) (hl : gs.length ≤ 1000000) (hq : ∀ i (hi : i < gs.length), EV G (Tb (bs bb)) fn [vi i, gs[i].v, .one (.ref ds)] [] = some (vi (e i), [])) :
    EV G (Tb (bs bb)) 51 [wsV gs, .one (.fn fn [.ref ds])] [] = some (twoI (eachE 0 ((List.range gs.length).map e)), []) := by
  refine EV_run rfl ?_
  simp (disch := omega) only [go_sem, h51c]
  rw [EL_fst (fun k => ⟨(jk 1 (.one (.fn fn [.ref ds]) :: jk 7 (wsV gs :: vi gs.length :: vi k :: jk 13 []))), []⟩) (fun k => e k ≠ 0) gs.length ?_ ?_]
  rotate_left
  · rfl
  · intro k hk hn
    have h3 := hn k (Nat.le_refl _)
    have h4 : e k = 0 := by omega
    have q := hq k hk
    rw [h4] at q
    simp (disch := omega) only [go_sem, h51l0, Wt.e, q, List.getElem?_map, List.getElem?_eq_getElem hk]
  obtain ⟨hk, hp, hn⟩ := ix_spec (fun k => e k ≠ 0) gs.length
  generalize ix (fun k => e k ≠ 0) gs.length = k at *
  rw [each_r e gs.length k hn hp]
  rcases hp with rfl | ⟨hk', hp⟩
  · rw [if_pos rfl]
    simp (disch := omega) only [go_sem, h51l0]
  · rw [if_neg (by omega)]
    have q := hq k hk'
    simp (disch := omega) only [go_sem, h51l0, Wt.e, q, List.getElem?_map, List.getElem?_eq_getElem hk', hp]
end
section
variable {G : Glob} {bb : Bool}
abbrev fileH (gs : List Gr) (ws : List Wt) : List AObj := [.box [.bld 1 gs.length, .bld 2 ws.length], .arr 0 3 (gs.map Gr.e), .arr 0 2 (ws.map Wt.e)]
def midE (gs : List Gr) (c m : Int) (k : Nat) : List (List DC) := ((gs.take k).map (brG c m) ++ gs.drop k).map Gr.e
def outE (gs : List Gr) (c m : Int) (k : Nat) : List (List DC) := ((gs.take k).flatMap (brB c m)).map Br.e
theorem midE_len (gs : List Gr) (c m : Int) (k : Nat) : (midE gs c m k).length = gs.length := by simp [midE]; omega
theorem midE_at {gs : List Gr} (c m : Int) {k : Nat} (hk : k < gs.length) : (midE gs c m k)[k]? = some [ci gs[k].c, ci gs[k].l, ci gs[k].t] := by
  unfold midE
  rw [List.getElem?_map, List.getElem?_append_right (by simp; omega)]
  simp only [List.length_map, List.length_take, List.getElem?_drop]
  rw [show k + (k - min k gs.length) = k by omega, List.getElem?_eq_getElem hk]; rfl
theorem midE_next {gs : List Gr} (c m : Int) {k : Nat} (hk : k < gs.length) : midE gs c m (k + 1) = (midE gs c m k).set k (brG c m gs[k]).e := by
  unfold midE
  rw [List.take_add_one, List.getElem?_eq_getElem hk, List.drop_eq_getElem_cons hk, Option.toList_some]
  simp only [List.map_append, List.append_assoc]
  rw [List.set_append, if_neg (by simp; omega)]
  simp only [List.length_map, List.length_take, List.map_cons, List.map_nil, List.cons_append, List.nil_append]
  rw [show k - min k gs.length = 0 by omega, List.set_cons_zero]
theorem outE_next {gs : List Gr} (c m : Int) {k : Nat} (hk : k < gs.length) : outE gs c m (k + 1) = outE gs c m k ++ (brB c m gs[k]).map Br.e := by
  unfold outE
  rw [List.take_add_one, List.getElem?_eq_getElem hk, Option.toList_some, List.flatMap_append, List.map_append, List.flatMap_cons, List.flatMap_nil, List.append_nil]
theorem brB_len (c m : Int) (g : Gr) : (brB c m g).length ≤ 1 := by
  unfold brB
  repeat' split
  all_goals simp
theorem outE_len (gs : List Gr) (c m : Int) : ∀ k, k ≤ gs.length → (outE gs c m k).length ≤ k
  | 0, _ => by simp [outE]
  | k + 1, hk => by
    rw [outE_next c m (show k < gs.length by omega), List.length_append, List.length_map]
    have := outE_len gs c m k (by omega)
    have := brB_len c m gs[k]
    omega
theorem midE_all (gs : List Gr) (c k : Int) : midE gs c (al k) gs.length = (brGs gs c k).map Gr.e := by simp [midE, brGs]
theorem outE_all (gs : List Gr) (c k : Int) : outE gs c (al k) gs.length = (brBs gs c k).map Br.e := by simp [outE, brBs]
theorem midE_0 (gs : List Gr) (c m : Int) : midE gs c m 0 = gs.map Gr.e := by simp [midE]
theorem outE_0 (gs : List Gr) (c m : Int) : outE gs c m 0 = [] := by simp [outE]
theorem set_get {α : Type} {l : List α} {k : Nat} {x : α} (h : k < l.length) : (l.set k x)[k]? = some x := by simp [h]
theorem set_sm {α : Type} {l : List α} {k : Nat} {x : α} (h : l[k]? = some x) : l.set k x = l := by
  apply List.ext_getElem?
  intro j
  by_cases hj : k = j
  · subst hj
    have hk : k < l.length := (List.getElem?_eq_some_iff.1 h).1
    rw [h]; simp [hk]
  · rw [List.getElem?_set_ne hj]
def brSt (gs : List Gr) (ws : List Wt) (c k m : Int) (es os : List (List DC)) (j : Nat) : AS :=
  ⟨(.one (.ptr 0 0) :: jk 2 (.one (.ptr 3 0) :: jk 1 (.one (.bld 4 os.length) :: vi m :: jk 11 (vi gs.length :: vi j :: jk 62 [])))), [.box [.bld 1 gs.length, .bld 2 ws.length], .arr 0 3 es, .arr 0 2 (ws.map Wt.e), .box [.dc (ci c), .dc (ci k)], .arr 0 2 os]⟩
theorem brk_round (gs : List Gr) (ws : List Wt) (c k m : Int) (hm : 0 ≤ m) (hl : gs.length ≤ 1000000) (es os : List (List DC)) (j : Nat) (hj : j < gs.length) (g : Gr) (he : es[j]? = some [ci g.c, ci g.l, ci g.t]) (hel : es.length = gs.length) (ho : os.length ≤ 1000000) :
    rnK [0, 2, 1, 0, 11, 0] 5 (EC (EV G (Tb (bs bb))) G h54l0 (brSt gs ws c k m es os j)) = some (brSt gs ws c k m (es.set j (brG c m g).e) (os ++ (brB c m g).map Br.e) (j + 1)) := by
  have hje : j < es.length := by omega
  have e1 := fun x => set_get (x := x) hje
  unfold brSt
  by_cases h1 : g.c = c
  · have a1 : brG c m g = g := by unfold brG; rw [if_pos (.inl h1)]
    have a2 : brB c m g = [] := by unfold brB; rw [if_pos (.inl h1)]
    rw [a1, a2, set_sm (x := g.e) he]
    simp (disch := omega) only [go_sem, h54l0, he, hel, eq_true h1, List.map_nil, List.append_nil]
  · by_cases h2 : g.l ≤ m
    · have a1 : brG c m g = g := by unfold brG; rw [if_pos (.inr h2)]
      have a2 : brB c m g = [] := by unfold brB; rw [if_pos (.inr h2)]
      rw [a1, a2, set_sm (x := g.e) he]
      simp (disch := omega) only [go_sem, h54l0, he, hel, h1, h2, List.map_nil, List.append_nil]
    · by_cases h3 : g.l = 1
      · have a1 : brG c m g = ⟨g.c, 0, 0⟩ := by unfold brG; rw [if_neg (by omega), if_pos h3]
        have a2 : brB c m g = [⟨g.c, 0⟩] := by unfold brB; rw [if_neg (by omega), if_pos h3]
        rw [a1, a2]
        simp (disch := omega) only [go_sem, h54l0, he, hel, h1, h2, eq_true h3, e1, List.set_set, List.length_set, Gr.e, Br.e, List.map_cons, List.map_nil, List.length_append, List.length_cons, List.length_nil, List.take_length]
      · by_cases h4 : g.t ≤ m
        · have a1 : brG c m g = g := by unfold brG; rw [if_neg (by omega), if_neg h3, if_pos h4]
          have a2 : brB c m g = [] := by unfold brB; rw [if_neg (by omega), if_neg h3, if_pos h4]
          rw [a1, a2, set_sm (x := g.e) he]
          simp (disch := omega) only [go_sem, h54l0, he, hel, h1, h2, h3, h4, List.map_nil, List.append_nil]
        · have a1 : brG c m g = ⟨g.c, g.l, m⟩ := by unfold brG; rw [if_neg (by omega), if_neg h3, if_neg h4]
          have a2 : brB c m g = [⟨g.c, m⟩] := by unfold brB; rw [if_neg (by omega), if_neg h3, if_neg h4]
          rw [a1, a2]
          simp (disch := omega) only [go_sem, h54l0, he, hel, h1, h2, h3, h4, e1, List.set_set, List.length_set, Gr.e, Br.e, List.map_cons, List.map_nil, List.length_append, List.length_cons, List.length_nil, List.take_length]
theorem brk_loop {st : AS} (gs : List Gr) (ws : List Wt) (c k : Int) (hl : gs.length ≤ 1000000) (h0 : st = brSt gs ws c k (al k) (gs.map Gr.e) [] 0) :
    EL (EV G (Tb (bs bb))) G h54l0 [0, 2, 1, 0, 11, 0] 5 st = fnK (EV G (Tb (bs bb))) G h54l0 [0, 2, 1, 0, 11, 0] 5 (EC (EV G (Tb (bs bb))) G h54l0 (brSt gs ws c k (al k) ((brGs gs c k).map Gr.e) ((brBs gs c k).map Br.e) gs.length)) := by
  subst h0
  have hm := (al_r k).1
  rw [← midE_all, ← outE_all]
  refine EL_loop (fun j => brSt gs ws c k (al k) (midE gs c (al k) j) (outE gs c (al k) j) j) gs.length ?_ ?_
  · rw [midE_0, outE_0]
  · intro j hj
    have h1 := outE_len gs c (al k) j (by omega)
    rw [midE_next c (al k) hj, outE_next c (al k) hj]
    exact brk_round gs ws c k (al k) hm hl _ _ j hj gs[j] (midE_at c (al k) hj) (midE_len ..) (by omega)
theorem brBs_len (gs : List Gr) (c k : Int) : (brBs gs c k).length ≤ gs.length := by
  have h := outE_len gs c (al k) gs.length (Nat.le_refl _)
  rw [outE_all, List.length_map] at h
  exact h
theorem breaks_v (hG : G 0 = some alD) (gs : List Gr) (ws : List Wt) (c k : Int) (hk : kOK k) (hl : gs.length ≤ 1000000) :
    EV G (Tb (bs bb)) 54 [.one (.ptr 0 0), (Wt.mk c k).v] (fileH gs ws) = some (vl ((brBs gs c k).map Br.e), fileH (brGs gs c k) ws) := by
  refine EV_run rfl ?_
  unfold alD at hG
  have hb := brBs_len gs c k
  have e0 := brGs_len gs c k
  rcases hk with rfl | rfl | rfl | rfl
  · simp (disch := omega) only [go_sem, h54c, hG, tn2, tn3, List.drop_succ_cons, List.drop_zero]
    rw [brk_loop gs ws c 0 hl ?_]
    rotate_left
    · rfl
    unfold brSt
    simp (disch := omega) only [go_sem, h54l0, e0, List.take_length]
    unfold fileH
    rw [e0]
  · simp (disch := omega) only [go_sem, h54c, hG, tn2, tn3, List.drop_succ_cons, List.drop_zero]
    rw [brk_loop gs ws c 1 hl ?_]
    rotate_left
    · rfl
    unfold brSt
    simp (disch := omega) only [go_sem, h54l0, e0, List.take_length]
    unfold fileH
    rw [e0]
  · simp (disch := omega) only [go_sem, h54c, hG, tn2, tn3, List.drop_succ_cons, List.drop_zero]
    rw [brk_loop gs ws c 2 hl ?_]
    rotate_left
    · rfl
    unfold brSt
    simp (disch := omega) only [go_sem, h54l0, e0, List.take_length]
    unfold fileH
    rw [e0]
  · simp (disch := omega) only [go_sem, h54c, hG, tn2, tn3, List.drop_succ_cons, List.drop_zero]
    rw [brk_loop gs ws c 3 hl ?_]
    rotate_left
    · rfl
    unfold brSt
    simp (disch := omega) only [go_sem, h54l0, e0, List.take_length]
    unfold fileH
    rw [e0]
end
end Go.Proofs.YtinageiefahjfaaGreatDoor
