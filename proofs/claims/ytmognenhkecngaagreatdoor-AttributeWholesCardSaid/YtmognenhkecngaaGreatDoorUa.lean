/- Attributes; small contracts of chapter 8. Conditions: none. -/
import Derived.Test.YtmognenhkecngaaGreatDoorVn
import Derived.Test.YtmognenhkecngaaGreatDoorTa
namespace Go.Proofs.YtmognenhkecngaaGreatDoor
section
set_option maxRecDepth 4000
set_option linter.unusedSimpArgs false
set_option linter.unusedVariables false
variable {G : Glob} {B : CallT}
theorem copyRuns_v (l : List Run) (hl : l.length ≤ 1000000) : EV G (Tb B) 15 [runsV l] [] = some (.one (.bld 0 l.length), [.arr 0 2 (l.map Run.e)]) := by
  refine EV_run rfl ?_
  simp (disch := omega) only [go_sem, Nat.reduceAdd, Nat.reduceSub, Nat.reduceMul, Nat.reduceLeDiff, Nat.reduceEqDiff, h15c, List.length_map, List.take_zero]
theorem sameRuns_v (a b : List Run) (hl : a.length ≤ 1000000) : EV G (Tb B) 71 [runsV a, runsV b] [] = some (vb (decide (a = b)), []) := by
  refine EV_run rfl ?_
  by_cases h : (a.length : Int) = b.length
  · simp (disch := omega) only [go_sem, Nat.reduceAdd, Nat.reduceSub, Nat.reduceMul, Nat.reduceLeDiff, Nat.reduceEqDiff, h71c, List.length_map, h]
    have h : a.length = b.length := by omega
    rw [EL_fst (fun k => ⟨(runsV a :: runsV b :: jk 3 (vi k :: jk 20 [])), []⟩) (fun k => a.getD k ⟨0, 0⟩ ≠ b.getD k ⟨0, 0⟩) a.length ?_ ?_]
    rotate_left
    · rfl
    · intro k hk hn
      have h1 := hn k (Nat.le_refl _)
      rw [runAt a k hk, runAt b k (by omega), Classical.not_not, run_eq] at h1
      simp (disch := omega) only [go_sem, Nat.reduceAdd, Nat.reduceSub, Nat.reduceMul, Nat.reduceLeDiff, Nat.reduceEqDiff, h71l0, List.length_map, Run.e]
    obtain ⟨hk, hp, hn⟩ := ix_spec (fun k => a.getD k ⟨0, 0⟩ ≠ b.getD k ⟨0, 0⟩) a.length
    generalize ix (fun k => a.getD k ⟨0, 0⟩ ≠ b.getD k ⟨0, 0⟩) a.length = k at *
    rcases hp with hp | ⟨hk', hp⟩
    · have hz : a = b := List.ext_getElem h (fun i h1 h2 => by
        have := hn i (by omega)
        rwa [runAt a i h1, runAt b i h2, Classical.not_not] at this)
      simp (disch := omega) only [go_sem, Nat.reduceAdd, Nat.reduceSub, Nat.reduceMul, Nat.reduceLeDiff, Nat.reduceEqDiff, h71l0, List.length_map]
      simp [hz]
    · rw [runAt a k hk', runAt b k (by omega)] at hp
      have hz : ¬ a = b := fun e => by subst e; exact hp rfl
      rw [ne_eq, run_eq] at hp
      simp (disch := omega) only [go_sem, Nat.reduceAdd, Nat.reduceSub, Nat.reduceMul, Nat.reduceLeDiff, Nat.reduceEqDiff, h71l0, List.length_map, Run.e]
      simp [hz]
  · simp (disch := omega) only [go_sem, Nat.reduceAdd, Nat.reduceSub, Nat.reduceMul, Nat.reduceLeDiff, Nat.reduceEqDiff, h71c, List.length_map]
    have : ¬ a = b := fun e => h (by rw [e])
    simp [this]
theorem has_v (l : List Int) (c : Int) (hl : l.length ≤ 1000000) : EV G (Tb B) 113 [vl (el l), vi c] [] = some (vb (decide (c ∈ l)), []) := by
  refine EV_run rfl ?_
  simp (disch := omega) only [go_sem, Nat.reduceAdd, Nat.reduceSub, Nat.reduceMul, Nat.reduceLeDiff, Nat.reduceEqDiff, h113c, List.length_map]
  rw [EL_fst (fun k => ⟨(vl (el l) :: vi c :: jk 3 (vi k :: jk 12 [])), []⟩) (fun k => l.getD k 0 = c) l.length ?_ ?_]
  rotate_left
  · rfl
  · intro k hk hn
    have h1 := hn k (Nat.le_refl _)
    rw [getD_at l k hk] at h1
    simp (disch := omega) only [go_sem, Nat.reduceAdd, Nat.reduceSub, Nat.reduceMul, Nat.reduceLeDiff, Nat.reduceEqDiff, h113l0, List.length_map, ci1]
  obtain ⟨hk, hp, hn⟩ := ix_spec (fun k => l.getD k 0 = c) l.length
  generalize ix (fun k => l.getD k 0 = c) l.length = k at *
  rcases hp with rfl | ⟨hk', hp⟩
  · have hz : ¬ c ∈ l := fun hc => by
      obtain ⟨j, hj, rfl⟩ := List.mem_iff_getElem.1 hc
      exact hn j hj (getD_at l j hj)
    simp (disch := omega) only [go_sem, Nat.reduceAdd, Nat.reduceSub, Nat.reduceMul, Nat.reduceLeDiff, Nat.reduceEqDiff, h113l0, List.length_map]
    simp [hz]
  · rw [getD_at l k hk'] at hp
    have hz : c ∈ l := by rw [← hp]; exact List.getElem_mem hk'
    simp (disch := omega) only [go_sem, Nat.reduceAdd, Nat.reduceSub, Nat.reduceMul, Nat.reduceLeDiff, Nat.reduceEqDiff, h113l0, List.length_map, ci1]
    simp [hz]
theorem join_v (l : List Run) (hl : Fine l) : EV G (Tb B) 79 [runsV l] [] = some (runsV (addL [] l), []) := by
  refine EV_run rfl ?_
  have hln := hl.len
  simp (disch := omega) only [go_sem, Nat.reduceAdd, Nat.reduceSub, Nat.reduceMul, Nat.reduceLeDiff, Nat.reduceEqDiff, h79c, List.length_map]
  rw [EL_loop (fun k => ⟨(runsV l :: jk 2 (.one (.bld 0 (addL [] (l.take k)).length) :: vi k :: jk 48 [])), [.arr 0 2 ((addL [] (l.take k)).map Run.e)]⟩) l.length ?_ ?_]
  · simp (disch := omega) only [go_sem, Nat.reduceAdd, Nat.reduceSub, Nat.reduceMul, Nat.reduceLeDiff, Nat.reduceEqDiff, h79l0, List.length_map, List.take_length]
  · rfl
  · intro k hk
    have hG := addL_goodK Fine.nil hl k
    have h1 := hl.el _ (List.getElem_mem hk)
    have h2 := hl.n_le (List.getElem_mem hk)
    rw [addL_take [] l k hk]
    generalize addL [] (l.take k) = R at hG ⊢
    have hn := hG.len
    by_cases h0 : R = []
    · subst h0
      simp only [List.length_nil, List.map_nil, addR_nil]
      simp (disch := omega) only [go_sem, Nat.reduceAdd, Nat.reduceSub, Nat.reduceMul, Nat.reduceLeDiff, Nat.reduceEqDiff, h79l0, List.length_map, Run.e]
    · obtain ⟨R', q, hR', hget, hpos, hset⟩ := snoc_facts h0
      have hq := (hR' ▸ hG).last
      have ha := addR_snoc R' q l[k]
      rw [← hR'] at ha
      have hnn : R.length = (R' ++ [(⟨q.s, q.n + l[k].n⟩ : Run)]).length := by simp [hR']
      cases hj : joinsB q l[k]
      · rw [hj] at ha
        simp (disch := omega) only [go_sem, Nat.reduceAdd, Nat.reduceSub, Nat.reduceMul, Nat.reduceLeDiff, Nat.reduceEqDiff, h79l0, List.length_map, joins_r, hj, ha, Run.e, hget, map_snoc, List.length_append]
      · rw [hj] at ha
        simp (disch := omega) only [go_sem, Nat.reduceAdd, Nat.reduceSub, Nat.reduceMul, Nat.reduceLeDiff, Nat.reduceEqDiff, h79l0, List.length_map, joins_r, hj, ha, Run.e, hget, hset]
        rw [hnn]
theorem resE_v (l : List Run) (hl : Fine l) (hn : l.length ≤ 100000) : EV G (Tb B) 78 [runsV l] [] = some (vi (resE l), []) := by
  refine EV_run rfl ?_
  have hbd : ∀ (j : Nat) q, l[j]? = some q → -9223372036854775808 ≤ q.s + q.n ∧ q.s + q.n ≤ 9223372036854775807 := fun j q hq => by
    have h1 := hl.el q (List.mem_of_getElem? hq)
    have h2 := hl.n_le (List.mem_of_getElem? hq)
    omega
  simp (disch := omega) only [go_sem, Nat.reduceAdd, Nat.reduceSub, Nat.reduceMul, Nat.reduceLeDiff, Nat.reduceEqDiff, h78c, List.length_map]
  rw [EL_fst (fun k => ⟨(runsV l :: jk 2 (vi k :: jk 18 [])), []⟩) (fun k => ((l.take k).any fun q => sharesB q (l.getD k ⟨0, 0⟩)) = true) l.length ?_ ?_]
  rotate_left
  · rfl
  · intro k hk hn
    have h1 := hn k (Nat.le_refl _)
    rw [runAt l k hk] at h1
    have hD := doubled_v (G := G) (B := B) l k hk (by omega) (fun j q _ => hbd j q)
    rw [(by simpa using h1 : ((l.take k).any fun q => sharesB q l[k]) = false)] at hD
    simp (disch := omega) only [go_sem, Nat.reduceAdd, Nat.reduceSub, Nat.reduceMul, Nat.reduceLeDiff, Nat.reduceEqDiff, h78l0, List.length_map, hD]
  obtain ⟨hk, hp, hm⟩ := ix_spec (fun k => ((l.take k).any fun q => sharesB q (l.getD k ⟨0, 0⟩)) = true) l.length
  generalize ix (fun k => ((l.take k).any fun q => sharesB q (l.getD k ⟨0, 0⟩)) = true) l.length = k at *
  rcases hp with rfl | ⟨hk', hp⟩
  · have hz : dupR l = false := by
      unfold dupR
      rw [List.any_eq_false]
      intro i hi
      exact hm i (by simpa using hi)
    have hw : lenW l = lenR l := lenW_eq l (fun r hr => (hl.el r hr).2.2) (by have := hl.sum; omega)
    unfold resE
    by_cases h1 : lenR l > 4096
    · simp (disch := omega) only [go_sem, Nat.reduceAdd, Nat.reduceSub, Nat.reduceMul, Nat.reduceLeDiff, Nat.reduceEqDiff, h78l0, List.length_map, length_r, hw, hz]
    · by_cases h2 : (addL [] l).length > 64
      all_goals simp (disch := omega) only [go_sem, Nat.reduceAdd, Nat.reduceSub, Nat.reduceMul, Nat.reduceLeDiff, Nat.reduceEqDiff, h78l0, List.length_map, length_r, hw, hz, join_v l hl]
  · have hz : dupR l = true := by
      unfold dupR
      rw [List.any_eq_true]
      exact ⟨k, by simpa using hk', hp⟩
    rw [runAt l k hk'] at hp
    have hD := doubled_v (G := G) (B := B) l k hk' (by omega) (fun j q _ => hbd j q)
    rw [hp] at hD
    simp (disch := omega) only [go_sem, Nat.reduceAdd, Nat.reduceSub, Nat.reduceMul, Nat.reduceLeDiff, Nat.reduceEqDiff, h78l0, List.length_map, hD, resE, hz]
end
section
set_option maxRecDepth 4000
set_option linter.unusedSimpArgs false
set_option linter.unusedVariables false
variable {G : Glob} {bb : Bool}
structure Att where
  ty : Int
  nm : List Int
  id : Int
  fl : Int
  res : Bool
  va : List Int
  fi : Int
  rs : List Run
  al : Int
  sz : Int
  vd : Int
abbrev Att.e (a : Att) : List DC := [ci a.ty, .raw (.string (str a.nm)), ci a.id, ci a.fl, .raw (.bool a.res), .raw (.string (str a.va)), ci a.fi, .slc (a.rs.map Run.e), ci a.al, ci a.sz, ci a.vd]
abbrev Att.c (a : Att) : List Cel := [.dc (ci a.ty), .dc (.raw (.string (str a.nm))), .dc (ci a.id), .dc (ci a.fl), .dc (.raw (.bool a.res)), .dc (.raw (.string (str a.va))), .dc (ci a.fi), .dc (.slc (a.rs.map Run.e)), .dc (ci a.al), .dc (ci a.sz), .dc (ci a.vd)]
abbrev Att.v (a : Att) : AV := .agg a.c
abbrev Att.t (a : Att) : TV := .agg a.c
def Att.nil : Att := ⟨0, [], 0, 0, false, [], 0, [], 0, 0, 0⟩
theorem within8_v (n lo hi : Int) : EV G (Tb (bs bb)) 72 [vi n, vi lo, vi hi] [] = some (vb (decide (lo ≤ n ∧ n ≤ hi)), []) := by
  refine EV_run rfl ?_
  by_cases h : lo ≤ n
  all_goals simp (disch := omega) only [go_sem, Nat.reduceAdd, Nat.reduceSub, Nat.reduceMul, Nat.reduceLeDiff, Nat.reduceEqDiff, h72c]
  all_goals simp [h]
theorem unless8_v (b : Bool) (e : Int) : EV G (Tb (bs bb)) 56 [vb b, vi e] [] = some (vi (if b = true then 0 else e), []) := by
  refine EV_run rfl ?_
  cases b
  all_goals simp (disch := omega) only [go_sem, Nat.reduceAdd, Nat.reduceSub, Nat.reduceMul, Nat.reduceLeDiff, Nat.reduceEqDiff, h56c]
  all_goals rfl
theorem unlessN_v (b : Bool) (e : Int) : EV G (Tb (bs bb)) 165 [vb b, vi e] [] = some (vi (if b = true then 0 else e), []) := by
  refine EV_run rfl ?_
  cases b
  all_goals simp (disch := omega) only [go_sem, Nat.reduceAdd, Nat.reduceSub, Nat.reduceMul, Nat.reduceLeDiff, Nat.reduceEqDiff, h165c]
  all_goals rfl
theorem first8_v (l : List Int) (hl : l.length ≤ 1000) : EV G (Tb (bs bb)) 55 [vl (el l)] [] = some (vi (firstE l), []) := by
  refine EV_run rfl ?_
  simp (disch := omega) only [go_sem, Nat.reduceAdd, Nat.reduceSub, Nat.reduceMul, Nat.reduceLeDiff, Nat.reduceEqDiff, h55c, List.length_map]
  have round : ∀ k (hk : k < l.length), ¬ l.getD k 0 ≠ 0 → rnK [5, 0, 0] 0 (EC (EV G (Tb (bs bb))) G h55l0 ⟨(jk 5 (vl (el l) :: vi l.length :: vi k :: jk 7 [])), []⟩) = some ⟨(jk 5 (vl (el l) :: vi l.length :: vi (k + 1 : Nat) :: jk 7 [])), []⟩ := fun k hk hz => by
    rw [getD_at l k hk] at hz
    simp (disch := omega) only [go_sem, Nat.reduceAdd, Nat.reduceSub, Nat.reduceMul, Nat.reduceLeDiff, Nat.reduceEqDiff, h55l0, List.length_map, ci1]
  rcases fstN (fun k => l.getD k 0 ≠ 0) l.length with h | ⟨j, hj, h1, h2⟩
  · rw [EL_loop (fun k => ⟨(jk 5 (vl (el l) :: vi l.length :: vi k :: jk 7 [])), []⟩) l.length ?_ ?_]
    · rw [firstE_none l h]
      simp (disch := omega) only [go_sem, Nat.reduceAdd, Nat.reduceSub, Nat.reduceMul, Nat.reduceLeDiff, Nat.reduceEqDiff, h55l0]
    · rfl
    · exact fun k hk => round k hk (h k hk)
  · rw [EL_loop (fun k => ⟨(jk 5 (vl (el l) :: vi l.length :: vi k :: jk 7 [])), []⟩) j ?_ ?_]
    · rw [firstE_at l j hj h2 h1]
      rw [getD_at l j hj] at h1
      simp (disch := omega) only [go_sem, Nat.reduceAdd, Nat.reduceSub, Nat.reduceMul, Nat.reduceLeDiff, Nat.reduceEqDiff, h55l0, List.length_map, ci1]
    · rfl
    · exact fun k hk => round k (by omega) (h2 k hk)
theorem firstN_v (l : List Int) (hl : l.length ≤ 1000) : EV G (Tb (bs bb)) 164 [vl (el l)] [] = some (vi (firstE l), []) := by
  refine EV_run rfl ?_
  simp (disch := omega) only [go_sem, Nat.reduceAdd, Nat.reduceSub, Nat.reduceMul, Nat.reduceLeDiff, Nat.reduceEqDiff, h164c, List.length_map]
  have round : ∀ k (hk : k < l.length), ¬ l.getD k 0 ≠ 0 → rnK [5, 0, 0] 0 (EC (EV G (Tb (bs bb))) G h164l0 ⟨(jk 5 (vl (el l) :: vi l.length :: vi k :: jk 7 [])), []⟩) = some ⟨(jk 5 (vl (el l) :: vi l.length :: vi (k + 1 : Nat) :: jk 7 [])), []⟩ := fun k hk hz => by
    rw [getD_at l k hk] at hz
    simp (disch := omega) only [go_sem, Nat.reduceAdd, Nat.reduceSub, Nat.reduceMul, Nat.reduceLeDiff, Nat.reduceEqDiff, h164l0, List.length_map, ci1]
  rcases fstN (fun k => l.getD k 0 ≠ 0) l.length with h | ⟨j, hj, h1, h2⟩
  · rw [EL_loop (fun k => ⟨(jk 5 (vl (el l) :: vi l.length :: vi k :: jk 7 [])), []⟩) l.length ?_ ?_]
    · rw [firstE_none l h]
      simp (disch := omega) only [go_sem, Nat.reduceAdd, Nat.reduceSub, Nat.reduceMul, Nat.reduceLeDiff, Nat.reduceEqDiff, h164l0]
    · rfl
    · exact fun k hk => round k hk (h k hk)
  · rw [EL_loop (fun k => ⟨(jk 5 (vl (el l) :: vi l.length :: vi k :: jk 7 [])), []⟩) j ?_ ?_]
    · rw [firstE_at l j hj h2 h1]
      rw [getD_at l j hj] at h1
      simp (disch := omega) only [go_sem, Nat.reduceAdd, Nat.reduceSub, Nat.reduceMul, Nat.reduceLeDiff, Nat.reduceEqDiff, h164l0, List.length_map, ci1]
    · rfl
    · exact fun k hk => round k (by omega) (h2 k hk)
theorem firstN2 (a b : Int) : EV G (Tb (bs bb)) 164 [vl [[ci a], [ci b]]] [] = some (vi (firstE [a, b]), []) := firstN_v [a, b] (by simp)
theorem first8_2 (a b : Int) : EV G (Tb (bs bb)) 55 [vl [[ci a], [ci b]]] [] = some (vi (firstE [a, b]), []) := first8_v [a, b] (by simp)
theorem first8_3 (a b c : Int) : EV G (Tb (bs bb)) 55 [vl [[ci a], [ci b], [ci c]]] [] = some (vi (firstE [a, b, c]), []) := first8_v [a, b, c] (by simp)
theorem first8_4 (a b c d : Int) : EV G (Tb (bs bb)) 55 [vl [[ci a], [ci b], [ci c], [ci d]]] [] = some (vi (firstE [a, b, c, d]), []) := first8_v [a, b, c, d] (by simp)
theorem first8_5 (a b c d e : Int) : EV G (Tb (bs bb)) 55 [vl [[ci a], [ci b], [ci c], [ci d], [ci e]]] [] = some (vi (firstE [a, b, c, d, e]), []) := first8_v [a, b, c, d, e] (by simp)
/-- the types -/
def tys : List Int := [16, 32, 48, 64, 96, 112, 128, 144, 160, 176, 192]
def rtys : List Int := [16, 48, 96, 112, 144]
theorem types_v : EV G (Tb (bs bb)) 57 [] [] = some (.one (.mpc tyL), []) := EV_base rfl rfl
theorem mpGet_ty (n : Int) : mpGet tyL n = if n ∈ tys then some (.bool (decide (n ∈ rtys))) else none := by
  unfold tyL tys rtys
  simp only [mpGet, List.mem_cons, List.not_mem_nil, or_false]
  split <;> rename_i h1
  · subst h1; simp
  split <;> rename_i h2
  · subst h2; simp
  split <;> rename_i h3
  · subst h3; simp
  split <;> rename_i h4
  · subst h4; simp
  split <;> rename_i h5
  · subst h5; simp
  split <;> rename_i h6
  · subst h6; simp
  split <;> rename_i h7
  · subst h7; simp
  split <;> rename_i h8
  · subst h8; simp
  split <;> rename_i h9
  · subst h9; simp
  split <;> rename_i h10
  · subst h10; simp
  split <;> rename_i h11
  · subst h11; simp
  rw [if_neg (by omega)]
theorem isType_v (n : Int) : EV G (Tb (bs bb)) 88 [vi n] [] = some (vb (decide (n ∈ tys)), []) := by
  refine EV_run rfl ?_
  have hm := mpGet_ty n
  by_cases h : n ∈ tys
  · rw [if_pos h] at hm
    simp (disch := omega) only [go_sem, Nat.reduceAdd, Nat.reduceSub, Nat.reduceMul, Nat.reduceLeDiff, Nat.reduceEqDiff, h88c, types_v, mpxV, mpR, hm, h]
  · rw [if_neg h] at hm
    simp (disch := omega) only [go_sem, Nat.reduceAdd, Nat.reduceSub, Nat.reduceMul, Nat.reduceLeDiff, Nat.reduceEqDiff, h88c, types_v, mpxV, mpR, hm, h]
theorem clusters8_v (a : Att) (hl : a.rs.length ≤ 1000000) : EV G (Tb (bs bb)) 60 [a.v] [] = some (vi (lenW a.rs), []) := by
  refine EV_run rfl ?_
  simp (disch := omega) only [go_sem, Nat.reduceAdd, Nat.reduceSub, Nat.reduceMul, Nat.reduceLeDiff, Nat.reduceEqDiff, h60c, List.length_map]
  rw [EL_loop (fun k => ⟨(jk 3 (vi (lenW (a.rs.take k)) :: jk 3 (runsV a.rs :: vi a.rs.length :: vi k :: jk 9 []))), [.box a.c]⟩) a.rs.length ?_ ?_]
  · simp (disch := omega) only [go_sem, Nat.reduceAdd, Nat.reduceSub, Nat.reduceMul, Nat.reduceLeDiff, Nat.reduceEqDiff, h60l0, List.take_length]
  · rfl
  · intro k hk
    rw [lenW_take a.rs k hk]
    simp (disch := omega) only [go_sem, Nat.reduceAdd, Nat.reduceSub, Nat.reduceMul, Nat.reduceLeDiff, Nat.reduceEqDiff, h60l0, List.length_map, Run.e]
theorem head_v (b : Bool) : EV G (Tb (bs bb)) 136 [vb b] [] = some (vi (if b = true then 24 else 40), []) := by
  refine EV_run rfl ?_
  cases b
  all_goals simp (disch := omega) only [go_sem, Nat.reduceAdd, Nat.reduceSub, Nat.reduceMul, Nat.reduceLeDiff, Nat.reduceEqDiff, h136c]
  all_goals rfl
def al8 (n : Int) : Int := (n + 7) / 8 * 8
theorem aligned_v (n : Int) (h : 0 ≤ n ∧ n ≤ 1000000000) : EV G (Tb (bs bb)) 137 [vi n] [] = some (vi (al8 n), []) := by
  refine EV_run rfl ?_
  have e : n + 8 - 1 = n + 7 := by omega
  simp (disch := omega) only [go_sem, Nat.reduceAdd, Nat.reduceSub, Nat.reduceMul, Nat.reduceLeDiff, Nat.reduceEqDiff, h137c, tdiv_nn, al8, e]
end
end Go.Proofs.YtmognenhkecngaaGreatDoor
