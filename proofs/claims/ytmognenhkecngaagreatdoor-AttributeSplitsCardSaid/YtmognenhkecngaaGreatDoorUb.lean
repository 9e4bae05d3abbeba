/- Names of attributes. Conditions: none. -/
import Derived.Test.YtmognenhkecngaaGreatDoorVn
import Derived.Test.YtmognenhkecngaaGreatDoorTa
namespace Go.Proofs.YtmognenhkecngaaGreatDoor
section
set_option maxRecDepth 4000
set_option linter.unusedSimpArgs false
set_option linter.unusedVariables false
variable {G : Glob} {B : CallT}
theorem copyRuns_v (l : List Run) (hl : l.length ≤ 1000000) : EV G (Tb B) 15 [runsV l] [] = some (.one (.bld 0 l.length), [.arr 0 2 (l.map Run.e)]) := by
  refine EV_run rfl ?_
  simp (disch := omega) only [go_sem, Nat.reduceAdd, Nat.reduceSub, Nat.reduceMul, Nat.reduceLeDiff, Nat.reduceEqDiff, h15c, List.length_map, List.take_zero]
theorem sameRuns_v (a b : List Run) (hl : a.length ≤ 1000000) : EV G (Tb B) 71 [runsV a, runsV b] [] = some (vb (decide (a = b)), []) := by
  refine EV_run rfl ?_
  by_cases h : (a.length : Int) = b.length
  · simp (disch := omega) only [go_sem, Nat.reduceAdd, Nat.reduceSub, Nat.reduceMul, Nat.reduceLeDiff, Nat.reduceEqDiff, h71c, List.length_map, h]
    have h : a.length = b.length := by omega
    rw [EL_fst (fun k => ⟨(runsV a :: runsV b :: jk 3 (vi k :: jk 20 [])), []⟩) (fun k => a.getD k ⟨0, 0⟩ ≠ b.getD k ⟨0, 0⟩) a.length ?_ ?_]
    rotate_left
    · rfl
    · intro k hk hn
      have h1 := hn k (Nat.le_refl _)
      rw [runAt a k hk, runAt b k (by omega), Classical.not_not, run_eq] at h1
      simp (disch := omega) only [go_sem, Nat.reduceAdd, Nat.reduceSub, Nat.reduceMul, Nat.reduceLeDiff, Nat.reduceEqDiff, h71l0, List.length_map, Run.e]
    obtain ⟨hk, hp, hn⟩ := ix_spec (fun k => a.getD k ⟨0, 0⟩ ≠ b.getD k ⟨0, 0⟩) a.length
    generalize ix (fun k => a.getD k ⟨0, 0⟩ ≠ b.getD k ⟨0, 0⟩) a.length = k at *
    rcases hp with hp | ⟨hk', hp⟩
    · have hz : a = b := List.ext_getElem h (fun i h1 h2 => by
        have := hn i (by omega)
        rwa [runAt a i h1, runAt b i h2, Classical.not_not] at this)
      simp (disch := omega) only [go_sem, Nat.reduceAdd, Nat.reduceSub, Nat.reduceMul, Nat.reduceLeDiff, Nat.reduceEqDiff, h71l0, List.length_map]
      simp [hz]
    · rw [runAt a k hk', runAt b k (by omega)] at hp
      have hz : ¬ a = b := fun e => by subst e; exact hp rfl
      rw [ne_eq, run_eq] at hp
      simp (disch := omega) only [go_sem, Nat.reduceAdd, Nat.reduceSub, Nat.reduceMul, Nat.reduceLeDiff, Nat.reduceEqDiff, h71l0, List.length_map, Run.e]
      simp [hz]
  · simp (disch := omega) only [go_sem, Nat.reduceAdd, Nat.reduceSub, Nat.reduceMul, Nat.reduceLeDiff, Nat.reduceEqDiff, h71c, List.length_map]
    have : ¬ a = b := fun e => h (by rw [e])
    simp [this]
theorem has_v (l : List Int) (c : Int) (hl : l.length ≤ 1000000) : EV G (Tb B) 113 [vl (el l), vi c] [] = some (vb (decide (c ∈ l)), []) := by
  refine EV_run rfl ?_
  simp (disch := omega) only [go_sem, Nat.reduceAdd, Nat.reduceSub, Nat.reduceMul, Nat.reduceLeDiff, Nat.reduceEqDiff, h113c, List.length_map]
  rw [EL_fst (fun k => ⟨(vl (el l) :: vi c :: jk 3 (vi k :: jk 12 [])), []⟩) (fun k => l.getD k 0 = c) l.length ?_ ?_]
  rotate_left
  · rfl
  · intro k hk hn
    have h1 := hn k (Nat.le_refl _)
    rw [getD_at l k hk] at h1
    simp (disch := omega) only [go_sem, Nat.reduceAdd, Nat.reduceSub, Nat.reduceMul, Nat.reduceLeDiff, Nat.reduceEqDiff, h113l0, List.length_map, ci1]
  obtain ⟨hk, hp, hn⟩ := ix_spec (fun k => l.getD k 0 = c) l.length
  generalize ix (fun k => l.getD k 0 = c) l.length = k at *
  rcases hp with rfl | ⟨hk', hp⟩
  · have hz : ¬ c ∈ l := fun hc => by
      obtain ⟨j, hj, rfl⟩ := List.mem_iff_getElem.1 hc
      exact hn j hj (getD_at l j hj)
    simp (disch := omega) only [go_sem, Nat.reduceAdd, Nat.reduceSub, Nat.reduceMul, Nat.reduceLeDiff, Nat.reduceEqDiff, h113l0, List.length_map]
    simp [hz]
  · rw [getD_at l k hk'] at hp
    have hz : c ∈ l := by rw [← hp]; exact List.getElem_mem hk'
    simp (disch := omega) only [go_sem, Nat.reduceAdd, Nat.reduceSub, Nat.reduceMul, Nat.reduceLeDiff, Nat.reduceEqDiff, h113l0, List.length_map, ci1]
    simp [hz]
theorem join_v (l : List Run) (hl : Fine l) : EV G (Tb B) 79 [runsV l] [] = some (runsV (addL [] l), []) := by
  refine EV_run rfl ?_
  have hln := hl.len
  simp (disch := omega) only [go_sem, Nat.reduceAdd, Nat.reduceSub, Nat.reduceMul, Nat.reduceLeDiff, Nat.reduceEqDiff, h79c, List.length_map]
  rw [EL_loop (fun k => ⟨(runsV l :: jk 2 (.one (.bld 0 (addL [] (l.take k)).length) :: vi k :: jk 48 [])), [.arr 0 2 ((addL [] (l.take k)).map Run.e)]⟩) l.length ?_ ?_]
  · simp (disch := omega) only [go_sem, Nat.reduceAdd, Nat.reduceSub, Nat.reduceMul, Nat.reduceLeDiff, Nat.reduceEqDiff, h79l0, List.length_map, List.take_length]
  · rfl
  · intro k hk
    have hG := addL_goodK Fine.nil hl k
    have h1 := hl.el _ (List.getElem_mem hk)
    have h2 := hl.n_le (List.getElem_mem hk)
    rw [addL_take [] l k hk]
    generalize addL [] (l.take k) = R at hG ⊢
    have hn := hG.len
    by_cases h0 : R = []
    · subst h0
      simp only [List.length_nil, List.map_nil, addR_nil]
      simp (disch := omega) only [go_sem, Nat.reduceAdd, Nat.reduceSub, Nat.reduceMul, Nat.reduceLeDiff, Nat.reduceEqDiff, h79l0, List.length_map, Run.e]
    · obtain ⟨R', q, hR', hget, hpos, hset⟩ := snoc_facts h0
      have hq := (hR' ▸ hG).last
      have ha := addR_snoc R' q l[k]
      rw [← hR'] at ha
      have hnn : R.length = (R' ++ [(⟨q.s, q.n + l[k].n⟩ : Run)]).length := by simp [hR']
      cases hj : joinsB q l[k]
      · rw [hj] at ha
        simp (disch := omega) only [go_sem, Nat.reduceAdd, Nat.reduceSub, Nat.reduceMul, Nat.reduceLeDiff, Nat.reduceEqDiff, h79l0, List.length_map, joins_r, hj, ha, Run.e, hget, map_snoc, List.length_append]
      · rw [hj] at ha
        simp (disch := omega) only [go_sem, Nat.reduceAdd, Nat.reduceSub, Nat.reduceMul, Nat.reduceLeDiff, Nat.reduceEqDiff, h79l0, List.length_map, joins_r, hj, ha, Run.e, hget, hset]
        rw [hnn]
theorem from_v (c : List Int) (h : ∀ x ∈ c, -1 ≤ x ∧ x ≤ 1000) (hl : c.length ≤ 100000) : EV G (Tb B) 75 [vl (el c)] [] = some (runsV (fromC c), []) := by
  refine EV_run rfl ?_
  simp (disch := omega) only [go_sem, Nat.reduceAdd, Nat.reduceSub, Nat.reduceMul, Nat.reduceLeDiff, Nat.reduceEqDiff, h75c, List.length_map]
  rw [EL_loop (fun k => ⟨(vl (el c) :: jk 2 (.one (.bld 0 (units (c.take k)).length) :: vi k :: jk 16 [])), [.arr 0 2 ((units (c.take k)).map Run.e)]⟩) c.length ?_ ?_]
  · simp (disch := omega) only [go_sem, Nat.reduceAdd, Nat.reduceSub, Nat.reduceMul, Nat.reduceLeDiff, Nat.reduceEqDiff, h75l0, List.length_map, List.take_length, join_v (units c) (units_fine c h hl), fromC]
  · rfl
  · intro k hk
    have hx : units (c.take (k + 1)) = units (c.take k) ++ [⟨c[k], 1⟩] := by rw [List.take_succ_eq_append_getElem hk]; simp only [units, List.map_append, List.map_cons, List.map_nil]
    have hul : (units (c.take k)).length = k := by simp [units]; omega
    rw [hx]
    generalize units (c.take k) = U at hul ⊢
    simp (disch := omega) only [go_sem, Nat.reduceAdd, Nat.reduceSub, Nat.reduceMul, Nat.reduceLeDiff, Nat.reduceEqDiff, h75l0, List.length_map, ci1, map_snoc, List.length_append]
end
section
set_option maxRecDepth 4000
set_option linter.unusedSimpArgs false
set_option linter.unusedVariables false
variable {G : Glob} {bb : Bool}
structure Att where
  ty : Int
  nm : List Int
  id : Int
  fl : Int
  res : Bool
  va : List Int
  fi : Int
  rs : List Run
  al : Int
  sz : Int
  vd : Int
abbrev Att.e (a : Att) : List DC := [ci a.ty, .raw (.string (str a.nm)), ci a.id, ci a.fl, .raw (.bool a.res), .raw (.string (str a.va)), ci a.fi, .slc (a.rs.map Run.e), ci a.al, ci a.sz, ci a.vd]
abbrev Att.c (a : Att) : List Cel := [.dc (ci a.ty), .dc (.raw (.string (str a.nm))), .dc (ci a.id), .dc (ci a.fl), .dc (.raw (.bool a.res)), .dc (.raw (.string (str a.va))), .dc (ci a.fi), .dc (.slc (a.rs.map Run.e)), .dc (ci a.al), .dc (ci a.sz), .dc (ci a.vd)]
abbrev Att.v (a : Att) : AV := .agg a.c
abbrev Att.t (a : Att) : TV := .agg a.c
def Att.nil : Att := ⟨0, [], 0, 0, false, [], 0, [], 0, 0, 0⟩
theorem within8_v (n lo hi : Int) : EV G (Tb (bs bb)) 72 [vi n, vi lo, vi hi] [] = some (vb (decide (lo ≤ n ∧ n ≤ hi)), []) := by
  refine EV_run rfl ?_
  by_cases h : lo ≤ n
  all_goals simp (disch := omega) only [go_sem, Nat.reduceAdd, Nat.reduceSub, Nat.reduceMul, Nat.reduceLeDiff, Nat.reduceEqDiff, h72c]
  all_goals simp [h]
theorem unless8_v (b : Bool) (e : Int) : EV G (Tb (bs bb)) 56 [vb b, vi e] [] = some (vi (if b = true then 0 else e), []) := by
  refine EV_run rfl ?_
  cases b
  all_goals simp (disch := omega) only [go_sem, Nat.reduceAdd, Nat.reduceSub, Nat.reduceMul, Nat.reduceLeDiff, Nat.reduceEqDiff, h56c]
  all_goals rfl
theorem unlessN_v (b : Bool) (e : Int) : EV G (Tb (bs bb)) 165 [vb b, vi e] [] = some (vi (if b = true then 0 else e), []) := by
  refine EV_run rfl ?_
  cases b
  all_goals simp (disch := omega) only [go_sem, Nat.reduceAdd, Nat.reduceSub, Nat.reduceMul, Nat.reduceLeDiff, Nat.reduceEqDiff, h165c]
  all_goals rfl
theorem first8_v (l : List Int) (hl : l.length ≤ 1000) : EV G (Tb (bs bb)) 55 [vl (el l)] [] = some (vi (firstE l), []) := by
  refine EV_run rfl ?_
  simp (disch := omega) only [go_sem, Nat.reduceAdd, Nat.reduceSub, Nat.reduceMul, Nat.reduceLeDiff, Nat.reduceEqDiff, h55c, List.length_map]
  have round : ∀ k (hk : k < l.length), ¬ l.getD k 0 ≠ 0 → rnK [5, 0, 0] 0 (EC (EV G (Tb (bs bb))) G h55l0 ⟨(jk 5 (vl (el l) :: vi l.length :: vi k :: jk 7 [])), []⟩) = some ⟨(jk 5 (vl (el l) :: vi l.length :: vi (k + 1 : Nat) :: jk 7 [])), []⟩ := fun k hk hz => by
    rw [getD_at l k hk] at hz
    simp (disch := omega) only [go_sem, Nat.reduceAdd, Nat.reduceSub, Nat.reduceMul, Nat.reduceLeDiff, Nat.reduceEqDiff, h55l0, List.length_map, ci1]
  rcases fstN (fun k => l.getD k 0 ≠ 0) l.length with h | ⟨j, hj, h1, h2⟩
  · rw [EL_loop (fun k => ⟨(jk 5 (vl (el l) :: vi l.length :: vi k :: jk 7 [])), []⟩) l.length ?_ ?_]
    · rw [firstE_none l h]
      simp (disch := omega) only [go_sem, Nat.reduceAdd, Nat.reduceSub, Nat.reduceMul, Nat.reduceLeDiff, Nat.reduceEqDiff, h55l0]
    · rfl
    · exact fun k hk => round k hk (h k hk)
  · rw [EL_loop (fun k => ⟨(jk 5 (vl (el l) :: vi l.length :: vi k :: jk 7 [])), []⟩) j ?_ ?_]
    · rw [firstE_at l j hj h2 h1]
      rw [getD_at l j hj] at h1
      simp (disch := omega) only [go_sem, Nat.reduceAdd, Nat.reduceSub, Nat.reduceMul, Nat.reduceLeDiff, Nat.reduceEqDiff, h55l0, List.length_map, ci1]
    · rfl
    · exact fun k hk => round k (by omega) (h2 k hk)
theorem firstN_v (l : List Int) (hl : l.length ≤ 1000) : EV G (Tb (bs bb)) 164 [vl (el l)] [] = some (vi (firstE l), []) := by
  refine EV_run rfl ?_
  simp (disch := omega) only [go_sem, Nat.reduceAdd, Nat.reduceSub, Nat.reduceMul, Nat.reduceLeDiff, Nat.reduceEqDiff, h164c, List.length_map]
  have round : ∀ k (hk : k < l.length), ¬ l.getD k 0 ≠ 0 → rnK [5, 0, 0] 0 (EC (EV G (Tb (bs bb))) G h164l0 ⟨(jk 5 (vl (el l) :: vi l.length :: vi k :: jk 7 [])), []⟩) = some ⟨(jk 5 (vl (el l) :: vi l.length :: vi (k + 1 : Nat) :: jk 7 [])), []⟩ := fun k hk hz => by
    rw [getD_at l k hk] at hz
    simp (disch := omega) only [go_sem, Nat.reduceAdd, Nat.reduceSub, Nat.reduceMul, Nat.reduceLeDiff, Nat.reduceEqDiff, h164l0, List.length_map, ci1]
  rcases fstN (fun k => l.getD k 0 ≠ 0) l.length with h | ⟨j, hj, h1, h2⟩
  · rw [EL_loop (fun k => ⟨(jk 5 (vl (el l) :: vi l.length :: vi k :: jk 7 [])), []⟩) l.length ?_ ?_]
    · rw [firstE_none l h]
      simp (disch := omega) only [go_sem, Nat.reduceAdd, Nat.reduceSub, Nat.reduceMul, Nat.reduceLeDiff, Nat.reduceEqDiff, h164l0]
    · rfl
    · exact fun k hk => round k hk (h k hk)
  · rw [EL_loop (fun k => ⟨(jk 5 (vl (el l) :: vi l.length :: vi k :: jk 7 [])), []⟩) j ?_ ?_]
    · rw [firstE_at l j hj h2 h1]
      rw [getD_at l j hj] at h1
      simp (disch := omega) only [go_sem, Nat.reduceAdd, Nat.reduceSub, Nat.reduceMul, Nat.reduceLeDiff, Nat.reduceEqDiff, h164l0, List.length_map, ci1]
    · rfl
    · exact fun k hk => round k (by omega) (h2 k hk)
theorem firstN2 (a b : Int) : EV G (Tb (bs bb)) 164 [vl [[ci a], [ci b]]] [] = some (vi (firstE [a, b]), []) := firstN_v [a, b] (by simp)
theorem first8_2 (a b : Int) : EV G (Tb (bs bb)) 55 [vl [[ci a], [ci b]]] [] = some (vi (firstE [a, b]), []) := first8_v [a, b] (by simp)
theorem first8_3 (a b c : Int) : EV G (Tb (bs bb)) 55 [vl [[ci a], [ci b], [ci c]]] [] = some (vi (firstE [a, b, c]), []) := first8_v [a, b, c] (by simp)
theorem first8_4 (a b c d : Int) : EV G (Tb (bs bb)) 55 [vl [[ci a], [ci b], [ci c], [ci d]]] [] = some (vi (firstE [a, b, c, d]), []) := first8_v [a, b, c, d] (by simp)
theorem first8_5 (a b c d e : Int) : EV G (Tb (bs bb)) 55 [vl [[ci a], [ci b], [ci c], [ci d], [ci e]]] [] = some (vi (firstE [a, b, c, d, e]), []) := first8_v [a, b, c, d, e] (by simp)
/-- the types -/
def tys : List Int := [16, 32, 48, 64, 96, 112, 128, 144, 160, 176, 192]
def rtys : List Int := [16, 48, 96, 112, 144]
theorem types_v : EV G (Tb (bs bb)) 57 [] [] = some (.one (.mpc tyL), []) := EV_base rfl rfl
theorem mpGet_ty (n : Int) : mpGet tyL n = if n ∈ tys then some (.bool (decide (n ∈ rtys))) else none := by
  unfold tyL tys rtys
  simp only [mpGet, List.mem_cons, List.not_mem_nil, or_false]
  split <;> rename_i h1
  · subst h1; simp
  split <;> rename_i h2
  · subst h2; simp
  split <;> rename_i h3
  · subst h3; simp
  split <;> rename_i h4
  · subst h4; simp
  split <;> rename_i h5
  · subst h5; simp
  split <;> rename_i h6
  · subst h6; simp
  split <;> rename_i h7
  · subst h7; simp
  split <;> rename_i h8
  · subst h8; simp
  split <;> rename_i h9
  · subst h9; simp
  split <;> rename_i h10
  · subst h10; simp
  split <;> rename_i h11
  · subst h11; simp
  rw [if_neg (by omega)]
theorem isType_v (n : Int) : EV G (Tb (bs bb)) 88 [vi n] [] = some (vb (decide (n ∈ tys)), []) := by
  refine EV_run rfl ?_
  have hm := mpGet_ty n
  by_cases h : n ∈ tys
  · rw [if_pos h] at hm
    simp (disch := omega) only [go_sem, Nat.reduceAdd, Nat.reduceSub, Nat.reduceMul, Nat.reduceLeDiff, Nat.reduceEqDiff, h88c, types_v, mpxV, mpR, hm, h]
  · rw [if_neg h] at hm
    simp (disch := omega) only [go_sem, Nat.reduceAdd, Nat.reduceSub, Nat.reduceMul, Nat.reduceLeDiff, Nat.reduceEqDiff, h88c, types_v, mpxV, mpR, hm, h]
theorem clusters8_v (a : Att) (hl : a.rs.length ≤ 1000000) : EV G (Tb (bs bb)) 60 [a.v] [] = some (vi (lenW a.rs), []) := by
  refine EV_run rfl ?_
  simp (disch := omega) only [go_sem, Nat.reduceAdd, Nat.reduceSub, Nat.reduceMul, Nat.reduceLeDiff, Nat.reduceEqDiff, h60c, List.length_map]
  rw [EL_loop (fun k => ⟨(jk 3 (vi (lenW (a.rs.take k)) :: jk 3 (runsV a.rs :: vi a.rs.length :: vi k :: jk 9 []))), [.box a.c]⟩) a.rs.length ?_ ?_]
  · simp (disch := omega) only [go_sem, Nat.reduceAdd, Nat.reduceSub, Nat.reduceMul, Nat.reduceLeDiff, Nat.reduceEqDiff, h60l0, List.take_length]
  · rfl
  · intro k hk
    rw [lenW_take a.rs k hk]
    simp (disch := omega) only [go_sem, Nat.reduceAdd, Nat.reduceSub, Nat.reduceMul, Nat.reduceLeDiff, Nat.reduceEqDiff, h60l0, List.length_map, Run.e]
theorem head_v (b : Bool) : EV G (Tb (bs bb)) 136 [vb b] [] = some (vi (if b = true then 24 else 40), []) := by
  refine EV_run rfl ?_
  cases b
  all_goals simp (disch := omega) only [go_sem, Nat.reduceAdd, Nat.reduceSub, Nat.reduceMul, Nat.reduceLeDiff, Nat.reduceEqDiff, h136c]
  all_goals rfl
def al8 (n : Int) : Int := (n + 7) / 8 * 8
theorem aligned_v (n : Int) (h : 0 ≤ n ∧ n ≤ 1000000000) : EV G (Tb (bs bb)) 137 [vi n] [] = some (vi (al8 n), []) := by
  refine EV_run rfl ?_
  have e : n + 8 - 1 = n + 7 := by omega
  simp (disch := omega) only [go_sem, Nat.reduceAdd, Nat.reduceSub, Nat.reduceMul, Nat.reduceLeDiff, Nat.reduceEqDiff, h137c, tdiv_nn, al8, e]
end
section
set_option maxRecDepth 4000
set_option linter.unusedSimpArgs false
set_option linter.unusedVariables false
variable {G : Glob} {bb : Bool}
/-- may a byte stand in a name? -/
def refB : List Int := [34, 42, 47, 58, 60, 62, 63, 92, 124]
def legB (c : Int) : Bool := decide (32 ≤ c ∧ c ≤ 126 ∧ c ∉ refB)
theorem ixb_nat : ∀ n : _root_.Fin 256, (Lib.indexByte (ByteArray.mk #[34, 42, 47, 58, 60, 62, 63, 92, 124]).data.toList ((n.val : Int).toNat.toUInt8) < 0) ↔ ((n.val : Int) ∉ refB) := by decide
theorem ixb_ref (c : Int) (h : 0 ≤ c ∧ c ≤ 255) : (Lib.indexByte (ByteArray.mk #[34, 42, 47, 58, 60, 62, 63, 92, 124]).data.toList c.toNat.toUInt8 < 0) = (c ∉ refB) := by
  have := ixb_nat ⟨c.toNat, by omega⟩
  simp only [show ((c.toNat : Nat) : Int) = c by omega] at this
  exact propext this
theorem ixb_v (s : ByteArray) (c : Int) : EV G (Tb (bs bb)) 233 [.one (.dc (.raw (.string s))), vu c] [] = some (vi (Lib.indexByte s.data.toList c.toNat.toUInt8), []) := EV_base rfl rfl
theorem ixbS_v (s : ByteArray) (c : Int) : EV G (Tb (bs bb)) 227 [.one (.dc (.raw (.string s))), vu c] [] = some (vi (Lib.indexByte s.data.toList c.toNat.toUInt8), []) := by
  refine EV_run rfl ?_
  simp (disch := omega) only [go_sem, Nat.reduceAdd, Nat.reduceSub, Nat.reduceMul, Nat.reduceLeDiff, Nat.reduceEqDiff, h227c, ixb_v]
theorem legB_v (c : Int) (h : 0 ≤ c ∧ c ≤ 255) : EV G (Tb (bs bb)) 202 [vu c] [] = some (vb (legB c), []) := by
  refine EV_run rfl ?_
  have h1 := ixb_ref c h
  unfold legB
  by_cases c1 : 32 ≤ c
  · by_cases c2 : c ≤ 126
    · simp (disch := omega) only [go_sem, Nat.reduceAdd, Nat.reduceSub, Nat.reduceMul, Nat.reduceLeDiff, Nat.reduceEqDiff, h202c, ixbS_v, c1, c2]
      simp only [h1, true_and]
    · simp (disch := omega) only [go_sem, Nat.reduceAdd, Nat.reduceSub, Nat.reduceMul, Nat.reduceLeDiff, Nat.reduceEqDiff, h202c, ixbS_v, c1, c2]
  · simp (disch := omega) only [go_sem, Nat.reduceAdd, Nat.reduceSub, Nat.reduceMul, Nat.reduceLeDiff, Nat.reduceEqDiff, h202c, ixbS_v, c1]
theorem outJ_n {id : Nat} : outJ [] id = true := rfl
theorem outJ_c {j id : Nat} {J : List Nat} : outJ (j :: J) id = (!nq id j && outJ J id) := by
  simp only [outJ, nq_eq, List.contains_cons, Bool.not_or]
attribute [go_sem] outJ_n outJ_c
theorem notLeg_v (c : Int) (h : 0 ≤ c ∧ c ≤ 255) : EV G (Tb (bs bb)) 226 [vu c, .one (.ptr 0 0)] [.box [.fn 202 []]] = some (vb (!legB c), [.box [.fn 202 []]]) := by
  refine EV_run rfl ?_
  have h1 := legB_v (G := G) (bb := bb) c h
  simp (disch := omega) only [go_sem, Nat.reduceAdd, Nat.reduceSub, Nat.reduceMul, Nat.reduceLeDiff, Nat.reduceEqDiff, h226c, h1]
theorem getDI (l : List Int) (k : Nat) (h : k < l.length) : l.getD k 0 = l[k] := getD_at l k h
theorem badIx_v (l : List Int) (hB : Byts l) (hl : l.length ≤ 1000000) :
    EV G (Tb (bs bb)) 239 [vl (bl l), .one (.fn 226 [.ptr 0 0])] [.box [.fn 202 []]] = some (vi (if ix (fun k => ¬ legB (l.getD k 0) = true) l.length = l.length then -1 else (ix (fun k => ¬ legB (l.getD k 0) = true) l.length : Nat)), [.box [.fn 202 []]]) := by
  refine EV_run rfl ?_
  simp (disch := omega) only [go_sem, Nat.reduceAdd, Nat.reduceSub, Nat.reduceMul, Nat.reduceLeDiff, Nat.reduceEqDiff, h239c, List.length_map]
  rw [EL_fst (fun k => ⟨(vl (bl l) :: .one (.fn 226 [.ptr 0 0]) :: jk 5 (vi l.length :: vi k :: jk 10 [])), [.box [.fn 202 []]]⟩) (fun k => ¬ legB (l.getD k 0) = true) l.length ?_ ?_]
  rotate_left
  · rfl
  · intro k hk hn
    have h1 := hn k (Nat.le_refl _)
    rw [getDI l k hk] at h1
    have h0 := hB _ (List.getElem_mem hk)
    have h2 := notLeg_v (G := G) (bb := bb) l[k] h0
    have h3 : legB l[k] = true := Classical.not_not.1 h1
    simp (disch := omega) only [go_sem, Nat.reduceAdd, Nat.reduceSub, Nat.reduceMul, Nat.reduceLeDiff, Nat.reduceEqDiff, h239l0, List.length_map, by1, h2, h3]
  obtain ⟨hk, hp, hn⟩ := ix_spec (fun k => ¬ legB (l.getD k 0) = true) l.length
  generalize ix (fun k => ¬ legB (l.getD k 0) = true) l.length = k at *
  rcases hp with rfl | ⟨hk', hp⟩
  · simp (disch := omega) only [go_sem, Nat.reduceAdd, Nat.reduceSub, Nat.reduceMul, Nat.reduceLeDiff, Nat.reduceEqDiff, h239l0, List.length_map]
  · rw [getDI l k hk'] at hp
    have h0 := hB _ (List.getElem_mem hk')
    have h2 := notLeg_v (G := G) (bb := bb) l[k] h0
    have h3 : legB l[k] = false := by simpa using hp
    rw [if_neg (by omega)]
    simp (disch := omega) only [go_sem, Nat.reduceAdd, Nat.reduceSub, Nat.reduceMul, Nat.reduceLeDiff, Nat.reduceEqDiff, h239l0, List.length_map, by1, h2, h3]
/-- are all bytes legal? -/
def allB (l : List Int) : Bool := l.all legB
theorem allB_ix (l : List Int) : (if ix (fun k => ¬ legB (l.getD k 0) = true) l.length = l.length then (-1 : Int) else (ix (fun k => ¬ legB (l.getD k 0) = true) l.length : Nat)) < 0 ↔ allB l = true := by
  obtain ⟨hk, hp, hn⟩ := ix_spec (fun k => ¬ legB (l.getD k 0) = true) l.length
  generalize ix (fun k => ¬ legB (l.getD k 0) = true) l.length = k at *
  rcases hp with rfl | ⟨hk', hp⟩
  · rw [if_pos rfl]
    refine ⟨fun _ => ?_, fun _ => by decide⟩
    unfold allB
    rw [List.all_eq_true]
    intro x hx
    obtain ⟨j, hj, rfl⟩ := List.mem_iff_getElem.1 hx
    have := hn j hj
    rw [getDI l j hj] at this
    exact Classical.not_not.1 this
  · rw [if_neg (by omega)]
    refine ⟨fun h => by omega, fun h => ?_⟩
    rw [getDI l k hk'] at hp
    exact absurd (List.all_eq_true.1 h _ (List.getElem_mem hk')) hp
theorem bytesD_str (l : List Int) (hB : Byts l) : bytesD (str l) = l.map by1 := by
  unfold bytesD
  rw [str_data, List.map_map]
  refine List.map_congr_left (fun b hb => ?_)
  simp only [Function.comp_apply, by1, u8_nat b (hB b hb)]
theorem contB_v (l : List Int) (hB : Byts l) (hl : l.length ≤ 1000000) :
    EV G (Tb (bs bb)) 225 [vl (bl l), .one (.fn 226 [.ptr 0 0])] [.box [.fn 202 []]] = some (vb (!allB l), [.box [.fn 202 []]]) := by
  refine EV_run rfl ?_
  have h1 := badIx_v (G := G) (bb := bb) l hB hl
  have h2 := allB_ix l
  generalize (if ix (fun k => ¬ legB (l.getD k 0) = true) l.length = l.length then (-1 : Int) else (ix (fun k => ¬ legB (l.getD k 0) = true) l.length : Nat)) = z at h1 h2
  cases ha : allB l with
  | true =>
    have h3 := h2.2 ha
    simp (disch := omega) only [go_sem, Nat.reduceAdd, Nat.reduceSub, Nat.reduceMul, Nat.reduceLeDiff, Nat.reduceEqDiff, h225c, h1]
    simp; omega
  | false =>
    have h3 : ¬ z < 0 := fun h => by rw [h2.1 h] at ha; cases ha
    simp (disch := omega) only [go_sem, Nat.reduceAdd, Nat.reduceSub, Nat.reduceMul, Nat.reduceLeDiff, Nat.reduceEqDiff, h225c, h1]
    simp; omega
theorem mapM1 {α β : Type} (f : α → Option β) (x : α) : [x].mapM f = (f x).map fun c => [c] := by
  cases h : f x <;> simp [List.mapM_cons, h]
theorem allBytes_v (l : List Int) (hB : Byts l) (hl : l.length ≤ 1000000) : EV G (Tb (bs bb)) 201 [sv l, .one (.fn 202 [])] [] = some (vb (allB l), []) := by
  refine EV_run rfl ?_
  have h1 := contB_v (G := G) (bb := bb) l hB hl
  have h2 := bytesD_str l hB
  cases ha : allB l
  all_goals rw [ha] at h1
  all_goals simp (disch := omega) only [go_sem, Nat.reduceAdd, Nat.reduceSub, Nat.reduceMul, Nat.reduceLeDiff, Nat.reduceEqDiff, h201c, h1, h2, mapM1, oneOf]
theorem suf_v (l : List Int) (c : Int) (hB : Byts l) (hc : 0 ≤ c ∧ c ≤ 255) (hl : l.length ≤ 1000000) : EV G (Tb (bs bb)) 228 [sv l, sv [c]] [] = some (vb (decide (l ≠ [] ∧ l.getLast? = some c)), []) := by
  refine EV_run rfl ?_
  by_cases h : l = []
  · subst h
    simp (disch := omega) only [go_sem, Nat.reduceAdd, Nat.reduceSub, Nat.reduceMul, Nat.reduceLeDiff, Nat.reduceEqDiff, h228c, List.length_cons, List.length_nil]
  · have hp : 1 ≤ l.length := by have := List.length_pos_iff.2 h; omega
    have hd : l.drop (l.length - 1) = [l[l.length - 1]] := by
      rw [List.drop_eq_getElem_cons (by omega), List.drop_eq_nil_of_le (by omega)]
    have hB1 : Byts [l[l.length - 1]] := fun b hb => by rw [List.mem_singleton.1 hb]; exact hB _ (List.getElem_mem _)
    have hB2 : Byts [c] := fun b hb => by rw [List.mem_singleton.1 hb]; exact hc
    have e := str_inj hB1 hB2
    have e2 : l.getLast? = some l[l.length - 1] := by rw [List.getLast?_eq_getElem?, List.getElem?_eq_getElem (by omega)]
    simp (disch := omega) only [go_sem, Nat.reduceAdd, Nat.reduceSub, Nat.reduceMul, Nat.reduceLeDiff, Nat.reduceEqDiff, h228c, List.length_cons, List.length_nil, hd, e, e2]
    simp [h]
theorem sufS_v (l : List Int) (c : Int) (hB : Byts l) (hc : 0 ≤ c ∧ c ≤ 255) (hl : l.length ≤ 1000000) : EV G (Tb (bs bb)) 203 [sv l, sv [c]] [] = some (vb (decide (l ≠ [] ∧ l.getLast? = some c)), []) := by
  refine EV_run rfl ?_
  have h1 := suf_v (G := G) (bb := bb) l c hB hc hl
  simp (disch := omega) only [go_sem, Nat.reduceAdd, Nat.reduceSub, Nat.reduceMul, Nat.reduceLeDiff, Nat.reduceEqDiff, h203c, h1]
theorem at_s (l : List Int) (hB : Byts l) (k : Nat) (h : k < l.length) : l[k]? = some l[k] ∧ ((u8 l[k]).toNat : Int) = l[k] := ⟨List.getElem?_eq_getElem h, u8_nat _ (hB _ (List.getElem_mem h))⟩
/-- may a string be a name? -/
def nmOK (l : List Int) : Prop := l ≠ [] ∧ l.length ≤ 32 ∧ allB l = true ∧ l ≠ [46, 46] ∧ l.getLast? ≠ some 32 ∧ l.getLast? ≠ some 46
instance (l : List Int) : Decidable (nmOK l) := by unfold nmOK; infer_instance
theorem s46 : (⟨#[46, 46]⟩ : ByteArray) = str [46, 46] := rfl
theorem s1_46 : (⟨#[46]⟩ : ByteArray) = str [46] := rfl
theorem s1_32 : (⟨#[32]⟩ : ByteArray) = str [32] := rfl
theorem byts_c (l : List Int) (h : (l.all fun b => decide (0 ≤ b ∧ b ≤ 255)) = true) : Byts l := fun b hb => by simpa using List.all_eq_true.1 h b hb
theorem byts_nil : Byts [] := fun b hb => by cases hb
theorem isLegal_v (l : List Int) (hB : Byts l) (hl : l.length ≤ 1000000) : EV G (Tb (bs bb)) 166 [sv l] [] = some (vb (decide (nmOK l)), []) := by
  refine EV_run rfl ?_
  have e0 := str_inj hB byts_nil
  have e1 := str_inj hB (byts_c [46, 46] (by decide))
  have h1 := allBytes_v (G := G) (bb := bb) l hB hl
  have h2 := sufS_v (G := G) (bb := bb) l 32 hB (by omega) hl
  have h3 := sufS_v (G := G) (bb := bb) l 46 hB (by omega) hl
  by_cases c0 : l = []
  · rw [decide_eq_false (fun h : nmOK l => h.1 c0)]
    simp (disch := omega) only [go_sem, Nat.reduceAdd, Nat.reduceSub, Nat.reduceMul, Nat.reduceLeDiff, Nat.reduceEqDiff, h166c, str_nil, s46, s1_46, s1_32, e0, e1, c0]
  · by_cases c1 : l.length ≤ 32
    · by_cases c2 : allB l = true
      · rw [c2] at h1
        by_cases c3 : l = [46, 46]
        · rw [decide_eq_false (fun h : nmOK l => h.2.2.2.1 c3)]
          replace c3 := eq_true c3
          simp (disch := omega) only [go_sem, Nat.reduceAdd, Nat.reduceSub, Nat.reduceMul, Nat.reduceLeDiff, Nat.reduceEqDiff, h166c, str_nil, s46, s1_46, s1_32, e0, e1, c0, c1, h1, c3]
        · by_cases c4 : l.getLast? = some 32
          · rw [decide_eq_false (fun h : nmOK l => h.2.2.2.2.1 c4)]
            rw [decide_eq_true (⟨c0, c4⟩ : l ≠ [] ∧ l.getLast? = some 32)] at h2
            simp (disch := omega) only [go_sem, Nat.reduceAdd, Nat.reduceSub, Nat.reduceMul, Nat.reduceLeDiff, Nat.reduceEqDiff, h166c, str_nil, s46, s1_46, s1_32, e0, e1, c0, c1, h1, c3, h2]
          · rw [decide_eq_false (fun h : l ≠ [] ∧ l.getLast? = some 32 => c4 h.2)] at h2
            by_cases c5 : l.getLast? = some 46
            · rw [decide_eq_false (fun h : nmOK l => h.2.2.2.2.2 c5)]
              rw [decide_eq_true (⟨c0, c5⟩ : l ≠ [] ∧ l.getLast? = some 46)] at h3
              simp (disch := omega) only [go_sem, Nat.reduceAdd, Nat.reduceSub, Nat.reduceMul, Nat.reduceLeDiff, Nat.reduceEqDiff, h166c, str_nil, s46, s1_46, s1_32, e0, e1, c0, c1, h1, c3, h2, h3]
            · rw [show decide (nmOK l) = true from decide_eq_true ⟨c0, c1, c2, c3, c4, c5⟩]
              rw [decide_eq_false (fun h : l ≠ [] ∧ l.getLast? = some 46 => c5 h.2)] at h3
              simp (disch := omega) only [go_sem, Nat.reduceAdd, Nat.reduceSub, Nat.reduceMul, Nat.reduceLeDiff, Nat.reduceEqDiff, h166c, str_nil, s46, s1_46, s1_32, e0, e1, c0, c1, h1, c3, h2, h3]
      · rw [decide_eq_false (fun h : nmOK l => c2 h.2.2.1)]
        rw [Bool.eq_false_iff.2 c2] at h1
        simp (disch := omega) only [go_sem, Nat.reduceAdd, Nat.reduceSub, Nat.reduceMul, Nat.reduceLeDiff, Nat.reduceEqDiff, h166c, str_nil, s46, s1_46, s1_32, e0, e1, c0, c1, h1]
    · rw [decide_eq_false (fun h : nmOK l => c1 h.2.1)]
      simp (disch := omega) only [go_sem, Nat.reduceAdd, Nat.reduceSub, Nat.reduceMul, Nat.reduceLeDiff, Nat.reduceEqDiff, h166c, str_nil, s46, s1_46, s1_32, e0, e1, c0, c1]
theorem checkName_v (l : List Int) (hB : Byts l) (hl : l.length ≤ 1000000) : EV G (Tb (bs bb)) 134 [sv l] [] = some (vi (firstE [if l.length ≤ 32 then 0 else 8, if nmOK l then 0 else 4]), []) := by
  refine EV_run rfl ?_
  have h1 := isLegal_v (G := G) (bb := bb) l hB hl
  have e : ((l.length : Int) ≤ 32) = (l.length ≤ 32) := by apply propext; omega
  simp (disch := omega) only [go_sem, Nat.reduceAdd, Nat.reduceSub, Nat.reduceMul, Nat.reduceLeDiff, Nat.reduceEqDiff, h134c, h1, unlessN_v, firstN2, decide_eq_true_eq, e]
def nmB (l : List Int) : Bool := decide (l = [] ∨ nmOK l)
theorem nameErr_v (l : List Int) (hB : Byts l) (hl : l.length ≤ 1000000) : EV G (Tb (bs bb)) 89 [sv l] [] = some (vi (if nmB l = true then 0 else 4), []) := by
  refine EV_run rfl ?_
  have e0 := str_inj hB byts_nil
  have h1 := checkName_v (G := G) (bb := bb) l hB hl
  by_cases c0 : l = []
  · rw [show nmB l = true from decide_eq_true (.inl c0)]
    simp (disch := omega) only [go_sem, Nat.reduceAdd, Nat.reduceSub, Nat.reduceMul, Nat.reduceLeDiff, Nat.reduceEqDiff, h89c, str_nil, e0, c0, unless8_v]
  · by_cases c1 : nmOK l
    · rw [show nmB l = true from decide_eq_true (.inr c1)]
      have c2 := c1.2.1
      rw [if_pos c1, if_pos c2, show firstE [0, 0] = 0 from rfl] at h1
      simp (disch := omega) only [go_sem, Nat.reduceAdd, Nat.reduceSub, Nat.reduceMul, Nat.reduceLeDiff, Nat.reduceEqDiff, h89c, str_nil, e0, c0, h1, unless8_v]
    · rw [show nmB l = false from decide_eq_false (fun h => h.elim c0 c1)]
      rw [if_neg c1] at h1
      by_cases c2 : l.length ≤ 32
      · rw [if_pos c2, show firstE [0, 4] = 4 from rfl] at h1
        simp (disch := omega) only [go_sem, Nat.reduceAdd, Nat.reduceSub, Nat.reduceMul, Nat.reduceLeDiff, Nat.reduceEqDiff, h89c, str_nil, e0, c0, h1, unless8_v]
      · rw [if_neg c2, show firstE [8, 4] = 8 from rfl] at h1
        simp (disch := omega) only [go_sem, Nat.reduceAdd, Nat.reduceSub, Nat.reduceMul, Nat.reduceLeDiff, Nat.reduceEqDiff, h89c, str_nil, e0, c0, h1, unless8_v]
theorem legal_v (c : Int) : EV G (Tb (bs bb)) 154 [vu c] [] = some (vb (legB c), []) := by
  refine EV_run rfl ?_
  by_cases c1 : c < 32
  · rw [show legB c = false from decide_eq_false (fun h => by omega)]
    simp (disch := omega) only [go_sem, Nat.reduceAdd, Nat.reduceSub, Nat.reduceMul, Nat.reduceLeDiff, Nat.reduceEqDiff, h154c, c1]
  · by_cases c2 : c > 126
    · rw [show legB c = false from decide_eq_false (fun h => by omega)]
      simp (disch := omega) only [go_sem, Nat.reduceAdd, Nat.reduceSub, Nat.reduceMul, Nat.reduceLeDiff, Nat.reduceEqDiff, h154c, c1, c2]
    · have hr : (⟨#[34, 42, 47, 58, 60, 62, 63, 92, 124]⟩ : ByteArray) = str refB := rfl
      have hBr : Byts refB := byts_c refB (by decide)
      simp (disch := omega) only [go_sem, Nat.reduceAdd, Nat.reduceSub, Nat.reduceMul, Nat.reduceLeDiff, Nat.reduceEqDiff, h154c, c1, c2, hr]
      rw [EL_fst (fun k => ⟨(vu c :: jk 2 (vi k :: jk 14 [])), []⟩) (fun k => refB.getD k 0 = c) 9 ?_ ?_]
      rotate_left
      · rfl
      · intro k hk hn
        have h1 := hn k (Nat.le_refl _)
        obtain ⟨h2, h3⟩ := at_s refB hBr k hk
        rw [getDI refB k hk] at h1
        simp (disch := omega) only [go_sem, Nat.reduceAdd, Nat.reduceSub, Nat.reduceMul, Nat.reduceLeDiff, Nat.reduceEqDiff, h154l0, hr, h2, h3, h1, Option.map_some]
      obtain ⟨hk, hp, hn⟩ := ix_spec (fun k => refB.getD k 0 = c) 9
      generalize ix (fun k => refB.getD k 0 = c) 9 = k at *
      rcases hp with rfl | ⟨hk', hp⟩
      · have hm : c ∉ refB := by
          intro hm
          obtain ⟨j, hj, e⟩ := List.mem_iff_getElem.1 hm
          exact hn j hj (by rw [getDI refB j hj]; exact e)
        rw [show legB c = true from decide_eq_true ⟨by omega, by omega, hm⟩]
        simp (disch := omega) only [go_sem, Nat.reduceAdd, Nat.reduceSub, Nat.reduceMul, Nat.reduceLeDiff, Nat.reduceEqDiff, h154l0, hr]
      · have hm : c ∈ refB := by
          rw [getDI refB k hk'] at hp
          rw [← hp]; exact List.getElem_mem _
        obtain ⟨h2, h3⟩ := at_s refB hBr k hk'
        rw [getDI refB k hk'] at hp
        rw [hp] at h2 h3
        rw [show legB c = false from decide_eq_false (fun h => h.2.2 hm)]
        simp (disch := omega) only [go_sem, Nat.reduceAdd, Nat.reduceSub, Nat.reduceMul, Nat.reduceLeDiff, Nat.reduceEqDiff, h154l0, hr, h2, h3, Option.map_some]
theorem nameR_v (l : List Int) (hB : Byts l) (hl : l.length ≤ 1000000) : EV G (Tb (bs bb)) 114 [sv l] [] = some (vi (if l.length > 32 then 8 else if nmOK l then 0 else 4), []) := by
  refine EV_run rfl ?_
  have e0 := str_inj hB byts_nil
  have e1 := str_inj hB (byts_c [46, 46] (by decide))
  have e2 := str_inj hB (byts_c [46] (by decide))
  by_cases c0 : l.length > 32
  · rw [if_pos c0]
    simp (disch := omega) only [go_sem, Nat.reduceAdd, Nat.reduceSub, Nat.reduceMul, Nat.reduceLeDiff, Nat.reduceEqDiff, h114c, c0]
  · rw [if_neg c0]
    by_cases c1 : l = []
    · rw [if_neg (fun h : nmOK l => h.1 c1)]
      simp (disch := omega) only [go_sem, Nat.reduceAdd, Nat.reduceSub, Nat.reduceMul, Nat.reduceLeDiff, Nat.reduceEqDiff, h114c, c0, str_nil, s46, s1_46, e0, c1]
    · have hp : 1 ≤ l.length := by have := List.length_pos_iff.2 c1; omega
      have eg : l.getLast? = some l[l.length - 1] := by rw [List.getLast?_eq_getElem?, List.getElem?_eq_getElem (by omega)]
      obtain ⟨hx, hx2⟩ := at_s l hB (l.length - 1) (by omega)
      by_cases c2 : l = [46]
      · rw [if_neg (fun h : nmOK l => h.2.2.2.2.2 (by rw [c2]; rfl))]
        replace c2 := eq_true c2
        simp (disch := omega) only [go_sem, Nat.reduceAdd, Nat.reduceSub, Nat.reduceMul, Nat.reduceLeDiff, Nat.reduceEqDiff, h114c, c0, str_nil, s46, s1_46, e0, c1, e2, c2]
      · by_cases c3 : l = [46, 46]
        · rw [if_neg (fun h : nmOK l => h.2.2.2.1 c3)]
          replace c3 := eq_true c3
          simp (disch := omega) only [go_sem, Nat.reduceAdd, Nat.reduceSub, Nat.reduceMul, Nat.reduceLeDiff, Nat.reduceEqDiff, h114c, c0, str_nil, s46, s1_46, e0, c1, e2, c2, e1, c3]
        · by_cases c4 : l[l.length - 1] = 32
          · rw [if_neg (fun h : nmOK l => h.2.2.2.2.1 (by rw [eg, c4]))]
            rw [c4] at hx hx2
            simp (disch := omega) only [go_sem, Nat.reduceAdd, Nat.reduceSub, Nat.reduceMul, Nat.reduceLeDiff, Nat.reduceEqDiff, h114c, c0, str_nil, s46, s1_46, e0, c1, e2, c2, e1, c3, toNat_sub1, hx, hx2, Option.map_some]
          · by_cases c5 : l[l.length - 1] = 46
            · rw [if_neg (fun h : nmOK l => h.2.2.2.2.2 (by rw [eg, c5]))]
              rw [c5] at hx hx2
              simp (disch := omega) only [go_sem, Nat.reduceAdd, Nat.reduceSub, Nat.reduceMul, Nat.reduceLeDiff, Nat.reduceEqDiff, h114c, c0, str_nil, s46, s1_46, e0, c1, e2, c2, e1, c3, toNat_sub1, hx, hx2, Option.map_some]
            · have hnm : nmOK l ↔ allB l = true := by
                exact ⟨fun h => h.2.2.1, fun h => ⟨c1, by omega, h, c3, by rw [eg]; simpa using c4, by rw [eg]; simpa using c5⟩⟩
              simp (disch := omega) only [go_sem, Nat.reduceAdd, Nat.reduceSub, Nat.reduceMul, Nat.reduceLeDiff, Nat.reduceEqDiff, h114c, c0, str_nil, s46, s1_46, e0, c1, e2, c2, e1, c3, hx, hx2, Option.map_some, c4, c5]
              rw [EL_fst (fun k => ⟨(sv l :: jk 2 (vi k :: jk 40 [])), []⟩) (fun k => ¬ legB (l.getD k 0) = true) l.length ?_ ?_]
              rotate_left
              · rfl
              · intro k hk hn
                have h1 := hn k (Nat.le_refl _)
                obtain ⟨h2, h4⟩ := at_s l hB k hk
                rw [getDI l k hk] at h1
                have h3 := legal_v (G := G) (bb := bb) l[k]
                rw [Classical.not_not.1 h1] at h3
                simp (disch := omega) only [go_sem, Nat.reduceAdd, Nat.reduceSub, Nat.reduceMul, Nat.reduceLeDiff, Nat.reduceEqDiff, h114l0, h2, h3, h4, Option.map_some]
              obtain ⟨hk, hq, hn⟩ := ix_spec (fun k => ¬ legB (l.getD k 0) = true) l.length
              generalize ix (fun k => ¬ legB (l.getD k 0) = true) l.length = k at *
              rcases hq with rfl | ⟨hk', hq⟩
              · have ha : allB l = true := by
                  unfold allB
                  rw [List.all_eq_true]
                  intro x hx
                  obtain ⟨j, hj, rfl⟩ := List.mem_iff_getElem.1 hx
                  have := hn j hj
                  rw [getDI l j hj] at this
                  exact Classical.not_not.1 this
                rw [if_pos (hnm.2 ha)]
                simp (disch := omega) only [go_sem, Nat.reduceAdd, Nat.reduceSub, Nat.reduceMul, Nat.reduceLeDiff, Nat.reduceEqDiff, h114l0]
              · have ha : ¬ allB l = true := by
                  intro ha
                  rw [getDI l k hk'] at hq
                  exact hq (List.all_eq_true.1 ha _ (List.getElem_mem hk'))
                obtain ⟨h2, h4⟩ := at_s l hB k hk'
                rw [getDI l k hk'] at hq
                have h3 := legal_v (G := G) (bb := bb) l[k]
                rw [(by simpa using hq : legB l[k] = false)] at h3
                rw [if_neg (fun h => ha (hnm.1 h))]
                simp (disch := omega) only [go_sem, Nat.reduceAdd, Nat.reduceSub, Nat.reduceMul, Nat.reduceLeDiff, Nat.reduceEqDiff, h114l0, h2, h3, h4, Option.map_some]
theorem isName_v (l : List Int) (hB : Byts l) (hl : l.length ≤ 1000000) : EV G (Tb (bs bb)) 50 [sv l] [] = some (vb (nmB l), []) := by
  refine EV_run rfl ?_
  have e0 := str_inj hB byts_nil
  have h1 := nameR_v (G := G) (bb := bb) l hB hl
  by_cases c0 : l = []
  · rw [show nmB l = true from decide_eq_true (.inl c0)]
    simp (disch := omega) only [go_sem, Nat.reduceAdd, Nat.reduceSub, Nat.reduceMul, Nat.reduceLeDiff, Nat.reduceEqDiff, h50c, str_nil, e0, c0]
  · by_cases c1 : nmOK l
    · rw [show nmB l = true from decide_eq_true (.inr c1)]
      have c2 := c1.2.1
      rw [if_pos c1, if_neg (by omega)] at h1
      simp (disch := omega) only [go_sem, Nat.reduceAdd, Nat.reduceSub, Nat.reduceMul, Nat.reduceLeDiff, Nat.reduceEqDiff, h50c, str_nil, e0, c0, h1]
    · rw [show nmB l = false from decide_eq_false (fun h => h.elim c0 c1)]
      rw [if_neg c1] at h1
      by_cases c2 : l.length > 32
      · rw [if_pos c2] at h1
        simp (disch := omega) only [go_sem, Nat.reduceAdd, Nat.reduceSub, Nat.reduceMul, Nat.reduceLeDiff, Nat.reduceEqDiff, h50c, str_nil, e0, c0, h1]
        rfl
      · rw [if_neg c2] at h1
        simp (disch := omega) only [go_sem, Nat.reduceAdd, Nat.reduceSub, Nat.reduceMul, Nat.reduceLeDiff, Nat.reduceEqDiff, h50c, str_nil, e0, c0, h1]
        rfl
end
end Go.Proofs.YtmognenhkecngaaGreatDoor
