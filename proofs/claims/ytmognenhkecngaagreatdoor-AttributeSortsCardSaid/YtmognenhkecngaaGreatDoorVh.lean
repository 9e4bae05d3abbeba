/- The reference's checks. Conditions: none. -/
import Derived.Test.YtmognenhkecngaaGreatDoorVb
namespace Go.Proofs.YtmognenhkecngaaGreatDoor
set_option linter.unusedSimpArgs false
set_option linter.unusedVariables false
set_option maxRecDepth 4000
section
variable {G : Glob} {B : CallT}
theorem first2 (a b : Int) : EV G (Tb B) 158 [vl [[ci a], [ci b]]] [] = some (vi (firstE [a, b]), []) := first_v [a, b] (by simp)
theorem first3 (a b c : Int) : EV G (Tb B) 158 [vl [[ci a], [ci b], [ci c]]] [] = some (vi (firstE [a, b, c]), []) := first_v [a, b, c] (by simp)
theorem length_v (l : List Run) (hl : l.length ≤ 1000000) : EV G (Tb B) 119 [runsV l] [] = some (vi (lenW l), []) := by
  refine EV_run rfl ?_
  simp (disch := omega) only [go_sem, h119c, List.length_map]
  rw [EL_loop (fun k => ⟨(jk 3 (vi (lenW (l.take k)) :: jk 2 (runsV l :: vi l.length :: vi k :: jk 9 []))), []⟩) l.length ?_ ?_]
  · simp (disch := omega) only [go_sem, h119l0, List.take_length]
  · rfl
  · intro k hk
    rw [lenW_take l k hk]
    simp (disch := omega) only [go_sem, h119l0, List.length_map, Run.e]
theorem joins_v (q r : Run) (h : -9223372036854775808 ≤ q.s + q.n ∧ q.s + q.n ≤ 9223372036854775807) : EV G (Tb B) 116 [q.v, r.v] [] = some (vb (joinsB q r), []) := by
  refine EV_run rfl ?_
  unfold joinsB
  by_cases h1 : q.s = -1
  all_goals by_cases h2 : r.s = -1
  all_goals simp (disch := omega) only [go_sem, h116c, isHole_v, h1, h2]
  all_goals simp [h1, h2]
theorem load_bx (U : List Bool) (k : Nat) (h : k < U.length) : ((U.map bC).drop k).take 1 = [.dc (.raw (.bool U[k]))] := box_load U k _ (List.getElem?_eq_getElem h)
theorem put_bx (U : List Bool) (k : Nat) (b : Bool) (h : k < U.length) : putAt (U.map bC) k [.dc (.raw (.bool b))] = (U.set k b).map bC := box_put U k b h
theorem ct_bx (m : Nat) (U : List Bool) : ctCs m (U.map bC) = U.map bC := by rw [ctCs_eq, killM]
theorem ids_bx (U : List Bool) : idsL (U.map bC) = [] := by
  induction U with
  | nil => rfl
  | cons b U ih => rw [List.map_cons, idsL, ih]; rfl
theorem kp_bx (J : List Nat) (U : List Bool) : kpCs J (U.map bC) = true := by
  induction U with
  | nil => rfl
  | cons b U ih => rw [List.map_cons, kpCs, ih]; rfl
theorem rn_bx (ρ : Nat → Nat) (U : List Bool) : (U.map bC).map (renC ρ) = U.map bC := by
  induction U with
  | nil => rfl
  | cons b U ih => rw [List.map_cons, List.map_cons, ih]; rfl
attribute [go_sem] killM ct_bx ids_bx kp_bx rn_bx
theorem take_v (U : List Bool) (r : Run) (hU : U.length = 512) (h : Vol r) : EV G (Tb B) 117 [.one (.ptr 0 0), r.v] [bx U] = some (vb (r.fresh U), [bx (r.into U)]) := by
  refine EV_run rfl ?_
  rcases h with ⟨h1, _⟩ | ⟨h1, h2, h3⟩
  · simp (disch := omega) only [go_sem, h117c, isHole_v, Run.fresh, Run.into]
  · obtain ⟨s, hs⟩ : ∃ s : Nat, r.s = s := ⟨r.s.toNat, by omega⟩
    obtain ⟨n, hn⟩ : ∃ n : Nat, r.n = n := ⟨r.n.toNat, by omega⟩
    simp (disch := omega) only [go_sem, h117c, isHole_v, Run.fresh, Run.into, hs, hn]
    rw [EL_loop (fun k => ⟨(.one (.ptr 0 0) :: jk 2 (.one (.ptr 1 0) :: jk 1 (vb (freshR U s k) :: vi (s + k : Nat) :: jk 27 []))), [bx (setR U s k), .box [.dc (ci s), .dc (ci n)]]⟩) n ?_ ?_]
    · simp (disch := omega) only [go_sem, h117l0]
    · rfl
    · intro k hk
      have hl := setR_len U s k
      rw [freshR_succ, setR]
      have getE : (setR U s k)[s + k]'(by omega) = U.getD (s + k) false := by
        have := setR_get U s k (s + k) (Nat.le_refl _)
        rw [List.getElem?_eq_getElem (by omega)] at this
        rw [List.getD_eq_getElem?_getD, ← this]; rfl
      cases hf : freshR U s k
      all_goals simp (disch := omega) only [go_sem, h117l0, load_bx, put_bx, getE]
end
section
variable {G : Glob} {B : CallT}
theorem U0_box : List.replicate 512 (Cel.dc (.raw (.bool false))) = U0.map bC := by rw [U0, List.map_replicate]; rfl
theorem chkL_to (l : List Run) (k : Nat) (hk : k ≤ l.length) (h : ∀ j, j < k → ¬ stepE (prevK l j) (Uk l j) (l.getD j ⟨0, 0⟩) ≠ 0) : chkL l l none U0 0 = chkL l (l.drop k) (prevK l k) (Uk l k) k := by
  induction k with
  | zero => rfl
  | succ k ih =>
    have e : l.getD k ⟨0, 0⟩ = l[k] := by simp [List.getD_eq_getElem?_getD, List.getElem?_eq_getElem (show k < l.length by omega)]
    have := h k (Nat.lt_succ_self k)
    rw [e] at this
    rw [ih (by omega) (fun j hj => h j (by omega)), chkL_at (by omega), if_neg this, Uk_succ l k (by omega)]
    simp [prevK, List.getElem?_eq_getElem (show k < l.length by omega)]
theorem runAt (l : List Run) (k : Nat) (h : k < l.length) : l.getD k ⟨0, 0⟩ = l[k] := by simp [List.getD_eq_getElem?_getD, List.getElem?_eq_getElem h]
theorem rE_vol1 {r : Run} (h : rangeE r.s r.n = 0) : Vol r := by
  rcases rangeE_ok h with ⟨h1, h2, h3⟩ | ⟨s, n, h1, h2, h3, h4⟩
  · exact .inl ⟨h1, by omega⟩
  · exact .inr ⟨by omega, by omega, by omega⟩
theorem stepE_rg {l : List Run} {k : Nat} (U : List Bool) (hk : k < l.length) (h : ¬ stepE (prevK l k) U (l.getD k ⟨0, 0⟩) ≠ 0) : rangeE l[k].s l[k].n = 0 ∧ ¬ (0 < k ∧ joinsB (l[k-1]'(by omega)) l[k] = true) ∧ l[k].fresh U = true := by
  rw [runAt l k hk, stepE_at U hk] at h
  by_cases h1 : rangeE l[k].s l[k].n ≠ 0
  · rw [if_pos h1] at h; exact absurd h1 h
  · rw [if_neg h1] at h
    by_cases h2 : 0 < k ∧ joinsB (l[k-1]'(by omega)) l[k] = true
    · rw [if_pos h2] at h; exact absurd (by decide) h
    · rw [if_neg h2] at h
      cases h3 : l[k].fresh U
      · rw [h3] at h; exact absurd (by decide) h
      · exact ⟨by omega, h2, rfl⟩
theorem check_v (l : List Run) : EV G (Tb B) 58 [runsV l] [] = some (.tup [.one (.dc (ci (chk l).1)), .one (.dc (ci (chk l).2))], []) := by
  refine EV_run rfl ?_
  by_cases hl : (l.length : Int) > 64
  · simp only [chk, if_pos hl]
    simp (disch := omega) only [go_sem, h58c, List.length_map]
  · simp only [chk, if_neg hl]
    simp (disch := omega) only [go_sem, h58c, List.length_map, List.map_replicate, U0_box]
    rw [EL_fst (fun k => ⟨(runsV l :: jk 3 (.one (.ptr 0 0) :: jk 6 (runsV l :: vi l.length :: vi k :: jk 31 []))), [bx (Uk l k)]⟩) (fun k => stepE (prevK l k) (Uk l k) (l.getD k ⟨0, 0⟩) ≠ 0) l.length ?_ ?_]
    rotate_left
    · rfl
    · intro k hk hn
      obtain ⟨h1, h2, h3⟩ := stepE_rg _ hk (hn k (Nat.le_refl _))
      have hv := rE_vol1 h1
      have hU := Uk_len l k
      have hT := take_v (G := G) (B := B) (Uk l k) l[k] hU hv
      rw [h3] at hT
      rw [Uk_succ l k hk]
      by_cases h0 : 0 < k
      · have hj : joinsB (l[k-1]'(by omega)) l[k] = false := by simpa [h0] using h2
        have hb : rangeE (l[k-1]'(by omega)).s (l[k-1]'(by omega)).n = 0 := (stepE_rg _ (by omega) (hn (k-1) (by omega))).1
        have hb2 := bd_of hb
        simp (disch := omega) only [go_sem, h58l0, List.length_map, Run.e, rangeErr_v, h1, joins_v, hj, hT]
      · simp (disch := omega) only [go_sem, h58l0, List.length_map, Run.e, rangeErr_v, h1, hT]
    obtain ⟨hk, hp, hn⟩ := ix_spec (fun k => stepE (prevK l k) (Uk l k) (l.getD k ⟨0, 0⟩) ≠ 0) l.length
    generalize ix (fun k => stepE (prevK l k) (Uk l k) (l.getD k ⟨0, 0⟩) ≠ 0) l.length = k at *
    have hrg : ∀ (j : Nat) r, j < k → l[j]? = some r → rangeE r.s r.n = 0 := fun j r hj hr => by
      have hlt : j < l.length := by omega
      have := (stepE_rg _ hlt (hn j hj)).1
      rw [List.getElem?_eq_getElem hlt] at hr; injection hr with hr; rwa [hr] at this
    rw [chkL_to l k hk hn]
    rcases hp with rfl | ⟨hk', hp⟩
    · have hr := rg_all hrg
      have hw : lenW l = lenR l := lenW_eq l (fun r hm => by have := rE_n (hr r hm); omega) (by
        have := (lenT (l := l) (k := l.length) (by omega) hr).2
        rw [lenR_all] at this; omega)
      rw [List.drop_length, chkL]
      simp (disch := omega) only [go_sem, h58l0, List.length_map, length_v, unless_v, hw]
    · have hU := Uk_len l k
      rw [runAt l k hk'] at hp
      rw [chkL_at hk', if_pos hp]
      rw [stepE_at _ hk'] at hp ⊢
      by_cases h1 : rangeE l[k].s l[k].n = 0
      · have hT := take_v (G := G) (B := B) (Uk l k) l[k] hU (rE_vol1 h1)
        by_cases h2 : 0 < k ∧ joinsB (l[k-1]'(by omega)) l[k] = true
        · have hb2 := bd_of (hrg (k-1) (l[k-1]'(by omega)) (by omega) (List.getElem?_eq_getElem _))
          simp (disch := omega) only [go_sem, h58l0, List.length_map, Run.e, rangeErr_v, h1, joins_v, h2]
        · have h3 : l[k].fresh (Uk l k) = false := by
            simp only [h1, ne_eq, not_true_eq_false, if_false, if_neg h2] at hp
            cases h : l[k].fresh (Uk l k)
            · rfl
            · rw [h] at hp; simp at hp
          rw [h3] at hT
          by_cases h0 : 0 < k
          · have hj : joinsB (l[k-1]'(by omega)) l[k] = false := by simpa [h0] using h2
            have hb2 := bd_of (hrg (k-1) (l[k-1]'(by omega)) (by omega) (List.getElem?_eq_getElem _))
            simp (disch := omega) only [go_sem, h58l0, List.length_map, Run.e, rangeErr_v, h1, joins_v, hj, hT, h3]
          · simp (disch := omega) only [go_sem, h58l0, List.length_map, Run.e, rangeErr_v, h1, hT, h3]
      · simp (disch := omega) only [go_sem, h58l0, List.length_map, Run.e, rangeErr_v]
end
section
variable {G : Glob} {B : CallT}
def sl1 (l : List Run) : List DC := [.slc (l.map Run.e)]
theorem errs_at (L : List (List Run)) (k : Nat) (hk : k < L.length) : ((L.map fun l => (chk l).2).getD k 0) = (chk L[k]).2 := by simp [List.getD_eq_getElem?_getD, List.getElem?_eq_getElem hk]
theorem runsErr_v (L : List (List Run)) (hL : L.length ≤ 1000) : EV G (Tb B) 126 [vl (L.map sl1)] [] = some (vi (errsE L), []) := by
  refine EV_run rfl ?_
  simp (disch := omega) only [go_sem, h126c, List.length_map]
  rw [EL_fst (fun k => ⟨(jk 7 (vl (L.map sl1) :: vi L.length :: vi k :: jk 12 [])), []⟩) (fun k => (L.map fun l => (chk l).2).getD k 0 ≠ 0) L.length ?_ ?_]
  rotate_left
  · rfl
  · intro k hk hn
    have h1 := hn k (Nat.le_refl _)
    rw [errs_at L k hk] at h1
    simp (disch := omega) only [go_sem, h126l0, List.length_map, sl1, check_v]
  obtain ⟨hk, hp, hn⟩ := ix_spec (fun k => (L.map fun l => (chk l).2).getD k 0 ≠ 0) L.length
  generalize ix (fun k => (L.map fun l => (chk l).2).getD k 0 ≠ 0) L.length = k at *
  unfold errsE
  rcases hp with rfl | ⟨hk', hp⟩
  · rw [firstE_none _ (by simpa using hn)]
    simp (disch := omega) only [go_sem, h126l0, List.length_map]
  · rw [firstE_at _ k (by simpa using hk') hn hp]
    rw [errs_at L k hk'] at hp
    simp (disch := omega) only [go_sem, h126l0, List.length_map, sl1, check_v, List.getElem_map]
theorem errs1_v (a : List Run) : EV G (Tb B) 126 [vl [[.slc (a.map Run.e)]]] [] = some (vi (errsE [a]), []) := runsErr_v [a] (by simp)
theorem map_snoc (l : List Run) (s n : Int) : l.map Run.e ++ [[.raw (.int .i64 s), .raw (.int .i64 n)]] = (l ++ [(⟨s, n⟩ : Run)]).map Run.e := by simp [Run.e, ci]
theorem e_len (r : Run) : (Run.e r).length = 2 := rfl
theorem all_run (l : List Run) : allLen 2 (l.map Run.e) = true := allLen_map e_len l
attribute [go_sem] all_run
theorem add_v (R : List Run) (r : Run) (hR : Good R) (hr : 0 ≤ r.n ∧ r.n ≤ 1000000000) : EV G (Tb B) 200 [.one (.ptr 0 0), r.v] [.box [.bld 1 R.length], .arr 0 2 (R.map Run.e)] = some (.tup [], [.box [.bld 1 (addR R r).length], .arr 0 2 ((addR R r).map Run.e)]) := by
  refine EV_run rfl ?_
  have hn := hR.len
  by_cases h0 : R = []
  · subst h0
    simp only [List.length_nil, List.map_nil, addR_nil]
    simp (disch := omega) only [go_sem, h200c, List.map_cons, List.map_nil, Run.e]
  · obtain ⟨R', q, hR', hget, hpos, hset⟩ := snoc_facts h0
    have hq := (hR' ▸ hR).last
    have ha := addR_snoc R' q r
    rw [← hR'] at ha
    have hnn : R.length = R'.length + 1 := by simp [hR']
    cases hj : joinsB q r
    · rw [hj] at ha
      simp (disch := omega) only [go_sem, h200c, List.length_map, joins_v, hj, ha, Run.e, hget, map_snoc, List.length_append]
    · rw [hj] at ha
      have hb : -9223372036854775808 ≤ q.n + r.n ∧ q.n + r.n ≤ 9223372036854775807 := by have := hr; omega
      simp (disch := omega) only [go_sem, h200c, List.length_map, joins_v, hj, ha, Run.e, hget, hset, List.length_append, ← hnn]
theorem addAll_v (R l : List Run) (hR : Fine R) (hl : Fine l) : EV G (Tb B) 159 [.one (.ptr 0 0), runsV l] [.box [.bld 1 R.length], .arr 0 2 (R.map Run.e)] = some (.tup [], [.box [.bld 1 (addL R l).length], .arr 0 2 ((addL R l).map Run.e)]) := by
  refine EV_run rfl ?_
  have hln := hl.len
  simp (disch := omega) only [go_sem, h159c, List.length_map]
  rw [EL_loop (fun k => ⟨(.one (.ptr 0 0) :: jk 5 (runsV l :: vi l.length :: vi k :: jk 7 [])), [.box [.bld 1 (addL R (l.take k)).length], .arr 0 2 ((addL R (l.take k)).map Run.e)]⟩) l.length ?_ ?_]
  · simp (disch := omega) only [go_sem, h159l0, List.take_length]
  · rfl
  · intro k hk
    have hG := addL_goodK hR hl k
    have h1 := hl.el _ (List.getElem_mem hk)
    have h2 := hl.n_le (List.getElem_mem hk)
    have hT := add_v (G := G) (B := B) (addL R (l.take k)) l[k] hG (by omega)
    rw [addL_take R l k hk]
    simp (disch := omega) only [go_sem, h159l0, List.length_map, Run.e, hT]
end
section
variable {G : Glob} {B : CallT}
def objsD (R : List Run) : List AObj := if doneE R = 0 then [.box [.dc (.slc (R.map Run.e))], .dead] else [.box [.bld 1 R.length], .arr 0 2 (R.map Run.e)]
theorem done_v (R : List Run) (hv : ∀ r ∈ R, Vol r) (hl : R.length ≤ 100000) :
    EV G (Tb B) 160 [.one (.ptr 0 0)] [.box [.bld 1 R.length], .arr 0 2 (R.map Run.e)] = some (.tup [.one (.dc (.slc ((if doneE R = 0 then R else []).map Run.e))), .one (.dc (ci (doneE R)))], objsD R) := by
  refine EV_run rfl ?_
  simp (disch := omega) only [go_sem, h160c, List.length_map, List.map_replicate, U0_box]
  rw [EL_loop (fun k => ⟨(.one (.ptr 0 0) :: jk 3 (.one (.ptr 2 0) :: vb (frK R k) :: jk 6 (.one (.bld 1 R.length) :: vi R.length :: vi k :: jk 35 []))), [.box [.bld 1 R.length], .arr 0 2 (R.map Run.e), bx (intoL U0 (R.take k))]⟩) R.length ?_ ?_]
  · have hd : doneE R = firstE [if frK R R.length = true then 0 else 23, if lenW R ≤ 4096 ∧ (R.length : Int) ≤ 64 then 0 else 8] := rfl
    unfold objsD
    by_cases h1 : lenW R ≤ 4096
    all_goals by_cases h2 : (R.length : Int) ≤ 64
    all_goals
      simp only [h1, h2, true_and, and_true, if_true, if_false, and_false, false_and] at hd
      by_cases hz : doneE R = 0
    all_goals
      rw [hd] at hz
      simp only [hd]
      simp (disch := omega) only [go_sem, h160l0, List.length_map, unless_v, length_v, h1, h2, first2]
    all_goals first | done | (simp only [hz]; done) | (simp only [if_pos hz, hz]; done) | simp only [if_neg hz]
  · rfl
  · intro k hk
    have h0 : (intoL U0 (R.take k)).length = 512 := by rw [intoL_len]; exact U0_len
    have hf := frK_succ R k hk
    have hT := take_v (G := G) (B := B) (intoL U0 (R.take k)) R[k] h0 (hv _ (List.getElem_mem hk))
    rw [intoL_take U0 R k hk]
    cases hfr : R[k].fresh (intoL U0 (R.take k))
    all_goals
      rw [hfr] at hT
      simp only [hfr, Bool.true_and, Bool.false_and] at hf
      simp (disch := omega) only [go_sem, h160l0, List.length_map, Run.e, hT, hf]
theorem made_v (L : List (List Run)) (hL : L.length ≤ 1000) (h : Fine L.flatten) (hv : ∀ r ∈ addL [] L.flatten, Vol r) :
    EV G (Tb B) 124 [vl (L.map sl1)] [] = some (.tup [.one (.dc (.slc ((madeV L).1.map Run.e))), .one (.dc (ci (madeV L).2))], []) := by
  refine EV_run rfl ?_
  simp (disch := omega) only [go_sem, h124c, List.length_map]
  rw [EL_loop (fun k => ⟨(jk 4 (.one (.ptr 0 0) :: jk 2 (vl (L.map sl1) :: vi L.length :: vi k :: jk 9 []))), [.box [.bld 1 (addL [] (L.take k).flatten).length], .arr 0 2 ((addL [] (L.take k).flatten).map Run.e)]⟩) L.length ?_ ?_]
  · rw [List.take_length]
    have hlR : (addL [] L.flatten).length ≤ 100000 := h.add.len
    have hd := done_v (G := G) (B := B) (addL [] L.flatten) hv hlR
    unfold madeV
    unfold objsD at hd
    generalize addL [] L.flatten = R at hd ⊢
    by_cases h0 : doneE R = 0
    all_goals simp only [h0, if_true, if_false] at hd ⊢
    all_goals simp (disch := omega) only [go_sem, h124l0, List.length_map, hd, h0]
  · rfl
  · intro k hk
    obtain ⟨n, hn⟩ := flat_take (L := L) k
    have hF : Fine (addL [] (L.take k).flatten) := by rw [hn]; exact (h.take n).add
    have hx : (L.take (k + 1)).flatten = (L.take k).flatten ++ L[k] := by rw [List.take_succ_eq_append_getElem hk]; simp only [List.flatten_append, List.flatten_cons, List.flatten_nil, List.append_nil]
    have hT := addAll_v (G := G) (B := B) (addL [] (L.take k).flatten) L[k] hF (h.flat _ (List.getElem_mem hk))
    rw [hx, addL_app]
    simp (disch := omega) only [go_sem, h124l0, List.length_map, sl1, hT]
theorem part_v (l : List Run) (a c : Int) (hl : Fine l) (ha : 0 ≤ a ∧ a ≤ 1000000000) (hc : 0 ≤ c ∧ c ≤ 1000000000) : EV G (Tb B) 125 [runsV l, vi a, vi c] [] = some (runsV (partR l a c), []) := by
  refine EV_run rfl ?_
  have hln := hl.len
  simp (disch := omega) only [go_sem, h125c, List.length_map]
  rw [EL_loop (fun k => ⟨(jk 1 (vi (partK l a c k).1 :: vi (partK l a c k).2.1 :: jk 4 (.one (.bld 0 (partK l a c k).2.2.length) :: jk 5 (runsV l :: vi l.length :: vi k :: jk 37 [])))), [.arr 0 2 ((partK l a c k).2.2.map Run.e)]⟩) l.length ?_ ?_]
  · rw [partR_eq]
    simp (disch := omega) only [go_sem, h125l0, List.length_map]
  · rfl
  · intro k hk
    have hx := partK_succ l a c k hk
    have hb := partK_ok l a c ha.1 hc.1 (fun r hr => (hl.el r hr).2.2) k (by omega)
    have h1 := hl.el _ (List.getElem_mem hk)
    have h2 := hl.n_le (List.getElem_mem hk)
    rw [hx]
    generalize partK l a c k = s at hb ⊢
    obtain ⟨s1, s2, R⟩ := s
    simp only at hb
    simp only [pst]
    by_cases c1 : l[k].n < s1
    · by_cases c2 : l[k].n - l[k].n < s2
      all_goals simp (disch := omega) only [go_sem, h125l0, List.length_map, Run.e, isHole_v]
    · by_cases c2 : l[k].n - s1 < s2
      · by_cases c3 : l[k].n - s1 = 0
        · simp (disch := omega) only [go_sem, h125l0, List.length_map, Run.e, isHole_v]
        · by_cases c4 : l[k].s = -1
          all_goals simp (disch := omega) only [go_sem, h125l0, List.length_map, Run.e, isHole_v, map_snoc, List.length_append]
      · by_cases c3 : s2 = 0
        · simp (disch := omega) only [go_sem, h125l0, List.length_map, Run.e, isHole_v]
        · by_cases c4 : l[k].s = -1
          all_goals simp (disch := omega) only [go_sem, h125l0, List.length_map, Run.e, isHole_v, map_snoc, List.length_append]
end
section
variable {G : Glob} {B : CallT}
theorem made1_v (a : List Run) (h : Fine [a].flatten) (hv : ∀ r ∈ addL [] [a].flatten, Vol r) : EV G (Tb B) 124 [vl [[.slc (a.map Run.e)]]] [] = some (.tup [.one (.dc (.slc ((madeV [a]).1.map Run.e))), .one (.dc (ci (madeV [a]).2))], []) := made_v [a] (by simp) h hv
theorem cutErr_v (l : List Run) (a c : Int) (hl : l.length ≤ 1000000) : EV G (Tb B) 123 [runsV l, vi a, vi c] [] = some (vi (cutE l a c), []) := by
  refine EV_run rfl ?_
  unfold cutE
  by_cases h1 : 0 ≤ a ∧ a ≤ 4096
  all_goals by_cases h2 : 0 ≤ c ∧ c ≤ 4096
  all_goals simp (disch := omega) only [go_sem, h123c, errs1_v, within_v, unless_v, length_v, first3]
theorem cut_v (l : List Run) (a c : Int) (hl : l.length ≤ 1000000) : EV G (Tb B) 73 [runsV l, vi a, vi c] [] = some (.tup [.one (.dc (.slc ((cutV l a c).1.map Run.e))), .one (.dc (ci (cutV l a c).2))], []) := by
  refine EV_run rfl ?_
  unfold cutV
  by_cases h : cutE l a c = 0
  · obtain ⟨h1, h2, h3, h4⟩ := cutE_ok h
    have hF := part_fine h1 (a := a) (c := c) h2.1 ⟨h3.1, by omega⟩
    have hV : ∀ r ∈ addL [] (partR l a c), Vol r := addL_vol (by simp) (fun q hq => ((part_all h1 h2.1 h3.1).1 q hq).1)
    have hP := part_v (G := G) (B := B) l a c (chk_fine h1) ⟨h2.1, by omega⟩ ⟨h3.1, by omega⟩
    have hM := made1_v (G := G) (B := B) (partR l a c) (by simpa using hF) (by simpa using hV)
    simp (disch := omega) only [go_sem, h73c, cutErr_v, hP, hM, h]
  · simp (disch := omega) only [go_sem, h73c, cutErr_v, h]
end
section
variable {G : Glob} {B : CallT}
theorem within_r (n lo hi : Int) : EV G (Tb B) 51 [vi n, vi lo, vi hi] [] = some (vb (decide (lo ≤ n ∧ n ≤ hi)), []) := by
  refine EV_run rfl ?_
  by_cases h : lo ≤ n
  all_goals simp (disch := omega) only [go_sem, h51c]
  all_goals simp [h]
theorem isRun_v (s n : Int) : EV G (Tb B) 157 [rn s n] [] = some (vb (decide (rangeE s n = 0)), []) := by
  refine EV_run rfl ?_
  by_cases h1 : s = -1
  · by_cases h2 : 1 ≤ n ∧ n ≤ 4096
    all_goals simp (disch := omega) only [go_sem, h157c, within_r, rangeE]
    all_goals simp [h2]
  · by_cases h2 : 0 ≤ s ∧ s ≤ 511
    · by_cases h3 : 1 ≤ n ∧ n ≤ 512 - s
      all_goals simp (disch := omega) only [go_sem, h157c, within_r, rangeE]
      all_goals simp [h3]
    · simp (disch := omega) only [go_sem, h157c, within_r, rangeE]
      simp
theorem joins_r (q r : Run) (h : -9223372036854775808 ≤ q.s + q.n ∧ q.s + q.n ≤ 9223372036854775807) : EV G (Tb B) 128 [q.v, r.v] [] = some (vb (joinsB q r), []) := by
  refine EV_run rfl ?_
  unfold joinsB
  by_cases h1 : q.s = -1
  all_goals by_cases h2 : r.s = -1
  all_goals simp (disch := omega) only [go_sem, h128c]
  all_goals simp [h1, h2, eq_comm]
theorem shares_v (q r : Run) (h : -9223372036854775808 ≤ q.s + q.n ∧ q.s + q.n ≤ 9223372036854775807) (h' : -9223372036854775808 ≤ r.s + r.n ∧ r.s + r.n ≤ 9223372036854775807) : EV G (Tb B) 161 [q.v, r.v] [] = some (vb (sharesB q r), []) := by
  refine EV_run rfl ?_
  unfold sharesB
  by_cases h1 : q.s = -1
  · simp (disch := omega) only [go_sem, h161c]
    simp [h1]
  · by_cases h2 : r.s = -1
    · simp (disch := omega) only [go_sem, h161c]
      simp [h1, h2]
    · by_cases h3 : q.s < r.s + r.n
      all_goals simp (disch := omega) only [go_sem, h161c]
      all_goals simp [h1, h2, h3, (by simpa using h1 : (q.s != -1) = true), (by simpa using h2 : (r.s != -1) = true)]
theorem length_r (l : List Run) (hl : l.length ≤ 1000000) : EV G (Tb B) 69 [runsV l] [] = some (vi (lenW l), []) := by
  refine EV_run rfl ?_
  simp (disch := omega) only [go_sem, h69c, List.length_map]
  rw [EL_loop (fun k => ⟨(runsV l :: jk 2 (vi (lenW (l.take k)) :: vi k :: jk 14 [])), []⟩) l.length ?_ ?_]
  · simp (disch := omega) only [go_sem, h69l0, List.length_map, List.take_length]
  · rfl
  · intro k hk
    rw [lenW_take l k hk]
    simp (disch := omega) only [go_sem, h69l0, List.length_map, Run.e]
theorem doubled_v (l : List Run) (i : Nat) (hi : i < l.length) (hl : l.length ≤ 100000) (hb : ∀ (j : Nat) q, j ≤ i → l[j]? = some q → -9223372036854775808 ≤ q.s + q.n ∧ q.s + q.n ≤ 9223372036854775807) :
    EV G (Tb B) 127 [runsV l, vi i] [] = some (vb ((l.take i).any fun q => sharesB q l[i]), []) := by
  refine EV_run rfl ?_
  simp (disch := omega) only [go_sem, h127c, List.length_map]
  have hbi := hb i l[i] (Nat.le_refl _) (List.getElem?_eq_getElem hi)
  rw [EL_fst (fun k => ⟨(runsV l :: vi i :: jk 3 (vi k :: jk 14 [])), []⟩) (fun k => sharesB (l.getD k ⟨0, 0⟩) l[i] = true) i ?_ ?_]
  rotate_left
  · rfl
  · intro k hk hn
    have h1 := hn k (Nat.le_refl _)
    rw [runAt l k (by omega)] at h1
    have h1 : sharesB l[k] l[i] = false := by simpa using h1
    have hbk := hb k l[k] (by omega) (List.getElem?_eq_getElem _)
    simp (disch := omega) only [go_sem, h127l0, List.length_map, Run.e, shares_v, h1]
  obtain ⟨hk, hp, hn⟩ := ix_spec (fun k => sharesB (l.getD k ⟨0, 0⟩) l[i] = true) i
  generalize ix (fun k => sharesB (l.getD k ⟨0, 0⟩) l[i] = true) i = k at *
  rcases hp with rfl | ⟨hk', hp⟩
  · have hz : ((l.take k).any fun q => sharesB q l[k]) = false := by
      rw [List.any_eq_false]
      intro q hq
      obtain ⟨j, hj, rfl⟩ := List.mem_iff_getElem.1 hq
      have hj2 : j < k := by simp at hj; omega
      have := hn j hj2
      rw [runAt l j (by omega)] at this
      simpa using this
    simp (disch := omega) only [go_sem, h127l0, List.length_map, hz]
  · rw [runAt l k (by omega)] at hp
    have hz : ((l.take i).any fun q => sharesB q l[i]) = true := by
      rw [List.any_eq_true]
      exact ⟨l[k], List.mem_iff_getElem.2 ⟨k, by simp; omega, by simp⟩, hp⟩
    have hbk := hb k l[k] (by omega) (List.getElem?_eq_getElem _)
    simp (disch := omega) only [go_sem, h127l0, List.length_map, Run.e, shares_v, hp, hz]
theorem rchkL_to (l : List Run) (k : Nat) (hk : k ≤ l.length) (h : ∀ j, j < k → ¬ stepR l j (l.getD j ⟨0, 0⟩) ≠ 0) : rchkL l l 0 = rchkL l (l.drop k) k := by
  induction k with
  | zero => rfl
  | succ k ih =>
    have := h k (Nat.lt_succ_self k)
    rw [runAt l k (by omega)] at this
    rw [ih (by omega) (fun j hj => h j (by omega)), rchkL_at (by omega), if_neg this]
theorem stepR_rg {l : List Run} {k : Nat} (hk : k < l.length) (h : ¬ stepR l k (l.getD k ⟨0, 0⟩) ≠ 0) : rangeE l[k].s l[k].n = 0 ∧ ¬ (0 < k ∧ joinsB (l[k-1]'(by omega)) l[k] = true) ∧ ((l.take k).any fun q => sharesB q l[k]) = false := by
  rw [runAt l k hk, stepR_at hk] at h
  by_cases h1 : rangeE l[k].s l[k].n ≠ 0
  · rw [if_pos h1] at h; exact absurd (by decide) h
  · rw [if_neg h1] at h
    by_cases h2 : 0 < k ∧ joinsB (l[k-1]'(by omega)) l[k] = true
    · rw [if_pos h2] at h; exact absurd (by decide) h
    · rw [if_neg h2] at h
      cases h3 : (l.take k).any fun q => sharesB q l[k]
      · exact ⟨by omega, h2, rfl⟩
      · rw [h3] at h; exact absurd (by decide) h
theorem check_r (l : List Run) : EV G (Tb B) 121 [runsV l] [] = some (.tup [.one (.dc (ci (rchk l).1)), .one (.dc (ci (rchk l).2))], []) := by
  refine EV_run rfl ?_
  by_cases hl : (l.length : Int) > 64
  · simp only [rchk, if_pos hl]
    simp (disch := omega) only [go_sem, h121c, List.length_map]
  · simp only [rchk, if_neg hl]
    simp (disch := omega) only [go_sem, h121c, List.length_map]
    rw [EL_fst (fun k => ⟨(runsV l :: jk 3 (vi k :: jk 38 [])), []⟩) (fun k => stepR l k (l.getD k ⟨0, 0⟩) ≠ 0) l.length ?_ ?_]
    rotate_left
    · rfl
    · intro k hk hn
      obtain ⟨h1, h2, h3⟩ := stepR_rg hk (hn k (Nat.le_refl _))
      have hbd : ∀ (j : Nat) q, j ≤ k → l[j]? = some q → -9223372036854775808 ≤ q.s + q.n ∧ q.s + q.n ≤ 9223372036854775807 := fun j q hj hq => by
        have hlt : j < l.length := by omega
        have := bd_of (stepR_rg hlt (hn j hj)).1
        rw [List.getElem?_eq_getElem hlt] at hq; injection hq with hq; rwa [hq] at this
      have hD := doubled_v (G := G) (B := B) l k hk (by omega) hbd
      rw [h3] at hD
      by_cases h0 : 0 < k
      · have hj : joinsB (l[k-1]'(by omega)) l[k] = false := by simpa [h0] using h2
        have hb2 := hbd (k-1) (l[k-1]'(by omega)) (by omega) (List.getElem?_eq_getElem _)
        simp (disch := omega) only [go_sem, h121l0, List.length_map, Run.e, isRun_v, h1, joins_r, hj, hD]
      · simp (disch := omega) only [go_sem, h121l0, List.length_map, Run.e, isRun_v, h1, hD]
    obtain ⟨hk, hp, hn⟩ := ix_spec (fun k => stepR l k (l.getD k ⟨0, 0⟩) ≠ 0) l.length
    generalize ix (fun k => stepR l k (l.getD k ⟨0, 0⟩) ≠ 0) l.length = k at *
    have hrg : ∀ (j : Nat) r, j < k → l[j]? = some r → rangeE r.s r.n = 0 := fun j r hj hr => by
      have hlt : j < l.length := by omega
      have := (stepR_rg hlt (hn j hj)).1
      rw [List.getElem?_eq_getElem hlt] at hr; injection hr with hr; rwa [hr] at this
    rw [rchkL_to l k hk hn]
    rcases hp with rfl | ⟨hk', hp⟩
    · have hr := rg_all hrg
      have hw : lenW l = lenR l := lenW_eq l (fun r hm => by have := rE_n (hr r hm); omega) (by
        have := (lenT (l := l) (k := l.length) (by omega) hr).2
        rw [lenR_all] at this; omega)
      rw [List.drop_length, rchkL]
      by_cases h4 : lenR l > 4096
      all_goals simp (disch := omega) only [go_sem, h121l0, List.length_map, length_r, hw]
    · rw [runAt l k hk'] at hp
      rw [rchkL_at hk', if_pos hp]
      rw [stepR_at hk'] at hp ⊢
      by_cases h1 : rangeE l[k].s l[k].n = 0
      · have hbd : ∀ (j : Nat) q, j ≤ k → l[j]? = some q → -9223372036854775808 ≤ q.s + q.n ∧ q.s + q.n ≤ 9223372036854775807 := fun j q hj hq => by
          by_cases he : j = k
          · subst he; rw [List.getElem?_eq_getElem hk'] at hq; injection hq with hq; rw [← hq]; exact bd_of h1
          · exact bd_of (hrg j q (by omega) hq)
        have hD := doubled_v (G := G) (B := B) l k hk' (by omega) hbd
        by_cases h2 : 0 < k ∧ joinsB (l[k-1]'(by omega)) l[k] = true
        · have hb2 := hbd (k-1) (l[k-1]'(by omega)) (by omega) (List.getElem?_eq_getElem _)
          simp (disch := omega) only [go_sem, h121l0, List.length_map, Run.e, isRun_v, h1, joins_r, h2]
        · have h3 : ((l.take k).any fun q => sharesB q l[k]) = true := by
            simp only [h1, ne_eq, not_true_eq_false, if_false, if_neg h2] at hp
            cases h : (l.take k).any fun q => sharesB q l[k]
            · rw [h] at hp; simp at hp
            · rfl
          rw [h3] at hD
          by_cases h0 : 0 < k
          · have hj : joinsB (l[k-1]'(by omega)) l[k] = false := by simpa [h0] using h2
            have hb2 := hbd (k-1) (l[k-1]'(by omega)) (by omega) (List.getElem?_eq_getElem _)
            simp (disch := omega) only [go_sem, h121l0, List.length_map, Run.e, isRun_v, h1, joins_r, hj, hD, h3]
          · simp (disch := omega) only [go_sem, h121l0, List.length_map, Run.e, isRun_v, h1, hD, h3]
      · simp (disch := omega) only [go_sem, h121l0, List.length_map, Run.e, isRun_v]
theorem err_r (l : List Run) : EV G (Tb B) 67 [runsV l] [] = some (vi (chk l).2, []) := by
  refine EV_run rfl ?_
  simp (disch := omega) only [go_sem, h67c, check_r, chk_eq]
end
end Go.Proofs.YtmognenhkecngaaGreatDoor
