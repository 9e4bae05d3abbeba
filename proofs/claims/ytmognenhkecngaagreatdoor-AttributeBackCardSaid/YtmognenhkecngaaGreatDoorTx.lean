/- An attribute is decoded, by the reference. Conditions: none. -/
import Derived.Test.YtmognenhkecngaaGreatDoorUk
namespace Go.Proofs.YtmognenhkecngaaGreatDoor
section
set_option maxRecDepth 4000
set_option linter.unusedSimpArgs false
set_option linter.unusedVariables false
variable {G : Glob} {bb : Bool}
abbrev rtv (p : Att × Int) : AV := .tup [p.1.t, .one (.dc (ci p.2))]
def resA (a : Att) : Att × Int := if errA a = 0 then (a, 0) else (Att.nil, errA a)
theorem result8_v (a : Att) (hW : a.W) : EV G (Tb (bs bb)) 63 [a.v] [] = some (rtv (resA a), []) := by
  refine EV_run rfl ?_
  have q := checkA_v (G := G) (bb := bb) a hW
  unfold resA
  by_cases c : errA a = 0
  · rw [if_pos c]
    simp (disch := omega) only [go_sem, Nat.reduceAdd, Nat.reduceSub, Nat.reduceMul, Nat.reduceLeDiff, Nat.reduceEqDiff, h63c, q, c]
  · rw [if_neg c]
    simp only [Att.nil]
    simp (disch := omega) only [go_sem, Nat.reduceAdd, Nat.reduceSub, Nat.reduceMul, Nat.reduceLeDiff, Nat.reduceEqDiff, h63c, q, c, ↓blI_s, blI_o, str_nil, List.map_nil]
    rfl
/-- what an attribute becomes that is moved out -/
def outA (a : Att) (l : List Run) : Att := ⟨a.ty, a.nm, a.id, a.fl, false, [], 0, l, lenW l * 256, a.va.length, a.va.length⟩
def movO (a : Att) (l : List Run) : Att × Int := if ¬(a.res = true ∧ a.ty ∉ rtys) then (Att.nil, 20) else if (chk l).2 ≠ 0 then (Att.nil, (chk l).2) else if holeB l = true then (Att.nil, 3)
  else if lenW l ≠ ((a.va.length + 255) / 256 : Nat) then (Att.nil, 2) else resA (outA a l)
def movOV (a : Att) (l : List Run) : Att × Int := if errA a ≠ 0 then (Att.nil, errA a) else movO a l
theorem outA_W {a : Att} (hW : a.W) {l : List Run} (hl : l.length ≤ 100000) : (outA a l).W := ⟨hW.nm, byts_nil, hW.nl, Nat.zero_le _, hl⟩
theorem ty_of {a : Att} (h : errA a = 0) : a.ty ∈ tys := by
  unfold errA at h
  split at h
  · omega
  · rename_i h1; exact Classical.not_not.1 h1
set_option maxHeartbeats 4000000 in
theorem movedOut_v (a : Att) (hW : a.W) (l : List Run) (hl : l.length ≤ 100000) : EV G (Tb (bs bb)) 13 [a.v, runsV l] [] = some (rtv (movOV a l), []) := by
  refine EV_run rfl ?_
  have q := checkA_v (G := G) (bb := bb) a hW
  have q1 := check_v (G := G) (B := bs bb) l
  have q2 := result8_v (G := G) (bb := bb) (outA a l) (outA_W hW hl)
  have q3 := clone_v (G := G) (bb := bb) l (by omega)
  have q4 := clusters8_v (G := G) (bb := bb) ⟨a.ty, a.nm, a.id, a.fl, false, [], 0, l, 0, a.va.length, a.va.length⟩ (by show l.length ≤ 1000000; omega)
  have q5 := contHole_v (G := G) (bb := bb) l (by omega)
  have hvl := hW.vl
  simp only [Att.v, Att.c] at q4
  unfold movOV
  by_cases c : errA a = 0
  · rw [if_neg (fun h => h c)]
    have em := mpGet_ty a.ty
    rw [if_pos (ty_of c)] at em
    unfold movO
    by_cases c1 : a.res = true
    · simp only [Att.v, Att.c, c1] at q
      by_cases c2 : a.ty ∈ rtys
      · rw [if_pos (fun h => h.2 c2)]
        rw [decide_eq_true c2] at em
        simp only [Att.nil]
        simp (disch := omega) only [go_sem, Nat.reduceAdd, Nat.reduceSub, Nat.reduceMul, Nat.reduceLeDiff, Nat.reduceEqDiff, h13c, q, c, c1, types_v, em, unless8_u, un_t, un_f, firstE_0, firstE_n, firstE_nil, first8_2, str_nil, List.map_nil]
        rfl
      · rw [if_neg (fun h => h ⟨c1, c2⟩)]
        rw [decide_eq_false c2] at em
        by_cases c3 : (chk l).2 = 0
        · rw [if_neg (fun h => h c3)]
          obtain ⟨g1, g2, g3⟩ := chk_bd c3
          have e5 : ((a.va.length : Int) + 256 - 1).tdiv 256 = (((a.va.length + 255) / 256 : Nat) : Int) := by rw [tdiv_nn _ _ (by omega)]; omega
          cases c4 : holeB l with
          | true =>
            rw [if_pos rfl]
            rw [c4] at q5
            simp only [Att.nil]
            simp (disch := omega) only [go_sem, Nat.reduceAdd, Nat.reduceSub, Nat.reduceMul, Nat.reduceLeDiff, Nat.reduceEqDiff, h13c, q, c, c1, types_v, em, unless8_u, un_t, un_f, firstE_0, firstE_n, firstE_nil, first8_2, ↓blO_q, blO_o, str_nil, List.map_nil, q1, c3, q3, take_map_len, List.length_map, q4, q5, e5]
            rfl
          | false =>
            rw [if_neg (by decide)]
            rw [c4] at q5
            by_cases c5 : lenW l = ((a.va.length + 255) / 256 : Nat)
            · rw [if_neg (fun h => h c5)]
              generalize hp : resA (outA a l) = p at q2 ⊢
              simp only [outA, Att.v, Att.c] at q2
              obtain ⟨x, e⟩ := p
              simp (disch := omega) only [go_sem, Nat.reduceAdd, Nat.reduceSub, Nat.reduceMul, Nat.reduceLeDiff, Nat.reduceEqDiff, h13c, q, c, c1, types_v, em, unless8_u, un_t, un_f, firstE_0, firstE_n, firstE_nil, first8_2, ↓blO_q, blO_o, str_nil, List.map_nil, q1, c3, q3, take_map_len, List.length_map, q4, q5, e5, eq_true c5, q2]
            · rw [if_pos c5]
              simp only [Att.nil]
              simp (disch := omega) only [go_sem, Nat.reduceAdd, Nat.reduceSub, Nat.reduceMul, Nat.reduceLeDiff, Nat.reduceEqDiff, h13c, q, c, c1, types_v, em, unless8_u, un_t, un_f, firstE_0, firstE_n, firstE_nil, first8_2, ↓blO_q, blO_o, str_nil, List.map_nil, q1, c3, q3, take_map_len, List.length_map, q4, q5, e5, c5]
              rfl
        · rw [if_pos c3]
          simp only [Att.nil]
          simp (disch := omega) only [go_sem, Nat.reduceAdd, Nat.reduceSub, Nat.reduceMul, Nat.reduceLeDiff, Nat.reduceEqDiff, h13c, q, c, c1, types_v, em, unless8_u, un_t, un_f, firstE_0, firstE_n, firstE_nil, first8_2, str_nil, List.map_nil, q1, c3]
          rfl
    · rw [if_pos (fun h => c1 h.1)]
      have c1' : a.res = false := by simpa using c1
      simp only [Att.v, Att.c, c1'] at q
      simp only [Att.nil]
      simp (disch := omega) only [go_sem, Nat.reduceAdd, Nat.reduceSub, Nat.reduceMul, Nat.reduceLeDiff, Nat.reduceEqDiff, h13c, q, c, c1', unless8_u, un_t, un_f, firstE_0, firstE_n, firstE_nil, first8_2, str_nil, List.map_nil]
      rfl
  · rw [if_pos c]
    simp only [Att.nil]
    cases c1 : a.res with
    | true =>
      simp only [Att.v, Att.c, c1] at q
      have em := mpGet_ty a.ty
      have hmR : ∃ b, mpR false (.bool false) (mpGet tyL a.ty) = vb b := by
        rw [em]
        split
        · exact ⟨_, rfl⟩
        · exact ⟨_, rfl⟩
      by_cases ht : a.ty ∈ tys
      · rw [if_pos ht] at em
        simp (disch := omega) only [go_sem, Nat.reduceAdd, Nat.reduceSub, Nat.reduceMul, Nat.reduceLeDiff, Nat.reduceEqDiff, h13c, q, c, c1, types_v, em, unless8_u, un_t, un_f, firstE_0, firstE_n, firstE_nil, first8_2, str_nil, List.map_nil]
        rfl
      · rw [if_neg ht] at em
        simp (disch := omega) only [go_sem, Nat.reduceAdd, Nat.reduceSub, Nat.reduceMul, Nat.reduceLeDiff, Nat.reduceEqDiff, h13c, q, c, c1, types_v, em, unless8_u, un_t, un_f, firstE_0, firstE_n, firstE_nil, first8_2, str_nil, List.map_nil]
        rfl
    | false =>
      simp only [Att.v, Att.c, c1] at q
      simp (disch := omega) only [go_sem, Nat.reduceAdd, Nat.reduceSub, Nat.reduceMul, Nat.reduceLeDiff, Nat.reduceEqDiff, h13c, q, c, c1, unless8_u, un_t, un_f, firstE_0, firstE_n, firstE_nil, first8_2, str_nil, List.map_nil]
      rfl
end
section
set_option maxRecDepth 4000
set_option linter.unusedSimpArgs false
set_option linter.unusedVariables false
variable {G : Glob} {bb : Bool}
/-- where the k-th run's bytes begin -/
def raP (s : List Int) : Nat → Nat
  | 0 => 0
  | k + 1 => raP s k + 1 + (s.getD (raP s k) 0 % 16 + s.getD (raP s k) 0 / 16).toNat
noncomputable def raE (s : List Int) : Nat := ix (fun k => s.length ≤ raP s k ∨ s.getD (raP s k) 0 = 0) (s.length + 1)
noncomputable def raV (s : List Int) : List Int := if raP s (raE s) < s.length then s.take (raP s (raE s) + 1) else s
theorem raP_ge (s : List Int) : ∀ k, k ≤ raP s k
  | 0 => Nat.le_refl _
  | k + 1 => by have := raP_ge s k; rw [raP]; omega
theorem raE_spec (s : List Int) : (s.length ≤ raP s (raE s) ∨ s.getD (raP s (raE s)) 0 = 0) ∧ ∀ j, j < raE s → raP s j < s.length ∧ s.getD (raP s j) 0 ≠ 0 := by
  obtain ⟨h1, h2, h3⟩ := ix_spec (fun k => s.length ≤ raP s k ∨ s.getD (raP s k) 0 = 0) (s.length + 1)
  refine ⟨?_, fun j hj => ?_⟩
  · rcases h2 with h2 | h2
    · have := raP_ge s (raE s)
      exact .inl (by unfold raE at *; omega)
    · exact h2.2
  · have := h3 j hj
    exact ⟨by omega, fun h => this (.inr h)⟩
theorem runsAt_v (s : List Int) (hB : Byts s) (hl : s.length ≤ 1000000) : EV G (Tb (bs bb)) 141 [sv s] [] = some (sv (raV s), []) := by
  refine EV_run rfl ?_
  simp (disch := first | omega | (simp only [List.length_append, List.length_cons, List.length_nil, List.length_map, sgK_len]; omega)) only [go_sem, Nat.reduceAdd, Nat.reduceSub, Nat.reduceMul, Nat.reduceLeDiff, Nat.reduceEqDiff, h141c]
  obtain ⟨sp1, sp2⟩ := raE_spec s
  rw [EL_loop (fun k => ⟨(sv s :: jk 2 (vi (raP s k) :: jk 24 [])), []⟩) (raE s) ?_ ?_]
  rotate_left
  · rfl
  · intro k hk
    obtain ⟨h1, h2⟩ := sp2 k hk
    have hx := hB _ (List.getElem_mem h1)
    rw [getD_at s _ h1] at h2
    have e1 : (raP s (k + 1) : Int) = raP s k + (1 + s[raP s k] % 16 + s[raP s k] / 16) := by
      rw [raP, getD_at s _ h1]; omega
    have hu := u8_nat _ hx
    rw [e1]
    generalize hp : raP s k = p at *
    have a1 := and15 (s[p]'h1) hx
    simp (disch := first | omega | (simp only [List.length_append, List.length_cons, List.length_nil, List.length_map, sgK_len]; omega)) only [go_sem, Nat.reduceAdd, Nat.reduceSub, Nat.reduceMul, Nat.reduceLeDiff, Nat.reduceEqDiff, h141l0, List.getElem_map, hu, h2, a1, Int.reduceToNat, Int.reducePow, fdiv16]
  unfold raV
  generalize raP s (raE s) = p at *
  by_cases c : p < s.length
  · rw [if_pos c]
    have h2 : s.getD p 0 = 0 := sp1.elim (fun h => absurd h (by omega)) id
    have hx := hB _ (List.getElem_mem c)
    rw [getD_at s _ c] at h2
    have hu := u8_nat _ hx
    rw [h2] at hu
    simp (disch := first | omega | (simp only [List.length_append, List.length_cons, List.length_nil, List.length_map, sgK_len]; omega)) only [go_sem, Nat.reduceAdd, Nat.reduceSub, Nat.reduceMul, Nat.reduceLeDiff, Nat.reduceEqDiff, h141l0, List.getElem_map, hu, h2]
  · rw [if_neg c]
    have c' : ¬ (p : Int) < (s.length : Int) := by omega
    simp (disch := first | omega | (simp only [List.length_append, List.length_cons, List.length_nil, List.length_map, sgK_len]; omega)) only [go_sem, Nat.reduceAdd, Nat.reduceSub, Nat.reduceMul, Nat.reduceLeDiff, Nat.reduceEqDiff, h141l0, c']
theorem raV_byts {s : List Int} (h : Byts s) : Byts (raV s) := by
  unfold raV
  split
  · exact fun b hb => h b (List.mem_of_mem_take hb)
  · exact h
def dRes (s : List Int) : Bool := decide (s.getD 8 0 = 0)
def dHd (s : List Int) : Nat := if dRes s = true then 24 else 40
def dSz (s : List Int) : Nat := (gL s 9 1).toNat
def dAt (s : List Int) : Nat := (dHd s + dSz s + 7) / 8 * 8
def dNm (s : List Int) : List Int := (s.take (dHd s + dSz s)).drop (dHd s)
def dVl (s : List Int) : Nat := (gL s 16 4).toNat
def dT (s : List Int) : Att := ⟨gL s 0 4, dNm s, gL s 14 2, gL s 12 2, true, (s.take (dAt s + dVl s)).drop (dAt s), 0, [], 0, 0, 0⟩
noncomputable def dF (s : List Int) (rs : List Run) : Att := ⟨gL s 0 4, dNm s, gL s 14 2, gL s 12 2, false, [], gL s 16 4, rs, gL s 28 4, gL s 32 4, gL s 36 4⟩
noncomputable def dec1 (s : List Int) : Att × Bool := if s.length < 24 then (Att.nil, false) else if s.length < dAt s then (Att.nil, false) else
  if dRes s = true then (if s.length < dAt s + dVl s then (Att.nil, false) else (dT s, true)) else (dF s (decV (raV (s.drop (dAt s)))).1, decide ((decV (raV (s.drop (dAt s)))).2 = 0))
set_option maxHeartbeats 4000000 in
theorem decoded_v (s : List Int) (hB : Byts s) (hl : s.length ≤ 1000) : EV G (Tb (bs bb)) 93 [sv s] [] = some (.tup [(dec1 s).1.t, .one (bC (dec1 s).2)], []) := by
  refine EV_run rfl ?_
  unfold dec1
  by_cases c0 : s.length < 24
  · rw [if_pos c0]
    have c0' : (s.length : Int) < 24 := by omega
    simp only [Att.nil]
    simp (disch := first | omega | (simp only [List.length_append, List.length_cons, List.length_nil, List.length_map, sgK_len]; omega)) only [go_sem, Nat.reduceAdd, Nat.reduceSub, Nat.reduceMul, Nat.reduceLeDiff, Nat.reduceEqDiff, h93c, eq_true c0', str_nil, bC, List.map_nil]
    rfl
  rw [if_neg c0]
  have c0' : ¬ (s.length : Int) < 24 := by omega
  have g0 : EV G (Tb (bs bb)) 139 [sv s, vi 0, vi 4] [] = some (vi (gL s 0 4), []) := get_v s hB 0 4 (by omega) (by omega) (by omega)
  have g14 : EV G (Tb (bs bb)) 139 [sv s, vi 14, vi 2] [] = some (vi (gL s 14 2), []) := get_v s hB 14 2 (by omega) (by omega) (by omega)
  have g12 : EV G (Tb (bs bb)) 139 [sv s, vi 12, vi 2] [] = some (vi (gL s 12 2), []) := get_v s hB 12 2 (by omega) (by omega) (by omega)
  have g9 : EV G (Tb (bs bb)) 139 [sv s, vi 9, vi 1] [] = some (vi (gL s 9 1), []) := get_v s hB 9 1 (by omega) (by omega) (by omega)
  have g16 : EV G (Tb (bs bb)) 139 [sv s, vi 16, vi 4] [] = some (vi (gL s 16 4), []) := get_v s hB 16 4 (by omega) (by omega) (by omega)
  have b9 := gL_bd1 hB 9
  have b16 := gL_bd hB 16 4 (by omega)
  have hx := hB _ (List.getElem_mem (show 8 < s.length by omega))
  have hu := u8_nat _ hx
  have e8 : s.getD 8 0 = s[8] := getD_at s 8 (by omega)
  cases hr : dRes s with
  | true =>
    have hr8 : s[8] = 0 := by unfold dRes at hr; rw [e8] at hr; simpa using hr
    rw [hr8] at hu
    have eh : dHd s = 24 := by unfold dHd; rw [hr]; rfl
    have e9 : gL s 9 1 = (dSz s : Int) := by unfold dSz; omega
    have e16 : gL s 16 4 = (dVl s : Int) := by unfold dVl; omega
    have eA : dAt s = (24 + dSz s + 7) / 8 * 8 := by unfold dAt; rw [eh]
    have q1 := aligned_v (G := G) (bb := bb) (24 + (dSz s : Int)) (by omega)
    have eA' : al8 (24 + (dSz s : Int)) = (dAt s : Int) := by unfold al8; omega
    rw [eA'] at q1
    rw [e9] at g9 b9
    by_cases c1 : s.length < dAt s
    · rw [if_pos c1]
      have c1' : (s.length : Int) < (dAt s : Int) := by omega
      simp only [Att.nil]
      simp (disch := first | omega | (simp only [List.length_append, List.length_cons, List.length_nil, List.length_map, sgK_len]; omega)) only [go_sem, Nat.reduceAdd, Nat.reduceSub, Nat.reduceMul, Nat.reduceLeDiff, Nat.reduceEqDiff, h93c, c0', str_nil, bC, List.map_nil, Int.reduceToNat, g0, g14, g12, g9, List.getElem_map, hu, hr8, head_v, q1, eq_true c1']
      rfl
    · rw [if_neg c1]
      have c1' : ¬ (s.length : Int) < (dAt s : Int) := by omega
      rw [e16] at g16 b16
      by_cases c2 : s.length < dAt s + dVl s
      · rw [if_pos c2]
        have c2' : (s.length : Int) - (dAt s : Int) < (dVl s : Int) := by omega
        simp only [Att.nil]
        simp (disch := first | omega | (simp only [List.length_append, List.length_cons, List.length_nil, List.length_map, sgK_len]; omega)) only [go_sem, Nat.reduceAdd, Nat.reduceSub, Nat.reduceMul, Nat.reduceLeDiff, Nat.reduceEqDiff, h93c, c0', str_nil, bC, List.map_nil, Int.reduceToNat, g0, g14, g12, g9, List.getElem_map, hu, hr8, head_v, q1, c1', g16, eq_true c2']
        rfl
      · rw [if_neg c2]
        have c2' : ¬ (s.length : Int) - (dAt s : Int) < (dVl s : Int) := by omega
        simp (disch := first | omega | (simp only [List.length_append, List.length_cons, List.length_nil, List.length_map, sgK_len]; omega)) only [go_sem, Nat.reduceAdd, Nat.reduceSub, Nat.reduceMul, Nat.reduceLeDiff, Nat.reduceEqDiff, h93c, c0', str_nil, bC, List.map_nil, Int.reduceToNat, g0, g14, g12, g9, List.getElem_map, hu, hr8, head_v, q1, c1', g16, c2']
        have eT : (24 + (dSz s : Int)).toNat = 24 + dSz s := by omega
        rw [eT]
        unfold dT dNm
        rw [eh]
        rfl
  | false =>
    have hr8 : ¬ s[8] = 0 := by unfold dRes at hr; rw [e8] at hr; simpa using hr
    have eh : dHd s = 40 := by unfold dHd; rw [hr]; rfl
    have e9 : gL s 9 1 = (dSz s : Int) := by unfold dSz; omega
    have eA : dAt s = (40 + dSz s + 7) / 8 * 8 := by unfold dAt; rw [eh]
    have q1 := aligned_v (G := G) (bb := bb) (40 + (dSz s : Int)) (by omega)
    have eA' : al8 (40 + (dSz s : Int)) = (dAt s : Int) := by unfold al8; omega
    rw [eA'] at q1
    rw [e9] at g9 b9
    by_cases c1 : s.length < dAt s
    · rw [if_pos c1]
      have c1' : (s.length : Int) < (dAt s : Int) := by omega
      simp only [Att.nil]
      simp (disch := first | omega | (simp only [List.length_append, List.length_cons, List.length_nil, List.length_map, sgK_len]; omega)) only [go_sem, Nat.reduceAdd, Nat.reduceSub, Nat.reduceMul, Nat.reduceLeDiff, Nat.reduceEqDiff, h93c, c0', str_nil, bC, List.map_nil, Int.reduceToNat, g0, g14, g12, g9, List.getElem_map, hu, hr8, head_v, q1, eq_true c1']
      rfl
    · rw [if_neg c1]
      have c1' : ¬ (s.length : Int) < (dAt s : Int) := by omega
      have g28 : EV G (Tb (bs bb)) 139 [sv s, vi 28, vi 4] [] = some (vi (gL s 28 4), []) := get_v s hB 28 4 (by omega) (by omega) (by omega)
      have g32 : EV G (Tb (bs bb)) 139 [sv s, vi 32, vi 4] [] = some (vi (gL s 32 4), []) := get_v s hB 32 4 (by omega) (by omega) (by omega)
      have g36 : EV G (Tb (bs bb)) 139 [sv s, vi 36, vi 4] [] = some (vi (gL s 36 4), []) := get_v s hB 36 4 (by omega) (by omega) (by omega)
      have hd : Byts (s.drop (dAt s)) := fun b hb => hB b (List.mem_of_mem_drop hb)
      have q2 := runsAt_v (G := G) (bb := bb) (s.drop (dAt s)) hd (by rw [List.length_drop]; omega)
      have q3 := decode_v (G := G) (B := bs bb) (raV (s.drop (dAt s))) (raV_byts hd)
      simp (disch := first | omega | (simp only [List.length_append, List.length_cons, List.length_nil, List.length_map, sgK_len]; omega)) only [go_sem, Nat.reduceAdd, Nat.reduceSub, Nat.reduceMul, Nat.reduceLeDiff, Nat.reduceEqDiff, h93c, c0', str_nil, bC, List.map_nil, Int.reduceToNat, g0, g14, g12, g9, List.getElem_map, hu, hr8, head_v, q1, c1', g16, g28, g32, g36, q2, q3]
      have eT : (40 + (dSz s : Int)).toNat = 40 + dSz s := by omega
      rw [eT]
      unfold dF dNm
      rw [eh]
theorem decV_chk {s : List Int} (h : (decV s).2 = 0) : (chk (decV s).1).2 = 0 := by
  unfold decV at h ⊢
  split at h
  · exact absurd h (by decide)
  · rename_i c
    rw [if_neg c]
    unfold decZ at h ⊢
    split at h
    · exact absurd h (by decide)
    · rename_i c1
      rw [if_neg c1]
      split at h
      · rename_i c2; exact absurd h c2
      · rename_i c2
        rw [if_neg c2]
        exact Classical.not_not.1 c2
theorem dec1_dc {s : List Int} (hB : Byts s) (hl : s.length ≤ 1000) (h : (dec1 s).2 = true) : (dec1 s).1.Dc := by
  unfold dec1 at h ⊢
  split at h
  · cases h
  rename_i c0
  rw [if_neg c0]
  split at h
  · cases h
  rename_i c1
  rw [if_neg c1]
  have b9 := gL_bd1 hB 9
  have b0 := gL_bd hB 0 4 (by omega)
  have b14 := gL_bd2 hB 14
  have b12 := gL_bd2 hB 12
  have hnm : Byts (dNm s) := fun b hb => hB b (List.mem_of_mem_take (List.mem_of_mem_drop hb))
  have hnl : (dNm s).length ≤ 255 := by
    unfold dNm
    rw [List.length_drop, List.length_take]
    unfold dSz
    omega
  split at h
  · rename_i hr
    rw [if_pos hr]
    split at h
    · cases h
    · rename_i c2
      rw [if_neg c2]
      exact ⟨b0, hnm, hnl, b14, b12, fun b hb => hB b (List.mem_of_mem_take (List.mem_of_mem_drop hb)), by
        show ((s.take (dAt s + dVl s)).drop (dAt s)).length ≤ 1000
        rw [List.length_drop, List.length_take]; omega, fun _ => ⟨rfl, rfl, rfl, rfl, rfl⟩, fun g => (by cases g)⟩
  · rename_i hr
    rw [if_neg hr]
    have hd := decV_chk (by simpa using h)
    exact ⟨b0, hnm, hnl, b14, b12, byts_nil, Nat.zero_le _, fun g => (by cases g), fun _ => ⟨rfl, hd, gL_bd hB 16 4 (by omega), gL_bd hB 28 4 (by omega), gL_bd hB 32 4 (by omega), gL_bd hB 36 4 (by omega)⟩⟩
theorem byts_app {a b : List Int} (ha : Byts a) (hb : Byts b) : Byts (a ++ b) := fun x hx => (List.mem_append.1 hx).elim (ha x) (hb x)
theorem byts_rep (n : Nat) : Byts (List.replicate n 0) := fun x hx => by rw [List.eq_of_mem_replicate hx]; omega
theorem encF_byts : ∀ (l : List Run) (last : Int), Byts (encF last l)
  | [], _ => byts_nil
  | r :: l, last => by
    have s1 := sz_or r.n
    have s2 := sz_or (r.s - last)
    rw [encF, encR_ht]
    refine byts_app (fun x hx => ?_) (encF_byts l _)
    rcases List.mem_cons.1 hx with rfl | hx
    · unfold encH; split <;> omega
    · unfold encT at hx
      split at hx
      · exact sgK_byts _ _ x hx
      · exact byts_app (sgK_byts _ _) (sgK_byts _ _) x hx
theorem rfE_byts {a : Att} (h : a.Dc) : Byts (rfE a) := by
  have hb : Byts (rfb a) := by
    unfold rfb
    split
    · exact h.va
    · exact byts_app (by rw [encL_F]; exact encF_byts _ _) (byts_c _ (by decide))
  have h1 : Byts (rf1 a) := by unfold rf1; exact byts_app (byts_app (byts_app (byts_app (sgK_byts _ _) (sgK_byts _ _)) (sgK_byts _ _)) (sgK_byts _ _)) (sgK_byts _ _)
  have h2 : Byts (rf2 a) := by
    unfold rf2
    split
    · exact byts_app (byts_app h1 (sgK_byts _ _)) (sgK_byts _ _)
    · exact byts_app (byts_app (byts_app (byts_app (byts_app (byts_app (byts_app h1 (sgK_byts _ _)) (sgK_byts _ _)) (sgK_byts _ _)) (byts_rep _)) (sgK_byts _ _)) (sgK_byts _ _)) (sgK_byts _ _)
  unfold rfE rf3 fil8
  exact byts_app (byts_app (sgK_byts _ _) (sgK_byts _ _)) (byts_app (byts_app (byts_app (byts_app h2 h.nm) (byts_rep _)) hb) (byts_rep _))
theorem Att.Dc.w {a : Att} (h : a.Dc) : a.W := by
  have h1 := h.nl
  have h2 := h.vl
  refine ⟨h.nm, h.va, by omega, by omega, ?_⟩
  cases hr : a.res with
  | true => rw [(h.t hr).1]; simp
  | false => have := chk_len (h.f hr).2.1; omega
/-- an attribute of some bytes -/
noncomputable def decPV (s : List Int) : Att × Int := if s.length > 440 then (Att.nil, 8) else
  if (dec1 s).2 = false ∨ encB (dec1 s).1 ≠ s then (Att.nil, 3) else if errA (dec1 s).1 ≠ 0 then (Att.nil, errA (dec1 s).1) else ((dec1 s).1, 0)
set_option maxHeartbeats 4000000 in
theorem decodeA_v (s : List Int) (hB : Byts s) (hl : s.length ≤ 1000) : EV G (Tb (bs bb)) 37 [sv s] [] = some (rtv (decPV s), []) := by
  refine EV_run rfl ?_
  unfold decPV
  by_cases c0 : s.length > 440
  · rw [if_pos c0]
    have c0' : 440 < (s.length : Int) := by omega
    simp only [Att.nil]
    simp (disch := first | omega | (simp only [List.length_append, List.length_cons, List.length_nil, List.length_map, sgK_len]; omega)) only [go_sem, Nat.reduceAdd, Nat.reduceSub, Nat.reduceMul, Nat.reduceLeDiff, Nat.reduceEqDiff, h37c, eq_true c0', str_nil, List.map_nil]
    rfl
  rw [if_neg c0]
  have c0' : ¬ 440 < (s.length : Int) := by omega
  have q := decoded_v (G := G) (bb := bb) s hB hl
  have hdc := dec1_dc hB hl
  generalize dec1 s = d at q hdc ⊢
  obtain ⟨a, b⟩ := d
  cases b with
  | false =>
    rw [if_pos (.inl rfl)]
    simp only [Att.nil]
    simp (disch := first | omega | (simp only [List.length_append, List.length_cons, List.length_nil, List.length_map, sgK_len]; omega)) only [go_sem, Nat.reduceAdd, Nat.reduceSub, Nat.reduceMul, Nat.reduceLeDiff, Nat.reduceEqDiff, h37c, c0', str_nil, List.map_nil, q, bC]
    rfl
  | true =>
    have h := hdc rfl
    simp only at h
    have q1 := encoded_v (G := G) (bb := bb) a h.bd
    have q2 := checkA_v (G := G) (bb := bb) a h.w
    have eS := str_inj (a := encB a) (b := s) (by rw [enc_eq h]; exact rfE_byts h) hB
    by_cases c1 : encB a = s
    · rw [if_neg (fun g => g.elim (fun g => by cases g) (fun g => g c1))]
      rw [eq_true c1] at eS
      by_cases c2 : errA a = 0
      · rw [if_neg (fun g => g c2)]
        simp (disch := first | omega | (simp only [List.length_append, List.length_cons, List.length_nil, List.length_map, sgK_len]; omega)) only [go_sem, Nat.reduceAdd, Nat.reduceSub, Nat.reduceMul, Nat.reduceLeDiff, Nat.reduceEqDiff, h37c, c0', str_nil, q, bC, q1, eS, q2, c2]
      · rw [if_pos c2]
        simp only [Att.nil]
        simp (disch := first | omega | (simp only [List.length_append, List.length_cons, List.length_nil, List.length_map, sgK_len]; omega)) only [go_sem, Nat.reduceAdd, Nat.reduceSub, Nat.reduceMul, Nat.reduceLeDiff, Nat.reduceEqDiff, h37c, c0', str_nil, List.map_nil, q, bC, q1, eS, q2, c2]
        rfl
    · rw [if_pos (.inr c1)]
      rw [eq_false c1] at eS
      simp only [Att.nil]
      simp (disch := first | omega | (simp only [List.length_append, List.length_cons, List.length_nil, List.length_map, sgK_len]; omega)) only [go_sem, Nat.reduceAdd, Nat.reduceSub, Nat.reduceMul, Nat.reduceLeDiff, Nat.reduceEqDiff, h37c, c0', str_nil, List.map_nil, q, bC, q1, eS]
      rfl
end
section
set_option maxRecDepth 4000
set_option linter.unusedSimpArgs false
set_option linter.unusedVariables false
variable {G : Glob} {bb : Bool}
/-- the cells of an attribute that was not set -/
abbrev nilC : List Cel := [rawC (Zi 0), rawC (.string (str [])), rawC (Zi 0), rawC (Zi 0), rawC (.bool false), rawC (.string (str [])), rawC (Zi 0), rawC (.slice none 0 0), rawC (Zi 0), rawC (Zi 0), rawC (Zi 0)]
end
section
set_option maxRecDepth 4000
set_option linter.unusedSimpArgs false
set_option linter.unusedVariables false
variable {G : Glob} {bb : Bool}
noncomputable def fndJ (s : List Int) : Nat := ix (fun j => (decV ((s.take (dAt s + j)).drop (dAt s))).2 = 0) (s.length - dAt s + 1)
noncomputable def rsR (s : List Int) : List Run := (decV ((s.take (dAt s + fndJ s)).drop (dAt s))).1
def fin8 (a : Att) (s : List Int) : Att × Int := if rfE a ≠ s then (Att.nil, 3) else if errA a ≠ 0 then (Att.nil, errA a) else (a, 0)
def bad8 (s : List Int) : Prop := s.length < 24 ∨ 1 < s.getD 8 0 ∨ (s.getD 8 0 = 1 ∧ s.length < 40)
open Classical in
noncomputable def decRV (s : List Int) : Att × Int := if s.length > 440 then (Att.nil, 8) else if bad8 s then (Att.nil, 3) else
  if s.length < dHd s + dSz s then (Att.nil, 3) else if s.length < dAt s then (Att.nil, 3) else
  if dRes s = true then (if s.length < dAt s + dVl s then (Att.nil, 3) else fin8 (dT s) s) else if fndJ s = s.length - dAt s + 1 then (Att.nil, 3) else fin8 (dF s (rsR s)) s
/-- the cells of an attribute whose runs are not known yet -/
def dFc (s : List Int) (x : Cel) : List Cel := [.dc (ci (gL s 0 4)), .dc (.raw (.string (str (dNm s)))), .dc (ci (gL s 14 2)), .dc (ci (gL s 12 2)), .dc (.raw (.bool false)), .dc (.raw (.string (str []))), .dc (ci (gL s 16 4)), x, .dc (ci (gL s 28 4)), .dc (ci (gL s 32 4)), .dc (ci (gL s 36 4))]
theorem dNm_ok {s : List Int} (hB : Byts s) : Byts (dNm s) ∧ (dNm s).length ≤ 255 := by
  have b9 := gL_bd1 hB 9
  refine ⟨fun b hb => hB b (List.mem_of_mem_take (List.mem_of_mem_drop hb)), ?_⟩
  unfold dNm
  rw [List.length_drop, List.length_take]
  unfold dSz
  omega
theorem dT_dc {s : List Int} (hB : Byts s) (hl : s.length ≤ 1000) : (dT s).Dc :=
  ⟨gL_bd hB 0 4 (by omega), (dNm_ok hB).1, (dNm_ok hB).2, gL_bd2 hB 14, gL_bd2 hB 12, fun b hb => hB b (List.mem_of_mem_take (List.mem_of_mem_drop hb)), by
    show ((s.take (dAt s + dVl s)).drop (dAt s)).length ≤ 1000
    rw [List.length_drop, List.length_take]; omega, fun _ => ⟨rfl, rfl, rfl, rfl, rfl⟩, fun g => (by cases g)⟩
theorem dF_dc {s : List Int} (hB : Byts s) {rs : List Run} (h : (chk rs).2 = 0) : (dF s rs).Dc :=
  ⟨gL_bd hB 0 4 (by omega), (dNm_ok hB).1, (dNm_ok hB).2, gL_bd2 hB 14, gL_bd2 hB 12, byts_nil, Nat.zero_le _, fun g => (by cases g), fun _ => ⟨rfl, h, gL_bd hB 16 4 (by omega), gL_bd hB 28 4 (by omega), gL_bd hB 32 4 (by omega), gL_bd hB 36 4 (by omega)⟩⟩
theorem cut_byts {s : List Int} (hB : Byts s) (k : Nat) : Byts ((s.take (dAt s + k)).drop (dAt s)) := fun b hb => hB b (List.mem_of_mem_take (List.mem_of_mem_drop hb))
theorem round38 {s : List Int} (hB : Byts s) (hl : s.length ≤ 1000) (k : Nat) (hk : k < s.length - dAt s + 1) (d2 : ¬ s.length < dAt s) (hn : ¬ (decV ((s.take (dAt s + k)).drop (dAt s))).2 = 0) :
    rnK [0, 1, 1, 0, 1, 1, 0] 2 (EC (EV G (Tb (bs bb))) G h38l0 ⟨(sv s :: jk 1 (.one (.ptr 0 0) :: jk 1 (vi 3 :: .one (.ptr 1 0) :: jk 1 (vi (dAt s) :: jk 1 (vb false :: vi ((dAt s : Int) + k) :: jk 143 []))))), [.box nilC, .box (dFc s (rawC (.slice none 0 0)))]⟩) = some ⟨(sv s :: jk 1 (.one (.ptr 0 0) :: jk 1 (vi 3 :: .one (.ptr 1 0) :: jk 1 (vi (dAt s) :: jk 1 (vb false :: vi ((dAt s : Int) + (k + 1 : Nat)) :: jk 143 []))))), [.box nilC, .box (dFc s (rawC (.slice none 0 0)))]⟩ := by
  have q := decodeR_v (G := G) (B := bs bb) _ (cut_byts hB k)
  generalize decV ((s.take (dAt s + k)).drop (dAt s)) = r at q hn
  obtain ⟨rs, e⟩ := r
  simp only at hn q
  have c : (dAt s : Int) + (k : Int) ≤ (s.length : Int) := by omega
  unfold dFc
  simp (disch := first | omega | (simp only [List.length_append, List.length_cons, List.length_nil, List.length_map, sgK_len]; omega)) only [go_sem, Nat.reduceAdd, Nat.reduceSub, Nat.reduceMul, Nat.reduceLeDiff, Nat.reduceEqDiff, h38l0, eq_true c, q, hn]
theorem loopN {s : List Int} (hB : Byts s) (hl : s.length ≤ 1000) (d2 : ¬ s.length < dAt s) (jn : fndJ s = s.length - dAt s + 1) {st : AS} (h0 : st = ⟨(sv s :: jk 1 (.one (.ptr 0 0) :: jk 1 (vi 3 :: .one (.ptr 1 0) :: jk 1 (vi (dAt s) :: jk 1 (vb false :: vi ((dAt s : Int) + (0 : Nat)) :: jk 143 []))))), [.box nilC, .box (dFc s (rawC (.slice none 0 0)))]⟩) :
    EL (EV G (Tb (bs bb))) G h38l0 [0, 1, 1, 0, 1, 1, 0] 2 st = fnK (EV G (Tb (bs bb))) G h38l0 [0, 1, 1, 0, 1, 1, 0] 2 (EC (EV G (Tb (bs bb))) G h38l0 ⟨(sv s :: jk 1 (.one (.ptr 0 0) :: jk 1 (vi 3 :: .one (.ptr 1 0) :: jk 1 (vi (dAt s) :: jk 1 (vb false :: vi ((dAt s : Int) + ((s.length - dAt s + 1 : Nat) : Int)) :: jk 143 []))))), [.box nilC, .box (dFc s (rawC (.slice none 0 0)))]⟩) := by
  obtain ⟨j1, j2, j3⟩ := ix_spec (fun j => (decV ((s.take (dAt s + j)).drop (dAt s))).2 = 0) (s.length - dAt s + 1)
  exact EL_loop (fun k => ⟨(sv s :: jk 1 (.one (.ptr 0 0) :: jk 1 (vi 3 :: .one (.ptr 1 0) :: jk 1 (vi (dAt s) :: jk 1 (vb false :: vi ((dAt s : Int) + (k : Int)) :: jk 143 []))))), [.box nilC, .box (dFc s (rawC (.slice none 0 0)))]⟩) (s.length - dAt s + 1) h0 (fun k hk => round38 hB hl k hk d2 (j3 k (by unfold fndJ at jn; omega)))
theorem loopY {s : List Int} (hB : Byts s) (hl : s.length ≤ 1000) (d2 : ¬ s.length < dAt s) (jn : ¬ fndJ s = s.length - dAt s + 1) {st : AS} (h0 : st = ⟨(sv s :: jk 1 (.one (.ptr 0 0) :: jk 1 (vi 3 :: .one (.ptr 1 0) :: jk 1 (vi (dAt s) :: jk 1 (vb false :: vi ((dAt s : Int) + (0 : Nat)) :: jk 143 []))))), [.box nilC, .box (dFc s (rawC (.slice none 0 0)))]⟩) :
    EL (EV G (Tb (bs bb))) G h38l0 [0, 1, 1, 0, 1, 1, 0] 2 st = fnK (EV G (Tb (bs bb))) G h38l0 [0, 1, 1, 0, 1, 1, 0] 2 (EC (EV G (Tb (bs bb))) G h38l0 ⟨(sv s :: jk 1 (.one (.ptr 0 0) :: jk 1 (vi 3 :: .one (.ptr 1 0) :: jk 1 (vi (dAt s) :: jk 1 (vb true :: vi ((dAt s : Int) + ((fndJ s + 1 : Nat) : Int)) :: jk 143 []))))), [.box nilC, .box (dFc s (.dc (.slc ((rsR s).map Run.e))))]⟩) := by
  obtain ⟨j1, j2, j3⟩ := ix_spec (fun j => (decV ((s.take (dAt s + j)).drop (dAt s))).2 = 0) (s.length - dAt s + 1)
  have hJ : fndJ s < s.length - dAt s + 1 ∧ (decV ((s.take (dAt s + fndJ s)).drop (dAt s))).2 = 0 := j2.elim (fun h => absurd h jn) id
  have hj : ∀ j, j < fndJ s → ¬ (decV ((s.take (dAt s + j)).drop (dAt s))).2 = 0 := j3
  have hrs : (decV ((s.take (dAt s + fndJ s)).drop (dAt s))).1 = rsR s := rfl
  generalize fndJ s = J at hJ hj hrs ⊢
  have e := EL_loop (call := EV G (Tb (bs bb))) (G := G) (a := h38l0) (L := [0, 1, 1, 0, 1, 1, 0]) (m := 2) (fun k => if k ≤ J then ⟨(sv s :: jk 1 (.one (.ptr 0 0) :: jk 1 (vi 3 :: .one (.ptr 1 0) :: jk 1 (vi (dAt s) :: jk 1 (vb false :: vi ((dAt s : Int) + (k : Int)) :: jk 143 []))))), [.box nilC, .box (dFc s (rawC (.slice none 0 0)))]⟩ else ⟨(sv s :: jk 1 (.one (.ptr 0 0) :: jk 1 (vi 3 :: .one (.ptr 1 0) :: jk 1 (vi (dAt s) :: jk 1 (vb true :: vi ((dAt s : Int) + (k : Int)) :: jk 143 []))))), [.box nilC, .box (dFc s (.dc (.slc ((rsR s).map Run.e))))]⟩) (J + 1) (h0.trans (if_pos (Nat.zero_le _)).symm) (fun k hk => by
    by_cases c : k < J
    · rw [if_pos (by omega), if_pos (by omega)]
      exact round38 hB hl k (by omega) d2 (hj k c)
    · have ek : k = J := by omega
      subst ek
      rw [if_pos (Nat.le_refl _), if_neg (by omega)]
      have q := decodeR_v (G := G) (B := bs bb) _ (cut_byts hB k)
      rw [hJ.2, hrs] at q
      have c2 : (dAt s : Int) + (k : Int) ≤ (s.length : Int) := by omega
      unfold dFc
      simp (disch := first | omega | (simp only [List.length_append, List.length_cons, List.length_nil, List.length_map, sgK_len]; omega)) only [go_sem, Nat.reduceAdd, Nat.reduceSub, Nat.reduceMul, Nat.reduceLeDiff, Nat.reduceEqDiff, h38l0, eq_true c2, q])
  rw [if_neg (by omega)] at e
  exact e
end
end Go.Proofs.YtmognenhkecngaaGreatDoor
