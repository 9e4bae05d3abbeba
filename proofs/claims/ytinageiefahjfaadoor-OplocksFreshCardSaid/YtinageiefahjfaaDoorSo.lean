/- Nobody sees an old value: the last value. Conditions: none. -/
import Derived.Test.YtinageiefahjfaaDoorSl
import Derived.Test.YtinageiefahjfaaDoorWb
namespace Go.Proofs.YtinageiefahjfaaDoor
set_option linter.unusedSimpArgs false
set_option linter.unusedVariables false
set_option maxRecDepth 4000
section
variable {G : Glob} {bb : Bool}
def fr2 (y b : Ck) (L : List Cu) (i : Nat) (V : Int → Int) (p : Int × List Int) : AS := ⟨(cusV L :: jk 2 (.one (.ptr 1 0) :: jk 2 (vi p.1 :: .one (.bld 3 8) :: .one (.bld 4 p.2.length) :: .one (.ptr 6 0) :: vi i :: jk 214 []))), [.dead, .box (ckC y), .dead, .arr 0 1 ((kl (nV V)).map ci0), .arr 0 1 (p.2.map ci0), .arr 0 1 (List.replicate 8 [ci (-1)]), .box (ckC b)]⟩
def fl2 (y b a' : Ck) (L : List Cu) (i : Nat) (V : Int → Int) (r : List Cel) (p : Int × List Int) (j : Nat) : AS := ⟨(cusV L :: jk 2 (.one (.ptr 1 0) :: jk 2 (vi p.1 :: .one (.bld 3 8) :: .one (.bld 4 p.2.length) :: .one (.ptr 6 0) :: vi i :: .one (.ptr 8 0) :: jk 4 (vi j :: jk 208 [])))), [.dead, .box (ckC y), .dead, .arr 0 1 ((kl (nV V)).map ci0), .arr 0 1 (p.2.map ci0), .arr 0 1 (List.replicate 8 [ci (-1)]), .box (ckC b), .dead, .box (ckC a'), .box r]⟩
set_option maxHeartbeats 4000000 in
theorem fl2_go (y b a' : Ck) (L : List Cu) (i : Nat) (V : Int → Int) (r : List Cel) (r0 r1 r2 : Int) (hr : r = [.dc (ci r0), .dc (ci r1), .dc (ci r2)]) (last : Int) (seen : List Int) (j : Nat) (hj : j < b.ws.length) (m : Nat) (hm : m < 8) (k : Int) (hw : b.ws[j] = ⟨(m : Int) + 1, k⟩) (hw1 : b.ws.length ≤ 1000) (hw2 : a'.ws.length ≤ 1000) (hn : seen.length ≤ 5000) :
    rnK [0, 2, 2, 0, 0, 0, 0, 0, 4] 10 (EC (EV G (Tb (bs bb))) G h3l0 (fl2 y b a' L i V r (last, seen) j)) = some (fl2 y b a' L i V r (if isW a'.ws ((m : Int) + 1) = true then (last, seen) else (if k = 3 then V ((m : Int) + 1) else last, if k = 2 then seen ++ [last] else seen)) (j + 1)) := by
  subst hr
  have eg : (b.ws.map Wt.e)[j]? = some [ci ((m : Int) + 1), ci k] := by rw [List.getElem?_map, List.getElem?_eq_getElem hj, hw]; rfl
  have em : ((m : Int) + 1 - 1).toNat = m := by omega
  have q2 := rwaiting_v (G := G) (bb := bb) a'.gs a'.ws ((m : Int) + 1) (by omega)
  have e3 : ((kl (nV V)).map ci0)[m]? = some [ci (V ((m : Int) + 1))] := ki_get (nV V) hm
  have e5 := ki_len (nV V)
  have ms : (seen ++ [last]).map ci0 = seen.map ci0 ++ [[ci last]] := by rw [List.map_append]; rfl
  have lsn : (seen ++ [last]).length = seen.length + 1 := by simp
  have tS : List.take seen.length (seen.map ci0) = seen.map ci0 := List.take_of_length_le (by simp)
  unfold fl2
  by_cases hw : isW a'.ws ((m : Int) + 1) = true
  · have hw' : (wtI a'.ws ((m : Int) + 1) ≥ 0) = True := by rw [wtI_p]; exact eq_true hw
    rw [if_pos hw]
    generalize wtI a'.ws ((m : Int) + 1) = w at *
    simp (maxSteps := 1000000) (disch := omega) only [go_sem, h3l0, eg, em, q2, hw', e3, e5]
    try rfl
  · have hw' : (wtI a'.ws ((m : Int) + 1) ≥ 0) = False := by rw [wtI_p]; exact eq_false hw
    rw [if_neg hw]
    generalize wtI a'.ws ((m : Int) + 1) = w at *
    by_cases k3 : k = 3
    · have k2 : ¬ k = 2 := by omega
      rw [if_pos k3, if_neg k2]
      simp (maxSteps := 1000000) (disch := omega) only [go_sem, h3l0, eg, em, q2, hw', e3, e5, eq_true k3, k2, kl_len]
      try rfl
    · rw [if_neg k3]
      by_cases k2 : k = 2
      · rw [if_pos k2]
        simp only [ms, lsn]
        simp (maxSteps := 1000000) (disch := omega) only [go_sem, h3l0, eg, em, q2, hw', e3, e5, k3, eq_true k2, kl_len, tS]
        try rfl
      · rw [if_neg k2]
        simp (maxSteps := 1000000) (disch := omega) only [go_sem, h3l0, eg, em, q2, hw', e3, e5, k3, k2, kl_len]
        try rfl
set_option maxHeartbeats 4000000 in
theorem fr2_go (hG : G 0 = some alD) (y b a' : Ck) (L : List Cu) (i : Nat) (hk : i < L.length) (hl : L.length ≤ 60) (V : Int → Int) (last : Int) (seen : List Int) (k u lv : Int) (m : Nat) (hm : m < 8) (ha : L[i] = ⟨k, (m : Int) + 1, lv, u⟩)
    (q1 : EV G (Tb (bs bb)) 6 [vl (List.take (i + 1) (L.map Cu.e))] [] = some (crV (a', ((i : Int) + 1), 0), [])) (hK : a'.K.length = 8) (hw1 : b.ws.length ≤ 1000) (hw2 : a'.ws.length ≤ 1000) (hc : ∀ w ∈ b.ws, 1 ≤ w.c ∧ w.c ≤ 8) (hn : seen.length ≤ 3000) (hs : seen.length ≤ a'.sn.length) (hs2 : a'.sn.length ≤ 10000)
    (p0 : Int × List Int) (hp0 : p0 = (if k = 3 ∧ isW a'.ws ((m : Int) + 1) = false then u else last, if k = 2 ∧ isW a'.ws ((m : Int) + 1) = false then seen ++ [if k = 3 ∧ isW a'.ws ((m : Int) + 1) = false then u else last] else seen))
    (he : a'.sn = (frj (vls V k ((m : Int) + 1) u) b.ws a'.ws p0 b.ws.length).2) :
    rnK [0, 2, 2, 0, 0, 0, 0] 7 (EC (EV G (Tb (bs bb))) G h3l1 (fr2 y b L i V (last, seen))) = some (fr2 y a' L (i + 1) (vls V k ((m : Int) + 1) u) (frj (vls V k ((m : Int) + 1) u) b.ws a'.ws p0 b.ws.length)) := by
  have eg : (L.map Cu.e)[i]? = some [ci k, ci ((m : Int) + 1), ci lv, ci u] := by rw [List.getElem?_map, List.getElem?_eq_getElem hk, ha]; rfl
  have sl3 : (0 : Int) ≤ (i : Int) + 1 ∧ (i : Int) + 1 ≤ (L.length : Int) := by omega
  have ti : ((i : Int) + 1).toNat = i + 1 := by omega
  have em : ((m : Int) + 1 - 1).toNat = m := by omega
  have al5 : allLen 4 (List.take (i + 1) (L.map Cu.e)) = true := by rw [← List.map_take]; exact allLen_map (f := Cu.e) (n := 4) (fun _ => rfl) _
  have tl2 : (List.take (i + 1) (L.map Cu.e)).length = i + 1 := by rw [List.length_take, List.length_map]; omega
  have tk2 : List.take (i + 1) (List.take (i + 1) (L.map Cu.e)) = List.take (i + 1) (L.map Cu.e) := by rw [List.take_take, Nat.min_self]
  have K8 : (a'.K.length : Int) = 8 := by omega
  have hs' : ¬ (a'.sn.length : Int) < (seen.length : Int) := by omega
  have q2 := rwaiting_v (G := G) (bb := bb) a'.gs a'.ws ((m : Int) + 1) (by omega)
  have q3 := ints_v (G := G) (bb := bb) a'.sn a'.sn (by omega)
  rw [decide_eq_true rfl] at q3
  have e3 := ki_get (nV V) hm
  have e4 := ki_set (nV V) hm u
  have e5 := ki_len (nV V)
  rw [nV_u] at e4
  have ms : (seen ++ [last]).map ci0 = seen.map ci0 ++ [[ci last]] := by rw [List.map_append]; rfl
  have lsn : (seen ++ [last]).length = seen.length + 1 := by simp
  have tS : List.take seen.length (seen.map ci0) = seen.map ci0 := List.take_of_length_le (by simp)
  have hp1 : p0.2.length ≤ 3001 := by
    rw [hp0]
    by_cases hq : k = 2 ∧ isW a'.ws ((m : Int) + 1) = false
    · simp only [if_pos hq, List.length_append, List.length_cons, List.length_nil]; omega
    · simp only [if_neg hq]; omega
  have lp : ∀ V' st, st = fl2 y b a' L i V' [.dc (ci k), .dc (ci ((m : Int) + 1)), .dc (ci lv)] p0 0 → EL (EV G (Tb (bs bb))) G h3l0 [0, 2, 2, 0, 0, 0, 0, 0, 4] 10 st = fnK (EV G (Tb (bs bb))) G h3l0 [0, 2, 2, 0, 0, 0, 0, 0, 4] 10 (EC (EV G (Tb (bs bb))) G h3l0 (fl2 y b a' L i V' [.dc (ci k), .dc (ci ((m : Int) + 1)), .dc (ci lv)] (frj V' b.ws a'.ws p0 b.ws.length) b.ws.length)) := by
    intro V' st hst
    subst hst
    refine EL_loop (fun j => fl2 y b a' L i V' [.dc (ci k), .dc (ci ((m : Int) + 1)), .dc (ci lv)] (frj V' b.ws a'.ws p0 j) j) b.ws.length ?_ (fun j hj => ?_)
    · rfl
    · have hl := frj_len V' b.ws a'.ws p0 j
      have hc' := hc b.ws[j] (List.getElem_mem hj)
      rw [frj_s V' b.ws a'.ws p0 j hj]
      generalize frj V' b.ws a'.ws p0 j = q at *
      obtain ⟨la, se⟩ := q
      have hw : b.ws[j] = ⟨(((b.ws[j].c - 1).toNat : Nat) : Int) + 1, b.ws[j].k⟩ := by
        have : (((b.ws[j].c - 1).toNat : Nat) : Int) + 1 = b.ws[j].c := by omega
        rw [this]
      have := fl2_go (G := G) (bb := bb) y b a' L i V' [.dc (ci k), .dc (ci ((m : Int) + 1)), .dc (ci lv)] k ((m : Int) + 1) lv rfl la se j hj (b.ws[j].c - 1).toNat (by omega) b.ws[j].k hw hw1 hw2 (by simp only at hl; omega)
      have e : (((b.ws[j].c - 1).toNat : Nat) : Int) + 1 = b.ws[j].c := by omega
      rw [e] at this
      exact this
  unfold fr2
  by_cases hw : isW a'.ws ((m : Int) + 1) = true
  · have hw' : (wtI a'.ws ((m : Int) + 1) ≥ 0) = True := by rw [wtI_p]; exact eq_true hw
    generalize wtI a'.ws ((m : Int) + 1) = w at *
    by_cases k3 : k = 3
    · have k2 : ¬ k = 2 := by omega
      have hp : p0 = (last, seen) := by rw [hp0]; simp [k3, hw]
      have hV : vls V k ((m : Int) + 1) u = updI V ((m : Int) + 1) u := by unfold vls; simp [k3]
      rw [hV] at he ⊢
      have hq := lp (updI V ((m : Int) + 1) u)
      subst hp
      simp (maxSteps := 1000000) (disch := omega) only [go_sem, h3l1, eg, eq_true sl3, ti, em, al5, tl2, tk2, K8, hs', q1, q2, e3, e4, e5, eq_true k3, k2, hw', all_cu, List.drop_zero, kl_len, tS]
      rw [hq _ ?_]
      rotate_left
      · unfold fl2; rfl
      rw [he] at q3
      generalize frj (updI V ((m : Int) + 1) u) b.ws a'.ws (last, seen) b.ws.length = q at *
      unfold fl2
      have tQ : List.take q.2.length (q.2.map ci0) = q.2.map ci0 := List.take_of_length_le (by simp)
      rw [← he] at q3
      have q4 : EV G (Tb (bs bb)) 9 [vl (a'.sn.map ci0), vl (q.2.map ci0)] [] = some (vb true, []) := by rw [← he]; exact q3
      simp (maxSteps := 1000000) (disch := omega) only [go_sem, h3l0, h3l1, q4, tQ, kl_len]
      try rfl
    · by_cases k2 : k = 2
      · have hp : p0 = (last, seen) := by rw [hp0]; simp [k3, k2, hw]
        have hV : vls V k ((m : Int) + 1) u = V := by unfold vls; simp [k3, k2]
        rw [hV] at he ⊢
        have hq := lp (V)
        subst hp
        simp (maxSteps := 1000000) (disch := omega) only [go_sem, h3l1, eg, eq_true sl3, ti, em, al5, tl2, tk2, K8, hs', q1, q2, e3, e4, e5, k3, eq_true k2, hw', all_cu, List.drop_zero, kl_len, tS]
        rw [hq _ ?_]
        rotate_left
        · unfold fl2; rfl
        rw [he] at q3
        generalize frj (V) b.ws a'.ws (last, seen) b.ws.length = q at *
        unfold fl2
        have tQ : List.take q.2.length (q.2.map ci0) = q.2.map ci0 := List.take_of_length_le (by simp)
        rw [← he] at q3
        have q4 : EV G (Tb (bs bb)) 9 [vl (a'.sn.map ci0), vl (q.2.map ci0)] [] = some (vb true, []) := by rw [← he]; exact q3
        simp (maxSteps := 1000000) (disch := omega) only [go_sem, h3l0, h3l1, q4, tQ, kl_len]
        try rfl
      · have hp : p0 = (last, seen) := by rw [hp0]; simp [k3, k2, hw]
        have hV : vls V k ((m : Int) + 1) u = V := by unfold vls; simp [k3, k2]
        rw [hV] at he ⊢
        have hq := lp (V)
        subst hp
        simp (maxSteps := 1000000) (disch := omega) only [go_sem, h3l1, eg, eq_true sl3, ti, em, al5, tl2, tk2, K8, hs', q1, q2, e3, e4, e5, k3, k2, hw', all_cu, List.drop_zero, kl_len, tS]
        rw [hq _ ?_]
        rotate_left
        · unfold fl2; rfl
        rw [he] at q3
        generalize frj (V) b.ws a'.ws (last, seen) b.ws.length = q at *
        unfold fl2
        have tQ : List.take q.2.length (q.2.map ci0) = q.2.map ci0 := List.take_of_length_le (by simp)
        rw [← he] at q3
        have q4 : EV G (Tb (bs bb)) 9 [vl (a'.sn.map ci0), vl (q.2.map ci0)] [] = some (vb true, []) := by rw [← he]; exact q3
        simp (maxSteps := 1000000) (disch := omega) only [go_sem, h3l0, h3l1, q4, tQ, kl_len]
        try rfl
  · have hw' : (wtI a'.ws ((m : Int) + 1) ≥ 0) = False := by rw [wtI_p]; exact eq_false hw
    generalize wtI a'.ws ((m : Int) + 1) = w at *
    by_cases k3 : k = 3
    · have k2 : ¬ k = 2 := by omega
      have hp : p0 = (u, seen) := by rw [hp0]; simp [k3, hw]
      have hV : vls V k ((m : Int) + 1) u = updI V ((m : Int) + 1) u := by unfold vls; simp [k3]
      rw [hV] at he ⊢
      have hq := lp (updI V ((m : Int) + 1) u)
      subst hp
      simp (maxSteps := 1000000) (disch := omega) only [go_sem, h3l1, eg, eq_true sl3, ti, em, al5, tl2, tk2, K8, hs', q1, q2, e3, e4, e5, eq_true k3, k2, hw', all_cu, List.drop_zero, kl_len, tS]
      rw [hq _ ?_]
      rotate_left
      · unfold fl2; rfl
      rw [he] at q3
      generalize frj (updI V ((m : Int) + 1) u) b.ws a'.ws (u, seen) b.ws.length = q at *
      unfold fl2
      have tQ : List.take q.2.length (q.2.map ci0) = q.2.map ci0 := List.take_of_length_le (by simp)
      rw [← he] at q3
      have q4 : EV G (Tb (bs bb)) 9 [vl (a'.sn.map ci0), vl (q.2.map ci0)] [] = some (vb true, []) := by rw [← he]; exact q3
      simp (maxSteps := 1000000) (disch := omega) only [go_sem, h3l0, h3l1, q4, tQ, kl_len]
      try rfl
    · by_cases k2 : k = 2
      · have hp : p0 = (last, seen ++ [last]) := by rw [hp0]; simp [k3, k2, hw]
        have hV : vls V k ((m : Int) + 1) u = V := by unfold vls; simp [k3, k2]
        rw [hV] at he ⊢
        have hq := lp (V)
        subst hp
        simp (maxSteps := 1000000) (disch := omega) only [go_sem, h3l1, eg, eq_true sl3, ti, em, al5, tl2, tk2, K8, hs', q1, q2, e3, e4, e5, k3, eq_true k2, hw', all_cu, List.drop_zero, kl_len, tS]
        rw [hq _ ?_]
        rotate_left
        · unfold fl2; simp only [ms, lsn]; rfl
        rw [he] at q3
        generalize frj (V) b.ws a'.ws (last, seen ++ [last]) b.ws.length = q at *
        unfold fl2
        have tQ : List.take q.2.length (q.2.map ci0) = q.2.map ci0 := List.take_of_length_le (by simp)
        rw [← he] at q3
        have q4 : EV G (Tb (bs bb)) 9 [vl (a'.sn.map ci0), vl (q.2.map ci0)] [] = some (vb true, []) := by rw [← he]; exact q3
        simp (maxSteps := 1000000) (disch := omega) only [go_sem, h3l0, h3l1, q4, tQ, kl_len]
        try rfl
      · have hp : p0 = (last, seen) := by rw [hp0]; simp [k3, k2, hw]
        have hV : vls V k ((m : Int) + 1) u = V := by unfold vls; simp [k3, k2]
        rw [hV] at he ⊢
        have hq := lp (V)
        subst hp
        simp (maxSteps := 1000000) (disch := omega) only [go_sem, h3l1, eg, eq_true sl3, ti, em, al5, tl2, tk2, K8, hs', q1, q2, e3, e4, e5, k3, k2, hw', all_cu, List.drop_zero, kl_len, tS]
        rw [hq _ ?_]
        rotate_left
        · unfold fl2; rfl
        rw [he] at q3
        generalize frj (V) b.ws a'.ws (last, seen) b.ws.length = q at *
        unfold fl2
        have tQ : List.take q.2.length (q.2.map ci0) = q.2.map ci0 := List.take_of_length_le (by simp)
        rw [← he] at q3
        have q4 : EV G (Tb (bs bb)) 9 [vl (a'.sn.map ci0), vl (q.2.map ci0)] [] = some (vb true, []) := by rw [← he]; exact q3
        simp (maxSteps := 1000000) (disch := omega) only [go_sem, h3l0, h3l1, q4, tQ, kl_len]
        try rfl
def fz2 (y : Ck) (L : List Cu) : AS := ⟨(cusV L :: jk 2 (.one (.ptr 1 0) :: jk 2 (vi 0 :: .one (.bld 3 8) :: .one (.bld 4 0) :: .one (.ptr 6 0) :: vi ((0 : Nat) : Int) :: jk 214 []))), [.dead, .box (ckC y), .dead, .arr 0 1 ((kl (nV fun _ => 0)).map ci0), .arr 0 1 [], .arr 0 1 (List.replicate 8 [ci (-1)]), .box [.dc (.raw (.slice none 0 0)), .dc (.raw (.slice none 0 0)), .dc (ci 0), .bld 5 8, .dc (.raw (.slice none 0 0)), .dc (.raw (.slice none 0 0))]]⟩
set_option maxHeartbeats 4000000 in
theorem fz2_go (hG : G 0 = some alD) (y a' : Ck) (L : List Cu) (hk : 0 < L.length) (hl : L.length ≤ 60) (k u lv : Int) (m : Nat) (hm : m < 8) (ha : L[0] = ⟨k, (m : Int) + 1, lv, u⟩)
    (q1 : EV G (Tb (bs bb)) 6 [vl (List.take 1 (L.map Cu.e))] [] = some (crV (a', 1, 0), [])) (hK : a'.K.length = 8) (hw2 : a'.ws.length ≤ 1000) (hs2 : a'.sn.length ≤ 10000)
    (p0 : Int × List Int) (hp0 : p0 = (if k = 3 ∧ isW a'.ws ((m : Int) + 1) = false then u else 0, if k = 2 ∧ isW a'.ws ((m : Int) + 1) = false then [] ++ [if k = 3 ∧ isW a'.ws ((m : Int) + 1) = false then u else 0] else []))
    (he : a'.sn = p0.2) :
    rnK [0, 2, 2, 0, 0, 0, 0] 7 (EC (EV G (Tb (bs bb))) G h3l1 (fz2 y L)) = some (fr2 y a' L 1 (vls (fun _ => 0) k ((m : Int) + 1) u) p0) := by
  have eg : (L.map Cu.e)[0]? = some [ci k, ci ((m : Int) + 1), ci lv, ci u] := by rw [List.getElem?_map, List.getElem?_eq_getElem hk, ha]; rfl
  have sl3 : (0 : Int) ≤ 1 ∧ (1 : Int) ≤ (L.length : Int) := by omega
  have z2 : (0 : Int) + 1 = 1 := rfl
  have z3 : Int.toNat 1 = 1 := rfl
  have c00 : ci0 0 = [ci 0] := rfl
  have em : ((m : Int) + 1 - 1).toNat = m := by omega
  have al5 : allLen 4 (List.take 1 (L.map Cu.e)) = true := by rw [← List.map_take]; exact allLen_map (f := Cu.e) (n := 4) (fun _ => rfl) _
  have tl2 : (List.take 1 (L.map Cu.e)).length = 1 := by rw [List.length_take, List.length_map]; omega
  have tk2 : List.take 1 (List.take 1 (L.map Cu.e)) = List.take 1 (L.map Cu.e) := by rw [List.take_take, Nat.min_self]
  have K8 : (a'.K.length : Int) = 8 := by omega
  have hs' : ¬ (a'.sn.length : Int) < 0 := by omega
  have q2 := rwaiting_v (G := G) (bb := bb) a'.gs a'.ws ((m : Int) + 1) (by omega)
  have q3 := ints_v (G := G) (bb := bb) a'.sn a'.sn (by omega)
  rw [decide_eq_true rfl] at q3
  have e3 := ki_get (nV fun _ => 0) hm
  have e4 := ki_set (nV fun _ => 0) hm u
  have e5 := ki_len (nV fun _ => 0)
  rw [nV_u] at e4
  have tS : List.take 0 ([] : List (List DC)) = [] := rfl
  have tZ : ∀ x : List DC, List.take 1 [x] = [x] := fun _ => rfl
  unfold fz2 fr2
  by_cases hw : isW a'.ws ((m : Int) + 1) = true
  · have hw' : (wtI a'.ws ((m : Int) + 1) ≥ 0) = True := by rw [wtI_p]; exact eq_true hw
    generalize wtI a'.ws ((m : Int) + 1) = w at *
    by_cases k3 : k = 3
    · have k2 : ¬ k = 2 := by omega
      have hp : p0 = (0, []) := by rw [hp0]; simp [k3, hw]
      have hV : vls (fun _ => 0) k ((m : Int) + 1) u = updI (fun _ => 0) ((m : Int) + 1) u := by unfold vls; simp [k3]
      rw [hV]
      subst hp
      simp (maxSteps := 1000000) (disch := omega) only [go_sem, h3l1, z2, z3, eg, eq_true sl3, em, al5, tl2, tk2, K8, q1, q2, e3, e4, e5, eq_true k3, k2, hw', all_cu, List.drop_zero, kl_len, tS, hs', List.length_nil, List.map_nil]
      rw [EL_unf]
      have q4 : EV G (Tb (bs bb)) 9 [vl (a'.sn.map ci0), vl (List.map ci0 ((0, []) : Int × List Int).2)] [] = some (vb true, []) := by rw [← he]; exact q3
      simp only [List.map_nil, List.map_cons, List.nil_append, c00] at q4
      simp (maxSteps := 1000000) (disch := omega) only [go_sem, h3l0, h3l1, q4, kl_len, tS, tZ, List.length_nil, List.map_nil, List.map_cons]
      try rfl
    · by_cases k2 : k = 2
      · have hp : p0 = (0, []) := by rw [hp0]; simp [k3, k2, hw]
        have hV : vls (fun _ => 0) k ((m : Int) + 1) u = fun _ => 0 := by unfold vls; simp [k3, k2]
        rw [hV]
        subst hp
        simp (maxSteps := 1000000) (disch := omega) only [go_sem, h3l1, z2, z3, eg, eq_true sl3, em, al5, tl2, tk2, K8, q1, q2, e3, e4, e5, k3, eq_true k2, hw', all_cu, List.drop_zero, kl_len, tS, hs', List.length_nil, List.map_nil]
        rw [EL_unf]
        have q4 : EV G (Tb (bs bb)) 9 [vl (a'.sn.map ci0), vl (List.map ci0 ((0, []) : Int × List Int).2)] [] = some (vb true, []) := by rw [← he]; exact q3
        simp only [List.map_nil, List.map_cons, List.nil_append, c00] at q4
        simp (maxSteps := 1000000) (disch := omega) only [go_sem, h3l0, h3l1, q4, kl_len, tS, tZ, List.length_nil, List.map_nil, List.map_cons]
        try rfl
      · have hp : p0 = (0, []) := by rw [hp0]; simp [k3, k2, hw]
        have hV : vls (fun _ => 0) k ((m : Int) + 1) u = fun _ => 0 := by unfold vls; simp [k3, k2]
        rw [hV]
        subst hp
        simp (maxSteps := 1000000) (disch := omega) only [go_sem, h3l1, z2, z3, eg, eq_true sl3, em, al5, tl2, tk2, K8, q1, q2, e3, e4, e5, k3, k2, hw', all_cu, List.drop_zero, kl_len, tS, hs', List.length_nil, List.map_nil]
        rw [EL_unf]
        have q4 : EV G (Tb (bs bb)) 9 [vl (a'.sn.map ci0), vl (List.map ci0 ((0, []) : Int × List Int).2)] [] = some (vb true, []) := by rw [← he]; exact q3
        simp only [List.map_nil, List.map_cons, List.nil_append, c00] at q4
        simp (maxSteps := 1000000) (disch := omega) only [go_sem, h3l0, h3l1, q4, kl_len, tS, tZ, List.length_nil, List.map_nil, List.map_cons]
        try rfl
  · have hw' : (wtI a'.ws ((m : Int) + 1) ≥ 0) = False := by rw [wtI_p]; exact eq_false hw
    generalize wtI a'.ws ((m : Int) + 1) = w at *
    by_cases k3 : k = 3
    · have k2 : ¬ k = 2 := by omega
      have hp : p0 = (u, []) := by rw [hp0]; simp [k3, hw]
      have hV : vls (fun _ => 0) k ((m : Int) + 1) u = updI (fun _ => 0) ((m : Int) + 1) u := by unfold vls; simp [k3]
      rw [hV]
      subst hp
      simp (maxSteps := 1000000) (disch := omega) only [go_sem, h3l1, z2, z3, eg, eq_true sl3, em, al5, tl2, tk2, K8, q1, q2, e3, e4, e5, eq_true k3, k2, hw', all_cu, List.drop_zero, kl_len, tS, hs', List.length_nil, List.map_nil]
      rw [EL_unf]
      have q4 : EV G (Tb (bs bb)) 9 [vl (a'.sn.map ci0), vl (List.map ci0 ((u, []) : Int × List Int).2)] [] = some (vb true, []) := by rw [← he]; exact q3
      simp only [List.map_nil, List.map_cons, List.nil_append, c00] at q4
      simp (maxSteps := 1000000) (disch := omega) only [go_sem, h3l0, h3l1, q4, kl_len, tS, tZ, List.length_nil, List.map_nil, List.map_cons]
      try rfl
    · by_cases k2 : k = 2
      · have hp : p0 = (0, [0]) := by rw [hp0]; simp [k3, k2, hw]
        have hV : vls (fun _ => 0) k ((m : Int) + 1) u = fun _ => 0 := by unfold vls; simp [k3, k2]
        rw [hV]
        subst hp
        simp (maxSteps := 1000000) (disch := omega) only [go_sem, h3l1, z2, z3, eg, eq_true sl3, em, al5, tl2, tk2, K8, q1, q2, e3, e4, e5, k3, eq_true k2, hw', all_cu, List.drop_zero, kl_len, tS, hs', List.length_nil, List.map_nil]
        rw [EL_unf]
        have q4 : EV G (Tb (bs bb)) 9 [vl (a'.sn.map ci0), vl (List.map ci0 ((0, [0]) : Int × List Int).2)] [] = some (vb true, []) := by rw [← he]; exact q3
        simp only [List.map_nil, List.map_cons, List.nil_append, c00] at q4
        simp (maxSteps := 1000000) (disch := omega) only [go_sem, h3l0, h3l1, q4, kl_len, tS, tZ, List.length_nil, List.map_nil, List.map_cons]
        try rfl
      · have hp : p0 = (0, []) := by rw [hp0]; simp [k3, k2, hw]
        have hV : vls (fun _ => 0) k ((m : Int) + 1) u = fun _ => 0 := by unfold vls; simp [k3, k2]
        rw [hV]
        subst hp
        simp (maxSteps := 1000000) (disch := omega) only [go_sem, h3l1, z2, z3, eg, eq_true sl3, em, al5, tl2, tk2, K8, q1, q2, e3, e4, e5, k3, k2, hw', all_cu, List.drop_zero, kl_len, tS, hs', List.length_nil, List.map_nil]
        rw [EL_unf]
        have q4 : EV G (Tb (bs bb)) 9 [vl (a'.sn.map ci0), vl (List.map ci0 ((0, []) : Int × List Int).2)] [] = some (vb true, []) := by rw [← he]; exact q3
        simp only [List.map_nil, List.map_cons, List.nil_append, c00] at q4
        simp (maxSteps := 1000000) (disch := omega) only [go_sem, h3l0, h3l1, q4, kl_len, tS, tZ, List.length_nil, List.map_nil, List.map_cons]
        try rfl
end
section
variable {G : Glob} {bb : Bool}
theorem runC_len : ∀ (l : List Cu) (x : Ca), Vd x.gs x.ws → Hd x.gs x.ws → (runC x l).sn.length ≤ x.sn.length + 9 * l.length
  | [], x, hv, hh => Nat.le_refl _
  | a :: l, x, hv, hh => by
    obtain ⟨h1, h2⟩ := usF_ok x hv hh a.k a.c a.l a.u
    have h3 := usF_len x hv.wl a.k a.c a.l a.u
    have h4 := runC_len l _ h1 h2
    rw [runC_s]
    unfold ust
    simp only [List.length_cons]
    omega
theorem usF_e0 {x : Ca} {k c l u : Int} (h : (usF x k c l u).2 = 0) : usE x k c l u = 0 := by
  unfold usF at h
  by_cases hu : usE x k c l u ≠ 0
  · rw [if_pos hu] at h; exact h
  · exact Classical.not_not.1 hu
theorem frj_all (V : Int → Int) (ws ws' : List Wt) (p : Int × List Int) : frj V ws ws' p ws.length = frd V (ws.filter fun w => !isW ws' w.c) p := by
  unfold frj; rw [List.take_length]
def xN (L : List Cu) (i : Nat) : Ca := runC (ca1 9) (L.take i)
def vN (L : List Cu) (i : Nat) : (Int → Int) × Int × List Int := spL (ca1 9) (fun _ => 0) (0, []) (L.take i)
theorem xN_rv {L : List Cu} (ho : okN (ca1 9) L L.length) (i : Nat) : Rv (xN L (min i L.length)) (vN L (min i L.length)).1 (vN L (min i L.length)).2 :=
  spL_rv _ _ _ _ rv0 (okN_take ho (Nat.min_le_right _ _) (Nat.le_refl _))
theorem xN_rv' {L : List Cu} (ho : okN (ca1 9) L L.length) {i : Nat} (h : i ≤ L.length) : Rv (xN L i) (vN L i).1 (vN L i).2 := by
  have := xN_rv ho i
  rw [Nat.min_eq_left h] at this
  exact this
theorem xN_len (L : List Cu) (hl : L.length ≤ 60) (i : Nat) : (xN L i).sn.length ≤ 540 := by
  have h1 := runC_len (L.take i) (ca1 9) Vd.nil Hd.nil
  have h2 : (L.take i).length ≤ L.length := by rw [List.length_take]; omega
  have h3 : (ca1 9).sn.length = 0 := rfl
  unfold xN
  omega
theorem xN_cr (hG : G 0 = some alD) {L : List Cu} (hl : L.length ≤ 60) (ho : okN (ca1 9) L L.length) {i : Nat} (h : i < L.length) : EV G (Tb (bs bb)) 6 [vl (List.take (i + 1) (L.map Cu.e))] [] = some (crV ((xN L (i + 1)).k, ((i : Int) + 1), 0), []) := by
  have tl : (L.take (i + 1)).length = i + 1 := by rw [List.length_take]; omega
  have q := cacheRun_v (bb := bb) hG (L.take (i + 1)) (by omega)
  rw [crF_ok (by omega) (okN_take ho (by omega) (Nat.le_refl _)), tl] at q
  have e : ((i + 1 : Nat) : Int) = (i : Int) + 1 := by omega
  rw [e] at q
  simp only [cusV, List.map_take] at q
  exact q
def S1 (y : Ck) (L : List Cu) (i : Nat) : AS := if i = 0 then fz1 y L else fr1 y (xN L i).k L i (vN L i).1 (vN L i).2
theorem S1_go (hG : G 0 = some alD) (y : Ck) (L : List Cu) (hl : L.length ≤ 60) (ho : okN (ca1 9) L L.length) (i : Nat) (h : i < L.length) :
    rnK [0, 2, 2, 0, 0, 0, 0] 6 (EC (EV G (Tb (bs bb))) G h3l1 (S1 y L i)) = some (S1 y L (i + 1)) := by
  have hR := xN_rv' ho (Nat.le_of_lt h)
  have hR' : Rv (xN L (i + 1)) (vN L (i + 1)).1 (vN L (i + 1)).2 := xN_rv' ho h
  have e0 : (ust (xN L i) L[i]).2 = 0 := ho i h h
  have q1 := xN_cr (G := G) (bb := bb) hG hl ho h
  have hx : xN L (i + 1) = (ust (xN L i) L[i]).1 := runC_t (ca1 9) L i h
  have hv : vN L (i + 1) = (vls (vN L i).1 L[i].k L[i].c L[i].u, spc (vN L i).1 L[i].k L[i].c L[i].u (xN L i).ws (xN L (i + 1)).ws (vN L i).2.1 (vN L i).2.2) := by
    rw [hx]; exact spL_t L (ca1 9) _ _ i h
  have hn := xN_len L hl i
  have hn' := xN_len L hl (i + 1)
  have hc := (us_ok (usE_0 (usF_e0 e0)).2).2.1
  simp only at hc
  generalize ha : L[i] = a at *
  obtain ⟨k, c, lv, u⟩ := a
  simp only at hc hv hx e0
  obtain ⟨m, rfl, hm⟩ : ∃ m : Nat, c = (m : Int) + 1 ∧ m < 8 := ⟨(c - 1).toNat, by omega, by omega⟩
  have hs := hR.sn
  have hs' := hR'.sn
  have e1 : S1 y L (i + 1) = fr1 y (xN L (i + 1)).k L (i + 1) (vN L (i + 1)).1 (vN L (i + 1)).2 := if_neg (by omega)
  rw [e1]
  have hK : (xN L (i + 1)).k.K.length = 8 := rfl
  have hw2 : (xN L (i + 1)).k.ws.length ≤ 1000 := by have := hR'.vd.wl; show (xN L (i + 1)).ws.length ≤ 1000; omega
  by_cases hi : i = 0
  · subst hi
    have z1 : (vN L 0).1 = fun _ => 0 := rfl
    have z2 : (vN L 0).2 = (0, []) := rfl
    have z3 : (xN L 0).ws = [] := rfl
    rw [z1, z2, z3] at hv
    have hf : spc (fun _ => 0) k ((m : Int) + 1) u [] (xN L (0 + 1)).ws 0 [] = (if k = 3 ∧ isW (xN L (0 + 1)).ws ((m : Int) + 1) = false then u else 0, if k = 2 ∧ isW (xN L (0 + 1)).ws ((m : Int) + 1) = false then [] ++ [if k = 3 ∧ isW (xN L (0 + 1)).ws ((m : Int) + 1) = false then u else 0] else []) := rfl
    have := fz1_go (G := G) (bb := bb) hG y (xN L (0 + 1)).k L h hl k u lv m hm ha q1 hK hw2 (by show (xN L (0 + 1)).sn.length ≤ 10000; omega) _ rfl (by
      show (xN L (0 + 1)).sn = _
      rw [hs', hv]
      exact congrArg Prod.snd hf)
    rw [hv]
    exact this
  · have e2 : S1 y L i = fr1 y (xN L i).k L i (vN L i).1 (vN L i).2 := if_neg hi
    rw [e2]
    have ef := frj_all (vls (vN L i).1 k ((m : Int) + 1) u) (xN L i).ws (xN L (i + 1)).ws (if k = 3 ∧ isW (xN L (i + 1)).ws ((m : Int) + 1) = false then u else (vN L i).2.1, if k = 2 ∧ isW (xN L (i + 1)).ws ((m : Int) + 1) = false then (vN L i).2.2 ++ [if k = 3 ∧ isW (xN L (i + 1)).ws ((m : Int) + 1) = false then u else (vN L i).2.1] else (vN L i).2.2)
    have := fr1_go (G := G) (bb := bb) hG y (xN L i).k (xN L (i + 1)).k L i h hl (vN L i).1 (vN L i).2.1 (vN L i).2.2 k u lv m hm ha q1 hK (by have := hR.vd.wl; show (xN L i).ws.length ≤ 1000; omega) hw2 (fun w hw => (hR.vd.wr w hw).1) (by rw [← hs]; omega) (by
        show (vN L i).2.2.length ≤ (xN L (i + 1)).sn.length
        rw [hs', hv]
        have h1 := (frd_len (vls (vN L i).1 k ((m : Int) + 1) u) ((xN L i).ws.filter fun w => !isW (xN L (i + 1)).ws w.c) (if k = 3 ∧ isW (xN L (i + 1)).ws ((m : Int) + 1) = false then u else (vN L i).2.1, if k = 2 ∧ isW (xN L (i + 1)).ws ((m : Int) + 1) = false then (vN L i).2.2 ++ [if k = 3 ∧ isW (xN L (i + 1)).ws ((m : Int) + 1) = false then u else (vN L i).2.1] else (vN L i).2.2)).2
        refine Nat.le_trans ?_ h1
        simp only
        split
        · simp
        · exact Nat.le_refl _) (by show (xN L (i + 1)).sn.length ≤ 10000; omega) _ rfl (by
        show (xN L (i + 1)).sn = _
        rw [hs', hv]
        exact (congrArg Prod.snd ef).symm)
    rw [hv]
    have e3 : (spc (vN L i).1 k ((m : Int) + 1) u (xN L i).ws (xN L (i + 1)).ws (vN L i).2.1 (vN L i).2.2) = _ := ef.symm
    simp only
    rw [e3]
    exact this
theorem S1_run (hG : G 0 = some alD) {st : AS} (y : Ck) (L : List Cu) (hl : L.length ≤ 60) (ho : okN (ca1 9) L L.length) (h0 : st = fz1 y L) :
    EL (EV G (Tb (bs bb))) G h3l1 [0, 2, 2, 0, 0, 0, 0] 6 st = fnK (EV G (Tb (bs bb))) G h3l1 [0, 2, 2, 0, 0, 0, 0] 6 (EC (EV G (Tb (bs bb))) G h3l1 (S1 y L L.length)) := by
  subst h0
  exact EL_loop (fun i => S1 y L i) L.length (by rfl) (fun i hi => S1_go hG y L hl ho i hi)
def S2 (y : Ck) (L : List Cu) (i : Nat) : AS := if i = 0 then fz2 y L else fr2 y (xN L i).k L i (vN L i).1 (vN L i).2
theorem S2_go (hG : G 0 = some alD) (y : Ck) (L : List Cu) (hl : L.length ≤ 60) (ho : okN (ca1 9) L L.length) (i : Nat) (h : i < L.length) :
    rnK [0, 2, 2, 0, 0, 0, 0] 7 (EC (EV G (Tb (bs bb))) G h3l1 (S2 y L i)) = some (S2 y L (i + 1)) := by
  have hR := xN_rv' ho (Nat.le_of_lt h)
  have hR' : Rv (xN L (i + 1)) (vN L (i + 1)).1 (vN L (i + 1)).2 := xN_rv' ho h
  have e0 : (ust (xN L i) L[i]).2 = 0 := ho i h h
  have q1 := xN_cr (G := G) (bb := bb) hG hl ho h
  have hx : xN L (i + 1) = (ust (xN L i) L[i]).1 := runC_t (ca1 9) L i h
  have hv : vN L (i + 1) = (vls (vN L i).1 L[i].k L[i].c L[i].u, spc (vN L i).1 L[i].k L[i].c L[i].u (xN L i).ws (xN L (i + 1)).ws (vN L i).2.1 (vN L i).2.2) := by
    rw [hx]; exact spL_t L (ca1 9) _ _ i h
  have hn := xN_len L hl i
  have hn' := xN_len L hl (i + 1)
  have hc := (us_ok (usE_0 (usF_e0 e0)).2).2.1
  simp only at hc
  generalize ha : L[i] = a at *
  obtain ⟨k, c, lv, u⟩ := a
  simp only at hc hv hx e0
  obtain ⟨m, rfl, hm⟩ : ∃ m : Nat, c = (m : Int) + 1 ∧ m < 8 := ⟨(c - 1).toNat, by omega, by omega⟩
  have hs := hR.sn
  have hs' := hR'.sn
  have e1 : S2 y L (i + 1) = fr2 y (xN L (i + 1)).k L (i + 1) (vN L (i + 1)).1 (vN L (i + 1)).2 := if_neg (by omega)
  rw [e1]
  have hK : (xN L (i + 1)).k.K.length = 8 := rfl
  have hw2 : (xN L (i + 1)).k.ws.length ≤ 1000 := by have := hR'.vd.wl; show (xN L (i + 1)).ws.length ≤ 1000; omega
  by_cases hi : i = 0
  · subst hi
    have z1 : (vN L 0).1 = fun _ => 0 := rfl
    have z2 : (vN L 0).2 = (0, []) := rfl
    have z3 : (xN L 0).ws = [] := rfl
    rw [z1, z2, z3] at hv
    have hf : spc (fun _ => 0) k ((m : Int) + 1) u [] (xN L (0 + 1)).ws 0 [] = (if k = 3 ∧ isW (xN L (0 + 1)).ws ((m : Int) + 1) = false then u else 0, if k = 2 ∧ isW (xN L (0 + 1)).ws ((m : Int) + 1) = false then [] ++ [if k = 3 ∧ isW (xN L (0 + 1)).ws ((m : Int) + 1) = false then u else 0] else []) := rfl
    have := fz2_go (G := G) (bb := bb) hG y (xN L (0 + 1)).k L h hl k u lv m hm ha q1 hK hw2 (by show (xN L (0 + 1)).sn.length ≤ 10000; omega) _ rfl (by
      show (xN L (0 + 1)).sn = _
      rw [hs', hv]
      exact congrArg Prod.snd hf)
    rw [hv]
    exact this
  · have e2 : S2 y L i = fr2 y (xN L i).k L i (vN L i).1 (vN L i).2 := if_neg hi
    rw [e2]
    have ef := frj_all (vls (vN L i).1 k ((m : Int) + 1) u) (xN L i).ws (xN L (i + 1)).ws (if k = 3 ∧ isW (xN L (i + 1)).ws ((m : Int) + 1) = false then u else (vN L i).2.1, if k = 2 ∧ isW (xN L (i + 1)).ws ((m : Int) + 1) = false then (vN L i).2.2 ++ [if k = 3 ∧ isW (xN L (i + 1)).ws ((m : Int) + 1) = false then u else (vN L i).2.1] else (vN L i).2.2)
    have := fr2_go (G := G) (bb := bb) hG y (xN L i).k (xN L (i + 1)).k L i h hl (vN L i).1 (vN L i).2.1 (vN L i).2.2 k u lv m hm ha q1 hK (by have := hR.vd.wl; show (xN L i).ws.length ≤ 1000; omega) hw2 (fun w hw => (hR.vd.wr w hw).1) (by rw [← hs]; omega) (by
        show (vN L i).2.2.length ≤ (xN L (i + 1)).sn.length
        rw [hs', hv]
        have h1 := (frd_len (vls (vN L i).1 k ((m : Int) + 1) u) ((xN L i).ws.filter fun w => !isW (xN L (i + 1)).ws w.c) (if k = 3 ∧ isW (xN L (i + 1)).ws ((m : Int) + 1) = false then u else (vN L i).2.1, if k = 2 ∧ isW (xN L (i + 1)).ws ((m : Int) + 1) = false then (vN L i).2.2 ++ [if k = 3 ∧ isW (xN L (i + 1)).ws ((m : Int) + 1) = false then u else (vN L i).2.1] else (vN L i).2.2)).2
        refine Nat.le_trans ?_ h1
        simp only
        split
        · simp
        · exact Nat.le_refl _) (by show (xN L (i + 1)).sn.length ≤ 10000; omega) _ rfl (by
        show (xN L (i + 1)).sn = _
        rw [hs', hv]
        exact (congrArg Prod.snd ef).symm)
    rw [hv]
    have e3 : (spc (vN L i).1 k ((m : Int) + 1) u (xN L i).ws (xN L (i + 1)).ws (vN L i).2.1 (vN L i).2.2) = _ := ef.symm
    simp only
    rw [e3]
    exact this
theorem S2_run (hG : G 0 = some alD) {st : AS} (y : Ck) (L : List Cu) (hl : L.length ≤ 60) (ho : okN (ca1 9) L L.length) (h0 : st = fz2 y L) :
    EL (EV G (Tb (bs bb))) G h3l1 [0, 2, 2, 0, 0, 0, 0] 7 st = fnK (EV G (Tb (bs bb))) G h3l1 [0, 2, 2, 0, 0, 0, 0] 7 (EC (EV G (Tb (bs bb))) G h3l1 (S2 y L L.length)) := by
  subst h0
  exact EL_loop (fun i => S2 y L i) L.length (by rfl) (fun i hi => S2_go hG y L hl ho i hi)
end
section
variable {G : Glob} {bb : Bool}
def es1 (y : Ck) (d1 d2 d3 : List (List DC)) (cs : List Cel) (last v : Int) (j : Nat) : AS := ⟨(jk 3 (.one (.ptr 1 0) :: jk 2 (vi last :: jk 11 (vi v :: vi j :: jk 205 [])))), [.dead, .box (ckC y), .arr 0 1 d1, .arr 0 1 d2, .arr 0 1 d3, .box cs]⟩
theorem es1_go (x : Ca) (y : Ck) (d1 d2 d3 : List (List DC)) (cs : List Cel) (hc : ctCs 6 cs = cs) (hK : (y.K.map ci0) = (kl x.K).map ci0) (hD : (y.D.map bo) = (kl x.D).map bo) (k8 : (y.K.length : Int) = 8) (last : Int) (j : Nat) (hj : j < 8) :
    rnK [3, 2, 11, 0] 6 (EC (EV G (Tb (bs bb))) G h3l2 (es1 y d1 d2 d3 cs last (endF x j) j)) = some (es1 y d1 d2 d3 cs last (endF x (j + 1)) (j + 1)) := by
  have e1 : ((kl x.K).map ci0)[j]? = some [ci (x.K (j + 1))] := ki_get x.K hj
  have e2 : ((kl x.D).map bo)[j]? = some [.raw (.bool (x.D (j + 1)))] := by rw [List.getElem?_map, kl_get x.D hj]; rfl
  have j8 : (j : Int) < 8 := by omega
  rw [endF]
  unfold es1
  rw [← hK] at e1
  rw [← hD] at e2
  cases hd : x.D (j + 1) with
  | true =>
    rw [hd] at e2
    rw [if_pos rfl]
    simp (disch := omega) only [go_sem, h3l2, e1, e2, k8, j8, hc]
    try rfl
  | false =>
    rw [hd] at e2
    rw [if_neg (by simp)]
    generalize endF x j = ev at *
    simp (disch := omega) only [go_sem, h3l2, e1, e2, k8, j8, hc]
    try rfl
theorem es1_end {st : AS} (x : Ca) (y : Ck) (d1 d2 d3 : List (List DC)) (cs : List Cel) (hc : ctCs 6 cs = cs) (hK : (y.K.map ci0) = (kl x.K).map ci0) (hD : (y.D.map bo) = (kl x.D).map bo) (k8 : (y.K.length : Int) = 8) (last : Int) (h0 : st = es1 y d1 d2 d3 cs last x.v 0) :
    EL (EV G (Tb (bs bb))) G h3l2 [3, 2, 11, 0] 6 st = fnK (EV G (Tb (bs bb))) G h3l2 [3, 2, 11, 0] 6 (EC (EV G (Tb (bs bb))) G h3l2 (es1 y d1 d2 d3 cs last (endF x 8) 8)) := by
  subst h0
  exact EL_loop (fun j => es1 y d1 d2 d3 cs last (endF x j) j) 8 (by rfl) (fun j hj => es1_go x y d1 d2 d3 cs hc hK hD k8 last j hj)
def es2 (y : Ck) (d1 d2 d3 : List (List DC)) (cs : List Cel) (last v : Int) (j : Nat) : AS := ⟨(jk 3 (.one (.ptr 1 0) :: jk 2 (vi last :: jk 11 (vi v :: vi j :: jk 205 [])))), [.dead, .box (ckC y), .dead, .arr 0 1 d1, .arr 0 1 d2, .arr 0 1 d3, .box cs]⟩
theorem es2_go (x : Ca) (y : Ck) (d1 d2 d3 : List (List DC)) (cs : List Cel) (hc : ctCs 7 cs = cs) (hK : (y.K.map ci0) = (kl x.K).map ci0) (hD : (y.D.map bo) = (kl x.D).map bo) (k8 : (y.K.length : Int) = 8) (last : Int) (j : Nat) (hj : j < 8) :
    rnK [3, 2, 11, 0] 7 (EC (EV G (Tb (bs bb))) G h3l2 (es2 y d1 d2 d3 cs last (endF x j) j)) = some (es2 y d1 d2 d3 cs last (endF x (j + 1)) (j + 1)) := by
  have e1 : ((kl x.K).map ci0)[j]? = some [ci (x.K (j + 1))] := ki_get x.K hj
  have e2 : ((kl x.D).map bo)[j]? = some [.raw (.bool (x.D (j + 1)))] := by rw [List.getElem?_map, kl_get x.D hj]; rfl
  have j8 : (j : Int) < 8 := by omega
  rw [endF]
  unfold es2
  rw [← hK] at e1
  rw [← hD] at e2
  cases hd : x.D (j + 1) with
  | true =>
    rw [hd] at e2
    rw [if_pos rfl]
    simp (disch := omega) only [go_sem, h3l2, e1, e2, k8, j8, hc]
    try rfl
  | false =>
    rw [hd] at e2
    rw [if_neg (by simp)]
    generalize endF x j = ev at *
    simp (disch := omega) only [go_sem, h3l2, e1, e2, k8, j8, hc]
    try rfl
theorem es2_end {st : AS} (x : Ca) (y : Ck) (d1 d2 d3 : List (List DC)) (cs : List Cel) (hc : ctCs 7 cs = cs) (hK : (y.K.map ci0) = (kl x.K).map ci0) (hD : (y.D.map bo) = (kl x.D).map bo) (k8 : (y.K.length : Int) = 8) (last : Int) (h0 : st = es2 y d1 d2 d3 cs last x.v 0) :
    EL (EV G (Tb (bs bb))) G h3l2 [3, 2, 11, 0] 7 st = fnK (EV G (Tb (bs bb))) G h3l2 [3, 2, 11, 0] 7 (EC (EV G (Tb (bs bb))) G h3l2 (es2 y d1 d2 d3 cs last (endF x 8) 8)) := by
  subst h0
  exact EL_loop (fun j => es2 y d1 d2 d3 cs last (endF x j) j) 8 (by rfl) (fun j hj => es2_go x y d1 d2 d3 cs hc hK hD k8 last j hj)
end
end Go.Proofs.YtinageiefahjfaaDoor
