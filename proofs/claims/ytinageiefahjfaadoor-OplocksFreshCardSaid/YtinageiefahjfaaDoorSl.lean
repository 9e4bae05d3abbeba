/- Nobody sees an old value: the rounds of the law's walk. Conditions: none. -/
import Derived.Test.YtinageiefahjfaaDoorWc
import Derived.Test.YtinageiefahjfaaDoorUg
namespace Go.Proofs.YtinageiefahjfaaDoor
set_option linter.unusedSimpArgs false
set_option linter.unusedVariables false
set_option maxRecDepth 4000
variable {G : Glob} {bb : Bool}
def kl {α : Type} (f : Nat → α) : List α := [f 1, f 2, f 3, f 4, f 5, f 6, f 7, f 8]
theorem kl_get {α : Type} (f : Nat → α) {m : Nat} (h : m < 8) : (kl f)[m]? = some (f (m + 1)) := by
  match m, h with
  | 0, _ | 1, _ | 2, _ | 3, _ | 4, _ | 5, _ | 6, _ | 7, _ => rfl
theorem kl_set {α : Type} (f : Nat → α) {m : Nat} (h : m < 8) (x : α) : (kl f).set m x = kl (upd f (m + 1) x) := by
  match m, h with
  | 0, _ | 1, _ | 2, _ | 3, _ | 4, _ | 5, _ | 6, _ | 7, _ => rfl
theorem ki_get (f : Nat → Int) {m : Nat} (h : m < 8) : ((kl f).map ci0)[m]? = some [ci (f (m + 1))] := by rw [List.getElem?_map, kl_get f h]; rfl
theorem ki_set (f : Nat → Int) {m : Nat} (h : m < 8) (x : Int) : ((kl f).map ci0).set m [ci x] = (kl (upd f (m + 1) x)).map ci0 := by rw [← kl_set f h, List.map_set]; rfl
theorem ki_len (f : Nat → Int) : ((kl f).map ci0).length = 8 := rfl
theorem kl_len {α : Type} (f : Nat → α) : (kl f).length = 8 := rfl
def nV (V : Int → Int) : Nat → Int := fun n => V (n : Int)
theorem nV_u (V : Int → Int) (m : Nat) (u : Int) : upd (nV V) (m + 1) u = nV (updI V ((m : Int) + 1) u) := by
  funext n
  unfold upd nV updI
  by_cases h : n = m + 1
  · rw [if_pos h, if_pos (by omega)]
  · rw [if_neg h, if_neg (by omega)]
theorem all_cu (l : List Cu) : ((l.map Cu.e).all fun e => decide (e.length = 4)) = true := by simp [Cu.e]
def frj (V : Int → Int) (ws ws' : List Wt) (p : Int × List Int) (j : Nat) : Int × List Int := frd V ((ws.take j).filter fun w => !isW ws' w.c) p
theorem frd_app (V : Int → Int) : ∀ (a b : List Wt) (p : Int × List Int), frd V (a ++ b) p = frd V b (frd V a p)
  | [], b, p => rfl
  | w :: a, b, p => by rw [List.cons_append, frd, frd, frd_app V a b]
theorem frj_s (V : Int → Int) (ws ws' : List Wt) (p : Int × List Int) (j : Nat) (h : j < ws.length) : frj V ws ws' p (j + 1) = if isW ws' ws[j].c = true then frj V ws ws' p j else (if ws[j].k = 3 then V ws[j].c else (frj V ws ws' p j).1, if ws[j].k = 2 then (frj V ws ws' p j).2 ++ [(frj V ws ws' p j).1] else (frj V ws ws' p j).2) := by
  unfold frj
  rw [List.take_add_one, List.getElem?_eq_getElem h, Option.toList_some, List.filter_append, frd_app]
  by_cases hw : isW ws' ws[j].c = true
  · rw [if_pos hw, List.filter_cons_of_neg (by simp [hw])]; rfl
  · rw [if_neg hw, List.filter_cons_of_pos (by simp [hw])]; rfl
theorem frd_len (V : Int → Int) : ∀ (l : List Wt) (p : Int × List Int), (frd V l p).2.length ≤ p.2.length + l.length ∧ p.2.length ≤ (frd V l p).2.length
  | [], p => ⟨Nat.le_refl _, Nat.le_refl _⟩
  | w :: l, p => by
    have h := frd_len V l (if w.k = 3 then V w.c else p.1, if w.k = 2 then p.2 ++ [p.1] else p.2)
    rw [frd]
    generalize (if w.k = 3 then V w.c else p.1) = z at *
    by_cases h2 : w.k = 2
    · rw [if_pos h2] at h ⊢
      simp only [List.length_append, List.length_cons, List.length_nil] at h ⊢
      omega
    · rw [if_neg h2] at h ⊢
      simp only [List.length_cons] at h ⊢
      omega
theorem frj_len (V : Int → Int) (ws ws' : List Wt) (p : Int × List Int) (j : Nat) : (frj V ws ws' p j).2.length ≤ p.2.length + ws.length := by
  have h := (frd_len V ((ws.take j).filter fun w => !isW ws' w.c) p).1
  have h1 := List.length_filter_le (fun w => !isW ws' w.c) (ws.take j)
  have h2 : (ws.take j).length ≤ ws.length := by rw [List.length_take]; omega
  unfold frj
  omega
theorem wtI_p {ws : List Wt} {c : Int} : (wtI ws c ≥ 0) = (isW ws c = true) := by
  rw [← wtI_in]
  simp
def fr1 (y b : Ck) (L : List Cu) (i : Nat) (V : Int → Int) (p : Int × List Int) : AS := ⟨(cusV L :: jk 2 (.one (.ptr 1 0) :: jk 2 (vi p.1 :: .one (.bld 2 8) :: .one (.bld 3 p.2.length) :: .one (.ptr 5 0) :: vi i :: jk 214 []))), [.dead, .box (ckC y), .arr 0 1 ((kl (nV V)).map ci0), .arr 0 1 (p.2.map ci0), .arr 0 1 (List.replicate 8 [ci (-1)]), .box (ckC b)]⟩
def fl1 (y b a' : Ck) (L : List Cu) (i : Nat) (V : Int → Int) (r : List Cel) (p : Int × List Int) (j : Nat) : AS := ⟨(cusV L :: jk 2 (.one (.ptr 1 0) :: jk 2 (vi p.1 :: .one (.bld 2 8) :: .one (.bld 3 p.2.length) :: .one (.ptr 5 0) :: vi i :: .one (.ptr 7 0) :: jk 4 (vi j :: jk 208 [])))), [.dead, .box (ckC y), .arr 0 1 ((kl (nV V)).map ci0), .arr 0 1 (p.2.map ci0), .arr 0 1 (List.replicate 8 [ci (-1)]), .box (ckC b), .dead, .box (ckC a'), .box r]⟩
set_option maxHeartbeats 4000000 in
theorem fl1_go (y b a' : Ck) (L : List Cu) (i : Nat) (V : Int → Int) (r : List Cel) (r0 r1 r2 : Int) (hr : r = [.dc (ci r0), .dc (ci r1), .dc (ci r2)]) (last : Int) (seen : List Int) (j : Nat) (hj : j < b.ws.length) (m : Nat) (hm : m < 8) (k : Int) (hw : b.ws[j] = ⟨(m : Int) + 1, k⟩) (hw1 : b.ws.length ≤ 1000) (hw2 : a'.ws.length ≤ 1000) (hn : seen.length ≤ 5000) :
    rnK [0, 2, 2, 0, 0, 0, 0, 0, 4] 9 (EC (EV G (Tb (bs bb))) G h3l0 (fl1 y b a' L i V r (last, seen) j)) = some (fl1 y b a' L i V r (if isW a'.ws ((m : Int) + 1) = true then (last, seen) else (if k = 3 then V ((m : Int) + 1) else last, if k = 2 then seen ++ [last] else seen)) (j + 1)) := by
  subst hr
  have eg : (b.ws.map Wt.e)[j]? = some [ci ((m : Int) + 1), ci k] := by rw [List.getElem?_map, List.getElem?_eq_getElem hj, hw]; rfl
  have em : ((m : Int) + 1 - 1).toNat = m := by omega
  have q2 := rwaiting_v (G := G) (bb := bb) a'.gs a'.ws ((m : Int) + 1) (by omega)
  have e3 : ((kl (nV V)).map ci0)[m]? = some [ci (V ((m : Int) + 1))] := ki_get (nV V) hm
  have e5 := ki_len (nV V)
  have ms : (seen ++ [last]).map ci0 = seen.map ci0 ++ [[ci last]] := by rw [List.map_append]; rfl
  have lsn : (seen ++ [last]).length = seen.length + 1 := by simp
  have tS : List.take seen.length (seen.map ci0) = seen.map ci0 := List.take_of_length_le (by simp)
  unfold fl1
  by_cases hw : isW a'.ws ((m : Int) + 1) = true
  · have hw' : (wtI a'.ws ((m : Int) + 1) ≥ 0) = True := by rw [wtI_p]; exact eq_true hw
    rw [if_pos hw]
    generalize wtI a'.ws ((m : Int) + 1) = w at *
    simp (maxSteps := 1000000) (disch := omega) only [go_sem, h3l0, eg, em, q2, hw', e3, e5]
    try rfl
  · have hw' : (wtI a'.ws ((m : Int) + 1) ≥ 0) = False := by rw [wtI_p]; exact eq_false hw
    rw [if_neg hw]
    generalize wtI a'.ws ((m : Int) + 1) = w at *
    by_cases k3 : k = 3
    · have k2 : ¬ k = 2 := by omega
      rw [if_pos k3, if_neg k2]
      simp (maxSteps := 1000000) (disch := omega) only [go_sem, h3l0, eg, em, q2, hw', e3, e5, eq_true k3, k2, kl_len]
      try rfl
    · rw [if_neg k3]
      by_cases k2 : k = 2
      · rw [if_pos k2]
        simp only [ms, lsn]
        simp (maxSteps := 1000000) (disch := omega) only [go_sem, h3l0, eg, em, q2, hw', e3, e5, k3, eq_true k2, kl_len, tS]
        try rfl
      · rw [if_neg k2]
        simp (maxSteps := 1000000) (disch := omega) only [go_sem, h3l0, eg, em, q2, hw', e3, e5, k3, k2, kl_len]
        try rfl
set_option maxHeartbeats 4000000 in
theorem fr1_go (hG : G 0 = some alD) (y b a' : Ck) (L : List Cu) (i : Nat) (hk : i < L.length) (hl : L.length ≤ 60) (V : Int → Int) (last : Int) (seen : List Int) (k u lv : Int) (m : Nat) (hm : m < 8) (ha : L[i] = ⟨k, (m : Int) + 1, lv, u⟩)
    (q1 : EV G (Tb (bs bb)) 6 [vl (List.take (i + 1) (L.map Cu.e))] [] = some (crV (a', ((i : Int) + 1), 0), [])) (hK : a'.K.length = 8) (hw1 : b.ws.length ≤ 1000) (hw2 : a'.ws.length ≤ 1000) (hc : ∀ w ∈ b.ws, 1 ≤ w.c ∧ w.c ≤ 8) (hn : seen.length ≤ 3000) (hs : seen.length ≤ a'.sn.length) (hs2 : a'.sn.length ≤ 10000)
    (p0 : Int × List Int) (hp0 : p0 = (if k = 3 ∧ isW a'.ws ((m : Int) + 1) = false then u else last, if k = 2 ∧ isW a'.ws ((m : Int) + 1) = false then seen ++ [if k = 3 ∧ isW a'.ws ((m : Int) + 1) = false then u else last] else seen))
    (he : a'.sn = (frj (vls V k ((m : Int) + 1) u) b.ws a'.ws p0 b.ws.length).2) :
    rnK [0, 2, 2, 0, 0, 0, 0] 6 (EC (EV G (Tb (bs bb))) G h3l1 (fr1 y b L i V (last, seen))) = some (fr1 y a' L (i + 1) (vls V k ((m : Int) + 1) u) (frj (vls V k ((m : Int) + 1) u) b.ws a'.ws p0 b.ws.length)) := by
  have eg : (L.map Cu.e)[i]? = some [ci k, ci ((m : Int) + 1), ci lv, ci u] := by rw [List.getElem?_map, List.getElem?_eq_getElem hk, ha]; rfl
  have sl3 : (0 : Int) ≤ (i : Int) + 1 ∧ (i : Int) + 1 ≤ (L.length : Int) := by omega
  have ti : ((i : Int) + 1).toNat = i + 1 := by omega
  have em : ((m : Int) + 1 - 1).toNat = m := by omega
  have al5 : allLen 4 (List.take (i + 1) (L.map Cu.e)) = true := by rw [← List.map_take]; exact allLen_map (f := Cu.e) (n := 4) (fun _ => rfl) _
  have tl2 : (List.take (i + 1) (L.map Cu.e)).length = i + 1 := by rw [List.length_take, List.length_map]; omega
  have tk2 : List.take (i + 1) (List.take (i + 1) (L.map Cu.e)) = List.take (i + 1) (L.map Cu.e) := by rw [List.take_take, Nat.min_self]
  have K8 : (a'.K.length : Int) = 8 := by omega
  have hs' : ¬ (a'.sn.length : Int) < (seen.length : Int) := by omega
  have q2 := rwaiting_v (G := G) (bb := bb) a'.gs a'.ws ((m : Int) + 1) (by omega)
  have q3 := ints_v (G := G) (bb := bb) a'.sn a'.sn (by omega)
  rw [decide_eq_true rfl] at q3
  have e3 := ki_get (nV V) hm
  have e4 := ki_set (nV V) hm u
  have e5 := ki_len (nV V)
  rw [nV_u] at e4
  have ms : (seen ++ [last]).map ci0 = seen.map ci0 ++ [[ci last]] := by rw [List.map_append]; rfl
  have lsn : (seen ++ [last]).length = seen.length + 1 := by simp
  have tS : List.take seen.length (seen.map ci0) = seen.map ci0 := List.take_of_length_le (by simp)
  have hp1 : p0.2.length ≤ 3001 := by
    rw [hp0]
    by_cases hq : k = 2 ∧ isW a'.ws ((m : Int) + 1) = false
    · simp only [if_pos hq, List.length_append, List.length_cons, List.length_nil]; omega
    · simp only [if_neg hq]; omega
  have lp : ∀ V' st, st = fl1 y b a' L i V' [.dc (ci k), .dc (ci ((m : Int) + 1)), .dc (ci lv)] p0 0 → EL (EV G (Tb (bs bb))) G h3l0 [0, 2, 2, 0, 0, 0, 0, 0, 4] 9 st = fnK (EV G (Tb (bs bb))) G h3l0 [0, 2, 2, 0, 0, 0, 0, 0, 4] 9 (EC (EV G (Tb (bs bb))) G h3l0 (fl1 y b a' L i V' [.dc (ci k), .dc (ci ((m : Int) + 1)), .dc (ci lv)] (frj V' b.ws a'.ws p0 b.ws.length) b.ws.length)) := by
    intro V' st hst
    subst hst
    refine EL_loop (fun j => fl1 y b a' L i V' [.dc (ci k), .dc (ci ((m : Int) + 1)), .dc (ci lv)] (frj V' b.ws a'.ws p0 j) j) b.ws.length ?_ (fun j hj => ?_)
    · rfl
    · have hl := frj_len V' b.ws a'.ws p0 j
      have hc' := hc b.ws[j] (List.getElem_mem hj)
      rw [frj_s V' b.ws a'.ws p0 j hj]
      generalize frj V' b.ws a'.ws p0 j = q at *
      obtain ⟨la, se⟩ := q
      have hw : b.ws[j] = ⟨(((b.ws[j].c - 1).toNat : Nat) : Int) + 1, b.ws[j].k⟩ := by
        have : (((b.ws[j].c - 1).toNat : Nat) : Int) + 1 = b.ws[j].c := by omega
        rw [this]
      have := fl1_go (G := G) (bb := bb) y b a' L i V' [.dc (ci k), .dc (ci ((m : Int) + 1)), .dc (ci lv)] k ((m : Int) + 1) lv rfl la se j hj (b.ws[j].c - 1).toNat (by omega) b.ws[j].k hw hw1 hw2 (by simp only at hl; omega)
      have e : (((b.ws[j].c - 1).toNat : Nat) : Int) + 1 = b.ws[j].c := by omega
      rw [e] at this
      exact this
  unfold fr1
  by_cases hw : isW a'.ws ((m : Int) + 1) = true
  · have hw' : (wtI a'.ws ((m : Int) + 1) ≥ 0) = True := by rw [wtI_p]; exact eq_true hw
    generalize wtI a'.ws ((m : Int) + 1) = w at *
    by_cases k3 : k = 3
    · have k2 : ¬ k = 2 := by omega
      have hp : p0 = (last, seen) := by rw [hp0]; simp [k3, hw]
      have hV : vls V k ((m : Int) + 1) u = updI V ((m : Int) + 1) u := by unfold vls; simp [k3]
      rw [hV] at he ⊢
      have hq := lp (updI V ((m : Int) + 1) u)
      subst hp
      simp (maxSteps := 1000000) (disch := omega) only [go_sem, h3l1, eg, eq_true sl3, ti, em, al5, tl2, tk2, K8, hs', q1, q2, e3, e4, e5, eq_true k3, k2, hw', all_cu, List.drop_zero, kl_len, tS]
      rw [hq _ ?_]
      rotate_left
      · unfold fl1; rfl
      rw [he] at q3
      generalize frj (updI V ((m : Int) + 1) u) b.ws a'.ws (last, seen) b.ws.length = q at *
      unfold fl1
      have tQ : List.take q.2.length (q.2.map ci0) = q.2.map ci0 := List.take_of_length_le (by simp)
      rw [← he] at q3
      have q4 : EV G (Tb (bs bb)) 9 [vl (a'.sn.map ci0), vl (q.2.map ci0)] [] = some (vb true, []) := by rw [← he]; exact q3
      simp (maxSteps := 1000000) (disch := omega) only [go_sem, h3l0, h3l1, q4, tQ, kl_len]
      try rfl
    · by_cases k2 : k = 2
      · have hp : p0 = (last, seen) := by rw [hp0]; simp [k3, k2, hw]
        have hV : vls V k ((m : Int) + 1) u = V := by unfold vls; simp [k3, k2]
        rw [hV] at he ⊢
        have hq := lp (V)
        subst hp
        simp (maxSteps := 1000000) (disch := omega) only [go_sem, h3l1, eg, eq_true sl3, ti, em, al5, tl2, tk2, K8, hs', q1, q2, e3, e4, e5, k3, eq_true k2, hw', all_cu, List.drop_zero, kl_len, tS]
        rw [hq _ ?_]
        rotate_left
        · unfold fl1; rfl
        rw [he] at q3
        generalize frj (V) b.ws a'.ws (last, seen) b.ws.length = q at *
        unfold fl1
        have tQ : List.take q.2.length (q.2.map ci0) = q.2.map ci0 := List.take_of_length_le (by simp)
        rw [← he] at q3
        have q4 : EV G (Tb (bs bb)) 9 [vl (a'.sn.map ci0), vl (q.2.map ci0)] [] = some (vb true, []) := by rw [← he]; exact q3
        simp (maxSteps := 1000000) (disch := omega) only [go_sem, h3l0, h3l1, q4, tQ, kl_len]
        try rfl
      · have hp : p0 = (last, seen) := by rw [hp0]; simp [k3, k2, hw]
        have hV : vls V k ((m : Int) + 1) u = V := by unfold vls; simp [k3, k2]
        rw [hV] at he ⊢
        have hq := lp (V)
        subst hp
        simp (maxSteps := 1000000) (disch := omega) only [go_sem, h3l1, eg, eq_true sl3, ti, em, al5, tl2, tk2, K8, hs', q1, q2, e3, e4, e5, k3, k2, hw', all_cu, List.drop_zero, kl_len, tS]
        rw [hq _ ?_]
        rotate_left
        · unfold fl1; rfl
        rw [he] at q3
        generalize frj (V) b.ws a'.ws (last, seen) b.ws.length = q at *
        unfold fl1
        have tQ : List.take q.2.length (q.2.map ci0) = q.2.map ci0 := List.take_of_length_le (by simp)
        rw [← he] at q3
        have q4 : EV G (Tb (bs bb)) 9 [vl (a'.sn.map ci0), vl (q.2.map ci0)] [] = some (vb true, []) := by rw [← he]; exact q3
        simp (maxSteps := 1000000) (disch := omega) only [go_sem, h3l0, h3l1, q4, tQ, kl_len]
        try rfl
  · have hw' : (wtI a'.ws ((m : Int) + 1) ≥ 0) = False := by rw [wtI_p]; exact eq_false hw
    generalize wtI a'.ws ((m : Int) + 1) = w at *
    by_cases k3 : k = 3
    · have k2 : ¬ k = 2 := by omega
      have hp : p0 = (u, seen) := by rw [hp0]; simp [k3, hw]
      have hV : vls V k ((m : Int) + 1) u = updI V ((m : Int) + 1) u := by unfold vls; simp [k3]
      rw [hV] at he ⊢
      have hq := lp (updI V ((m : Int) + 1) u)
      subst hp
      simp (maxSteps := 1000000) (disch := omega) only [go_sem, h3l1, eg, eq_true sl3, ti, em, al5, tl2, tk2, K8, hs', q1, q2, e3, e4, e5, eq_true k3, k2, hw', all_cu, List.drop_zero, kl_len, tS]
      rw [hq _ ?_]
      rotate_left
      · unfold fl1; rfl
      rw [he] at q3
      generalize frj (updI V ((m : Int) + 1) u) b.ws a'.ws (u, seen) b.ws.length = q at *
      unfold fl1
      have tQ : List.take q.2.length (q.2.map ci0) = q.2.map ci0 := List.take_of_length_le (by simp)
      rw [← he] at q3
      have q4 : EV G (Tb (bs bb)) 9 [vl (a'.sn.map ci0), vl (q.2.map ci0)] [] = some (vb true, []) := by rw [← he]; exact q3
      simp (maxSteps := 1000000) (disch := omega) only [go_sem, h3l0, h3l1, q4, tQ, kl_len]
      try rfl
    · by_cases k2 : k = 2
      · have hp : p0 = (last, seen ++ [last]) := by rw [hp0]; simp [k3, k2, hw]
        have hV : vls V k ((m : Int) + 1) u = V := by unfold vls; simp [k3, k2]
        rw [hV] at he ⊢
        have hq := lp (V)
        subst hp
        simp (maxSteps := 1000000) (disch := omega) only [go_sem, h3l1, eg, eq_true sl3, ti, em, al5, tl2, tk2, K8, hs', q1, q2, e3, e4, e5, k3, eq_true k2, hw', all_cu, List.drop_zero, kl_len, tS]
        rw [hq _ ?_]
        rotate_left
        · unfold fl1; simp only [ms, lsn]; rfl
        rw [he] at q3
        generalize frj (V) b.ws a'.ws (last, seen ++ [last]) b.ws.length = q at *
        unfold fl1
        have tQ : List.take q.2.length (q.2.map ci0) = q.2.map ci0 := List.take_of_length_le (by simp)
        rw [← he] at q3
        have q4 : EV G (Tb (bs bb)) 9 [vl (a'.sn.map ci0), vl (q.2.map ci0)] [] = some (vb true, []) := by rw [← he]; exact q3
        simp (maxSteps := 1000000) (disch := omega) only [go_sem, h3l0, h3l1, q4, tQ, kl_len]
        try rfl
      · have hp : p0 = (last, seen) := by rw [hp0]; simp [k3, k2, hw]
        have hV : vls V k ((m : Int) + 1) u = V := by unfold vls; simp [k3, k2]
        rw [hV] at he ⊢
        have hq := lp (V)
        subst hp
        simp (maxSteps := 1000000) (disch := omega) only [go_sem, h3l1, eg, eq_true sl3, ti, em, al5, tl2, tk2, K8, hs', q1, q2, e3, e4, e5, k3, k2, hw', all_cu, List.drop_zero, kl_len, tS]
        rw [hq _ ?_]
        rotate_left
        · unfold fl1; rfl
        rw [he] at q3
        generalize frj (V) b.ws a'.ws (last, seen) b.ws.length = q at *
        unfold fl1
        have tQ : List.take q.2.length (q.2.map ci0) = q.2.map ci0 := List.take_of_length_le (by simp)
        rw [← he] at q3
        have q4 : EV G (Tb (bs bb)) 9 [vl (a'.sn.map ci0), vl (q.2.map ci0)] [] = some (vb true, []) := by rw [← he]; exact q3
        simp (maxSteps := 1000000) (disch := omega) only [go_sem, h3l0, h3l1, q4, tQ, kl_len]
        try rfl
def fz1 (y : Ck) (L : List Cu) : AS := ⟨(cusV L :: jk 2 (.one (.ptr 1 0) :: jk 2 (vi 0 :: .one (.bld 2 8) :: .one (.bld 3 0) :: .one (.ptr 5 0) :: vi ((0 : Nat) : Int) :: jk 214 []))), [.dead, .box (ckC y), .arr 0 1 ((kl (nV fun _ => 0)).map ci0), .arr 0 1 [], .arr 0 1 (List.replicate 8 [ci (-1)]), .box [.dc (.raw (.slice none 0 0)), .dc (.raw (.slice none 0 0)), .dc (ci 0), .bld 4 8, .dc (.raw (.slice none 0 0)), .dc (.raw (.slice none 0 0))]]⟩
set_option maxHeartbeats 4000000 in
theorem fz1_go (hG : G 0 = some alD) (y a' : Ck) (L : List Cu) (hk : 0 < L.length) (hl : L.length ≤ 60) (k u lv : Int) (m : Nat) (hm : m < 8) (ha : L[0] = ⟨k, (m : Int) + 1, lv, u⟩)
    (q1 : EV G (Tb (bs bb)) 6 [vl (List.take 1 (L.map Cu.e))] [] = some (crV (a', 1, 0), [])) (hK : a'.K.length = 8) (hw2 : a'.ws.length ≤ 1000) (hs2 : a'.sn.length ≤ 10000)
    (p0 : Int × List Int) (hp0 : p0 = (if k = 3 ∧ isW a'.ws ((m : Int) + 1) = false then u else 0, if k = 2 ∧ isW a'.ws ((m : Int) + 1) = false then [] ++ [if k = 3 ∧ isW a'.ws ((m : Int) + 1) = false then u else 0] else []))
    (he : a'.sn = p0.2) :
    rnK [0, 2, 2, 0, 0, 0, 0] 6 (EC (EV G (Tb (bs bb))) G h3l1 (fz1 y L)) = some (fr1 y a' L 1 (vls (fun _ => 0) k ((m : Int) + 1) u) p0) := by
  have eg : (L.map Cu.e)[0]? = some [ci k, ci ((m : Int) + 1), ci lv, ci u] := by rw [List.getElem?_map, List.getElem?_eq_getElem hk, ha]; rfl
  have sl3 : (0 : Int) ≤ 1 ∧ (1 : Int) ≤ (L.length : Int) := by omega
  have z2 : (0 : Int) + 1 = 1 := rfl
  have z3 : Int.toNat 1 = 1 := rfl
  have c00 : ci0 0 = [ci 0] := rfl
  have em : ((m : Int) + 1 - 1).toNat = m := by omega
  have al5 : allLen 4 (List.take 1 (L.map Cu.e)) = true := by rw [← List.map_take]; exact allLen_map (f := Cu.e) (n := 4) (fun _ => rfl) _
  have tl2 : (List.take 1 (L.map Cu.e)).length = 1 := by rw [List.length_take, List.length_map]; omega
  have tk2 : List.take 1 (List.take 1 (L.map Cu.e)) = List.take 1 (L.map Cu.e) := by rw [List.take_take, Nat.min_self]
  have K8 : (a'.K.length : Int) = 8 := by omega
  have hs' : ¬ (a'.sn.length : Int) < 0 := by omega
  have q2 := rwaiting_v (G := G) (bb := bb) a'.gs a'.ws ((m : Int) + 1) (by omega)
  have q3 := ints_v (G := G) (bb := bb) a'.sn a'.sn (by omega)
  rw [decide_eq_true rfl] at q3
  have e3 := ki_get (nV fun _ => 0) hm
  have e4 := ki_set (nV fun _ => 0) hm u
  have e5 := ki_len (nV fun _ => 0)
  rw [nV_u] at e4
  have tS : List.take 0 ([] : List (List DC)) = [] := rfl
  have tZ : ∀ x : List DC, List.take 1 [x] = [x] := fun _ => rfl
  unfold fz1 fr1
  by_cases hw : isW a'.ws ((m : Int) + 1) = true
  · have hw' : (wtI a'.ws ((m : Int) + 1) ≥ 0) = True := by rw [wtI_p]; exact eq_true hw
    generalize wtI a'.ws ((m : Int) + 1) = w at *
    by_cases k3 : k = 3
    · have k2 : ¬ k = 2 := by omega
      have hp : p0 = (0, []) := by rw [hp0]; simp [k3, hw]
      have hV : vls (fun _ => 0) k ((m : Int) + 1) u = updI (fun _ => 0) ((m : Int) + 1) u := by unfold vls; simp [k3]
      rw [hV]
      subst hp
      simp (maxSteps := 1000000) (disch := omega) only [go_sem, h3l1, z2, z3, eg, eq_true sl3, em, al5, tl2, tk2, K8, q1, q2, e3, e4, e5, eq_true k3, k2, hw', all_cu, List.drop_zero, kl_len, tS, hs', List.length_nil, List.map_nil]
      rw [EL_unf]
      have q4 : EV G (Tb (bs bb)) 9 [vl (a'.sn.map ci0), vl (List.map ci0 ((0, []) : Int × List Int).2)] [] = some (vb true, []) := by rw [← he]; exact q3
      simp only [List.map_nil, List.map_cons, List.nil_append, c00] at q4
      simp (maxSteps := 1000000) (disch := omega) only [go_sem, h3l0, h3l1, q4, kl_len, tS, tZ, List.length_nil, List.map_nil, List.map_cons]
      try rfl
    · by_cases k2 : k = 2
      · have hp : p0 = (0, []) := by rw [hp0]; simp [k3, k2, hw]
        have hV : vls (fun _ => 0) k ((m : Int) + 1) u = fun _ => 0 := by unfold vls; simp [k3, k2]
        rw [hV]
        subst hp
        simp (maxSteps := 1000000) (disch := omega) only [go_sem, h3l1, z2, z3, eg, eq_true sl3, em, al5, tl2, tk2, K8, q1, q2, e3, e4, e5, k3, eq_true k2, hw', all_cu, List.drop_zero, kl_len, tS, hs', List.length_nil, List.map_nil]
        rw [EL_unf]
        have q4 : EV G (Tb (bs bb)) 9 [vl (a'.sn.map ci0), vl (List.map ci0 ((0, []) : Int × List Int).2)] [] = some (vb true, []) := by rw [← he]; exact q3
        simp only [List.map_nil, List.map_cons, List.nil_append, c00] at q4
        simp (maxSteps := 1000000) (disch := omega) only [go_sem, h3l0, h3l1, q4, kl_len, tS, tZ, List.length_nil, List.map_nil, List.map_cons]
        try rfl
      · have hp : p0 = (0, []) := by rw [hp0]; simp [k3, k2, hw]
        have hV : vls (fun _ => 0) k ((m : Int) + 1) u = fun _ => 0 := by unfold vls; simp [k3, k2]
        rw [hV]
        subst hp
        simp (maxSteps := 1000000) (disch := omega) only [go_sem, h3l1, z2, z3, eg, eq_true sl3, em, al5, tl2, tk2, K8, q1, q2, e3, e4, e5, k3, k2, hw', all_cu, List.drop_zero, kl_len, tS, hs', List.length_nil, List.map_nil]
        rw [EL_unf]
        have q4 : EV G (Tb (bs bb)) 9 [vl (a'.sn.map ci0), vl (List.map ci0 ((0, []) : Int × List Int).2)] [] = some (vb true, []) := by rw [← he]; exact q3
        simp only [List.map_nil, List.map_cons, List.nil_append, c00] at q4
        simp (maxSteps := 1000000) (disch := omega) only [go_sem, h3l0, h3l1, q4, kl_len, tS, tZ, List.length_nil, List.map_nil, List.map_cons]
        try rfl
  · have hw' : (wtI a'.ws ((m : Int) + 1) ≥ 0) = False := by rw [wtI_p]; exact eq_false hw
    generalize wtI a'.ws ((m : Int) + 1) = w at *
    by_cases k3 : k = 3
    · have k2 : ¬ k = 2 := by omega
      have hp : p0 = (u, []) := by rw [hp0]; simp [k3, hw]
      have hV : vls (fun _ => 0) k ((m : Int) + 1) u = updI (fun _ => 0) ((m : Int) + 1) u := by unfold vls; simp [k3]
      rw [hV]
      subst hp
      simp (maxSteps := 1000000) (disch := omega) only [go_sem, h3l1, z2, z3, eg, eq_true sl3, em, al5, tl2, tk2, K8, q1, q2, e3, e4, e5, eq_true k3, k2, hw', all_cu, List.drop_zero, kl_len, tS, hs', List.length_nil, List.map_nil]
      rw [EL_unf]
      have q4 : EV G (Tb (bs bb)) 9 [vl (a'.sn.map ci0), vl (List.map ci0 ((u, []) : Int × List Int).2)] [] = some (vb true, []) := by rw [← he]; exact q3
      simp only [List.map_nil, List.map_cons, List.nil_append, c00] at q4
      simp (maxSteps := 1000000) (disch := omega) only [go_sem, h3l0, h3l1, q4, kl_len, tS, tZ, List.length_nil, List.map_nil, List.map_cons]
      try rfl
    · by_cases k2 : k = 2
      · have hp : p0 = (0, [0]) := by rw [hp0]; simp [k3, k2, hw]
        have hV : vls (fun _ => 0) k ((m : Int) + 1) u = fun _ => 0 := by unfold vls; simp [k3, k2]
        rw [hV]
        subst hp
        simp (maxSteps := 1000000) (disch := omega) only [go_sem, h3l1, z2, z3, eg, eq_true sl3, em, al5, tl2, tk2, K8, q1, q2, e3, e4, e5, k3, eq_true k2, hw', all_cu, List.drop_zero, kl_len, tS, hs', List.length_nil, List.map_nil]
        rw [EL_unf]
        have q4 : EV G (Tb (bs bb)) 9 [vl (a'.sn.map ci0), vl (List.map ci0 ((0, [0]) : Int × List Int).2)] [] = some (vb true, []) := by rw [← he]; exact q3
        simp only [List.map_nil, List.map_cons, List.nil_append, c00] at q4
        simp (maxSteps := 1000000) (disch := omega) only [go_sem, h3l0, h3l1, q4, kl_len, tS, tZ, List.length_nil, List.map_nil, List.map_cons]
        try rfl
      · have hp : p0 = (0, []) := by rw [hp0]; simp [k3, k2, hw]
        have hV : vls (fun _ => 0) k ((m : Int) + 1) u = fun _ => 0 := by unfold vls; simp [k3, k2]
        rw [hV]
        subst hp
        simp (maxSteps := 1000000) (disch := omega) only [go_sem, h3l1, z2, z3, eg, eq_true sl3, em, al5, tl2, tk2, K8, q1, q2, e3, e4, e5, k3, k2, hw', all_cu, List.drop_zero, kl_len, tS, hs', List.length_nil, List.map_nil]
        rw [EL_unf]
        have q4 : EV G (Tb (bs bb)) 9 [vl (a'.sn.map ci0), vl (List.map ci0 ((0, []) : Int × List Int).2)] [] = some (vb true, []) := by rw [← he]; exact q3
        simp only [List.map_nil, List.map_cons, List.nil_append, c00] at q4
        simp (maxSteps := 1000000) (disch := omega) only [go_sem, h3l0, h3l1, q4, kl_len, tS, tZ, List.length_nil, List.map_nil, List.map_cons]
        try rfl
end Go.Proofs.YtinageiefahjfaaDoor
