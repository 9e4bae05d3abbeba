/- slices.Insert and slices.Delete of one element: their contracts. Conditions: none. -/
import Derived.Test.YtinageiefahjfaaGreatDoorTf
namespace Go.Proofs.YtinageiefahjfaaGreatDoor
theorem args3 {F : Fz} {γ : List OI} {a b c : AV} {vs : Array Value} (hv : argsOK F γ [a, b, c] vs) : ∃ x y z, vs = #[x, y, z] ∧ RV F γ a x ∧ RV F γ b y ∧ RV F γ c z := by
  obtain ⟨hz, hv⟩ := hv
  obtain ⟨l⟩ := vs
  match l, hz with
  | [x, y, z], _ => exact ⟨x, y, z, rfl, hv 0 _ _ rfl rfl, hv 1 _ _ rfl rfl, hv 2 _ _ rfl rfl⟩
theorem one_arr {F : Fz} {γ : List OI} {o : AObj} {w : World} (hi : Inv F γ [o] w) : ∃ x, γ = [x] := by
  have := hi.len
  match γ, this with
  | [x], _ => exact ⟨x, rfl⟩
theorem getl_lt {α : Type} {l : List α} {n : Nat} {a : α} (h : l[n]? = some a) : n < l.length := (List.getElem?_eq_some_iff.1 h).1
theorem del_ac128 {G : Glob} {n i cap : Nat} {es : List (List DC)} (hin : i < n) (hn : n ≤ es.length) (h47 : n + 1 ≤ 140737488355328) :
    AC Tryz.prog G 128 [.one (.bld 0 n), vi i, vi ((i : Int) + 1)] [.arr cap 3 es] fun a o => a = .one (.bld 0 (n - 1)) ∧ o.map nocap = [.arr 0 3 (es.take i ++ (es.take n).drop (i + 1))] := by
  intro F γ vs w hi hg hv
  obtain ⟨x, rfl⟩ := one_arr hi
  obtain ⟨s, y, z, rfl, hs, hy, hz⟩ := args3 hv
  have hy := rv_raw hy; have hz := rv_raw hz
  subst hy; subst hz
  cases hs with | one _ _ hs => cases hs with
  | bldN _ _ _ => omega
  | bld _ _ b cap' hgm =>
    simp only [List.getElem?_cons_zero, Option.some.injEq] at hgm
    subst hgm
    obtain ⟨rfl, hec, hes, ws, T, hh, hws, hr⟩ := hi.arr (id := 0) rfl rfl
    obtain ⟨cs, hcs⟩ : ∃ cs, cs = ws.toList.take (n * 3) := ⟨_, rfl⟩
    have hcl : cs.length = n * 3 := by rw [hcs, List.length_take, Array.length_toList, hws]; omega
    have hcget : ∀ j, j < n * 3 → cs[j]? = ws[j]? := fun j hj => by rw [hcs, List.getElem?_take, if_pos hj, Array.getElem?_toList]
    have hone : ∀ v ∈ cs, v.oneCell' = true := by
      intro v hv
      obtain ⟨q, hq⟩ := List.getElem?_of_mem hv
      have hlt := getl_lt hq
      rw [hcl] at hlt
      rw [hcget q hlt] at hq
      have he : q / 3 < es.length := by omega
      have hee := hes _ (List.getElem_mem he)
      have hq2 : ws[q / 3 * 3 + q % 3]? = some v := by rw [show q / 3 * 3 + q % 3 = q by omega]; exact hq
      have hrd := hr (q / 3) (q % 3) _ (es[q / 3][q % 3]'(by rw [hee]; omega)) v (List.getElem?_eq_getElem he) (List.getElem?_eq_getElem _) hq2
      have := hrd.is1
      cases v <;> first | rfl | cases this
    refine (del_128 b n cap' i cs w hin (by omega) h47 hcl (fun j v hj => ?_) (fun j _ => by simp [World.frozen?, hh]) hone).mono ?_
    · have hlt := getl_lt hj
      rw [hcl] at hlt
      rw [hcget j hlt] at hj
      rw [cell_heap hh]; exact hj
    · rintro e w' ⟨rfl, rfl⟩
      obtain ⟨ws1, a1, a2, a3, a4, a5, a6, a7, a8⟩ := setCells_at (T := T) (cs.drop ((i + 1) * 3)) (i * 3) w.drew ws hh
      obtain ⟨ws2, b1, b2, b3, b4, b5, b6, b7, b8⟩ := setCells_at (List.replicate 3 (.int .i64 0)) ((i + (n - (i + 1))) * 3) _ ws1 a1
      have hlen : (es.take i ++ (es.take n).drop (i + 1)).length = n - 1 := by simp; omega
      obtain ⟨hE, hI⟩ := arr_post (A := some b) (b' := b) (c' := cap') (es' := es.take i ++ (es.take n).drop (i + 1)) (ws' := ws2) hi (.inl rfl)
        (fun b0 _ hne => (b4 b0 (fun e => hne (by rw [e]))).trans (a4 b0 (fun e => hne (by rw [e])))) (b5.trans a5) (b6.trans a6) (b7.trans a7) (by rw [b8, a8]; exact Nat.le_refl _) b1 (by rw [b2, a2, hws]) (by rw [hlen]; omega)
        (fun e he => by
          rcases List.mem_append.1 he with h | h
          · exact hes e (List.mem_of_mem_take h)
          · exact hes e (List.mem_of_mem_take (List.mem_of_mem_drop h)))
        (fun p j e d v h1 h2 h3 => by
          have hp := getl_lt h1
          rw [hlen] at hp
          have hdl : (cs.drop ((i + 1) * 3)).length = (n - (i + 1)) * 3 := by rw [List.length_drop, hcl, Nat.sub_mul]
          have hje : j < 3 := by
            have hl := getl_lt h2
            have : e.length = 3 := by
              rcases List.mem_append.1 (List.mem_of_getElem? h1) with h | h
              · exact hes e (List.mem_of_mem_take h)
              · exact hes e (List.mem_of_mem_take (List.mem_of_mem_drop h))
            omega
          rw [b3, if_neg (by simp only [List.length_replicate]; omega), a3] at h3
          by_cases hpi : p < i
          · rw [if_neg (by omega)] at h3
            rw [List.getElem?_append_left (by simp; omega), List.getElem?_take, if_pos hpi] at h1
            exact hr p j e d v h1 h2 h3
          · rw [if_pos (by rw [hdl, hws]; omega), List.getElem?_drop, hcget _ (by omega)] at h3
            rw [List.getElem?_append_right (by simp; omega), List.getElem?_drop, List.getElem?_take] at h1
            split at h1
            · have e1 : i + 1 + (p - (es.take i).length) = p + 1 := by simp; omega
              rw [e1] at h1
              rw [show (i + 1) * 3 + (p * 3 + j - i * 3) = (p + 1) * 3 + j by omega] at h3
              exact hr (p + 1) j e d v h1 h2 h3
            · cases h1)
      exact ⟨_, _, [.arr cap' 3 (es.take i ++ (es.take n).drop (i + 1))], F, [OI.arr (some b) cap'], rfl, ⟨rfl, rfl⟩, Nat.le_refl _, hE, hI, .one _ _ (by
        rw [show i + (n - (i + 1)) = n - 1 by omega]
        exact .bld 0 (n - 1) b cap' rfl)⟩
theorem del_ac179 {G : Glob} {n i cap : Nat} {es : List (List DC)} (hin : i < n) (hn : n ≤ es.length) (h47 : n + 1 ≤ 140737488355328) :
    AC Tryz.prog G 179 [.one (.bld 0 n), vi i, vi ((i : Int) + 1)] [.arr cap 2 es] fun a o => a = .one (.bld 0 (n - 1)) ∧ o.map nocap = [.arr 0 2 (es.take i ++ (es.take n).drop (i + 1))] := by
  intro F γ vs w hi hg hv
  obtain ⟨x, rfl⟩ := one_arr hi
  obtain ⟨s, y, z, rfl, hs, hy, hz⟩ := args3 hv
  have hy := rv_raw hy; have hz := rv_raw hz
  subst hy; subst hz
  cases hs with | one _ _ hs => cases hs with
  | bldN _ _ _ => omega
  | bld _ _ b cap' hgm =>
    simp only [List.getElem?_cons_zero, Option.some.injEq] at hgm
    subst hgm
    obtain ⟨rfl, hec, hes, ws, T, hh, hws, hr⟩ := hi.arr (id := 0) rfl rfl
    obtain ⟨cs, hcs⟩ : ∃ cs, cs = ws.toList.take (n * 2) := ⟨_, rfl⟩
    have hcl : cs.length = n * 2 := by rw [hcs, List.length_take, Array.length_toList, hws]; omega
    have hcget : ∀ j, j < n * 2 → cs[j]? = ws[j]? := fun j hj => by rw [hcs, List.getElem?_take, if_pos hj, Array.getElem?_toList]
    have hone : ∀ v ∈ cs, v.oneCell' = true := by
      intro v hv
      obtain ⟨q, hq⟩ := List.getElem?_of_mem hv
      have hlt := getl_lt hq
      rw [hcl] at hlt
      rw [hcget q hlt] at hq
      have he : q / 2 < es.length := by omega
      have hee := hes _ (List.getElem_mem he)
      have hq2 : ws[q / 2 * 2 + q % 2]? = some v := by rw [show q / 2 * 2 + q % 2 = q by omega]; exact hq
      have hrd := hr (q / 2) (q % 2) _ (es[q / 2][q % 2]'(by rw [hee]; omega)) v (List.getElem?_eq_getElem he) (List.getElem?_eq_getElem _) hq2
      have := hrd.is1
      cases v <;> first | rfl | cases this
    refine (del_179 b n cap' i cs w hin (by omega) h47 hcl (fun j v hj => ?_) (fun j _ => by simp [World.frozen?, hh]) hone).mono ?_
    · have hlt := getl_lt hj
      rw [hcl] at hlt
      rw [hcget j hlt] at hj
      rw [cell_heap hh]; exact hj
    · rintro e w' ⟨rfl, rfl⟩
      obtain ⟨ws1, a1, a2, a3, a4, a5, a6, a7, a8⟩ := setCells_at (T := T) (cs.drop ((i + 1) * 2)) (i * 2) w.drew ws hh
      obtain ⟨ws2, b1, b2, b3, b4, b5, b6, b7, b8⟩ := setCells_at (List.replicate 2 (.int .i64 0)) ((i + (n - (i + 1))) * 2) _ ws1 a1
      have hlen : (es.take i ++ (es.take n).drop (i + 1)).length = n - 1 := by simp; omega
      obtain ⟨hE, hI⟩ := arr_post (A := some b) (b' := b) (c' := cap') (es' := es.take i ++ (es.take n).drop (i + 1)) (ws' := ws2) hi (.inl rfl)
        (fun b0 _ hne => (b4 b0 (fun e => hne (by rw [e]))).trans (a4 b0 (fun e => hne (by rw [e])))) (b5.trans a5) (b6.trans a6) (b7.trans a7) (by rw [b8, a8]; exact Nat.le_refl _) b1 (by rw [b2, a2, hws]) (by rw [hlen]; omega)
        (fun e he => by
          rcases List.mem_append.1 he with h | h
          · exact hes e (List.mem_of_mem_take h)
          · exact hes e (List.mem_of_mem_take (List.mem_of_mem_drop h)))
        (fun p j e d v h1 h2 h3 => by
          have hp := getl_lt h1
          rw [hlen] at hp
          have hdl : (cs.drop ((i + 1) * 2)).length = (n - (i + 1)) * 2 := by rw [List.length_drop, hcl, Nat.sub_mul]
          have hje : j < 2 := by
            have hl := getl_lt h2
            have : e.length = 2 := by
              rcases List.mem_append.1 (List.mem_of_getElem? h1) with h | h
              · exact hes e (List.mem_of_mem_take h)
              · exact hes e (List.mem_of_mem_take (List.mem_of_mem_drop h))
            omega
          rw [b3, if_neg (by simp only [List.length_replicate]; omega), a3] at h3
          by_cases hpi : p < i
          · rw [if_neg (by omega)] at h3
            rw [List.getElem?_append_left (by simp; omega), List.getElem?_take, if_pos hpi] at h1
            exact hr p j e d v h1 h2 h3
          · rw [if_pos (by rw [hdl, hws]; omega), List.getElem?_drop, hcget _ (by omega)] at h3
            rw [List.getElem?_append_right (by simp; omega), List.getElem?_drop, List.getElem?_take] at h1
            split at h1
            · have e1 : i + 1 + (p - (es.take i).length) = p + 1 := by simp; omega
              rw [e1] at h1
              rw [show (i + 1) * 2 + (p * 2 + j - i * 2) = (p + 1) * 2 + j by omega] at h3
              exact hr (p + 1) j e d v h1 h2 h3
            · cases h1)
      exact ⟨_, _, [.arr cap' 2 (es.take i ++ (es.take n).drop (i + 1))], F, [OI.arr (some b) cap'], rfl, ⟨rfl, rfl⟩, Nat.le_refl _, hE, hI, .one _ _ (by
        rw [show i + (n - (i + 1)) = n - 1 by omega]
        exact .bld 0 (n - 1) b cap' rfl)⟩
theorem ins_ac {G : Glob} {n i cap : Nat} {es : List (List DC)} {d0 : List DC} (hin : i ≤ n) (hn : n ≤ es.length) (h47 : (n + 1) * 24 ≤ 140737488355328) (hd0 : d0.length = 3) :
    AC Tryz.prog G 200 [.one (.bld 0 n), vi i, vl [d0]] [.arr cap 3 es] fun a o => a = .one (.bld 0 (n + 1)) ∧ o.map nocap = [.arr 0 3 (es.take i ++ d0 :: (es.take n).drop i)] := by
  intro F γ vs w hi hg hv
  obtain ⟨x, rfl⟩ := one_arr hi
  obtain ⟨s, y, z, rfl, hs, hy, hz⟩ := args3 hv
  have hy := rv_raw hy
  subst hy
  cases hz with | one _ _ hz => cases hz with | dc _ _ hz =>
  obtain ⟨vb, voff, vc, rfl, vs, hvl, hvs, hvr, ⟨ob, hob⟩, tA, kA, hsa, hkA⟩ := one_slc hz hd0 hi.fz (by omega)
  have hone : ∀ v ∈ vs, v.oneCell' = true := by
    intro v hv
    obtain ⟨q, hq⟩ := List.getElem?_of_mem hv
    have hlt := getl_lt hq
    have := (hvr q (d0[q]'(by omega)) v (List.getElem?_eq_getElem _) hq).is1
    cases v <;> first | rfl | cases this
  have hlen : ∀ (es : List (List DC)), n ≤ es.length → (es.take i ++ d0 :: (es.take n).drop i).length = n + 1 := by intro es h; simp; omega
  have helem : ∀ (es : List (List DC)), n ≤ es.length → ∀ (p : Nat) e, (es.take i ++ d0 :: (es.take n).drop i)[p]? = some e → (p < i ∧ es[p]? = some e) ∨ (p = i ∧ e = d0) ∨ (i < p ∧ p < n + 1 ∧ es[p - 1]? = some e) := by
    intro es hne p e h
    have hti : (es.take i).length = i := by simp; omega
    by_cases h1 : p < i
    · rw [List.getElem?_append_left (by omega), List.getElem?_take, if_pos h1] at h
      exact .inl ⟨h1, h⟩
    · rw [List.getElem?_append_right (by omega), hti] at h
      by_cases h2 : p = i
      · subst h2
        rw [Nat.sub_self, List.getElem?_cons_zero] at h
        injection h with h
        exact .inr (.inl ⟨rfl, h.symm⟩)
      · rw [show p - i = (p - i - 1) + 1 by omega, List.getElem?_cons_succ, List.getElem?_drop, List.getElem?_take] at h
        split at h
        · rename_i h3
          rw [show i + (p - i - 1) = p - 1 by omega] at h
          exact .inr (.inr ⟨by omega, by omega, h⟩)
        · cases h
  cases hs with | one _ _ hs => cases hs with
  | bldN _ cap0 hgm =>
    simp only [List.getElem?_cons_zero, Option.some.injEq] at hgm
    subst hgm
    obtain ⟨rfl, rfl, rfl⟩ := hi.arrN (id := 0) rfl rfl
    have hi0 : i = 0 := by omega
    subst hi0
    refine (ins_end none 0 0 vb voff vc [] vs w (by omega) (by omega) h47 (by simp) hvl (fun _ => rfl) (fun a h => by cases h) hvs hone).mono ?_
    rintro e w' ⟨rfl, rfl⟩
    obtain ⟨G0, hG⟩ : ∃ G0, G0 = grownCap w (0 + 1) 0 79 := ⟨_, rfl⟩
    have hG1 : 0 + 1 ≤ G0 := by rw [hG]; exact grownCap_ge w _ _ _
    rw [← hG]
    have hpush : ∀ (o : Obj), (w.drew.alloc o).heap = w.heap.push o := fun _ => rfl
    obtain ⟨hE, hI⟩ := arr_post (w' := w.drew.alloc (.cells (([] ++ vs).toArray ++ Builtin.zeroCells #[.int .i64 0, .int .i64 0, .int .i64 0] (G0 - (0 + 1))) 79)) (A := none) (b' := w.heap.size) (c' := G0) (es' := [d0]) (T := 79) hi (.inr rfl)
      (fun b0 hb0 _ => by rw [hpush, Array.getElem?_push_lt hb0, Array.getElem?_eq_getElem hb0]) rfl rfl rfl (by rw [hpush]; simp) (by rw [hpush]; simp; rfl) (by simp [Builtin.zeroCells, hvl]; omega) (by simpa using hG1) (by simpa using hd0)
      (fun p j e d v h1 h2 h3 => by
        cases p with
        | zero =>
          simp only [List.getElem?_cons_zero, Option.some.injEq] at h1
          subst h1
          have hj := getl_lt h2
          rw [Nat.zero_mul, Nat.zero_add, Array.getElem?_append_left (by simp; omega)] at h3
          simp only [List.nil_append, List.getElem?_toArray] at h3
          exact hvr j d v h2 h3
        | succ p => simp at h1)
    exact ⟨_, _, [.arr G0 3 [d0]], F, [OI.arr (some w.heap.size) G0], rfl, ⟨rfl, rfl⟩, Nat.le_refl _, hE, hI, .one _ _ (.bld 0 (0 + 1) w.heap.size G0 rfl)⟩
  | bld _ _ b cap' hgm =>
    simp only [List.getElem?_cons_zero, Option.some.injEq] at hgm
    subst hgm
    obtain ⟨rfl, hec, hes, ws, T, hh, hws, hr⟩ := hi.arr (id := 0) rfl rfl
    have hvb : vb ≠ b := by
      intro e
      subst e
      have := hi.disj 0 vb rfl
      rw [hob] at this; cases this
    obtain ⟨cs, hcs⟩ : ∃ cs, cs = ws.toList.take (n * 3) := ⟨_, rfl⟩
    have hcl : cs.length = n * 3 := by rw [hcs, List.length_take, Array.length_toList, hws]; omega
    have hcget : ∀ j, j < n * 3 → cs[j]? = ws[j]? := fun j hj => by rw [hcs, List.getElem?_take, if_pos hj, Array.getElem?_toList]
    have honec : ∀ v ∈ cs, v.oneCell' = true := by
      intro v hv
      obtain ⟨q, hq⟩ := List.getElem?_of_mem hv
      have hlt := getl_lt hq
      rw [hcl] at hlt
      rw [hcget q hlt] at hq
      have he : q / 3 < es.length := by omega
      have hee := hes _ (List.getElem_mem he)
      have hq2 : ws[q / 3 * 3 + q % 3]? = some v := by rw [show q / 3 * 3 + q % 3 = q by omega]; exact hq
      have hrd := hr (q / 3) (q % 3) _ (es[q / 3][q % 3]'(by rw [hee]; omega)) v (List.getElem?_eq_getElem he) (List.getElem?_eq_getElem _) hq2
      have := hrd.is1
      cases v <;> first | rfl | cases this
    have hcell : ∀ (j : Nat) v, cs[j]? = some v → w.cell? ⟨b, j, none⟩ = some v := by
      intro j v hj
      have hlt := getl_lt hj
      rw [hcl] at hlt
      rw [hcget j hlt] at hj
      rw [cell_heap hh]; exact hj
    have hall : ∀ j, j < cap' * 3 → (w.cell? ⟨b, j, none⟩).isSome = true := fun j hj => by
      rw [cell_heap hh, Array.getElem?_eq_getElem (by omega)]; rfl
    have hfz : ∀ o, w.frozen? ⟨b, o, none⟩ = false := fun o => by simp [World.frozen?, hh]
    have hes' : ∀ e ∈ es.take i ++ d0 :: (es.take n).drop i, e.length = 3 := by
      intro e he
      obtain ⟨p, hp⟩ := List.getElem?_of_mem he
      rcases helem es hn p e hp with ⟨_, h⟩ | ⟨_, h⟩ | ⟨_, _, h⟩
      · exact hes e (List.mem_of_getElem? h)
      · rw [h]; exact hd0
      · exact hes e (List.mem_of_getElem? h)
    -- what the cells behind an insertion are
    have post : ∀ (ws' : Array Value), (∀ q, q < i * 3 → ws'[q]? = ws[q]?) → (∀ q, q < 3 → ws'[i * 3 + q]? = vs[q]?) → (∀ q, i * 3 ≤ q → q < n * 3 → ws'[q + 3]? = ws[q]?) →
        ∀ (p j : Nat) e d v, (es.take i ++ d0 :: (es.take n).drop i)[p]? = some e → e[j]? = some d → ws'[p * 3 + j]? = some v → RD F d v := by
      intro ws' q1 q2 q3 p j e d v h1 h2 h3
      have hj : j < 3 := by
        have := hes' e (List.mem_of_getElem? h1)
        have := getl_lt h2
        omega
      rcases helem es hn p e h1 with ⟨g1, g2⟩ | ⟨rfl, rfl⟩ | ⟨g1, g2, g3⟩
      · rw [q1 _ (by omega)] at h3
        exact hr p j e d v g2 h2 h3
      · rw [q2 _ hj] at h3
        exact hvr j d v h2 h3
      · rw [show p * 3 + j = ((p - 1) * 3 + j) + 3 by omega, q3 _ (by omega) (by omega)] at h3
        exact hr (p - 1) j e d v g3 h2 h3
    have hpush : ∀ (o : Obj), (w.drew.alloc o).heap = w.heap.push o := fun _ => rfl
    by_cases hroom : n + 1 ≤ cap'
    · by_cases hend : i = n
      · subst hend
        refine (ins_room b i cap' vb voff vc vs w hroom (by omega) hvl (fun j hj => hall _ (by omega)) (fun j hj => hfz _) hvs hone).mono ?_
        rintro e w' ⟨rfl, rfl⟩
        obtain ⟨ws1, a1, a2, a3, a4, a5, a6, a7, a8⟩ := setCells_at (T := T) vs (i * 3) w ws hh
        obtain ⟨hE, hI⟩ := arr_post (A := some b) (b' := b) (c' := cap') (es' := es.take i ++ d0 :: (es.take i).drop i) (ws' := ws1) hi (.inl rfl)
          (fun b0 _ hne => a4 b0 (fun e => hne (by rw [e]))) a5 a6 a7 (by rw [a8]; exact Nat.le_refl _) a1 (by rw [a2, hws]) (by rw [hlen es hn]; exact hroom) hes'
          (post ws1 (fun q hq => by rw [a3, if_neg (by omega)]) (fun q hq => by rw [a3, if_pos ⟨by omega, by omega, by omega⟩]; congr 1; omega) (fun q h1 h2 => by omega))
        exact ⟨_, _, [.arr cap' 3 (es.take i ++ d0 :: (es.take i).drop i)], F, [OI.arr (some b) cap'], rfl, ⟨rfl, rfl⟩, Nat.le_refl _, hE, hI, .one _ _ (.bld 0 (i + 1) b cap' rfl)⟩
      · refine (ins_shift b n cap' i vb voff vc cs vs w (by omega) hroom (by omega) hvb hcl hvl hcell (fun j hj => hall _ (by omega)) (fun j hj => hfz _) hvs honec hone tA T kA ws.size hsa hkA (by simp [World.shape?, hh]) hfz).mono ?_
        rintro e w' ⟨rfl, rfl⟩
        obtain ⟨ws1, a1, a2, a3, a4, a5, a6, a7, a8⟩ := setCells_at (T := T) (cs.drop (i * 3)) ((i + 1) * 3) w.drew ws hh
        obtain ⟨ws2, b1, b2, b3, b4, b5, b6, b7, b8⟩ := setCells_at vs (i * 3) _ ws1 a1
        have hdl : (cs.drop (i * 3)).length = (n - i) * 3 := by rw [List.length_drop, hcl, Nat.sub_mul]
        obtain ⟨hE, hI⟩ := arr_post (A := some b) (b' := b) (c' := cap') (es' := es.take i ++ d0 :: (es.take n).drop i) (ws' := ws2) hi (.inl rfl)
          (fun b0 _ hne => (b4 b0 (fun e => hne (by rw [e]))).trans (a4 b0 (fun e => hne (by rw [e])))) (b5.trans a5) (b6.trans a6) (b7.trans a7) (by rw [b8, a8]; exact Nat.le_refl _) b1 (by rw [b2, a2, hws]) (by rw [hlen es hn]; exact hroom) hes'
          (post ws2 (fun q hq => by rw [b3, if_neg (by omega), a3, if_neg (by omega)]) (fun q hq => by rw [b3, if_pos ⟨by omega, by omega, by omega⟩]; congr 1; omega)
            (fun q h1 h2 => by rw [b3, if_neg (by omega), a3, if_pos ⟨by omega, by omega, by omega⟩, List.getElem?_drop, show i * 3 + (q + 3 - (i + 1) * 3) = q by omega]; exact hcget q h2))
        exact ⟨_, _, [.arr cap' 3 (es.take i ++ d0 :: (es.take n).drop i)], F, [OI.arr (some b) cap'], rfl, ⟨rfl, rfl⟩, Nat.le_refl _, hE, hI, .one _ _ (.bld 0 (n + 1) b cap' rfl)⟩
    · obtain ⟨G0, hG⟩ : ∃ G0, G0 = grownCap w (n + 1) cap' 79 := ⟨_, rfl⟩
      have hG1 : n + 1 ≤ G0 := by rw [hG]; exact grownCap_ge w _ _ _
      by_cases hend : i = n
      · subst hend
        refine (ins_end (some ⟨b, 0, none⟩) i cap' vb voff vc cs vs w (by omega) (by omega) h47 hcl hvl (fun h => by cases h) (fun a h j v hj => by injection h with h; subst h; rw [addr_add, Nat.zero_add]; exact hcell j v hj) hvs hone).mono ?_
        rintro e w' ⟨rfl, rfl⟩
        rw [← hG]
        have hcv : (cs ++ vs).length = (i + 1) * 3 := by rw [List.length_append, hcl, hvl]; omega
        obtain ⟨hE, hI⟩ := arr_post (w' := w.drew.alloc (.cells ((cs ++ vs).toArray ++ Builtin.zeroCells #[.int .i64 0, .int .i64 0, .int .i64 0] (G0 - (i + 1))) 79)) (A := some b) (b' := w.heap.size) (c' := G0) (es' := es.take i ++ d0 :: (es.take i).drop i) (T := 79) hi (.inr rfl)
          (fun b0 hb0 _ => by rw [hpush, Array.getElem?_push_lt hb0, Array.getElem?_eq_getElem hb0]) rfl rfl rfl (by rw [hpush]; simp) (by rw [hpush]; simp; rfl) (by simp only [Builtin.zeroCells, Array.size_append, List.size_toArray, hcv, Array.size_map, Array.size_range]; simp; omega) (by rw [hlen es hn]; exact hG1) hes'
          (post _ (fun q hq => by rw [Array.getElem?_append_left (by simp only [List.size_toArray]; omega), List.getElem?_toArray, List.getElem?_append_left (by omega), hcget q hq])
            (fun q hq => by rw [Array.getElem?_append_left (by simp only [List.size_toArray]; omega), List.getElem?_toArray, List.getElem?_append_right (by omega), hcl]; congr 1; omega) (fun q h1 h2 => by omega))
        exact ⟨_, _, [.arr G0 3 (es.take i ++ d0 :: (es.take i).drop i)], F, [OI.arr (some w.heap.size) G0], rfl, ⟨rfl, rfl⟩, Nat.le_refl _, hE, hI, .one _ _ (.bld 0 (i + 1) w.heap.size G0 rfl)⟩
      · refine (ins_grow b n cap' i vb voff vc cs vs w (by omega) (by omega) (by omega) h47 hcl hvl hcell hvs honec hone).mono ?_
        rintro e w' ⟨rfl, rfl⟩
        rw [← hG]
        obtain ⟨ROW, hROW⟩ : ∃ ROW : Array Value, ROW = (cs.take (i * 3)).toArray ++ Builtin.zeroCells #[.int .i64 0, .int .i64 0, .int .i64 0] (n + 1 - i) ++ Builtin.zeroCells #[.int .i64 0, .int .i64 0, .int .i64 0] (G0 - (n + 1)) := ⟨_, rfl⟩
        rw [← hROW]
        have htl : (cs.take (i * 3)).length = i * 3 := by rw [List.length_take]; omega
        have hRs : ROW.size = G0 * 3 := by
          rw [hROW]
          simp only [Builtin.zeroCells, Array.size_append, List.size_toArray, htl, Array.size_map, Array.size_range]
          simp; omega
        have hnew : (((w.alloc (.cells ROW 79)).drew)).heap[w.heap.size]? = some (.cells ROW 79 (0, 0)) := by
          show (w.heap.push _)[w.heap.size]? = _
          simp
        obtain ⟨ws1, a1, a2, a3, a4, a5, a6, a7, a8⟩ := setCells_at (T := 79) vs (i * 3) ((w.alloc (.cells ROW 79)).drew) ROW hnew
        obtain ⟨ws2, b1, b2, b3, b4, b5, b6, b7, b8⟩ := setCells_at (T := 79) (cs.drop (i * 3)) ((i + 1) * 3) (((w.alloc (.cells ROW 79)).drew.setCells w.heap.size (i * 3) vs).drew) ws1 a1
        have hdl : (cs.drop (i * 3)).length = (n - i) * 3 := by rw [List.length_drop, hcl, Nat.sub_mul]
        obtain ⟨hE, hI⟩ := arr_post (A := some b) (b' := w.heap.size) (c' := G0) (es' := es.take i ++ d0 :: (es.take n).drop i) (ws' := ws2) hi (.inr rfl)
          (fun b0 hb0 _ => ((b4 b0 (by omega)).trans (a4 b0 (by omega))).trans (by show (w.heap.push _)[b0]? = _; rw [Array.getElem?_push_lt hb0, Array.getElem?_eq_getElem hb0])) (b5.trans a5) (b6.trans a6) (b7.trans a7)
          (by rw [b8]; show _ ≤ ((w.alloc (.cells ROW 79)).drew.setCells w.heap.size (i * 3) vs).heap.size; rw [a8]; show _ ≤ (w.heap.push _).size; simp) b1 (by rw [b2, a2, hRs]) (by rw [hlen es hn]; exact hG1) hes'
          (post ws2 (fun q hq => by
              rw [b3, if_neg (by omega), a3, if_neg (by omega), hROW, Array.append_assoc, Array.getElem?_append_left (by simp only [List.size_toArray]; omega), List.getElem?_toArray, List.getElem?_take, if_pos hq, hcget q (by omega)])
            (fun q hq => by rw [b3, if_neg (by omega), a3, if_pos ⟨by omega, by omega, by omega⟩]; congr 1; omega)
            (fun q h1 h2 => by rw [b3, if_pos ⟨by omega, by omega, by omega⟩, List.getElem?_drop, show i * 3 + (q + 3 - (i + 1) * 3) = q by omega]; exact hcget q h2))
        exact ⟨_, _, [.arr G0 3 (es.take i ++ d0 :: (es.take n).drop i)], F, [OI.arr (some w.heap.size) G0], rfl, ⟨rfl, rfl⟩, Nat.le_refl _, hE, hI, .one _ _ (.bld 0 (n + 1) w.heap.size G0 rfl)⟩
end Go.Proofs.YtinageiefahjfaaGreatDoor
