/- The error of a client that has the file open. Conditions: none. -/
import Derived.Test.YtinageiefahjfaaGreatDoorVd
import Derived.Test.YtinageiefahjfaaGreatDoorUh
namespace Go.Proofs.YtinageiefahjfaaGreatDoor
section
set_option maxRecDepth 4000
set_option linter.unusedSimpArgs false
set_option linter.unusedVariables false
variable {G : Glob} {bb : Bool}
def clP (g h : Gr) : Bool := decide (h.c ≠ g.c) && (decide (g.l ≥ 2) && decide (h.l > 0) || decide (g.l = 3))
theorem clP_any (gs : List Gr) (g : Gr) : gs.any (clP g) = clash gs g := by
  unfold clash
  rw [Bool.eq_iff_iff]
  simp only [List.any_eq_true, Bool.or_eq_true, Bool.and_eq_true, decide_eq_true_eq, clP]
  constructor
  · rintro ⟨h, h1, h2, h3 | h3⟩
    · exact .inl ⟨h3.1, h, h1, h2, by omega⟩
    · exact .inr ⟨h3, h, h1, h2⟩
  · rintro (⟨h1, h, h2, h3, h4⟩ | ⟨h1, h, h2, h3⟩)
    · exact ⟨h, h2, h3, .inl ⟨h1, by omega⟩⟩
    · exact ⟨h, h2, h3, .inr h1⟩
theorem gErr_n (gs : List Gr) (i : Nat) (g : Gr) : gErr gs i g = if (isCl g.c && wi g.l 0 3 && wi g.t 0 g.l) = false then 2 else if (decide (i = 0) || decide ((gs.getD (i - 1) ⟨0, 0, 0⟩).c < g.c)) = false then 9 else if (decide (g.l ≠ 1) || decide (g.t = g.l)) = false then 20 else if clash gs g = true then 13 else 0 := by
  rw [gErr_e]
  generalize (isCl g.c && wi g.l 0 3 && wi g.t 0 g.l) = a
  generalize (decide (i = 0) || decide ((gs.getD (i - 1) ⟨0, 0, 0⟩).c < g.c)) = b
  generalize (decide (g.l ≠ 1) || decide (g.t = g.l)) = c
  generalize clash gs g = d
  cases a <;> cases b <;> cases c <;> cases d <;> rfl
theorem wErr_n (gs : List Gr) (ws : List Wt) (i : Nat) (a : Wt) : wErr gs ws i a = if isCl a.c = false then 2 else if isUs a.k = false then 15 else if isW (ws.take i) a.c = true then 23 else if (decide (a.k ≠ 0) || !isIn gs a.c) = false then 5 else if (decide (a.k = 0) || isIn gs a.c) = false then 6 else 0 := by
  rw [show wErr gs ws i a = firstE [ifE (isCl a.c) 2, ifE (isUs a.k) 15, ifE (!isW (ws.take i) a.c) 23, ifE (decide (a.k ≠ 0) || !isIn gs a.c) 5, ifE (decide (a.k = 0) || isIn gs a.c) 6] from rfl]
  generalize (decide (a.k ≠ 0) || !isIn gs a.c) = x
  generalize (decide (a.k = 0) || isIn gs a.c) = y
  generalize isCl a.c = p
  generalize isUs a.k = q
  generalize isW (ws.take i) a.c = r
  cases p <;> cases q <;> cases r <;> cases x <;> cases y <;> rfl
def geS (gs : List Gr) (ws : List Wt) (g : Gr) (j : Nat) : AS := ⟨(jk 2 (.one (.ptr 0 0) :: jk 2 (.one (.ptr 1 0) :: vi j :: jk 82 []))), [.box [.dc (.slc (gs.map Gr.e)), .dc (.slc (ws.map Wt.e))], .box [.dc (ci g.c), .dc (ci g.l), .dc (ci g.t)]]⟩
theorem ge_out (gs : List Gr) (ws : List Wt) (g : Gr) (hl : gs.length ≤ 100000) {st : AS} (h0 : st = geS gs ws g 0) :
    retZ false [RetV.tmp 4] 0 (sqK (EV G (Tb (bs bb))) G ((HC.region [Oo 4 (AI.mov (Ki 0))]).seq HC.ret) (blkK 0 (EL (EV G (Tb (bs bb))) G h57l0 [2, 2, 0] 2 st))) = some (vi (if clash gs g = true then 13 else 0), []) := by
  subst h0
  rw [← clP_any]
  rw [EL_fst (fun j => geS gs ws g j) (fun j => clP g (gs.getD j ⟨0, 0, 0⟩) = true) gs.length rfl ?_]
  rotate_left
  · intro j hj hn
    have h3 := hn j (Nat.le_refl _)
    rw [getDz gs _ j hj] at h3
    have eg : (gs.map Gr.e)[j]? = some [ci gs[j].c, ci gs[j].l, ci gs[j].t] := by rw [List.getElem?_map, List.getElem?_eq_getElem hj]; rfl
    generalize gs[j] = h at *
    unfold clP at h3
    unfold geS
    by_cases h1 : h.c = g.c
    · simp (disch := omega) only [go_sem, Nat.reduceAdd, Nat.reduceSub, Nat.reduceMul, Nat.reduceLeDiff, Nat.reduceEqDiff, kpCs_d, idsL_d, renL_d, ctCs_d, killL_d, outJ_m, mapM1, mapM2, oneOf, Option.map_some, Option.map_none, Option.bind_some, all_gr, all_wt, List.getElem?_nil, List.length_map, h57l0, eg, eq_true h1]
    · by_cases h2 : g.l ≥ 2
      · by_cases h4 : h.l > 0
        · simp [h1, h2, h4] at h3
        · have h5 : ¬ g.l = 3 := by simpa [h1, h2, h4] using h3
          simp (disch := omega) only [go_sem, Nat.reduceAdd, Nat.reduceSub, Nat.reduceMul, Nat.reduceLeDiff, Nat.reduceEqDiff, kpCs_d, idsL_d, renL_d, ctCs_d, killL_d, outJ_m, mapM1, mapM2, oneOf, Option.map_some, Option.map_none, Option.bind_some, all_gr, all_wt, List.getElem?_nil, List.length_map, h57l0, eg, h1, h2, h4, h5]
      · have h5 : ¬ g.l = 3 := by omega
        simp (disch := omega) only [go_sem, Nat.reduceAdd, Nat.reduceSub, Nat.reduceMul, Nat.reduceLeDiff, Nat.reduceEqDiff, kpCs_d, idsL_d, renL_d, ctCs_d, killL_d, outJ_m, mapM1, mapM2, oneOf, Option.map_some, Option.map_none, Option.bind_some, all_gr, all_wt, List.getElem?_nil, List.length_map, h57l0, eg, h1, h2, h5]
  obtain ⟨hk, hp, hn⟩ := ix_spec (fun j => clP g (gs.getD j ⟨0, 0, 0⟩) = true) gs.length
  generalize ix (fun j => clP g (gs.getD j ⟨0, 0, 0⟩) = true) gs.length = j at *
  rw [any_ix (clP g) gs ⟨0, 0, 0⟩ j hp hn]
  unfold geS
  rcases hp with rfl | ⟨hj, hp⟩
  · rw [if_neg (by simp)]
    simp (disch := omega) only [go_sem, Nat.reduceAdd, Nat.reduceSub, Nat.reduceMul, Nat.reduceLeDiff, Nat.reduceEqDiff, kpCs_d, idsL_d, renL_d, ctCs_d, killL_d, outJ_m, mapM1, mapM2, oneOf, Option.map_some, Option.map_none, Option.bind_some, all_gr, all_wt, List.getElem?_nil, List.length_map, h57l0]
  · rw [if_pos (by simpa using hj)]
    rw [getDz gs _ j hj] at hp
    have eg : (gs.map Gr.e)[j]? = some [ci gs[j].c, ci gs[j].l, ci gs[j].t] := by rw [List.getElem?_map, List.getElem?_eq_getElem hj]; rfl
    generalize gs[j] = h at *
    unfold clP at hp
    simp only [Bool.and_eq_true, Bool.or_eq_true, decide_eq_true_eq] at hp
    obtain ⟨h1, h2⟩ := hp
    by_cases h3 : g.l ≥ 2
    · by_cases h4 : h.l > 0
      · simp (disch := omega) only [go_sem, Nat.reduceAdd, Nat.reduceSub, Nat.reduceMul, Nat.reduceLeDiff, Nat.reduceEqDiff, kpCs_d, idsL_d, renL_d, ctCs_d, killL_d, outJ_m, mapM1, mapM2, oneOf, Option.map_some, Option.map_none, Option.bind_some, all_gr, all_wt, List.getElem?_nil, List.length_map, h57l0, eg, h1, h3, h4]
      · have h5 : g.l = 3 := by omega
        simp (disch := omega) only [go_sem, Nat.reduceAdd, Nat.reduceSub, Nat.reduceMul, Nat.reduceLeDiff, Nat.reduceEqDiff, kpCs_d, idsL_d, renL_d, ctCs_d, killL_d, outJ_m, mapM1, mapM2, oneOf, Option.map_some, Option.map_none, Option.bind_some, all_gr, all_wt, List.getElem?_nil, List.length_map, h57l0, eg, h1, h3, h4, eq_true h5]
    · omega
set_option maxHeartbeats 4000000 in
theorem rgrantErr_v (gs : List Gr) (ws : List Wt) (i : Nat) (hi : i < gs.length) (hl : gs.length ≤ 100000) : EV G (Tb (bs bb)) 57 [flV gs ws, vi i] [] = some (vi (gErr gs i gs[i]), []) := by
  refine EV_run rfl ?_
  have eg : (gs.map Gr.e)[i]? = some [ci gs[i].c, ci gs[i].l, ci gs[i].t] := by rw [List.getElem?_map, List.getElem?_eq_getElem hi]; rfl
  have hi1 : i - 1 < gs.length := by omega
  have eg1 : (gs.map Gr.e)[i - 1]? = some [ci gs[i-1].c, ci gs[i-1].l, ci gs[i-1].t] := by rw [List.getElem?_map, List.getElem?_eq_getElem hi1]; rfl
  rw [gErr_n, grAt gs (i - 1) hi1]
  generalize gs[i] = g at *
  generalize gs[i - 1] = g1 at *
  have fin := fun st h0 => ge_out (G := G) (bb := bb) gs ws g hl (st := st) h0
  unfold geS at fin
  cases c1 : isCl g.c with
  | false =>
    rw [if_pos (by simp)]
    simp (disch := omega) only [go_sem, Nat.reduceAdd, Nat.reduceSub, Nat.reduceMul, Nat.reduceLeDiff, Nat.reduceEqDiff, kpCs_d, idsL_d, renL_d, ctCs_d, killL_d, outJ_m, mapM1, mapM2, oneOf, Option.map_some, Option.map_none, Option.bind_some, all_gr, all_wt, List.getElem?_nil, List.length_map, h57c, eg, rclient_v, rwithin_v, c1]
  | true =>
    cases c2 : wi g.l 0 3 with
    | false =>
      rw [if_pos (by simp)]
      simp (disch := omega) only [go_sem, Nat.reduceAdd, Nat.reduceSub, Nat.reduceMul, Nat.reduceLeDiff, Nat.reduceEqDiff, kpCs_d, idsL_d, renL_d, ctCs_d, killL_d, outJ_m, mapM1, mapM2, oneOf, Option.map_some, Option.map_none, Option.bind_some, all_gr, all_wt, List.getElem?_nil, List.length_map, h57c, eg, rclient_v, rwithin_v, c1, c2]
    | true =>
      cases c3 : wi g.t 0 g.l with
      | false =>
        rw [if_pos (by simp)]
        simp (disch := omega) only [go_sem, Nat.reduceAdd, Nat.reduceSub, Nat.reduceMul, Nat.reduceLeDiff, Nat.reduceEqDiff, kpCs_d, idsL_d, renL_d, ctCs_d, killL_d, outJ_m, mapM1, mapM2, oneOf, Option.map_some, Option.map_none, Option.bind_some, all_gr, all_wt, List.getElem?_nil, List.length_map, h57c, eg, rclient_v, rwithin_v, c1, c2, c3]
      | true =>
        rw [if_neg (by simp)]
        rcases Nat.eq_zero_or_pos i with rfl | h0
        · rw [if_neg (by simp)]
          by_cases k1 : g.l = 1
          · by_cases k2 : g.t = g.l
            · rw [if_neg (by simp [k2])]
              simp (disch := omega) only [go_sem, Nat.reduceAdd, Nat.reduceSub, Nat.reduceMul, Nat.reduceLeDiff, Nat.reduceEqDiff, kpCs_d, idsL_d, renL_d, ctCs_d, killL_d, outJ_m, mapM1, mapM2, oneOf, Option.map_some, Option.map_none, Option.bind_some, all_gr, all_wt, List.getElem?_nil, List.length_map, h57c, eg, rclient_v, rwithin_v, c1, c2, c3, eq_true k1, eq_true k2]
              exact fin _ rfl
            · rw [if_pos (by simp [k1, k2]; omega)]
              simp (disch := omega) only [go_sem, Nat.reduceAdd, Nat.reduceSub, Nat.reduceMul, Nat.reduceLeDiff, Nat.reduceEqDiff, kpCs_d, idsL_d, renL_d, ctCs_d, killL_d, outJ_m, mapM1, mapM2, oneOf, Option.map_some, Option.map_none, Option.bind_some, all_gr, all_wt, List.getElem?_nil, List.length_map, h57c, eg, rclient_v, rwithin_v, c1, c2, c3, eq_true k1, k2]
          · rw [if_neg (by simp [k1])]
            simp (disch := omega) only [go_sem, Nat.reduceAdd, Nat.reduceSub, Nat.reduceMul, Nat.reduceLeDiff, Nat.reduceEqDiff, kpCs_d, idsL_d, renL_d, ctCs_d, killL_d, outJ_m, mapM1, mapM2, oneOf, Option.map_some, Option.map_none, Option.bind_some, all_gr, all_wt, List.getElem?_nil, List.length_map, h57c, eg, rclient_v, rwithin_v, c1, c2, c3, k1]
            exact fin _ rfl
        · have hi0 : (i : Int) > 0 := by omega
          have et : ((i : Int) - 1).toNat = i - 1 := by omega
          by_cases k0 : g1.c < g.c
          · have k0' : ¬ g.c ≤ g1.c := by omega
            rw [if_neg (by simp [k0])]
            by_cases k1 : g.l = 1
            · by_cases k2 : g.t = g.l
              · rw [if_neg (by simp [k2])]
                simp (disch := omega) only [go_sem, Nat.reduceAdd, Nat.reduceSub, Nat.reduceMul, Nat.reduceLeDiff, Nat.reduceEqDiff, kpCs_d, idsL_d, renL_d, ctCs_d, killL_d, outJ_m, mapM1, mapM2, oneOf, Option.map_some, Option.map_none, Option.bind_some, all_gr, all_wt, List.getElem?_nil, List.length_map, h57c, eg, eg1, et, hi0, k0', rclient_v, rwithin_v, c1, c2, c3, eq_true k1, eq_true k2]
                exact fin _ rfl
              · rw [if_pos (by simp [k1, k2]; omega)]
                simp (disch := omega) only [go_sem, Nat.reduceAdd, Nat.reduceSub, Nat.reduceMul, Nat.reduceLeDiff, Nat.reduceEqDiff, kpCs_d, idsL_d, renL_d, ctCs_d, killL_d, outJ_m, mapM1, mapM2, oneOf, Option.map_some, Option.map_none, Option.bind_some, all_gr, all_wt, List.getElem?_nil, List.length_map, h57c, eg, eg1, et, hi0, k0', rclient_v, rwithin_v, c1, c2, c3, eq_true k1, k2]
            · rw [if_neg (by simp [k1])]
              simp (disch := omega) only [go_sem, Nat.reduceAdd, Nat.reduceSub, Nat.reduceMul, Nat.reduceLeDiff, Nat.reduceEqDiff, kpCs_d, idsL_d, renL_d, ctCs_d, killL_d, outJ_m, mapM1, mapM2, oneOf, Option.map_some, Option.map_none, Option.bind_some, all_gr, all_wt, List.getElem?_nil, List.length_map, h57c, eg, eg1, et, hi0, k0', rclient_v, rwithin_v, c1, c2, c3, k1]
              exact fin _ rfl
          · have k0' : g.c ≤ g1.c := by omega
            rw [if_pos (by simp; omega)]
            simp (disch := omega) only [go_sem, Nat.reduceAdd, Nat.reduceSub, Nat.reduceMul, Nat.reduceLeDiff, Nat.reduceEqDiff, kpCs_d, idsL_d, renL_d, ctCs_d, killL_d, outJ_m, mapM1, mapM2, oneOf, Option.map_some, Option.map_none, Option.bind_some, all_gr, all_wt, List.getElem?_nil, List.length_map, h57c, eg, eg1, et, hi0, k0', rclient_v, rwithin_v, c1, c2, c3]
end
section
set_option maxRecDepth 4000
set_option linter.unusedSimpArgs false
set_option linter.unusedVariables false
variable {G : Glob} {bb : Bool}
theorem wtI_lt (ws : List Wt) (i : Nat) (hi : i < ws.length) : decide (wtI ws ws[i].c < i) = isW (ws.take i) ws[i].c := by
  unfold wtI idxG
  obtain ⟨hk, hp, hn⟩ := ix_spec (fun j => decide ((ws.getD j ⟨0, 0⟩).c = ws[i].c) = true) ws.length
  generalize ix (fun j => decide ((ws.getD j ⟨0, 0⟩).c = ws[i].c) = true) ws.length = k at *
  have hni : k ≤ i := by
    apply Classical.byContradiction
    intro h
    have := hn i (by omega)
    rw [getDz ws _ i hi] at this
    simp at this
  rw [if_neg (by omega)]
  rcases hp with hp | ⟨hk', hp⟩
  · omega
  rw [getDz ws _ k hk', decide_eq_true_eq] at hp
  rw [Bool.eq_iff_iff, decide_eq_true_eq]
  constructor
  · intro h
    unfold isW
    rw [List.any_eq_true]
    exact ⟨ws[k], List.mem_take_iff_getElem.2 ⟨k, by omega, rfl⟩, by simpa using hp⟩
  · intro h
    unfold isW at h
    rw [List.any_eq_true] at h
    obtain ⟨w, hw, h2⟩ := h
    obtain ⟨j, hj, rfl⟩ := List.mem_take_iff_getElem.1 hw
    have : ¬ j < k := fun hjk => by
      have := hn j hjk
      rw [getDz ws _ j (by omega)] at this
      exact this h2
    omega
set_option maxHeartbeats 4000000 in
theorem rwaitErr_v (gs : List Gr) (ws : List Wt) (i : Nat) (hi : i < ws.length) (hg : gs.length ≤ 100000) (hl : ws.length ≤ 100000) : EV G (Tb (bs bb)) 58 [flV gs ws, vi i] [] = some (vi (wErr gs ws i ws[i]), []) := by
  refine EV_run rfl ?_
  have eg : (ws.map Wt.e)[i]? = some [ci ws[i].c, ci ws[i].k] := by rw [List.getElem?_map, List.getElem?_eq_getElem hi]; rfl
  have h3 := wtI_lt ws i hi
  have q1 := rat_v (G := G) (bb := bb) gs ws ws[i].c hg
  have q2 := rwaiting_v (G := G) (bb := bb) gs ws ws[i].c hl
  have h4 := atI_in gs ws[i].c
  rw [wErr_n]
  generalize ws[i] = a at *
  cases c1 : isCl a.c with
  | false =>
    rw [if_pos (by simp)]
    simp (disch := omega) only [go_sem, Nat.reduceAdd, Nat.reduceSub, Nat.reduceMul, Nat.reduceLeDiff, Nat.reduceEqDiff, kpCs_d, idsL_d, renL_d, ctCs_d, killL_d, outJ_m, mapM1, mapM2, oneOf, Option.map_some, Option.map_none, Option.bind_some, all_gr, all_wt, List.getElem?_nil, List.length_map, h58c, eg, rclient_v, c1]
  | true =>
    rw [if_neg (by simp)]
    cases c2 : isUs a.k with
    | false =>
      rw [if_pos (by simp)]
      simp (disch := omega) only [go_sem, Nat.reduceAdd, Nat.reduceSub, Nat.reduceMul, Nat.reduceLeDiff, Nat.reduceEqDiff, kpCs_d, idsL_d, renL_d, ctCs_d, killL_d, outJ_m, mapM1, mapM2, oneOf, Option.map_some, Option.map_none, Option.bind_some, all_gr, all_wt, List.getElem?_nil, List.length_map, h58c, eg, rclient_v, rwaits_v, c1, c2]
    | true =>
      rw [if_neg (by simp)]
      by_cases c3 : wtI ws a.c < i
      · rw [decide_eq_true c3] at h3
        rw [if_pos h3.symm]
        simp (disch := omega) only [go_sem, Nat.reduceAdd, Nat.reduceSub, Nat.reduceMul, Nat.reduceLeDiff, Nat.reduceEqDiff, kpCs_d, idsL_d, renL_d, ctCs_d, killL_d, outJ_m, mapM1, mapM2, oneOf, Option.map_some, Option.map_none, Option.bind_some, all_gr, all_wt, List.getElem?_nil, List.length_map, h58c, eg, rclient_v, rwaits_v, c1, c2, q2, c3]
      · rw [decide_eq_false c3] at h3
        rw [if_neg (by rw [← h3]; simp)]
        by_cases c4 : 0 ≤ atI gs a.c
        · rw [decide_eq_true c4] at h4
          have c4' : ¬ atI gs a.c < 0 := by omega
          by_cases k0 : a.k = 0
          · rw [if_pos (by simp [k0, ← h4])]
            simp (disch := omega) only [go_sem, Nat.reduceAdd, Nat.reduceSub, Nat.reduceMul, Nat.reduceLeDiff, Nat.reduceEqDiff, kpCs_d, idsL_d, renL_d, ctCs_d, killL_d, outJ_m, mapM1, mapM2, oneOf, Option.map_some, Option.map_none, Option.bind_some, all_gr, all_wt, List.getElem?_nil, List.length_map, h58c, eg, rclient_v, rwaits_v, c1, c2, q1, q2, c3, eq_true k0, c4, ge_iff_le]
          · rw [if_neg (by simp [k0]), if_neg (by simp [← h4])]
            simp (disch := omega) only [go_sem, Nat.reduceAdd, Nat.reduceSub, Nat.reduceMul, Nat.reduceLeDiff, Nat.reduceEqDiff, kpCs_d, idsL_d, renL_d, ctCs_d, killL_d, outJ_m, mapM1, mapM2, oneOf, Option.map_some, Option.map_none, Option.bind_some, all_gr, all_wt, List.getElem?_nil, List.length_map, h58c, eg, rclient_v, rwaits_v, c1, c2, q1, q2, c3, k0, c4']
        · rw [decide_eq_false c4] at h4
          have c4' : atI gs a.c < 0 := by omega
          by_cases k0 : a.k = 0
          · rw [if_neg (by simp [← h4]), if_neg (by simp [k0])]
            simp (disch := omega) only [go_sem, Nat.reduceAdd, Nat.reduceSub, Nat.reduceMul, Nat.reduceLeDiff, Nat.reduceEqDiff, kpCs_d, idsL_d, renL_d, ctCs_d, killL_d, outJ_m, mapM1, mapM2, oneOf, Option.map_some, Option.map_none, Option.bind_some, all_gr, all_wt, List.getElem?_nil, List.length_map, h58c, eg, rclient_v, rwaits_v, c1, c2, q1, q2, c3, eq_true k0, c4, ge_iff_le]
          · rw [if_neg (by simp [k0]), if_pos (by simp [k0, ← h4])]
            simp (disch := omega) only [go_sem, Nat.reduceAdd, Nat.reduceSub, Nat.reduceMul, Nat.reduceLeDiff, Nat.reduceEqDiff, kpCs_d, idsL_d, renL_d, ctCs_d, killL_d, outJ_m, mapM1, mapM2, oneOf, Option.map_some, Option.map_none, Option.bind_some, all_gr, all_wt, List.getElem?_nil, List.length_map, h58c, eg, rclient_v, rwaits_v, c1, c2, q1, q2, c3, k0, c4']
abbrev rfB (gs : List Gr) (ws : List Wt) : AObj := .box [.dc (.slc (gs.map Gr.e)), .dc (.slc (ws.map Wt.e))]
set_option maxHeartbeats 4000000 in
theorem rcheck_v (gs : List Gr) (ws : List Wt) (hg : gs.length ≤ 100000) (hw : ws.length ≤ 100000) : EV G (Tb (bs bb)) 14 [flV gs ws] [] = some (twoI (chk gs ws), []) := by
  refine EV_run rfl ?_
  unfold chk
  by_cases h1 : gs.length > 8
  · rw [if_pos (.inl h1)]
    simp (disch := omega) only [go_sem, Nat.reduceAdd, Nat.reduceSub, Nat.reduceMul, Nat.reduceLeDiff, Nat.reduceEqDiff, kpCs_d, idsL_d, renL_d, ctCs_d, killL_d, outJ_m, mapM1, mapM2, oneOf, Option.map_some, Option.map_none, Option.bind_some, all_gr, all_wt, List.getElem?_nil, List.length_map, h14c, h1]
    try rfl
  by_cases h2 : ws.length > 8
  · rw [if_pos (.inr h2)]
    simp (disch := omega) only [go_sem, Nat.reduceAdd, Nat.reduceSub, Nat.reduceMul, Nat.reduceLeDiff, Nat.reduceEqDiff, kpCs_d, idsL_d, renL_d, ctCs_d, killL_d, outJ_m, mapM1, mapM2, oneOf, Option.map_some, Option.map_none, Option.bind_some, all_gr, all_wt, List.getElem?_nil, List.length_map, h14c, h1, h2]
    try rfl
  rw [if_neg (by omega)]
  simp (disch := omega) only [go_sem, Nat.reduceAdd, Nat.reduceSub, Nat.reduceMul, Nat.reduceLeDiff, Nat.reduceEqDiff, kpCs_d, idsL_d, renL_d, ctCs_d, killL_d, outJ_m, mapM1, mapM2, oneOf, Option.map_some, Option.map_none, Option.bind_some, all_gr, all_wt, List.getElem?_nil, List.length_map, h14c, h1, h2]
  rw [EL_fst (fun j => ⟨(jk 1 (.one (.ptr 0 0) :: jk 2 (vi j :: jk 73 []))), [rfB gs ws]⟩) (fun j => gErr gs j (gs.getD j ⟨0, 0, 0⟩) ≠ 0) gs.length ?_ ?_]
  rotate_left
  · rfl
  · intro j hj hn
    have h3 := hn j (Nat.le_refl _)
    rw [grAt gs j hj] at h3
    have h4 : gErr gs j gs[j] = 0 := Classical.not_not.1 h3
    have q := rgrantErr_v (G := G) (bb := bb) gs ws j hj hg
    rw [h4] at q
    simp (disch := omega) only [go_sem, Nat.reduceAdd, Nat.reduceSub, Nat.reduceMul, Nat.reduceLeDiff, Nat.reduceEqDiff, kpCs_d, idsL_d, renL_d, ctCs_d, killL_d, outJ_m, mapM1, mapM2, oneOf, Option.map_some, Option.map_none, Option.bind_some, all_gr, all_wt, List.getElem?_nil, List.length_map, h14l0, q]
  obtain ⟨hk, hp, hn⟩ := ix_spec (fun j => gErr gs j (gs.getD j ⟨0, 0, 0⟩) ≠ 0) gs.length
  generalize ix (fun j => gErr gs j (gs.getD j ⟨0, 0, 0⟩) ≠ 0) gs.length = j at *
  have e1 : eachE 0 (gErrs gs) = if j = gs.length then (0, 0) else ((j : Int), gErr gs j (gs.getD j ⟨0, 0, 0⟩)) := each_r (fun j => gErr gs j (gs.getD j ⟨0, 0, 0⟩)) gs.length j hn hp
  rcases hp with rfl | ⟨hj, hp⟩
  rotate_left
  · rw [if_neg (show ¬ j = gs.length by omega), grAt gs j hj] at e1
    rw [e1]
    have q := rgrantErr_v (G := G) (bb := bb) gs ws j hj hg
    rw [grAt gs j hj] at hp
    rw [if_pos hp]
    simp (disch := omega) only [go_sem, Nat.reduceAdd, Nat.reduceSub, Nat.reduceMul, Nat.reduceLeDiff, Nat.reduceEqDiff, kpCs_d, idsL_d, renL_d, ctCs_d, killL_d, outJ_m, mapM1, mapM2, oneOf, Option.map_some, Option.map_none, Option.bind_some, all_gr, all_wt, List.getElem?_nil, List.length_map, h14l0, q, hp]
  rw [if_pos rfl] at e1
  rw [e1, if_neg (by simp)]
  simp (disch := omega) only [go_sem, Nat.reduceAdd, Nat.reduceSub, Nat.reduceMul, Nat.reduceLeDiff, Nat.reduceEqDiff, kpCs_d, idsL_d, renL_d, ctCs_d, killL_d, outJ_m, mapM1, mapM2, oneOf, Option.map_some, Option.map_none, Option.bind_some, all_gr, all_wt, List.getElem?_nil, List.length_map, h14l0]
  rw [EL_fst (fun j => ⟨(jk 1 (.one (.ptr 0 0) :: jk 4 (vi j :: jk 71 []))), [rfB gs ws]⟩) (fun j => wErr gs ws j (ws.getD j ⟨0, 0⟩) ≠ 0) ws.length ?_ ?_]
  rotate_left
  · rfl
  · intro j hj hn
    have h3 := hn j (Nat.le_refl _)
    rw [wtAt ws j hj] at h3
    have h4 : wErr gs ws j ws[j] = 0 := Classical.not_not.1 h3
    have q := rwaitErr_v (G := G) (bb := bb) gs ws j hj hg hw
    rw [h4] at q
    simp (disch := omega) only [go_sem, Nat.reduceAdd, Nat.reduceSub, Nat.reduceMul, Nat.reduceLeDiff, Nat.reduceEqDiff, kpCs_d, idsL_d, renL_d, ctCs_d, killL_d, outJ_m, mapM1, mapM2, oneOf, Option.map_some, Option.map_none, Option.bind_some, all_gr, all_wt, List.getElem?_nil, List.length_map, h14l1, q]
  obtain ⟨hk, hp, hn⟩ := ix_spec (fun j => wErr gs ws j (ws.getD j ⟨0, 0⟩) ≠ 0) ws.length
  generalize ix (fun j => wErr gs ws j (ws.getD j ⟨0, 0⟩) ≠ 0) ws.length = j at *
  have e1 : eachE 0 (wErrs gs ws) = if j = ws.length then (0, 0) else ((j : Int), wErr gs ws j (ws.getD j ⟨0, 0⟩)) := each_r (fun j => wErr gs ws j (ws.getD j ⟨0, 0⟩)) ws.length j hn hp
  rcases hp with rfl | ⟨hj, hp⟩
  rotate_left
  · rw [if_neg (show ¬ j = ws.length by omega), wtAt ws j hj] at e1
    rw [e1]
    have q := rwaitErr_v (G := G) (bb := bb) gs ws j hj hg hw
    rw [wtAt ws j hj] at hp
    rw [if_pos hp]
    simp (disch := omega) only [go_sem, Nat.reduceAdd, Nat.reduceSub, Nat.reduceMul, Nat.reduceLeDiff, Nat.reduceEqDiff, kpCs_d, idsL_d, renL_d, ctCs_d, killL_d, outJ_m, mapM1, mapM2, oneOf, Option.map_some, Option.map_none, Option.bind_some, all_gr, all_wt, List.getElem?_nil, List.length_map, h14l1, q, hp]
  rw [if_pos rfl] at e1
  rw [e1, if_neg (by simp)]
  cases ws with
  | nil =>
    show _ = some (twoI (0, 0), [])
    have hn : ¬ (([] : List Wt).length : Int) > 0 := by simp
    generalize ([] : List Wt) = W at *
    simp (disch := omega) only [go_sem, Nat.reduceAdd, Nat.reduceSub, Nat.reduceMul, Nat.reduceLeDiff, Nat.reduceEqDiff, kpCs_d, idsL_d, renL_d, ctCs_d, killL_d, outJ_m, mapM1, mapM2, oneOf, Option.map_some, Option.map_none, Option.bind_some, all_gr, all_wt, List.getElem?_nil, List.length_map, h14l1, hn]
    try rfl
  | cons w ws =>
    show _ = some (twoI (0, ifE (decide ((brBs gs w.c w.k).length = 0) && held (brGs gs w.c w.k) w.c w.k) 20), [])
    have e0 : ((w :: ws).map Wt.e)[0]? = some [ci w.c, ci w.k] := rfl
    have hn0 : ((w :: ws).length : Int) > 0 := by simp
    have q1 := rbroken_v (G := G) (bb := bb) gs (w :: ws) w.c w.k hg hw
    have q2 := rheld_v (G := G) (bb := bb) gs (w :: ws) w.c w.k hg
    generalize w :: ws = W at *
    by_cases hb : (brBs gs w.c w.k).length = 0
    · have hb' : ¬ ((brBs gs w.c w.k).length : Int) > 0 := by omega
      rw [brGs_no (List.length_eq_zero_iff.1 hb), decide_eq_true hb]
      cases hh : held gs w.c w.k with
      | true =>
        rw [hh] at q2
        simp (disch := omega) only [go_sem, Nat.reduceAdd, Nat.reduceSub, Nat.reduceMul, Nat.reduceLeDiff, Nat.reduceEqDiff, kpCs_d, idsL_d, renL_d, ctCs_d, killL_d, outJ_m, mapM1, mapM2, oneOf, Option.map_some, Option.map_none, Option.bind_some, all_gr, all_wt, List.getElem?_nil, List.length_map, h14l1, hn0, e0, q1, q2, hb', brkH]
        try rfl
      | false =>
        rw [hh] at q2
        simp (disch := omega) only [go_sem, Nat.reduceAdd, Nat.reduceSub, Nat.reduceMul, Nat.reduceLeDiff, Nat.reduceEqDiff, kpCs_d, idsL_d, renL_d, ctCs_d, killL_d, outJ_m, mapM1, mapM2, oneOf, Option.map_some, Option.map_none, Option.bind_some, all_gr, all_wt, List.getElem?_nil, List.length_map, h14l1, hn0, e0, q1, q2, hb', brkH]
        try rfl
    · have hb' : ((brBs gs w.c w.k).length : Int) > 0 := by omega
      rw [decide_eq_false hb]
      simp (disch := omega) only [go_sem, Nat.reduceAdd, Nat.reduceSub, Nat.reduceMul, Nat.reduceLeDiff, Nat.reduceEqDiff, kpCs_d, idsL_d, renL_d, ctCs_d, killL_d, outJ_m, mapM1, mapM2, oneOf, Option.map_some, Option.map_none, Option.bind_some, all_gr, all_wt, List.getElem?_nil, List.length_map, h14l1, hn0, e0, q1, hb', brkH]
      try rfl
end
section
set_option maxRecDepth 4000
set_option linter.unusedSimpArgs false
set_option linter.unusedVariables false
variable {G : Glob} {bb : Bool}
set_option maxHeartbeats 4000000 in
theorem grantErr_v (gs : List Gr) (ws : List Wt) (i : Nat) (hi : i < gs.length) (hl : gs.length ≤ 1000000) : EV G (Tb (bs bb)) 50 [flR gs ws, vi i] [] = some (vi (gErr gs i gs[i]), []) := by
  refine EV_run rfl ?_
  have q := any1_v (G := G) (bb := bb) 116 [ci gs[i].c, ci gs[i].l, ci gs[i].t] (fun h => decide (h.c ≠ gs[i].c)) gs hl (fun h _ => p116_v gs[i] h)
  simp only [List.map_cons, List.map_nil] at q
  rw [show (gs.any fun h => decide (h.c ≠ gs[i].c)) = othA gs gs[i].c from rfl] at q
  have q1 := p113_v (G := G) (bb := bb) gs ws gs[i] 1 hl
  have eg : (gs.map Gr.e)[i]? = some [ci gs[i].c, ci gs[i].l, ci gs[i].t] := by rw [List.getElem?_map, List.getElem?_eq_getElem hi]; rfl
  have hi1 : i - 1 < gs.length := by omega
  have eg1 : (gs.map Gr.e)[i - 1]? = some [ci gs[i-1].c, ci gs[i-1].l, ci gs[i-1].t] := by rw [List.getElem?_map, List.getElem?_eq_getElem hi1]; rfl
  rw [gErr_e, clash_e, grAt gs (i - 1) hi1]
  generalize gs[i] = g at *
  generalize gs[i - 1] = g1 at *
  have c1 : isCl g.c = false ∨ (isCl g.c = true ∧ wi g.l 0 3 = false) ∨ (isCl g.c = true ∧ wi g.l 0 3 = true) := by
    cases isCl g.c <;> cases wi g.l 0 3 <;> simp
  have c2 : (g.l ≥ 2 ∧ g.l ≠ 1 ∧ othL gs g.c 1 = true) ∨ (g.l ≥ 2 ∧ g.l ≠ 1 ∧ othL gs g.c 1 = false ∧ g.l = 3) ∨ (g.l ≥ 2 ∧ g.l ≠ 1 ∧ othL gs g.c 1 = false ∧ g.l ≠ 3) ∨ (¬g.l ≥ 2 ∧ g.l ≠ 3 ∧ g.l = 1) ∨ (¬g.l ≥ 2 ∧ g.l ≠ 3 ∧ g.l ≠ 1) := by
    cases othL gs g.c 1 <;> simp <;> omega
  rcases Nat.eq_zero_or_pos i with rfl | h0
  · rcases c1 with h1 | ⟨h1, h2⟩ | ⟨h1, h2⟩
    · rcases c2 with ⟨k1, k2, k3⟩ | ⟨k1, k2, k3, k4⟩ | ⟨k1, k2, k3, k4⟩ | ⟨k1, k2, k3⟩ | ⟨k1, k2, k3⟩
      · simp (disch := omega) only [go_sem, Nat.reduceAdd, Nat.reduceSub, Nat.reduceMul, Nat.reduceLeDiff, Nat.reduceEqDiff, kpCs_d, idsL_d, renL_d, ctCs_d, killL_d, outJ_m, mapM1, mapM2, oneOf, Option.map_some, Option.map_none, Option.bind_some, all_gr, all_wt, List.getElem?_nil, List.length_map, h50c, q, q1, eg, isClient_v, within_u, unless_u, first4, h1, k1, k2, k3]
      · simp (disch := omega) only [go_sem, Nat.reduceAdd, Nat.reduceSub, Nat.reduceMul, Nat.reduceLeDiff, Nat.reduceEqDiff, kpCs_d, idsL_d, renL_d, ctCs_d, killL_d, outJ_m, mapM1, mapM2, oneOf, Option.map_some, Option.map_none, Option.bind_some, all_gr, all_wt, List.getElem?_nil, List.length_map, h50c, q, q1, eg, isClient_v, within_u, unless_u, first4, h1, k1, k2, k3, eq_true k4]
      · simp (disch := omega) only [go_sem, Nat.reduceAdd, Nat.reduceSub, Nat.reduceMul, Nat.reduceLeDiff, Nat.reduceEqDiff, kpCs_d, idsL_d, renL_d, ctCs_d, killL_d, outJ_m, mapM1, mapM2, oneOf, Option.map_some, Option.map_none, Option.bind_some, all_gr, all_wt, List.getElem?_nil, List.length_map, h50c, q, q1, eg, isClient_v, within_u, unless_u, first4, h1, k1, k2, k3, k4]
      · simp (disch := omega) only [go_sem, Nat.reduceAdd, Nat.reduceSub, Nat.reduceMul, Nat.reduceLeDiff, Nat.reduceEqDiff, kpCs_d, idsL_d, renL_d, ctCs_d, killL_d, outJ_m, mapM1, mapM2, oneOf, Option.map_some, Option.map_none, Option.bind_some, all_gr, all_wt, List.getElem?_nil, List.length_map, h50c, q, q1, eg, isClient_v, within_u, unless_u, first4, h1, k1, k2, eq_true k3]
      · simp (disch := omega) only [go_sem, Nat.reduceAdd, Nat.reduceSub, Nat.reduceMul, Nat.reduceLeDiff, Nat.reduceEqDiff, kpCs_d, idsL_d, renL_d, ctCs_d, killL_d, outJ_m, mapM1, mapM2, oneOf, Option.map_some, Option.map_none, Option.bind_some, all_gr, all_wt, List.getElem?_nil, List.length_map, h50c, q, q1, eg, isClient_v, within_u, unless_u, first4, h1, k1, k2, k3]
    · rcases c2 with ⟨k1, k2, k3⟩ | ⟨k1, k2, k3, k4⟩ | ⟨k1, k2, k3, k4⟩ | ⟨k1, k2, k3⟩ | ⟨k1, k2, k3⟩
      · simp (disch := omega) only [go_sem, Nat.reduceAdd, Nat.reduceSub, Nat.reduceMul, Nat.reduceLeDiff, Nat.reduceEqDiff, kpCs_d, idsL_d, renL_d, ctCs_d, killL_d, outJ_m, mapM1, mapM2, oneOf, Option.map_some, Option.map_none, Option.bind_some, all_gr, all_wt, List.getElem?_nil, List.length_map, h50c, q, q1, eg, isClient_v, within_u, unless_u, first4, h1, h2, k1, k2, k3]
      · simp (disch := omega) only [go_sem, Nat.reduceAdd, Nat.reduceSub, Nat.reduceMul, Nat.reduceLeDiff, Nat.reduceEqDiff, kpCs_d, idsL_d, renL_d, ctCs_d, killL_d, outJ_m, mapM1, mapM2, oneOf, Option.map_some, Option.map_none, Option.bind_some, all_gr, all_wt, List.getElem?_nil, List.length_map, h50c, q, q1, eg, isClient_v, within_u, unless_u, first4, h1, h2, k1, k2, k3, eq_true k4]
      · simp (disch := omega) only [go_sem, Nat.reduceAdd, Nat.reduceSub, Nat.reduceMul, Nat.reduceLeDiff, Nat.reduceEqDiff, kpCs_d, idsL_d, renL_d, ctCs_d, killL_d, outJ_m, mapM1, mapM2, oneOf, Option.map_some, Option.map_none, Option.bind_some, all_gr, all_wt, List.getElem?_nil, List.length_map, h50c, q, q1, eg, isClient_v, within_u, unless_u, first4, h1, h2, k1, k2, k3, k4]
      · simp (disch := omega) only [go_sem, Nat.reduceAdd, Nat.reduceSub, Nat.reduceMul, Nat.reduceLeDiff, Nat.reduceEqDiff, kpCs_d, idsL_d, renL_d, ctCs_d, killL_d, outJ_m, mapM1, mapM2, oneOf, Option.map_some, Option.map_none, Option.bind_some, all_gr, all_wt, List.getElem?_nil, List.length_map, h50c, q, q1, eg, isClient_v, within_u, unless_u, first4, h1, h2, k1, k2, eq_true k3]
      · simp (disch := omega) only [go_sem, Nat.reduceAdd, Nat.reduceSub, Nat.reduceMul, Nat.reduceLeDiff, Nat.reduceEqDiff, kpCs_d, idsL_d, renL_d, ctCs_d, killL_d, outJ_m, mapM1, mapM2, oneOf, Option.map_some, Option.map_none, Option.bind_some, all_gr, all_wt, List.getElem?_nil, List.length_map, h50c, q, q1, eg, isClient_v, within_u, unless_u, first4, h1, h2, k1, k2, k3]
    · rcases c2 with ⟨k1, k2, k3⟩ | ⟨k1, k2, k3, k4⟩ | ⟨k1, k2, k3, k4⟩ | ⟨k1, k2, k3⟩ | ⟨k1, k2, k3⟩
      · simp (disch := omega) only [go_sem, Nat.reduceAdd, Nat.reduceSub, Nat.reduceMul, Nat.reduceLeDiff, Nat.reduceEqDiff, kpCs_d, idsL_d, renL_d, ctCs_d, killL_d, outJ_m, mapM1, mapM2, oneOf, Option.map_some, Option.map_none, Option.bind_some, all_gr, all_wt, List.getElem?_nil, List.length_map, h50c, q, q1, eg, isClient_v, within_u, unless_u, first4, h1, h2, k1, k2, k3]
      · simp (disch := omega) only [go_sem, Nat.reduceAdd, Nat.reduceSub, Nat.reduceMul, Nat.reduceLeDiff, Nat.reduceEqDiff, kpCs_d, idsL_d, renL_d, ctCs_d, killL_d, outJ_m, mapM1, mapM2, oneOf, Option.map_some, Option.map_none, Option.bind_some, all_gr, all_wt, List.getElem?_nil, List.length_map, h50c, q, q1, eg, isClient_v, within_u, unless_u, first4, h1, h2, k1, k2, k3, eq_true k4]
      · simp (disch := omega) only [go_sem, Nat.reduceAdd, Nat.reduceSub, Nat.reduceMul, Nat.reduceLeDiff, Nat.reduceEqDiff, kpCs_d, idsL_d, renL_d, ctCs_d, killL_d, outJ_m, mapM1, mapM2, oneOf, Option.map_some, Option.map_none, Option.bind_some, all_gr, all_wt, List.getElem?_nil, List.length_map, h50c, q, q1, eg, isClient_v, within_u, unless_u, first4, h1, h2, k1, k2, k3, k4]
      · simp (disch := omega) only [go_sem, Nat.reduceAdd, Nat.reduceSub, Nat.reduceMul, Nat.reduceLeDiff, Nat.reduceEqDiff, kpCs_d, idsL_d, renL_d, ctCs_d, killL_d, outJ_m, mapM1, mapM2, oneOf, Option.map_some, Option.map_none, Option.bind_some, all_gr, all_wt, List.getElem?_nil, List.length_map, h50c, q, q1, eg, isClient_v, within_u, unless_u, first4, h1, h2, k1, k2, eq_true k3]
      · simp (disch := omega) only [go_sem, Nat.reduceAdd, Nat.reduceSub, Nat.reduceMul, Nat.reduceLeDiff, Nat.reduceEqDiff, kpCs_d, idsL_d, renL_d, ctCs_d, killL_d, outJ_m, mapM1, mapM2, oneOf, Option.map_some, Option.map_none, Option.bind_some, all_gr, all_wt, List.getElem?_nil, List.length_map, h50c, q, q1, eg, isClient_v, within_u, unless_u, first4, h1, h2, k1, k2, k3]
  · have h0' : ¬ i = 0 := by omega
    rcases c1 with h1 | ⟨h1, h2⟩ | ⟨h1, h2⟩
    · rcases c2 with ⟨k1, k2, k3⟩ | ⟨k1, k2, k3, k4⟩ | ⟨k1, k2, k3, k4⟩ | ⟨k1, k2, k3⟩ | ⟨k1, k2, k3⟩
      · simp (disch := omega) only [go_sem, Nat.reduceAdd, Nat.reduceSub, Nat.reduceMul, Nat.reduceLeDiff, Nat.reduceEqDiff, kpCs_d, idsL_d, renL_d, ctCs_d, killL_d, outJ_m, mapM1, mapM2, oneOf, Option.map_some, Option.map_none, Option.bind_some, all_gr, all_wt, List.getElem?_nil, List.length_map, h50c, q, q1, eg, eg1, max0, h0', isClient_v, within_u, unless_u, first4, h1, k1, k2, k3]
      · simp (disch := omega) only [go_sem, Nat.reduceAdd, Nat.reduceSub, Nat.reduceMul, Nat.reduceLeDiff, Nat.reduceEqDiff, kpCs_d, idsL_d, renL_d, ctCs_d, killL_d, outJ_m, mapM1, mapM2, oneOf, Option.map_some, Option.map_none, Option.bind_some, all_gr, all_wt, List.getElem?_nil, List.length_map, h50c, q, q1, eg, eg1, max0, h0', isClient_v, within_u, unless_u, first4, h1, k1, k2, k3, eq_true k4]
      · simp (disch := omega) only [go_sem, Nat.reduceAdd, Nat.reduceSub, Nat.reduceMul, Nat.reduceLeDiff, Nat.reduceEqDiff, kpCs_d, idsL_d, renL_d, ctCs_d, killL_d, outJ_m, mapM1, mapM2, oneOf, Option.map_some, Option.map_none, Option.bind_some, all_gr, all_wt, List.getElem?_nil, List.length_map, h50c, q, q1, eg, eg1, max0, h0', isClient_v, within_u, unless_u, first4, h1, k1, k2, k3, k4]
      · simp (disch := omega) only [go_sem, Nat.reduceAdd, Nat.reduceSub, Nat.reduceMul, Nat.reduceLeDiff, Nat.reduceEqDiff, kpCs_d, idsL_d, renL_d, ctCs_d, killL_d, outJ_m, mapM1, mapM2, oneOf, Option.map_some, Option.map_none, Option.bind_some, all_gr, all_wt, List.getElem?_nil, List.length_map, h50c, q, q1, eg, eg1, max0, h0', isClient_v, within_u, unless_u, first4, h1, k1, k2, eq_true k3]
      · simp (disch := omega) only [go_sem, Nat.reduceAdd, Nat.reduceSub, Nat.reduceMul, Nat.reduceLeDiff, Nat.reduceEqDiff, kpCs_d, idsL_d, renL_d, ctCs_d, killL_d, outJ_m, mapM1, mapM2, oneOf, Option.map_some, Option.map_none, Option.bind_some, all_gr, all_wt, List.getElem?_nil, List.length_map, h50c, q, q1, eg, eg1, max0, h0', isClient_v, within_u, unless_u, first4, h1, k1, k2, k3]
    · rcases c2 with ⟨k1, k2, k3⟩ | ⟨k1, k2, k3, k4⟩ | ⟨k1, k2, k3, k4⟩ | ⟨k1, k2, k3⟩ | ⟨k1, k2, k3⟩
      · simp (disch := omega) only [go_sem, Nat.reduceAdd, Nat.reduceSub, Nat.reduceMul, Nat.reduceLeDiff, Nat.reduceEqDiff, kpCs_d, idsL_d, renL_d, ctCs_d, killL_d, outJ_m, mapM1, mapM2, oneOf, Option.map_some, Option.map_none, Option.bind_some, all_gr, all_wt, List.getElem?_nil, List.length_map, h50c, q, q1, eg, eg1, max0, h0', isClient_v, within_u, unless_u, first4, h1, h2, k1, k2, k3]
      · simp (disch := omega) only [go_sem, Nat.reduceAdd, Nat.reduceSub, Nat.reduceMul, Nat.reduceLeDiff, Nat.reduceEqDiff, kpCs_d, idsL_d, renL_d, ctCs_d, killL_d, outJ_m, mapM1, mapM2, oneOf, Option.map_some, Option.map_none, Option.bind_some, all_gr, all_wt, List.getElem?_nil, List.length_map, h50c, q, q1, eg, eg1, max0, h0', isClient_v, within_u, unless_u, first4, h1, h2, k1, k2, k3, eq_true k4]
      · simp (disch := omega) only [go_sem, Nat.reduceAdd, Nat.reduceSub, Nat.reduceMul, Nat.reduceLeDiff, Nat.reduceEqDiff, kpCs_d, idsL_d, renL_d, ctCs_d, killL_d, outJ_m, mapM1, mapM2, oneOf, Option.map_some, Option.map_none, Option.bind_some, all_gr, all_wt, List.getElem?_nil, List.length_map, h50c, q, q1, eg, eg1, max0, h0', isClient_v, within_u, unless_u, first4, h1, h2, k1, k2, k3, k4]
      · simp (disch := omega) only [go_sem, Nat.reduceAdd, Nat.reduceSub, Nat.reduceMul, Nat.reduceLeDiff, Nat.reduceEqDiff, kpCs_d, idsL_d, renL_d, ctCs_d, killL_d, outJ_m, mapM1, mapM2, oneOf, Option.map_some, Option.map_none, Option.bind_some, all_gr, all_wt, List.getElem?_nil, List.length_map, h50c, q, q1, eg, eg1, max0, h0', isClient_v, within_u, unless_u, first4, h1, h2, k1, k2, eq_true k3]
      · simp (disch := omega) only [go_sem, Nat.reduceAdd, Nat.reduceSub, Nat.reduceMul, Nat.reduceLeDiff, Nat.reduceEqDiff, kpCs_d, idsL_d, renL_d, ctCs_d, killL_d, outJ_m, mapM1, mapM2, oneOf, Option.map_some, Option.map_none, Option.bind_some, all_gr, all_wt, List.getElem?_nil, List.length_map, h50c, q, q1, eg, eg1, max0, h0', isClient_v, within_u, unless_u, first4, h1, h2, k1, k2, k3]
    · rcases c2 with ⟨k1, k2, k3⟩ | ⟨k1, k2, k3, k4⟩ | ⟨k1, k2, k3, k4⟩ | ⟨k1, k2, k3⟩ | ⟨k1, k2, k3⟩
      · simp (disch := omega) only [go_sem, Nat.reduceAdd, Nat.reduceSub, Nat.reduceMul, Nat.reduceLeDiff, Nat.reduceEqDiff, kpCs_d, idsL_d, renL_d, ctCs_d, killL_d, outJ_m, mapM1, mapM2, oneOf, Option.map_some, Option.map_none, Option.bind_some, all_gr, all_wt, List.getElem?_nil, List.length_map, h50c, q, q1, eg, eg1, max0, h0', isClient_v, within_u, unless_u, first4, h1, h2, k1, k2, k3]
      · simp (disch := omega) only [go_sem, Nat.reduceAdd, Nat.reduceSub, Nat.reduceMul, Nat.reduceLeDiff, Nat.reduceEqDiff, kpCs_d, idsL_d, renL_d, ctCs_d, killL_d, outJ_m, mapM1, mapM2, oneOf, Option.map_some, Option.map_none, Option.bind_some, all_gr, all_wt, List.getElem?_nil, List.length_map, h50c, q, q1, eg, eg1, max0, h0', isClient_v, within_u, unless_u, first4, h1, h2, k1, k2, k3, eq_true k4]
      · simp (disch := omega) only [go_sem, Nat.reduceAdd, Nat.reduceSub, Nat.reduceMul, Nat.reduceLeDiff, Nat.reduceEqDiff, kpCs_d, idsL_d, renL_d, ctCs_d, killL_d, outJ_m, mapM1, mapM2, oneOf, Option.map_some, Option.map_none, Option.bind_some, all_gr, all_wt, List.getElem?_nil, List.length_map, h50c, q, q1, eg, eg1, max0, h0', isClient_v, within_u, unless_u, first4, h1, h2, k1, k2, k3, k4]
      · simp (disch := omega) only [go_sem, Nat.reduceAdd, Nat.reduceSub, Nat.reduceMul, Nat.reduceLeDiff, Nat.reduceEqDiff, kpCs_d, idsL_d, renL_d, ctCs_d, killL_d, outJ_m, mapM1, mapM2, oneOf, Option.map_some, Option.map_none, Option.bind_some, all_gr, all_wt, List.getElem?_nil, List.length_map, h50c, q, q1, eg, eg1, max0, h0', isClient_v, within_u, unless_u, first4, h1, h2, k1, k2, eq_true k3]
      · simp (disch := omega) only [go_sem, Nat.reduceAdd, Nat.reduceSub, Nat.reduceMul, Nat.reduceLeDiff, Nat.reduceEqDiff, kpCs_d, idsL_d, renL_d, ctCs_d, killL_d, outJ_m, mapM1, mapM2, oneOf, Option.map_some, Option.map_none, Option.bind_some, all_gr, all_wt, List.getElem?_nil, List.length_map, h50c, q, q1, eg, eg1, max0, h0', isClient_v, within_u, unless_u, first4, h1, h2, k1, k2, k3]
end
end Go.Proofs.YtinageiefahjfaaGreatDoor
