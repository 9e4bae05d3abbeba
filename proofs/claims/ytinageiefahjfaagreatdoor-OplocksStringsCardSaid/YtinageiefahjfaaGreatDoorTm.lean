/- FormatFile over the base for strings. Conditions: none. -/
import Derived.Test.YtinageiefahjfaaGreatDoorVe
import Derived.Test.YtinageiefahjfaaGreatDoorUm
import Derived.Test.YtinageiefahjfaaGreatDoorUe
import Derived.Test.YtinageiefahjfaaGreatDoorVc
import Derived.Test.YtinageiefahjfaaGreatDoorTl
namespace Go.Proofs.YtinageiefahjfaaGreatDoor
set_option linter.unusedSimpArgs false
set_option linter.unusedVariables false
set_option maxRecDepth 4000
section
variable {G : Glob} {bb : Bool}
theorem wtI_lt (ws : List Wt) (i : Nat) (hi : i < ws.length) : decide (wtI ws ws[i].c < i) = isW (ws.take i) ws[i].c := by
  unfold wtI idxG
  obtain ⟨hk, hp, hn⟩ := ix_spec (fun j => decide ((ws.getD j ⟨0, 0⟩).c = ws[i].c) = true) ws.length
  generalize ix (fun j => decide ((ws.getD j ⟨0, 0⟩).c = ws[i].c) = true) ws.length = k at *
  have hni : k ≤ i := by
    apply Classical.byContradiction
    intro h
    have := hn i (by omega)
    rw [getDz ws _ i hi] at this
    simp at this
  rw [if_neg (by omega)]
  rcases hp with hp | ⟨hk', hp⟩
  · omega
  rw [getDz ws _ k hk', decide_eq_true_eq] at hp
  rw [Bool.eq_iff_iff, decide_eq_true_eq]
  constructor
  · intro h
    unfold isW
    rw [List.any_eq_true]
    exact ⟨ws[k], List.mem_take_iff_getElem.2 ⟨k, by omega, rfl⟩, by simpa using hp⟩
  · intro h
    unfold isW at h
    rw [List.any_eq_true] at h
    obtain ⟨w, hw, h2⟩ := h
    obtain ⟨j, hj, rfl⟩ := List.mem_take_iff_getElem.1 hw
    have : ¬ j < k := fun hjk => by
      have := hn j hjk
      rw [getDz ws _ j (by omega)] at this
      exact this h2
    omega
set_option maxHeartbeats 4000000 in
theorem rwaitErr_v (gs : List Gr) (ws : List Wt) (i : Nat) (hi : i < ws.length) (hg : gs.length ≤ 100000) (hl : ws.length ≤ 100000) : EV G (Tb (bs bb)) 58 [flV gs ws, vi i] [] = some (vi (wErr gs ws i ws[i]), []) := by
  refine EV_run rfl ?_
  have eg : (ws.map Wt.e)[i]? = some [ci ws[i].c, ci ws[i].k] := by rw [List.getElem?_map, List.getElem?_eq_getElem hi]; rfl
  have h3 := wtI_lt ws i hi
  have q1 := rat_v (G := G) (bb := bb) gs ws ws[i].c hg
  have q2 := rwaiting_v (G := G) (bb := bb) gs ws ws[i].c hl
  have h4 := atI_in gs ws[i].c
  rw [wErr_n]
  generalize ws[i] = a at *
  cases c1 : isCl a.c with
  | false =>
    rw [if_pos (by simp)]
    simp (disch := omega) only [go_sem, h58c, eg, rclient_v, c1]
  | true =>
    rw [if_neg (by simp)]
    cases c2 : isUs a.k with
    | false =>
      rw [if_pos (by simp)]
      simp (disch := omega) only [go_sem, h58c, eg, rclient_v, rwaits_v, c1, c2]
    | true =>
      rw [if_neg (by simp)]
      by_cases c3 : wtI ws a.c < i
      · rw [decide_eq_true c3] at h3
        rw [if_pos h3.symm]
        simp (disch := omega) only [go_sem, h58c, eg, rclient_v, rwaits_v, c1, c2, q2, c3]
      · rw [decide_eq_false c3] at h3
        rw [if_neg (by rw [← h3]; simp)]
        by_cases c4 : 0 ≤ atI gs a.c
        · rw [decide_eq_true c4] at h4
          have c4' : ¬ atI gs a.c < 0 := by omega
          by_cases k0 : a.k = 0
          · rw [if_pos (by simp [k0, ← h4])]
            simp (disch := omega) only [go_sem, h58c, eg, rclient_v, rwaits_v, c1, c2, q1, q2, c3, eq_true k0, c4, ge_iff_le]
          · rw [if_neg (by simp [k0]), if_neg (by simp [← h4])]
            simp (disch := omega) only [go_sem, h58c, eg, rclient_v, rwaits_v, c1, c2, q1, q2, c3, k0, c4']
        · rw [decide_eq_false c4] at h4
          have c4' : atI gs a.c < 0 := by omega
          by_cases k0 : a.k = 0
          · rw [if_neg (by simp [← h4]), if_neg (by simp [k0])]
            simp (disch := omega) only [go_sem, h58c, eg, rclient_v, rwaits_v, c1, c2, q1, q2, c3, eq_true k0, c4, ge_iff_le]
          · rw [if_neg (by simp [k0]), if_pos (by simp [k0, ← h4])]
            simp (disch := omega) only [go_sem, h58c, eg, rclient_v, rwaits_v, c1, c2, q1, q2, c3, k0, c4']
abbrev rfB (gs : List Gr) (ws : List Wt) : AObj := .box [.dc (.slc (gs.map Gr.e)), .dc (.slc (ws.map Wt.e))]
set_option maxHeartbeats 4000000 in
theorem rcheck_v (gs : List Gr) (ws : List Wt) (hg : gs.length ≤ 100000) (hw : ws.length ≤ 100000) : EV G (Tb (bs bb)) 14 [flV gs ws] [] = some (twoI (chk gs ws), []) := by
  refine EV_run rfl ?_
  unfold chk
  by_cases h1 : gs.length > 8
  · rw [if_pos (.inl h1)]
    simp (disch := omega) only [go_sem, h14c, h1]
    try rfl
  by_cases h2 : ws.length > 8
  · rw [if_pos (.inr h2)]
    simp (disch := omega) only [go_sem, h14c, h1, h2]
    try rfl
  rw [if_neg (by omega)]
  simp (disch := omega) only [go_sem, h14c, h1, h2]
  rw [EL_fst (fun j => ⟨(jk 1 (.one (.ptr 0 0) :: jk 2 (vi j :: jk 73 []))), [rfB gs ws]⟩) (fun j => gErr gs j (gs.getD j ⟨0, 0, 0⟩) ≠ 0) gs.length ?_ ?_]
  rotate_left
  · rfl
  · intro j hj hn
    have h3 := hn j (Nat.le_refl _)
    rw [grAt gs j hj] at h3
    have h4 : gErr gs j gs[j] = 0 := Classical.not_not.1 h3
    have q := rgrantErr_v (G := G) (bb := bb) gs ws j hj hg
    rw [h4] at q
    simp (disch := omega) only [go_sem, h14l0, q]
  obtain ⟨hk, hp, hn⟩ := ix_spec (fun j => gErr gs j (gs.getD j ⟨0, 0, 0⟩) ≠ 0) gs.length
  generalize ix (fun j => gErr gs j (gs.getD j ⟨0, 0, 0⟩) ≠ 0) gs.length = j at *
  have e1 : eachE 0 (gErrs gs) = if j = gs.length then (0, 0) else ((j : Int), gErr gs j (gs.getD j ⟨0, 0, 0⟩)) := each_r (fun j => gErr gs j (gs.getD j ⟨0, 0, 0⟩)) gs.length j hn hp
  rcases hp with rfl | ⟨hj, hp⟩
  rotate_left
  · rw [if_neg (show ¬ j = gs.length by omega), grAt gs j hj] at e1
    rw [e1]
    have q := rgrantErr_v (G := G) (bb := bb) gs ws j hj hg
    rw [grAt gs j hj] at hp
    rw [if_pos hp]
    simp (disch := omega) only [go_sem, h14l0, q, hp]
  rw [if_pos rfl] at e1
  rw [e1, if_neg (by simp)]
  simp (disch := omega) only [go_sem, h14l0]
  rw [EL_fst (fun j => ⟨(jk 1 (.one (.ptr 0 0) :: jk 4 (vi j :: jk 71 []))), [rfB gs ws]⟩) (fun j => wErr gs ws j (ws.getD j ⟨0, 0⟩) ≠ 0) ws.length ?_ ?_]
  rotate_left
  · rfl
  · intro j hj hn
    have h3 := hn j (Nat.le_refl _)
    rw [wtAt ws j hj] at h3
    have h4 : wErr gs ws j ws[j] = 0 := Classical.not_not.1 h3
    have q := rwaitErr_v (G := G) (bb := bb) gs ws j hj hg hw
    rw [h4] at q
    simp (disch := omega) only [go_sem, h14l1, q]
  obtain ⟨hk, hp, hn⟩ := ix_spec (fun j => wErr gs ws j (ws.getD j ⟨0, 0⟩) ≠ 0) ws.length
  generalize ix (fun j => wErr gs ws j (ws.getD j ⟨0, 0⟩) ≠ 0) ws.length = j at *
  have e1 : eachE 0 (wErrs gs ws) = if j = ws.length then (0, 0) else ((j : Int), wErr gs ws j (ws.getD j ⟨0, 0⟩)) := each_r (fun j => wErr gs ws j (ws.getD j ⟨0, 0⟩)) ws.length j hn hp
  rcases hp with rfl | ⟨hj, hp⟩
  rotate_left
  · rw [if_neg (show ¬ j = ws.length by omega), wtAt ws j hj] at e1
    rw [e1]
    have q := rwaitErr_v (G := G) (bb := bb) gs ws j hj hg hw
    rw [wtAt ws j hj] at hp
    rw [if_pos hp]
    simp (disch := omega) only [go_sem, h14l1, q, hp]
  rw [if_pos rfl] at e1
  rw [e1, if_neg (by simp)]
  cases ws with
  | nil =>
    show _ = some (twoI (0, 0), [])
    have hn : ¬ (([] : List Wt).length : Int) > 0 := by simp
    generalize ([] : List Wt) = W at *
    simp (disch := omega) only [go_sem, h14l1, hn]
    try rfl
  | cons w ws =>
    show _ = some (twoI (0, ifE (decide ((brBs gs w.c w.k).length = 0) && held (brGs gs w.c w.k) w.c w.k) 20), [])
    have e0 : ((w :: ws).map Wt.e)[0]? = some [ci w.c, ci w.k] := rfl
    have hn0 : ((w :: ws).length : Int) > 0 := by simp
    have q1 := rbroken_v (G := G) (bb := bb) gs (w :: ws) w.c w.k hg hw
    have q2 := rheld_v (G := G) (bb := bb) gs (w :: ws) w.c w.k hg
    generalize w :: ws = W at *
    by_cases hb : (brBs gs w.c w.k).length = 0
    · have hb' : ¬ ((brBs gs w.c w.k).length : Int) > 0 := by omega
      rw [brGs_no (List.length_eq_zero_iff.1 hb), decide_eq_true hb]
      cases hh : held gs w.c w.k with
      | true =>
        rw [hh] at q2
        simp (disch := omega) only [go_sem, h14l1, hn0, e0, q1, q2, hb', brkH]
        try rfl
      | false =>
        rw [hh] at q2
        simp (disch := omega) only [go_sem, h14l1, hn0, e0, q1, q2, hb', brkH]
        try rfl
    · have hb' : ((brBs gs w.c w.k).length : Int) > 0 := by omega
      rw [decide_eq_false hb]
      simp (disch := omega) only [go_sem, h14l1, hn0, e0, q1, hb', brkH]
      try rfl
theorem rerr_v (gs : List Gr) (ws : List Wt) (hg : gs.length ≤ 100000) (hw : ws.length ≤ 100000) : EV G (Tb (bs bb)) 30 [flV gs ws] [] = some (vi (chk gs ws).2, []) := by
  refine EV_run rfl ?_
  have q := rcheck_v (G := G) (bb := bb) gs ws hg hw
  simp (disch := omega) only [go_sem, h30c, q]
end
section
variable {G : Glob} {bb : Bool}
abbrev psV (r : List Gr × List Wt × Int) : AV := .tup [.agg [.dc (.slc (r.1.map Gr.e)), .dc (.slc (r.2.1.map Wt.e))], .one (.dc (ci r.2.2))]
theorem grP_ok {p : List Int} (h : (grP p).2 = true) : ∃ a c e, p = [a, 58, c, 62, e] ∧ dig a = true ∧ dig c = true ∧ dig e = true := by
  unfold grP at h
  split at h
  · rename_i a b c d e
    split at h
    · rename_i hh
      obtain ⟨rfl, rfl⟩ := hh
      simp only [Bool.and_eq_true] at h
      exact ⟨a, c, e, rfl, h.1.1, h.1.2, h.2⟩
    · cases h
  · cases h
theorem wtP_ok {p : List Int} (h : (wtP p).2 = true) : ∃ a b, p = [a, b] ∧ (b = 111 ∨ b = 114 ∨ b = 119) ∧ dig a = true := by
  unfold wtP at h
  split at h
  · rename_i a b
    refine ⟨a, b, rfl, ?_, ?_⟩
    · repeat' split at h
      all_goals first | omega | cases h
    · repeat' split at h
      all_goals first | exact h | cases h
  · cases h
abbrev nlD : DC := .raw (.slice none 0 0)
abbrev pH (gs : List Gr) (ws : List Wt) : List AObj := [.box [.dc nlD, .dc nlD], .box [.bld 2 gs.length, .bld 3 ws.length], .arr 0 3 (gs.map Gr.e), .arr 0 2 (ws.map Wt.e)]
def psGs (ps : List (List Int)) (i : Nat) : List Gr := (ps.take i).map fun p => (grP p).1
def psWs (ps : List (List Int)) (i : Nat) : List Wt := (ps.take i).map fun p => (wtP p).1
theorem psGs_s {ps : List (List Int)} {i : Nat} (hi : i < ps.length) : psGs ps (i + 1) = psGs ps i ++ [(grP ps[i]).1] := by
  unfold psGs; rw [List.take_add_one, List.getElem?_eq_getElem hi, List.map_append, Option.toList_some, List.map_cons, List.map_nil]
theorem psWs_s {ps : List (List Int)} {i : Nat} (hi : i < ps.length) : psWs ps (i + 1) = psWs ps i ++ [(wtP ps[i]).1] := by
  unfold psWs; rw [List.take_add_one, List.getElem?_eq_getElem hi, List.map_append, Option.toList_some, List.map_cons, List.map_nil]
theorem psGs_l {ps : List (List Int)} {i : Nat} (hi : i ≤ ps.length) : (psGs ps i).length = i := by unfold psGs; simp; omega
theorem psWs_l {ps : List (List Int)} {i : Nat} (hi : i ≤ ps.length) : (psWs ps i).length = i := by unfold psWs; simp; omega
theorem u58 : ((u8 58).toNat : Int) = 58 := rfl
theorem u62 : ((u8 62).toNat : Int) = 62 := rfl
def Bad (x : Option (Exit × AS)) : Prop := ∃ s, x = some (.ret, s) ∧ retZ false [RetV.cell 2 true 2, RetV.tmp 3] 0 (some (.ret, s)) = some (psV ([], [], 7), [])
theorem bad_i {s : AS} (h : retZ false [RetV.cell 2 true 2, RetV.tmp 3] 0 (some (.ret, s)) = some (psV ([], [], 7), [])) : Bad (some (.ret, s)) := ⟨s, rfl, h⟩
def rp0 (ps parts : List (List Int)) (i : Nat) : AS := ⟨(jk 2 (.one (.ptr 0 0) :: jk 1 (vl (parts.map sS) :: .one (.ptr 1 0) :: vl (ps.map sS) :: vi i :: jk 173 []))), pH (psGs ps i) []⟩
theorem rp0_round (ps parts : List (List Int)) (hb : ∀ p ∈ ps, Byts p) (hl : ps.length ≤ 1000) (i : Nat) (hi : i < ps.length) (ho : (grP ps[i]).2 = true) :
    rnK [2, 1, 0, 0, 0] 4 (EC (EV G (Tb (bs bb))) G h37l0 (rp0 ps parts i)) = some (rp0 ps parts (i + 1)) := by
  have hp := hb _ (List.getElem_mem hi)
  have eg : (ps.map sS)[i]? = some [.raw (.string (str ps[i]))] := by rw [List.getElem?_map, List.getElem?_eq_getElem hi]; rfl
  have lg := psGs_l (Nat.le_of_lt hi)
  unfold rp0
  rw [psGs_s hi]
  obtain ⟨a, c, e, hpe, da, dc, de⟩ := grP_ok ho
  rw [hpe] at eg hp ⊢
  rw [grP_y]
  have sz : ((str [a, 58, c, 62, e]).size : Int) = 5 := by rw [str_size]; rfl
  have i1 : (str [a, 58, c, 62, e]).data.toList[1]? = some (u8 58) := by rw [str_data]; rfl
  have i3 : (str [a, 58, c, 62, e]).data.toList[3]? = some (u8 62) := by rw [str_data]; rfl
  have q0 : EV G (Tb (bs bb)) 89 [sv [a, 58, c, 62, e], vi 0] [] = _ := rdigit_v [a, 58, c, 62, e] hp 0 (by simp) (by simp)
  have q2 : EV G (Tb (bs bb)) 89 [sv [a, 58, c, 62, e], vi 2] [] = _ := rdigit_v [a, 58, c, 62, e] hp 2 (by simp) (by simp)
  have q4 : EV G (Tb (bs bb)) 89 [sv [a, 58, c, 62, e], vi 4] [] = _ := rdigit_v [a, 58, c, 62, e] hp 4 (by simp) (by simp)
  simp only [List.getElem_cons_zero, List.getElem_cons_succ, da, dc, de] at q0 q2 q4
  have al : allLen 3 ((psGs ps i).map Gr.e) = true := allLen_map (f := Gr.e) (n := 3) (fun _ => rfl) _
  generalize psGs ps i = gs at *
  subst lg
  have tk : List.take gs.length (gs.map Gr.e) = gs.map Gr.e := List.take_of_length_le (by simp)
  have ms : (gs ++ [(⟨a - 48, c - 48, e - 48⟩ : Gr)]).map Gr.e = gs.map Gr.e ++ [[ci (a - 48), ci (c - 48), ci (e - 48)]] := by rw [List.map_append]; rfl
  have ln : (gs ++ [(⟨a - 48, c - 48, e - 48⟩ : Gr)]).length = gs.length + 1 := by simp
  simp only [pH, ms, ln]
  simp (disch := omega) only [go_sem, h37l0, eg, sz, i1, i3, u58, u62, q0, q2, q4, al, tk, Int.reduceToNat]
  try rfl
theorem rp0_bad (ps parts : List (List Int)) (hb : ∀ p ∈ ps, Byts p) (hm : ∀ p ∈ ps, p.length ≤ 1000) (hl : ps.length ≤ 1000) (i : Nat) (hi : i < ps.length) (ho : ¬ (grP ps[i]).2 = true) :
    Bad (EC (EV G (Tb (bs bb))) G h37l0 (rp0 ps parts i)) := by
  have hp := hb _ (List.getElem_mem hi)
  have hm := hm _ (List.getElem_mem hi)
  have eg : (ps.map sS)[i]? = some [.raw (.string (str ps[i]))] := by rw [List.getElem?_map, List.getElem?_eq_getElem hi]; rfl
  unfold rp0
  generalize psGs ps i = gs at *
  generalize ps[i] = p at *
  by_cases h5 : p.length = 5
  · match p, h5 with
    | [a, b, c, d, e], _ =>
      obtain ⟨ha, hp1⟩ := byts_c hp
      obtain ⟨hb, hp2⟩ := byts_c hp1
      obtain ⟨hc, hp3⟩ := byts_c hp2
      obtain ⟨hd, hp4⟩ := byts_c hp3
      obtain ⟨he, _⟩ := byts_c hp4
      have sz : ((str [a, b, c, d, e]).size : Int) = 5 := by rw [str_size]; rfl
      have i1 : (str [a, b, c, d, e]).data.toList[1]? = some (u8 b) := by rw [str_data]; rfl
      have i3 : (str [a, b, c, d, e]).data.toList[3]? = some (u8 d) := by rw [str_data]; rfl
      have n1 : ((u8 b).toNat : Int) = b := u8_nat b hb
      have n3 : ((u8 d).toNat : Int) = d := u8_nat d hd
      have q0 : EV G (Tb (bs bb)) 89 [sv [a, b, c, d, e], vi 0] [] = _ := rdigit_v [a, b, c, d, e] hp 0 (by simp) (by simp)
      have q2 : EV G (Tb (bs bb)) 89 [sv [a, b, c, d, e], vi 2] [] = _ := rdigit_v [a, b, c, d, e] hp 2 (by simp) (by simp)
      have q4 : EV G (Tb (bs bb)) 89 [sv [a, b, c, d, e], vi 4] [] = _ := rdigit_v [a, b, c, d, e] hp 4 (by simp) (by simp)
      simp only [List.getElem_cons_zero, List.getElem_cons_succ] at q0 q2 q4
      by_cases hb' : b = 58
      · by_cases hd' : d = 62
        · subst hb'; subst hd'
          rw [grP_y] at ho
          simp only at ho
          generalize dig a = da at *
          generalize dig c = dc at *
          generalize dig e = de at *
          cases da
          · simp (disch := omega) only [go_sem, h37l0, eg, sz, i1, i3, u58, u62, q0, q2, q4, Int.reduceToNat]
            exact bad_i rfl
          · cases dc
            · simp (disch := omega) only [go_sem, h37l0, eg, sz, i1, i3, u58, u62, q0, q2, q4, Int.reduceToNat]
              exact bad_i rfl
            · cases de
              · simp (disch := omega) only [go_sem, h37l0, eg, sz, i1, i3, u58, u62, q0, q2, q4, Int.reduceToNat]
                exact bad_i rfl
              · exact absurd rfl ho
        · simp (disch := omega) only [go_sem, h37l0, eg, sz, i1, i3, n1, n3, eq_true hb', hd', Int.reduceToNat]
          exact bad_i rfl
      · simp (disch := omega) only [go_sem, h37l0, eg, sz, i1, i3, n1, n3, hb', Int.reduceToNat]
        exact bad_i rfl
  · have sz : ((str p).size : Int) = p.length := by rw [str_size]
    have h5' : ¬ (p.length : Int) = 5 := by omega
    simp (disch := omega) only [go_sem, h37l0, eg, sz, h5', Int.reduceToNat]
    exact bad_i rfl
end
section
variable {G : Glob} {bb : Bool}
set_option maxHeartbeats 4000000 in
theorem grantErr_v (gs : List Gr) (ws : List Wt) (i : Nat) (hi : i < gs.length) (hl : gs.length ≤ 1000000) : EV G (Tb (bs bb)) 50 [flR gs ws, vi i] [] = some (vi (gErr gs i gs[i]), []) := by
  refine EV_run rfl ?_
  have q := any1_v (G := G) (bb := bb) 116 [ci gs[i].c, ci gs[i].l, ci gs[i].t] (fun h => decide (h.c ≠ gs[i].c)) gs hl (fun h _ => p116_v gs[i] h)
  simp only [List.map_cons, List.map_nil] at q
  rw [show (gs.any fun h => decide (h.c ≠ gs[i].c)) = othA gs gs[i].c from rfl] at q
  have q1 := p113_v (G := G) (bb := bb) gs ws gs[i] 1 hl
  have eg : (gs.map Gr.e)[i]? = some [ci gs[i].c, ci gs[i].l, ci gs[i].t] := by rw [List.getElem?_map, List.getElem?_eq_getElem hi]; rfl
  have hi1 : i - 1 < gs.length := by omega
  have eg1 : (gs.map Gr.e)[i - 1]? = some [ci gs[i-1].c, ci gs[i-1].l, ci gs[i-1].t] := by rw [List.getElem?_map, List.getElem?_eq_getElem hi1]; rfl
  rw [gErr_e, clash_e, grAt gs (i - 1) hi1]
  generalize gs[i] = g at *
  generalize gs[i - 1] = g1 at *
  have c1 : isCl g.c = false ∨ (isCl g.c = true ∧ wi g.l 0 3 = false) ∨ (isCl g.c = true ∧ wi g.l 0 3 = true) := by
    cases isCl g.c <;> cases wi g.l 0 3 <;> simp
  have c2 : (g.l ≥ 2 ∧ g.l ≠ 1 ∧ othL gs g.c 1 = true) ∨ (g.l ≥ 2 ∧ g.l ≠ 1 ∧ othL gs g.c 1 = false ∧ g.l = 3) ∨ (g.l ≥ 2 ∧ g.l ≠ 1 ∧ othL gs g.c 1 = false ∧ g.l ≠ 3) ∨ (¬g.l ≥ 2 ∧ g.l ≠ 3 ∧ g.l = 1) ∨ (¬g.l ≥ 2 ∧ g.l ≠ 3 ∧ g.l ≠ 1) := by
    cases othL gs g.c 1 <;> simp <;> omega
  rcases Nat.eq_zero_or_pos i with rfl | h0
  · rcases c1 with h1 | ⟨h1, h2⟩ | ⟨h1, h2⟩
    · rcases c2 with ⟨k1, k2, k3⟩ | ⟨k1, k2, k3, k4⟩ | ⟨k1, k2, k3, k4⟩ | ⟨k1, k2, k3⟩ | ⟨k1, k2, k3⟩
      · simp (disch := omega) only [go_sem, h50c, q, q1, eg, isClient_v, within_u, unless_u, first4, h1, k1, k2, k3]
      · simp (disch := omega) only [go_sem, h50c, q, q1, eg, isClient_v, within_u, unless_u, first4, h1, k1, k2, k3, eq_true k4]
      · simp (disch := omega) only [go_sem, h50c, q, q1, eg, isClient_v, within_u, unless_u, first4, h1, k1, k2, k3, k4]
      · simp (disch := omega) only [go_sem, h50c, q, q1, eg, isClient_v, within_u, unless_u, first4, h1, k1, k2, eq_true k3]
      · simp (disch := omega) only [go_sem, h50c, q, q1, eg, isClient_v, within_u, unless_u, first4, h1, k1, k2, k3]
    · rcases c2 with ⟨k1, k2, k3⟩ | ⟨k1, k2, k3, k4⟩ | ⟨k1, k2, k3, k4⟩ | ⟨k1, k2, k3⟩ | ⟨k1, k2, k3⟩
      · simp (disch := omega) only [go_sem, h50c, q, q1, eg, isClient_v, within_u, unless_u, first4, h1, h2, k1, k2, k3]
      · simp (disch := omega) only [go_sem, h50c, q, q1, eg, isClient_v, within_u, unless_u, first4, h1, h2, k1, k2, k3, eq_true k4]
      · simp (disch := omega) only [go_sem, h50c, q, q1, eg, isClient_v, within_u, unless_u, first4, h1, h2, k1, k2, k3, k4]
      · simp (disch := omega) only [go_sem, h50c, q, q1, eg, isClient_v, within_u, unless_u, first4, h1, h2, k1, k2, eq_true k3]
      · simp (disch := omega) only [go_sem, h50c, q, q1, eg, isClient_v, within_u, unless_u, first4, h1, h2, k1, k2, k3]
    · rcases c2 with ⟨k1, k2, k3⟩ | ⟨k1, k2, k3, k4⟩ | ⟨k1, k2, k3, k4⟩ | ⟨k1, k2, k3⟩ | ⟨k1, k2, k3⟩
      · simp (disch := omega) only [go_sem, h50c, q, q1, eg, isClient_v, within_u, unless_u, first4, h1, h2, k1, k2, k3]
      · simp (disch := omega) only [go_sem, h50c, q, q1, eg, isClient_v, within_u, unless_u, first4, h1, h2, k1, k2, k3, eq_true k4]
      · simp (disch := omega) only [go_sem, h50c, q, q1, eg, isClient_v, within_u, unless_u, first4, h1, h2, k1, k2, k3, k4]
      · simp (disch := omega) only [go_sem, h50c, q, q1, eg, isClient_v, within_u, unless_u, first4, h1, h2, k1, k2, eq_true k3]
      · simp (disch := omega) only [go_sem, h50c, q, q1, eg, isClient_v, within_u, unless_u, first4, h1, h2, k1, k2, k3]
  · have h0' : ¬ i = 0 := by omega
    rcases c1 with h1 | ⟨h1, h2⟩ | ⟨h1, h2⟩
    · rcases c2 with ⟨k1, k2, k3⟩ | ⟨k1, k2, k3, k4⟩ | ⟨k1, k2, k3, k4⟩ | ⟨k1, k2, k3⟩ | ⟨k1, k2, k3⟩
      · simp (disch := omega) only [go_sem, h50c, q, q1, eg, eg1, max0, h0', isClient_v, within_u, unless_u, first4, h1, k1, k2, k3]
      · simp (disch := omega) only [go_sem, h50c, q, q1, eg, eg1, max0, h0', isClient_v, within_u, unless_u, first4, h1, k1, k2, k3, eq_true k4]
      · simp (disch := omega) only [go_sem, h50c, q, q1, eg, eg1, max0, h0', isClient_v, within_u, unless_u, first4, h1, k1, k2, k3, k4]
      · simp (disch := omega) only [go_sem, h50c, q, q1, eg, eg1, max0, h0', isClient_v, within_u, unless_u, first4, h1, k1, k2, eq_true k3]
      · simp (disch := omega) only [go_sem, h50c, q, q1, eg, eg1, max0, h0', isClient_v, within_u, unless_u, first4, h1, k1, k2, k3]
    · rcases c2 with ⟨k1, k2, k3⟩ | ⟨k1, k2, k3, k4⟩ | ⟨k1, k2, k3, k4⟩ | ⟨k1, k2, k3⟩ | ⟨k1, k2, k3⟩
      · simp (disch := omega) only [go_sem, h50c, q, q1, eg, eg1, max0, h0', isClient_v, within_u, unless_u, first4, h1, h2, k1, k2, k3]
      · simp (disch := omega) only [go_sem, h50c, q, q1, eg, eg1, max0, h0', isClient_v, within_u, unless_u, first4, h1, h2, k1, k2, k3, eq_true k4]
      · simp (disch := omega) only [go_sem, h50c, q, q1, eg, eg1, max0, h0', isClient_v, within_u, unless_u, first4, h1, h2, k1, k2, k3, k4]
      · simp (disch := omega) only [go_sem, h50c, q, q1, eg, eg1, max0, h0', isClient_v, within_u, unless_u, first4, h1, h2, k1, k2, eq_true k3]
      · simp (disch := omega) only [go_sem, h50c, q, q1, eg, eg1, max0, h0', isClient_v, within_u, unless_u, first4, h1, h2, k1, k2, k3]
    · rcases c2 with ⟨k1, k2, k3⟩ | ⟨k1, k2, k3, k4⟩ | ⟨k1, k2, k3, k4⟩ | ⟨k1, k2, k3⟩ | ⟨k1, k2, k3⟩
      · simp (disch := omega) only [go_sem, h50c, q, q1, eg, eg1, max0, h0', isClient_v, within_u, unless_u, first4, h1, h2, k1, k2, k3]
      · simp (disch := omega) only [go_sem, h50c, q, q1, eg, eg1, max0, h0', isClient_v, within_u, unless_u, first4, h1, h2, k1, k2, k3, eq_true k4]
      · simp (disch := omega) only [go_sem, h50c, q, q1, eg, eg1, max0, h0', isClient_v, within_u, unless_u, first4, h1, h2, k1, k2, k3, k4]
      · simp (disch := omega) only [go_sem, h50c, q, q1, eg, eg1, max0, h0', isClient_v, within_u, unless_u, first4, h1, h2, k1, k2, eq_true k3]
      · simp (disch := omega) only [go_sem, h50c, q, q1, eg, eg1, max0, h0', isClient_v, within_u, unless_u, first4, h1, h2, k1, k2, k3]
end
section
variable {G : Glob} {bb : Bool}
theorem p49_v (gs : List Gr) (ws : List Wt) (i : Nat) (hi : i < gs.length) (hl : gs.length ≤ 1000000) (g : Gr) : EV G (Tb (bs bb)) 49 [vi i, g.v, .one (.ref [.ptr (flD gs ws)])] [] = some (vi (gErr gs i gs[i]), []) := by
  refine EV_run rfl ?_
  have q := grantErr_v (G := G) (bb := bb) gs ws i hi hl
  simp (disch := omega) only [go_sem, h49c, q]
end
section
variable {G : Glob} {bb : Bool}
theorem gErrs_e (gs : List Gr) : (List.range gs.length).map (fun i => gErr gs i (gs.getD i ⟨0, 0, 0⟩)) = gErrs gs := rfl
theorem wErrs_e (gs : List Gr) (ws : List Wt) : (List.range ws.length).map (fun i => wErr gs ws i (ws.getD i ⟨0, 0⟩)) = wErrs gs ws := rfl
theorem eachGr_v (gs : List Gr) (ws : List Wt) (hl : gs.length ≤ 1000000) : EV G (Tb (bs bb)) 48 [gsV gs, .one (.fn 49 [.ref [.ptr (flD gs ws)]])] [] = some (twoI (eachE 0 (gErrs gs)), []) := by
  rw [← gErrs_e]
  refine eachG_v 49 _ _ gs hl (fun i hi => ?_)
  rw [grAt gs i hi]
  exact p49_v gs ws i hi hl gs[i]
theorem eachWt_v (gs : List Gr) (ws : List Wt) (hs : Srt gs) (hg : gs.length ≤ 100000) (hl : ws.length ≤ 1000000) : EV G (Tb (bs bb)) 51 [wsV ws, .one (.fn 52 [.ref [.ptr (flD gs ws)]])] [] = some (twoI (eachE 0 (wErrs gs ws)), []) := by
  rw [← wErrs_e]
  refine eachW_v 52 _ _ ws hl (fun i hi => ?_)
  rw [wtAt ws i hi]
  exact p52_v gs ws hs i hi hg hl ws[i]
theorem gErrs_srt {gs : List Gr} (h1 : (eachE 0 (gErrs gs)).2 = 0) : Srt gs := by
  have key : ∀ j (hj : j < gs.length) i (hi : i < j), (gs[i]'(by omega)).c < gs[j].c := by
    intro j
    induction j with
    | zero => intro _ i hi; omega
    | succ j ih =>
      intro hj i hi
      have h5 := eachE_0 h1 (gErr gs (j + 1) (gs.getD (j + 1) ⟨0, 0, 0⟩)) (List.mem_map.2 ⟨j + 1, List.mem_range.2 hj, rfl⟩)
      unfold gErr at h5
      rw [firstE_0] at h5
      have h5 := h5 _ (List.mem_cons_of_mem _ List.mem_cons_self)
      rw [ifE_0 (by decide), Bool.or_eq_true, decide_eq_true_eq, decide_eq_true_eq, Nat.add_sub_cancel, grAt gs j (by omega), grAt gs (j + 1) hj] at h5
      have h5 : gs[j].c < gs[j + 1].c := by omega
      by_cases hij : i = j
      · subst hij; exact h5
      · have := ih (by omega) i (by omega)
        omega
  exact List.pairwise_iff_getElem.2 (fun i j hi hj hij => key j hj i hij)
theorem wErrs_k {gs : List Gr} {w : Wt} {ws : List Wt} (h : (eachE 0 (wErrs gs (w :: ws))).2 = 0) : w.k = 0 ∨ w.k = 2 ∨ w.k = 3 := by
  have h5 := eachE_0 h (wErr gs (w :: ws) 0 w) (List.mem_map.2 ⟨0, List.mem_range.2 (by simp), rfl⟩)
  unfold wErr at h5
  rw [firstE_0] at h5
  have h5 := h5 _ (List.mem_cons_of_mem _ List.mem_cons_self)
  rw [ifE_0 (by decide)] at h5
  simpa [isUs] using h5
theorem checkFile_v (hG : G 0 = some alD) (gs : List Gr) (ws : List Wt) (hg : gs.length ≤ 100000) (hw : ws.length ≤ 100000) : EV G (Tb (bs bb)) 12 [flV gs ws] [] = some (twoI (chk gs ws), []) := by
  refine EV_run rfl ?_
  have q1 := copied_v (G := G) (bb := bb) gs ws (by omega) (by omega)
  have q2 := eachGr_v (G := G) (bb := bb) gs ws (by omega)
  unfold chk
  by_cases h1 : gs.length > 8
  · rw [if_pos (.inl h1)]
    simp (disch := omega) only [go_sem, h12c, h1]
  by_cases h2 : ws.length > 8
  · rw [if_pos (.inr h2)]
    simp (disch := omega) only [go_sem, h12c, h1, h2]
  rw [if_neg (by omega)]
  by_cases h3 : (eachE 0 (gErrs gs)).2 = 0
  · rw [if_neg (by omega)]
    have hs := gErrs_srt h3
    have q3 := eachWt_v (G := G) (bb := bb) gs ws hs hg (by omega)
    by_cases h4 : (eachE 0 (wErrs gs ws)).2 = 0
    · rw [if_neg (by omega)]
      cases ws with
      | nil =>
        show _ = some (twoI (0, 0), [])
        have hn : ([] : List Wt).length = 0 := rfl
        generalize ([] : List Wt) = W at *
        have hn : (W.length : Int) = 0 := by omega
        simp (disch := omega) only [go_sem, h12c, h1, h2, q1, q2, q3, h3, h4, eq_true hn]
      | cons w ws =>
        show _ = some (twoI (0, ifE (decide ((brBs gs w.c w.k).length = 0) && held (brGs gs w.c w.k) w.c w.k) 20), [])
        have hk := wErrs_k h4
        have q4 := breaks_v (G := G) (bb := bb) hG gs (w :: ws) w.c w.k (kOK_us hk) (by omega)
        have q5 := held_v (G := G) (bb := bb) hG (brGs gs w.c w.k) (w :: ws) w.c w.k (kOK_us hk) (by rw [brGs_len]; omega)
        have e0 : ((w :: ws).map Wt.e)[0]? = some [ci w.c, ci w.k] := rfl
        have hn : ¬ (w :: ws).length = 0 := by simp
        have hb := brBs_len gs w.c w.k
        have e1 := brGs_len gs w.c w.k
        simp only [fileH, e1] at q4
        have tk : ((brGs gs w.c w.k).map Gr.e).take gs.length = (brGs gs w.c w.k).map Gr.e := List.take_of_length_le (by rw [List.length_map, e1]; omega)
        generalize w :: ws = W at *
        by_cases h5 : (brBs gs w.c w.k).length = 0
        · have h5' : ((brBs gs w.c w.k).length : Int) = 0 := by omega
          simp (disch := omega) only [go_sem, h12c, h1, h2, q1, q2, q3, h3, h4, q4, q5, e0, hn, eq_true h5, eq_true h5', unless_u, e1, tk]
        · simp (disch := omega) only [go_sem, h12c, h1, h2, q1, q2, q3, h3, h4, q4, q5, e0, hn, h5, unless_u, e1, tk]
    · rw [if_pos (by omega)]
      simp (disch := omega) only [go_sem, h12c, h1, h2, q1, q2, q3, h3, h4]
  · rw [if_pos (by omega)]
    simp (disch := omega) only [go_sem, h12c, h1, h2, q1, q2, h3]
end
section
variable {G : Glob} {bb : Bool}
theorem cutV (s : List Int) (hs : Byts s) (hl : s.length ≤ 1000) : EV G (Tb (bsS bb)) 84 [sv s, sv [59]] [] = some (.tup [.one (.dc (.raw (.string (str (ctI 59 s).1)))), .one (.dc (.raw (.string (str (ctI 59 s).2.1)))), .one (.dc (.raw (.bool (ctI 59 s).2.2)))], []) := by
  refine EV_base rfl ?_
  have h1 : (str s).size < 4294967281 := by rw [str_size]; omega
  have h2 := cut_s (c := 59) (by omega) hs
  show cutK [sv s, sv [59]] [] = _
  show (if (str s).size < 4294967281 then some (AV.tup [.one (.dc (.raw (.string ⟨(Lib.cut (str s).data.toList (str [59]).data.toList).1.toArray⟩))), .one (.dc (.raw (.string ⟨(Lib.cut (str s).data.toList (str [59]).data.toList).2.1.toArray⟩))), .one (.dc (.raw (.bool (Lib.cut (str s).data.toList (str [59]).data.toList).2.2)))], ([] : List AObj)) else none) = _
  rw [if_pos h1, h2]
  rfl
theorem splitV (s : List Int) (hs : Byts s) (hl : s.length ≤ 1000) : EV G (Tb (bsS bb)) 145 [sv s, sv [44]] [] = some (vl ((spl 44 s).map sS), []) := by
  refine EV_base rfl ?_
  have h1 : (str s).size < 4294967281 ∧ 1 ≤ (str [44]).size := by rw [str_size, str_size]; simp; omega
  show (if (str s).size < 4294967281 ∧ 1 ≤ (str [44]).size then some (AV.one (.dc (.slc ((Lib.splitB (str [44]) 0 (Lib.countB (str s) (str [44])) (str s)).map strD))), ([] : List AObj)) else none) = _
  rw [if_pos h1, splitB_s (by omega) hs]
theorem str_ne' {x : List Int} (h : x ≠ []) : (str x = str []) = False := by
  refine eq_false fun e => h ?_
  have := congrArg ByteArray.size e
  rw [str_size, str_size] at this
  exact List.eq_nil_of_length_eq_zero this
theorem parts_v (s : List Int) (hs : Byts s) (hl : s.length ≤ 1000) : EV G (Tb (bsS bb)) 85 [sv s] [] = some (vl ((prt s).map sS), []) := by
  refine EV_run rfl ?_
  have q := splitV (G := G) (bb := bb) s hs hl
  unfold prt
  by_cases h : s = []
  · subst h
    rw [if_pos rfl]
    simp (disch := omega) only [go_sem, h85c, str_nil]
    try rfl
  · have h' := str_ne' h
    rw [if_neg h]
    simp (disch := omega) only [go_sem, h85c, str_nil, h', c44, q]
def pp0 (ps : List (List Int)) (b : List Int) (ok : Bool) (i : Nat) : AS := ⟨(jk 2 (.one (.ptr 0 0) :: jk 2 (sv b :: vb (ok && (ps.take i).all fun p => (grP p).2) :: .one (.ptr 1 0) :: jk 21 (vl (ps.map sS) :: vi ps.length :: vi i :: jk 55 [])))), pH (psGs ps i) []⟩
theorem all_s {f : List Int → Bool} {ps : List (List Int)} {i : Nat} (hi : i < ps.length) : (ps.take (i + 1)).all f = ((ps.take i).all f && f ps[i]) := by
  rw [List.take_add_one, List.getElem?_eq_getElem hi, Option.toList_some, List.all_append]
  simp
theorem pp0_round (ps : List (List Int)) (b : List Int) (ok : Bool) (hb : ∀ p ∈ ps, Byts p) (hm : ∀ p ∈ ps, p.length ≤ 1000) (hl : ps.length ≤ 1000) (i : Nat) (hi : i < ps.length) :
    rnK [2, 2, 0, 0, 21, 0, 0] 4 (EC (EV G (Tb (bsS bb))) G h36l0 (pp0 ps b ok i)) = some (pp0 ps b ok (i + 1)) := by
  have hp := hb _ (List.getElem_mem hi)
  have eg : (ps.map sS)[i]? = some [.raw (.string (str ps[i]))] := by rw [List.getElem?_map, List.getElem?_eq_getElem hi]; rfl
  have lg := psGs_l (Nat.le_of_lt hi)
  have q := up (grantIn_v (G := G) (bb := bb) ps[i] hp (hm _ (List.getElem_mem hi)))
  have al : allLen 3 ((psGs ps i).map Gr.e) = true := allLen_map (f := Gr.e) (n := 3) (fun _ => rfl) _
  unfold pp0
  rw [psGs_s hi, all_s hi, ← Bool.and_assoc]
  generalize grP ps[i] = r at *
  obtain ⟨g, z⟩ := r
  generalize (ok && (ps.take i).all fun p => (grP p).2) = w at *
  generalize psGs ps i = gs at *
  subst lg
  have tk : List.take gs.length (gs.map Gr.e) = gs.map Gr.e := List.take_of_length_le (by simp)
  have ms : (gs ++ [g]).map Gr.e = gs.map Gr.e ++ [[ci g.c, ci g.l, ci g.t]] := by rw [List.map_append]; rfl
  have ln : (gs ++ [g]).length = gs.length + 1 := by simp
  simp only [pH, ms, ln]
  cases w <;> cases z
  all_goals
    simp (disch := omega) only [go_sem, h36l0, eg, q, al, tk, Bool.and_true, Bool.and_false, Bool.true_and, Bool.false_and]
    try rfl
def pp1 (ps : List (List Int)) (gs : List Gr) (ok : Bool) (i : Nat) : AS := ⟨(jk 2 (.one (.ptr 0 0) :: jk 3 (vb (ok && (ps.take i).all fun p => (wtP p).2) :: .one (.ptr 1 0) :: jk 44 (vl (ps.map sS) :: vi ps.length :: vi i :: jk 32 [])))), pH gs (psWs ps i)⟩
theorem pp1_round (ps : List (List Int)) (gs : List Gr) (ok : Bool) (hb : ∀ p ∈ ps, Byts p) (hm : ∀ p ∈ ps, p.length ≤ 1000) (hl : ps.length ≤ 1000) (hg : gs.length ≤ 1000) (i : Nat) (hi : i < ps.length) :
    rnK [2, 3, 0, 44, 0, 0] 4 (EC (EV G (Tb (bsS bb))) G h36l1 (pp1 ps gs ok i)) = some (pp1 ps gs ok (i + 1)) := by
  have hp := hb _ (List.getElem_mem hi)
  have eg : (ps.map sS)[i]? = some [.raw (.string (str ps[i]))] := by rw [List.getElem?_map, List.getElem?_eq_getElem hi]; rfl
  have lg := psWs_l (Nat.le_of_lt hi)
  have q := up (waitIn_v (G := G) (bb := bb) ps[i] hp (hm _ (List.getElem_mem hi)))
  have al : allLen 2 ((psWs ps i).map Wt.e) = true := allLen_map (f := Wt.e) (n := 2) (fun _ => rfl) _
  unfold pp1
  rw [psWs_s hi, all_s hi, ← Bool.and_assoc]
  generalize wtP ps[i] = r at *
  obtain ⟨g, z⟩ := r
  generalize (ok && (ps.take i).all fun p => (wtP p).2) = w at *
  generalize psWs ps i = ws at *
  subst lg
  have tk : List.take ws.length (ws.map Wt.e) = ws.map Wt.e := List.take_of_length_le (by simp)
  have ms : (ws ++ [g]).map Wt.e = ws.map Wt.e ++ [[ci g.c, ci g.k]] := by rw [List.map_append]; rfl
  have ln : (ws ++ [g]).length = ws.length + 1 := by simp
  simp only [pH, ms, ln]
  cases w <;> cases z
  all_goals
    simp (disch := omega) only [go_sem, h36l1, eg, q, al, tk, Bool.and_true, Bool.and_false, Bool.true_and, Bool.false_and]
    try rfl
end
section
variable {G : Glob} {bb : Bool}
theorem ctI_byts {s : List Int} (hs : Byts s) (c : Int) : (Byts (ctI c s).1 ∧ (ctI c s).1.length ≤ s.length) ∧ Byts (ctI c s).2.1 ∧ (ctI c s).2.1.length ≤ s.length := by
  rcases ctI_cases c s with ⟨_, h⟩ | ⟨a, b, rfl, _, h⟩
  · rw [h]
    exact ⟨⟨hs, Nat.le_refl _⟩, (fun b hb => by cases hb), Nat.zero_le _⟩
  · rw [h]
    refine ⟨⟨fun y hy => hs y (List.mem_append_left _ hy), ?_⟩, fun y hy => hs y (List.mem_append_right _ (List.mem_cons_of_mem _ hy)), ?_⟩
    · simp only [List.length_append]; omega
    · simp only [List.length_append, List.length_cons]; omega
theorem cnsH_mem' {x : Int} {ps : List (List Int)} {p : List Int} (h : p ∈ cnsH x ps) : (∃ q ∈ ps, p = x :: q) ∨ p ∈ ps ∨ p = [x] := by
  cases ps with
  | nil => exact .inr (.inr (by simpa [cnsH] using h))
  | cons q qs =>
    rcases List.mem_cons.1 h with rfl | h
    · exact .inl ⟨q, List.mem_cons_self, rfl⟩
    · exact .inr (.inl (List.mem_cons_of_mem _ h))
theorem spl_mem' {c : Int} : ∀ {l : List Int} {p : List Int}, p ∈ spl c l → p.length ≤ l.length ∧ ∀ y ∈ p, y ∈ l
  | [], p, h => by
    have : p = [] := by simpa [spl] using h
    subst this
    exact ⟨Nat.le_refl _, fun y hy => by cases hy⟩
  | x :: l, p, h => by
    rw [spl] at h
    by_cases e : x = c
    · rw [if_pos e] at h
      rcases List.mem_cons.1 h with rfl | h
      · exact ⟨Nat.zero_le _, fun y hy => by cases hy⟩
      · obtain ⟨h1, h2⟩ := spl_mem' h
        exact ⟨by simp; omega, fun y hy => List.mem_cons_of_mem _ (h2 y hy)⟩
    · rw [if_neg e] at h
      rcases cnsH_mem' h with ⟨q, hq, rfl⟩ | h | rfl
      · obtain ⟨h1, h2⟩ := spl_mem' hq
        refine ⟨by simp; omega, fun y hy => ?_⟩
        rcases List.mem_cons.1 hy with rfl | hy
        · exact List.mem_cons_self
        · exact List.mem_cons_of_mem _ (h2 y hy)
      · obtain ⟨h1, h2⟩ := spl_mem' h
        exact ⟨by simp; omega, fun y hy => List.mem_cons_of_mem _ (h2 y hy)⟩
      · exact ⟨by simp, fun y hy => by simp at hy; subst hy; exact List.mem_cons_self⟩
theorem spl_len' (c : Int) : ∀ l : List Int, (spl c l).length ≤ l.length + 1
  | [] => Nat.le_refl _
  | x :: l => by
    have ih := spl_len' c l
    rw [spl]
    by_cases e : x = c
    · rw [if_pos e]; simp; omega
    · rw [if_neg e]
      cases hs : spl c l with
      | nil => exact absurd hs (spl_ne c l)
      | cons p ps =>
        rw [hs] at ih
        simp only [cnsH, List.length_cons] at ih ⊢
        omega
theorem prt_b {l : List Int} (h : Byts l) : (∀ p ∈ prt l, Byts p) ∧ (∀ p ∈ prt l, p.length ≤ l.length) ∧ (prt l).length ≤ l.length + 1 := by
  unfold prt
  by_cases e : l = []
  · rw [if_pos e]
    exact ⟨(fun p hp => by cases hp), (fun p hp => by cases hp), Nat.zero_le _⟩
  · rw [if_neg e]
    exact ⟨fun p hp y hy => h y ((spl_mem' hp).2 y hy), fun p hp => (spl_mem' hp).1, spl_len' 44 l⟩
theorem parse_v (hG : G 0 = some alD) (s : List Int) (hs : Byts s) (hl : s.length ≤ 1000) : EV G (Tb (bsS bb)) 36 [sv s] [] = some (psV (psR s), []) := by
  refine EV_run rfl ?_
  have sz : ((str s).size : Int) = s.length := by rw [str_size]
  unfold psR
  by_cases h200 : s.length > 200
  · have h' : (s.length : Int) > 200 := by omega
    rw [if_pos h200]
    simp (disch := omega) only [go_sem, h36c, sz, h']
    try rfl
  · have h' : ¬ (s.length : Int) > 200 := by omega
    rw [if_neg h200, psB_cut]
    have c1 := cutV (G := G) (bb := bb) s hs hl
    obtain ⟨⟨ba, la⟩, bb', lb⟩ := ctI_byts hs 59
    generalize ctI 59 s = t at *
    obtain ⟨a, b, ok⟩ := t
    simp only at c1 ba la bb' lb ⊢
    have pa := parts_v (G := G) (bb := bb) a ba (by omega)
    have pb := parts_v (G := G) (bb := bb) b bb' (by omega)
    obtain ⟨a1, a2, a3⟩ := prt_b ba
    obtain ⟨b1, b2, b3⟩ := prt_b bb'
    have gA : psGs (prt a) (prt a).length = psG a := by unfold psGs psG; rw [List.take_length]
    have gB : psWs (prt b) (prt b).length = psW b := by unfold psWs psW; rw [List.take_length]
    have lA : (prt a).length = (psG a).length := by unfold psG; rw [List.length_map]
    have lB : (prt b).length = (psW b).length := by unfold psW; rw [List.length_map]
    have oA : ((prt a).all fun p => (grP p).2) = okG a := rfl
    have oB : ((prt b).all fun p => (wtP p).2) = okW b := rfl
    generalize psG a = gs at *
    generalize psW b = ws at *
    generalize okG a = og at *
    generalize okW b = ow at *
    generalize prt a = A at *
    generalize prt b = B at *
    simp (disch := omega) only [go_sem, h36c, sz, h', c1, c59, pa]
    rw [EL_loop (fun k => pp0 A b ok k) A.length ?_ (fun k hk => pp0_round A b ok a1 (fun p hp => by have := a2 p hp; omega) (by omega) k hk)]
    rotate_left
    · unfold pp0
      simp only [List.take_zero, List.all_nil, Bool.and_true]
      rfl
    unfold pp0
    rw [List.take_length, oA, gA]
    generalize ew : (ok && og) = w at *
    simp (disch := omega) only [go_sem, h36l0, pb, lA]
    rw [EL_loop (fun k => pp1 B gs w k) B.length ?_ (fun k hk => pp1_round B gs w b1 (fun p hp => by have := b2 p hp; omega) (by omega) (by omega) k hk)]
    rotate_left
    · unfold pp1
      simp only [List.take_zero, List.all_nil, Bool.and_true]
      rfl
    unfold pp1
    rw [List.take_length, oB, gB]
    have tg : List.take gs.length (gs.map Gr.e) = gs.map Gr.e := List.take_of_length_le (by simp)
    have tw : List.take ws.length (ws.map Wt.e) = ws.map Wt.e := List.take_of_length_le (by simp)
    generalize hz : (w && ow) = z at *
    cases z with
    | false =>
      rw [if_neg (fun h : ok = true ∧ og = true ∧ ow = true => by rw [← ew, h.1, h.2.1, h.2.2] at hz; cases hz)]
      simp (disch := omega) only [go_sem, h36l1, lB]
      try rfl
    | true =>
      rw [if_pos (by rw [← ew] at hz; simpa [and_assoc] using hz)]
      have q : EV G (Tb (bsS bb)) 12 [.agg [.dc (.slc (gs.map Gr.e)), .dc (.slc (ws.map Wt.e))]] [] = some (twoI (chk gs ws), []) := up (checkFile_v hG gs ws (by omega) (by omega))
      simp only
      generalize chk gs ws = ck at *
      obtain ⟨k, e⟩ := ck
      simp only at q ⊢
      by_cases he : e = 0
      · rw [if_pos he]
        simp (disch := omega) only [go_sem, h36l1, lB, tg, tw, q, eq_true he]
        try rfl
      · rw [if_neg he]
        simp (disch := omega) only [go_sem, h36l1, lB, tg, tw, q, he]
        try rfl
end
section
variable {G : Glob} {bb : Bool}
def kdK (b : Int) (k : Nat) : Int := if b = 111 ∧ 0 < k then 0 else if b = 114 ∧ 2 < k then 2 else if b = 119 ∧ 3 < k then 3 else -1
def rk1 (ps : List (List Int)) (i : Nat) (hp : List AObj) (b : Int) (k : Nat) : AS := ⟨(jk 2 (.one (.ptr 0 0) :: jk 2 (.one (.ptr 1 0) :: jk 8 (vl (ps.map sS) :: vi i :: vi (kdK b k) :: vi k :: jk 163 [])))), hp⟩
theorem rk1_round (ps : List (List Int)) (i : Nat) (gs : List Gr) (ws : List Wt) (a b : Int) (hl : ps.length ≤ 1000) (hi : i < ps.length) (hpe : ps[i] = [a, b]) (hb : 0 ≤ b ∧ b ≤ 255) (k : Nat) (hk : k < 6) :
    rnK [2, 2, 8, 0, 0, 0] 4 (EC (EV G (Tb (bs bb))) G h37l1 (rk1 ps i (pH gs ws) b k)) = some (rk1 ps i (pH gs ws) b (k + 1)) := by
  have eg : (ps.map sS)[i]? = some [.raw (.string (str [a, b]))] := by rw [List.getElem?_map, List.getElem?_eq_getElem hi, hpe]; rfl
  have s1 : (str [a, b]).extract 1 (str [a, b]).size = str [b] := by rw [str_ext, str_size]; rfl
  have sz : ((str [a, b]).size : Int) = 2 := by rw [str_size]; rfl
  have e1 : (str [111] = str [b]) = (b = 111) := by rw [str1_eq (by omega) hb]; exact propext eq_comm
  have e2 : (str [114] = str [b]) = (b = 114) := by rw [str1_eq (by omega) hb]; exact propext eq_comm
  have e3 : (str [119] = str [b]) = (b = 119) := by rw [str1_eq (by omega) hb]; exact propext eq_comm
  have q1 := rwaits_v (G := G) (bb := bb) (k : Int)
  have q2 := rletter_v (G := G) (bb := bb) (k : Int)
  have hk1 : (k : Int) < 6 := by omega
  unfold rk1
  by_cases k0 : k = 0
  · have us : isUs (k : Int) = true := by rw [k0]; rfl
    have lt : ltr (k : Int) = [111] := by rw [k0]; rfl
    rw [us] at q1
    rw [lt] at q2
    by_cases hb1 : b = 111
    · have h1 : kdK b (k + 1) = (k : Int) := by unfold kdK; rw [if_pos ⟨hb1, by omega⟩]; omega
      rw [h1]
      generalize kdK b k = z at *
      simp (disch := omega) only [go_sem, h37l1, eg, s1, sz, e1, q1, q2, eq_true hk1, eq_true hb1, Int.reduceToNat]
      try rfl
    · have h1 : kdK b (k + 1) = kdK b k := by unfold kdK; simp [hb1]; omega
      rw [h1]
      generalize kdK b k = z at *
      simp (disch := omega) only [go_sem, h37l1, eg, s1, sz, e1, q1, q2, eq_true hk1, hb1, Int.reduceToNat]
      try rfl
  · by_cases k2 : k = 2
    · have us : isUs (k : Int) = true := by rw [k2]; rfl
      have lt : ltr (k : Int) = [114] := by rw [k2]; rfl
      rw [us] at q1
      rw [lt] at q2
      by_cases hb1 : b = 114
      · have h1 : kdK b (k + 1) = (k : Int) := by unfold kdK; rw [if_neg (by omega), if_pos ⟨hb1, by omega⟩]; omega
        rw [h1]
        generalize kdK b k = z at *
        simp (disch := omega) only [go_sem, h37l1, eg, s1, sz, e2, q1, q2, eq_true hk1, eq_true hb1, Int.reduceToNat]
        try rfl
      · have h1 : kdK b (k + 1) = kdK b k := by unfold kdK; rw [k2]; simp [hb1]
        rw [h1]
        generalize kdK b k = z at *
        simp (disch := omega) only [go_sem, h37l1, eg, s1, sz, e2, q1, q2, eq_true hk1, hb1, Int.reduceToNat]
        try rfl
    · by_cases k3 : k = 3
      · have us : isUs (k : Int) = true := by rw [k3]; rfl
        have lt : ltr (k : Int) = [119] := by rw [k3]; rfl
        rw [us] at q1
        rw [lt] at q2
        by_cases hb1 : b = 119
        · have h1 : kdK b (k + 1) = (k : Int) := by unfold kdK; rw [if_neg (by omega), if_neg (by omega), if_pos ⟨hb1, by omega⟩]; omega
          rw [h1]
          generalize kdK b k = z at *
          simp (disch := omega) only [go_sem, h37l1, eg, s1, sz, e3, q1, q2, eq_true hk1, eq_true hb1, Int.reduceToNat]
          try rfl
        · have h1 : kdK b (k + 1) = kdK b k := by unfold kdK; rw [k3]; simp [hb1]
          rw [h1]
          generalize kdK b k = z at *
          simp (disch := omega) only [go_sem, h37l1, eg, s1, sz, e3, q1, q2, eq_true hk1, hb1, Int.reduceToNat]
          try rfl
      · have us : isUs (k : Int) = false := by unfold isUs; exact decide_eq_false (by omega)
        have h1 : kdK b (k + 1) = kdK b k := by
          unfold kdK
          have p1 : (0 < k + 1) = (0 < k) := propext (by omega)
          have p2 : (2 < k + 1) = (2 < k) := propext (by omega)
          have p3 : (3 < k + 1) = (3 < k) := propext (by omega)
          simp only [p1, p2, p3]
        rw [us] at q1
        rw [h1]
        generalize kdK b k = z at *
        simp (disch := omega) only [go_sem, h37l1, eg, sz, q1, eq_true hk1, Int.reduceToNat]
        try rfl
def rp1 (ps : List (List Int)) (gs : List Gr) (i : Nat) : AS := ⟨(jk 2 (.one (.ptr 0 0) :: jk 2 (.one (.ptr 1 0) :: jk 8 (vl (ps.map sS) :: vi i :: jk 165 [])))), pH gs (psWs ps i)⟩
theorem kdK0 (b : Int) : kdK b 0 = -1 := by
  unfold kdK
  simp
theorem kdK6 (b : Int) : kdK b 6 = if b = 111 then 0 else if b = 114 then 2 else if b = 119 then 3 else -1 := by
  unfold kdK
  simp
theorem rp1_round (ps : List (List Int)) (gs : List Gr) (hb : ∀ p ∈ ps, Byts p) (hl : ps.length ≤ 1000) (hg : gs.length ≤ 1000) (i : Nat) (hi : i < ps.length) (ho : (wtP ps[i]).2 = true) :
    rnK [2, 2, 8, 0] 4 (EC (EV G (Tb (bs bb))) G h37l2 (rp1 ps gs i)) = some (rp1 ps gs (i + 1)) := by
  have hp := hb _ (List.getElem_mem hi)
  have eg : (ps.map sS)[i]? = some [.raw (.string (str ps[i]))] := by rw [List.getElem?_map, List.getElem?_eq_getElem hi]; rfl
  have lg := psWs_l (Nat.le_of_lt hi)
  unfold rp1
  rw [psWs_s hi]
  obtain ⟨a, b, hpe, hbb, da⟩ := wtP_ok ho
  have hp' := hp
  rw [hpe] at eg hp' ⊢
  have hbr := hp' b (by simp)
  have hw : wtP [a, b] = (⟨a - 48, kdK b 6⟩, true) := by
    rw [kdK6]
    simp only [wtP]
    rcases hbb with rfl | rfl | rfl
    · rw [if_pos rfl, if_pos rfl, da]
    · rw [if_neg (by decide), if_pos rfl, if_neg (by decide), if_pos rfl, da]
    · rw [if_neg (by decide), if_neg (by decide), if_pos rfl, if_neg (by decide), if_neg (by decide), if_pos rfl, da]
  rw [hw]
  have hk0 : ¬ kdK b 6 < 0 := by
    rw [kdK6]
    rcases hbb with rfl | rfl | rfl <;> simp
  have sz : ((str [a, b]).size : Int) = 2 := by rw [str_size]; rfl
  have q0 : EV G (Tb (bs bb)) 89 [sv [a, b], vi 0] [] = _ := rdigit_v [a, b] hp' 0 (by simp) (by simp)
  simp only [List.getElem_cons_zero, List.getElem_cons_succ, da] at q0
  have al : allLen 2 ((psWs ps i).map Wt.e) = true := allLen_map (f := Wt.e) (n := 2) (fun _ => rfl) _
  generalize psWs ps i = ws at *
  subst lg
  have tk : List.take ws.length (ws.map Wt.e) = ws.map Wt.e := List.take_of_length_le (by simp)
  have ms : (ws ++ [(⟨a - 48, kdK b 6⟩ : Wt)]).map Wt.e = ws.map Wt.e ++ [[ci (a - 48), ci (kdK b 6)]] := by rw [List.map_append]; rfl
  have ln : (ws ++ [(⟨a - 48, kdK b 6⟩ : Wt)]).length = ws.length + 1 := by simp
  simp only [pH, ms, ln]
  simp (disch := omega) only [go_sem, h37l2, eg, sz, Int.reduceToNat]
  rw [EL_loop (fun k => rk1 ps ws.length (pH gs ws) b k) 6 ?_ (fun k hk => rk1_round ps ws.length gs ws a b hl hi hpe hbr k hk)]
  rotate_left
  · unfold rk1; rw [kdK0]; rfl
  unfold rk1
  generalize kdK b 6 = kd at *
  simp (disch := omega) only [go_sem, h37l1, h37l2, eg, sz, q0, al, tk, hk0, Int.reduceToNat]
  try rfl
theorem rp1_bad (ps : List (List Int)) (gs : List Gr) (hb : ∀ p ∈ ps, Byts p) (hm : ∀ p ∈ ps, p.length ≤ 1000) (hl : ps.length ≤ 1000) (i : Nat) (hi : i < ps.length) (ho : ¬ (wtP ps[i]).2 = true) :
    Bad (EC (EV G (Tb (bs bb))) G h37l2 (rp1 ps gs i)) := by
  have hp := hb _ (List.getElem_mem hi)
  have hm := hm _ (List.getElem_mem hi)
  have eg : (ps.map sS)[i]? = some [.raw (.string (str ps[i]))] := by rw [List.getElem?_map, List.getElem?_eq_getElem hi]; rfl
  unfold rp1
  generalize psWs ps i = ws at *
  by_cases h2 : ps[i].length = 2
  · obtain ⟨a, b, hpe⟩ : ∃ a b, ps[i] = [a, b] := by
      generalize ps[i] = p at *
      match p, h2 with
      | [a, b], _ => exact ⟨a, b, rfl⟩
    rw [hpe] at eg ho hp
    have hbr := hp b (by simp)
    have sz : ((str [a, b]).size : Int) = 2 := by rw [str_size]; rfl
    have q0 : EV G (Tb (bs bb)) 89 [sv [a, b], vi 0] [] = _ := rdigit_v [a, b] hp 0 (by simp) (by simp)
    simp only [List.getElem_cons_zero, List.getElem_cons_succ] at q0
    have hd : dig a = false ∨ kdK b 6 = -1 := by
      rw [kdK6]
      simp only [wtP] at ho
      by_cases h1 : b = 111
      · rw [if_pos h1] at ho; exact .inl (by simpa using ho)
      · rw [if_neg h1] at ho
        by_cases h2 : b = 114
        · rw [if_pos h2] at ho; exact .inl (by simpa using ho)
        · rw [if_neg h2] at ho
          by_cases h3 : b = 119
          · rw [if_pos h3] at ho; exact .inl (by simpa using ho)
          · rw [if_neg h1, if_neg h2, if_neg h3]; exact .inr rfl
    simp (disch := omega) only [go_sem, h37l2, eg, sz, Int.reduceToNat]
    rw [EL_loop (fun k => rk1 ps i (pH gs ws) b k) 6 ?_ (fun k hk => rk1_round ps i gs ws a b hl hi hpe hbr k hk)]
    rotate_left
    · unfold rk1; rw [kdK0]; rfl
    unfold rk1
    generalize dig a = da at *
    cases da with
    | false =>
      simp (disch := omega) only [go_sem, h37l1, h37l2, eg, sz, q0, Int.reduceToNat]
      exact bad_i rfl
    | true =>
      have hk1 : kdK b 6 = -1 := by rcases hd with h | h; cases h; exact h
      have hk2 : ((-1 : Int) < 0) = True := by simp
      rw [hk1]
      simp (disch := omega) only [go_sem, h37l1, h37l2, eg, sz, q0, hk2, Int.reduceToNat]
      exact bad_i rfl
  · generalize ps[i] = p at *
    have sz : ((str p).size : Int) = p.length := by rw [str_size]
    have h2' : ¬ (p.length : Int) = 2 := by omega
    simp (disch := omega) only [go_sem, h37l2, eg, sz, h2', Int.reduceToNat]
    exact bad_i rfl
end
section
variable {G : Glob} {bb : Bool}
theorem cnsH_mem {x : Int} {ps : List (List Int)} {p : List Int} (h : p ∈ cnsH x ps) : (∃ q ∈ ps, p = x :: q) ∨ p ∈ ps ∨ p = [x] := by
  cases ps with
  | nil => exact .inr (.inr (by simpa [cnsH] using h))
  | cons q qs =>
    rcases List.mem_cons.1 h with rfl | h
    · exact .inl ⟨q, List.mem_cons_self, rfl⟩
    · exact .inr (.inl (List.mem_cons_of_mem _ h))
theorem spl_mem {c : Int} : ∀ {l : List Int} {p : List Int}, p ∈ spl c l → p.length ≤ l.length ∧ ∀ y ∈ p, y ∈ l
  | [], p, h => by
    have : p = [] := by simpa [spl] using h
    subst this
    exact ⟨Nat.le_refl _, fun y hy => by cases hy⟩
  | x :: l, p, h => by
    rw [spl] at h
    by_cases e : x = c
    · rw [if_pos e] at h
      rcases List.mem_cons.1 h with rfl | h
      · exact ⟨Nat.zero_le _, fun y hy => by cases hy⟩
      · obtain ⟨h1, h2⟩ := spl_mem h
        exact ⟨by simp; omega, fun y hy => List.mem_cons_of_mem _ (h2 y hy)⟩
    · rw [if_neg e] at h
      rcases cnsH_mem h with ⟨q, hq, rfl⟩ | h | rfl
      · obtain ⟨h1, h2⟩ := spl_mem hq
        refine ⟨by simp; omega, fun y hy => ?_⟩
        rcases List.mem_cons.1 hy with rfl | hy
        · exact List.mem_cons_self
        · exact List.mem_cons_of_mem _ (h2 y hy)
      · obtain ⟨h1, h2⟩ := spl_mem h
        exact ⟨by simp; omega, fun y hy => List.mem_cons_of_mem _ (h2 y hy)⟩
      · exact ⟨by simp, fun y hy => by simp at hy; subst hy; exact List.mem_cons_self⟩
theorem spl_len (c : Int) : ∀ l : List Int, (spl c l).length ≤ l.length + 1
  | [] => Nat.le_refl _
  | x :: l => by
    have ih := spl_len c l
    rw [spl]
    by_cases e : x = c
    · rw [if_pos e]; simp; omega
    · rw [if_neg e]
      cases hs : spl c l with
      | nil => exact absurd hs (spl_ne c l)
      | cons p ps =>
        rw [hs] at ih
        simp only [cnsH, List.length_cons] at ih ⊢
        omega
theorem spl_byts {c : Int} {l : List Int} (h : Byts l) : ∀ p ∈ spl c l, Byts p ∧ p.length ≤ l.length := fun p hp => ⟨fun y hy => h y ((spl_mem hp).2 y hy), (spl_mem hp).1⟩
theorem rp0_all (ps parts : List (List Int)) (hb : ∀ p ∈ ps, Byts p) (hm : ∀ p ∈ ps, p.length ≤ 1000) (hl : ps.length ≤ 1000) {st : AS} (h0 : st = rp0 ps parts 0) :
    ((ps.all fun p => (grP p).2) = true → EL (EV G (Tb (bs bb))) G h37l0 [2, 1, 0, 0, 0] 4 st = fnK (EV G (Tb (bs bb))) G h37l0 [2, 1, 0, 0, 0] 4 (EC (EV G (Tb (bs bb))) G h37l0 (rp0 ps parts ps.length))) ∧
    (¬ (ps.all fun p => (grP p).2) = true → Bad (EL (EV G (Tb (bs bb))) G h37l0 [2, 1, 0, 0, 0] 4 st)) := by
  have q := EL_fst (st := st) (call := EV G (Tb (bs bb))) (G := G) (a := h37l0) (L := [2, 1, 0, 0, 0]) (m := 4) (fun i => rp0 ps parts i) (fun i => ¬ (grP (ps.getD i [])).2 = true) ps.length h0 (fun k hk hj => by
    have h1 := hj k (Nat.le_refl _)
    have e : ps.getD k [] = ps[k] := by simp [List.getD_eq_getElem?_getD, hk]
    simp only [e, Classical.not_not] at h1
    exact rp0_round ps parts hb hl k hk h1)
  obtain ⟨h1, h2, h3⟩ := ix_spec (fun i => ¬ (grP (ps.getD i [])).2 = true) ps.length
  refine ⟨fun ha => ?_, fun ha => ?_⟩
  · have e : ix (fun i => ¬ (grP (ps.getD i [])).2 = true) ps.length = ps.length := by
      refine Classical.byContradiction fun hne => ?_
      have hlt : ix (fun i => ¬ (grP (ps.getD i [])).2 = true) ps.length < ps.length := by omega
      have h4 := (h2.resolve_left hne).2
      refine h4 (List.all_eq_true.1 ha _ ?_)
      rw [List.getD_eq_getElem?_getD, List.getElem?_eq_getElem hlt]
      exact List.getElem_mem hlt
    rw [q, e]
  · have hlt : ix (fun i => ¬ (grP (ps.getD i [])).2 = true) ps.length < ps.length := by
      refine Classical.byContradiction fun hne => ha (List.all_eq_true.2 fun p hp => ?_)
      obtain ⟨i, hi, rfl⟩ := List.getElem_of_mem hp
      have h4 := h3 i (by omega)
      have e : ps.getD i [] = ps[i] := by simp [List.getD_eq_getElem?_getD, hi]
      rw [e] at h4
      exact Classical.not_not.1 h4
    have h4 := (h2.resolve_left (Nat.ne_of_lt hlt)).2
    generalize ix (fun i => ¬ (grP (ps.getD i [])).2 = true) ps.length = i at *
    have e : ps.getD i [] = ps[i] := by simp [List.getD_eq_getElem?_getD, hlt]
    simp only [e] at h4
    obtain ⟨s, e1, e2⟩ := rp0_bad (G := G) (bb := bb) ps parts hb hm hl i hlt h4
    rw [q, e1, fnK_r]
    exact ⟨s, rfl, e2⟩
theorem rp1_all (ps : List (List Int)) (gs : List Gr) (hb : ∀ p ∈ ps, Byts p) (hm : ∀ p ∈ ps, p.length ≤ 1000) (hl : ps.length ≤ 1000) (hg : gs.length ≤ 1000) {st : AS} (h0 : st = rp1 ps gs 0) :
    ((ps.all fun p => (wtP p).2) = true → EL (EV G (Tb (bs bb))) G h37l2 [2, 2, 8, 0] 4 st = fnK (EV G (Tb (bs bb))) G h37l2 [2, 2, 8, 0] 4 (EC (EV G (Tb (bs bb))) G h37l2 (rp1 ps gs ps.length))) ∧
    (¬ (ps.all fun p => (wtP p).2) = true → Bad (EL (EV G (Tb (bs bb))) G h37l2 [2, 2, 8, 0] 4 st)) := by
  have q := EL_fst (st := st) (call := EV G (Tb (bs bb))) (G := G) (a := h37l2) (L := [2, 2, 8, 0]) (m := 4) (fun i => rp1 ps gs i) (fun i => ¬ (wtP (ps.getD i [])).2 = true) ps.length h0 (fun k hk hj => by
    have h1 := hj k (Nat.le_refl _)
    have e : ps.getD k [] = ps[k] := by simp [List.getD_eq_getElem?_getD, hk]
    simp only [e, Classical.not_not] at h1
    exact rp1_round ps gs hb hl hg k hk h1)
  obtain ⟨h1, h2, h3⟩ := ix_spec (fun i => ¬ (wtP (ps.getD i [])).2 = true) ps.length
  refine ⟨fun ha => ?_, fun ha => ?_⟩
  · have e : ix (fun i => ¬ (wtP (ps.getD i [])).2 = true) ps.length = ps.length := by
      refine Classical.byContradiction fun hne => ?_
      have hlt : ix (fun i => ¬ (wtP (ps.getD i [])).2 = true) ps.length < ps.length := by omega
      have h4 := (h2.resolve_left hne).2
      refine h4 (List.all_eq_true.1 ha _ ?_)
      rw [List.getD_eq_getElem?_getD, List.getElem?_eq_getElem hlt]
      exact List.getElem_mem hlt
    rw [q, e]
  · have hlt : ix (fun i => ¬ (wtP (ps.getD i [])).2 = true) ps.length < ps.length := by
      refine Classical.byContradiction fun hne => ha (List.all_eq_true.2 fun p hp => ?_)
      obtain ⟨i, hi, rfl⟩ := List.getElem_of_mem hp
      have h4 := h3 i (by omega)
      have e : ps.getD i [] = ps[i] := by simp [List.getD_eq_getElem?_getD, hi]
      rw [e] at h4
      exact Classical.not_not.1 h4
    have h4 := (h2.resolve_left (Nat.ne_of_lt hlt)).2
    generalize ix (fun i => ¬ (wtP (ps.getD i [])).2 = true) ps.length = i at *
    have e : ps.getD i [] = ps[i] := by simp [List.getD_eq_getElem?_getD, hlt]
    simp only [e] at h4
    obtain ⟨s, e1, e2⟩ := rp1_bad (G := G) (bb := bb) ps gs hb hm hl i hlt h4
    rw [q, e1, fnK_r]
    exact ⟨s, rfl, e2⟩
theorem prt_n {x : List Int} (h : x ≠ []) : prt x = spl 44 x := if_neg h
theorem psGs_n {x : List Int} (h : x ≠ []) : psGs (spl 44 x) (spl 44 x).length = psG x := by
  unfold psGs psG; rw [List.take_length, prt_n h]
theorem psWs_n {x : List Int} (h : x ≠ []) : psWs (spl 44 x) (spl 44 x).length = psW x := by
  unfold psWs psW; rw [List.take_length, prt_n h]
theorem str_ne {x : List Int} (h : x ≠ []) : (str x = str []) = False := by
  refine eq_false fun e => h ?_
  have := congrArg ByteArray.size e
  rw [str_size, str_size] at this
  exact List.eq_nil_of_length_eq_zero this
end
section
variable {G : Glob} {bb : Bool}
theorem psB_n {s : List Int} (h : (spl 59 s).length ≠ 2) : psB s = none := by
  unfold psB
  split
  · rename_i a b e
    rw [e] at h
    exact absurd rfl h
  · rfl
theorem psB_2 {s x y : List Int} (h : spl 59 s = [x, y]) : psB s = if okG x = true ∧ okW y = true then some (psG x, psW y) else none := by
  unfold psB
  rw [h]
theorem rp0_no (ps parts : List (List Int)) (hb : ∀ p ∈ ps, Byts p) (hm : ∀ p ∈ ps, p.length ≤ 1000) (hl : ps.length ≤ 1000) (ha : ¬ (ps.all fun p => (grP p).2) = true) :
    ∃ s, retZ false [RetV.cell 2 true 2, RetV.tmp 3] 0 (some (.ret, s)) = some (psV ([], [], 7), []) ∧ ∀ st, st = rp0 ps parts 0 → EL (EV G (Tb (bs bb))) G h37l0 [2, 1, 0, 0, 0] 4 st = some (.ret, s) := by
  obtain ⟨s, e1, e2⟩ := (rp0_all (G := G) (bb := bb) ps parts hb hm hl rfl).2 ha
  exact ⟨s, e2, fun st h => by rw [h]; exact e1⟩
theorem rp1_no (ps : List (List Int)) (gs : List Gr) (hb : ∀ p ∈ ps, Byts p) (hm : ∀ p ∈ ps, p.length ≤ 1000) (hl : ps.length ≤ 1000) (hg : gs.length ≤ 1000) (ha : ¬ (ps.all fun p => (wtP p).2) = true) :
    ∃ s, retZ false [RetV.cell 2 true 2, RetV.tmp 3] 0 (some (.ret, s)) = some (psV ([], [], 7), []) ∧ ∀ st, st = rp1 ps gs 0 → EL (EV G (Tb (bs bb))) G h37l2 [2, 2, 8, 0] 4 st = some (.ret, s) := by
  obtain ⟨s, e1, e2⟩ := (rp1_all (G := G) (bb := bb) ps gs hb hm hl hg rfl).2 ha
  exact ⟨s, e2, fun st h => by rw [h]; exact e1⟩
theorem rparse_v (s : List Int) (hs : Byts s) (hl : s.length ≤ 1000) : EV G (Tb (bs bb)) 37 [sv s] [] = some (psV (psR s), []) := by
  refine EV_run rfl ?_
  have sz : ((str s).size : Int) = s.length := by rw [str_size]
  have c1 := rcut_v (G := G) (bb := bb) s 59 hs hl
  unfold psR
  by_cases h200 : s.length > 200
  · have h' : (s.length : Int) > 200 := by omega
    rw [if_pos h200]
    simp (disch := omega) only [go_sem, h37c, sz, h']
    try rfl
  · have h' : ¬ (s.length : Int) > 200 := by omega
    rw [if_neg h200]
    have hB := spl_byts (c := 59) hs
    by_cases h2 : (spl 59 s).length = 2
    · obtain ⟨x, y, hL⟩ : ∃ x y, spl 59 s = [x, y] := by
        generalize spl 59 s = L at *
        match L, h2 with
        | [x, y], _ => exact ⟨x, y, rfl⟩
      rw [psB_2 hL]
      rw [hL] at c1 hB
      clear hL h2
      · skip
        obtain ⟨bx, lx⟩ := hB x (by simp)
        obtain ⟨bY, ly⟩ := hB y (by simp)
        have cx := rcut_v (G := G) (bb := bb) x 44 bx (by omega)
        have cy := rcut_v (G := G) (bb := bb) y 44 bY (by omega)
        have BX := spl_byts (c := 44) bx
        have BY := spl_byts (c := 44) bY
        have NX := spl_len 44 x
        have NY := spl_len 44 y
        have L2 : (([x, y] : List (List Int)).map sS).length = 2 := rfl
        have g0 : (([x, y] : List (List Int)).map sS)[0]? = some [.raw (.string (str x))] := rfl
        have g1 : (([x, y] : List (List Int)).map sS)[1]? = some [.raw (.string (str y))] := rfl
        generalize hM : ([x, y] : List (List Int)) = M at *
        by_cases hx : x = []
        · subst hx
          have oG : okG [] = true := rfl
          have pG : psG [] = [] := rfl
          rw [pG]
          by_cases hy : y = []
          · subst hy
            rw [if_pos ⟨oG, rfl⟩]
            have pW : psW [] = [] := rfl
            simp only [pW]
            have q : EV G (Tb (bs bb)) 30 [.agg [.dc (.slc []), .dc (.slc [])]] [] = some (vi (chk [] []).2, []) := rerr_v [] [] (by simp) (by simp)
            generalize hce : (chk [] []).2 = ce at *
            by_cases he : ce = 0
            · rw [if_pos he]
              simp (disch := omega) only [go_sem, h37c, sz, h', c1, L2, g0, g1, str_nil, q, eq_true he]
              try rfl
            · rw [if_neg he]
              simp (disch := omega) only [go_sem, h37c, sz, h', c1, L2, g0, g1, str_nil, q, he]
              try rfl
          · have hy' := str_ne hy
            have LB : ∀ p ∈ spl 44 y, p.length ≤ 1000 := fun p hp => by have := (BY p hp).2; omega
            have aY : (okW y = true) = (((spl 44 y).all fun p => (wtP p).2) = true) := by unfold okW; rw [prt_n hy]
            by_cases oW : okW y = true
            · rw [if_pos ⟨oG, oW⟩]
              simp only
              have oW' := oW
              rw [aY] at oW'
              have gY := psWs_n hy
              have lw : (spl 44 y).length = (psW y).length := by unfold psW; rw [List.length_map, prt_n hy]
              clear oW aY
              have q : EV G (Tb (bs bb)) 30 [.agg [.dc (.slc []), .dc (.slc ((psW y).map Wt.e))]] [] = some (vi (chk [] (psW y)).2, []) := rerr_v [] (psW y) (by simp) (by omega)
              generalize psW y = ws at *
              generalize spl 44 y = Y at *
              have tw : List.take ws.length (ws.map Wt.e) = ws.map Wt.e := List.take_of_length_le (by simp)
              simp (disch := omega) only [go_sem, h37c, sz, h', c1, L2, g0, g1, str_nil, cy, hy']
              rw [(rp1_all (G := G) (bb := bb) Y [] (fun p hp => (BY p hp).1) LB (by omega) (by simp) ?_).1 oW']
              rotate_left
              · unfold rp1; rfl
              unfold rp1
              rw [gY]
              generalize hce : (chk [] ws).2 = ce at *
              by_cases he : ce = 0
              · rw [if_pos he]
                simp (disch := omega) only [go_sem, h37l2, tw, lw, q, eq_true he]
                try rfl
              · rw [if_neg he]
                simp (disch := omega) only [go_sem, h37l2, tw, lw, q, he]
                try rfl
            · rw [if_neg (fun h => oW h.2)]
              simp only
              rw [aY] at oW
              obtain ⟨st, e2, e1⟩ := rp1_no (G := G) (bb := bb) (spl 44 y) [] (fun p hp => (BY p hp).1) LB (by omega) (by simp) oW
              simp (disch := omega) only [go_sem, h37c, sz, h', c1, L2, g0, g1, str_nil, cy, hy']
              rw [e1 _ ?_]
              rotate_left
              · unfold rp1; rfl
              exact e2
        · have hx' := str_ne hx
          have LA : ∀ p ∈ spl 44 x, p.length ≤ 1000 := fun p hp => by have := (BX p hp).2; omega
          by_cases oG : okG x = true
          · have aX := oG
            unfold okG at aX
            rw [prt_n hx] at aX
            have gX := psGs_n hx
            have lg : (spl 44 x).length = (psG x).length := by unfold psG; rw [List.length_map, prt_n hx]
            generalize psG x = gs at *
            generalize spl 44 x = X at *
            have tg : List.take gs.length (gs.map Gr.e) = gs.map Gr.e := List.take_of_length_le (by simp)
            by_cases hy : y = []
            · subst hy
              rw [if_pos ⟨oG, rfl⟩]
              have pW : psW [] = [] := rfl
              simp only [pW]
              have q : EV G (Tb (bs bb)) 30 [.agg [.dc (.slc (gs.map Gr.e)), .dc (.slc [])]] [] = some (vi (chk gs []).2, []) := rerr_v gs [] (by omega) (by simp)
              generalize hce : (chk gs []).2 = ce at *
              by_cases he : ce = 0
              · rw [if_pos he]
                simp (disch := omega) only [go_sem, h37c, sz, h', c1, L2, g0, g1, str_nil, cx, hx']
                rw [(rp0_all (G := G) (bb := bb) X M (fun p hp => (BX p hp).1) (fun p hp => by have := (BX p hp).2; omega) (by omega) ?_).1 aX]
                rotate_left
                · unfold rp0; rfl
                unfold rp0
                rw [gX]
                simp (disch := omega) only [go_sem, h37l0, g0, g1, str_nil, tg, lg, q, eq_true he]
                try rfl
              · rw [if_neg he]
                simp (disch := omega) only [go_sem, h37c, sz, h', c1, L2, g0, g1, str_nil, cx, hx']
                rw [(rp0_all (G := G) (bb := bb) X M (fun p hp => (BX p hp).1) (fun p hp => by have := (BX p hp).2; omega) (by omega) ?_).1 aX]
                rotate_left
                · unfold rp0; rfl
                unfold rp0
                rw [gX]
                simp (disch := omega) only [go_sem, h37l0, g0, g1, str_nil, tg, lg, q, he]
                try rfl
            · have hy' := str_ne hy
              have LB : ∀ p ∈ spl 44 y, p.length ≤ 1000 := fun p hp => by have := (BY p hp).2; omega
              have aY : (okW y = true) = (((spl 44 y).all fun p => (wtP p).2) = true) := by unfold okW; rw [prt_n hy]
              by_cases oW : okW y = true
              · rw [if_pos ⟨oG, oW⟩]
                simp only
                have oW' := oW
                rw [aY] at oW'
                have gY := psWs_n hy
                have lw : (spl 44 y).length = (psW y).length := by unfold psW; rw [List.length_map, prt_n hy]
                clear oW aY
                have q : EV G (Tb (bs bb)) 30 [.agg [.dc (.slc (gs.map Gr.e)), .dc (.slc ((psW y).map Wt.e))]] [] = some (vi (chk gs (psW y)).2, []) := rerr_v gs (psW y) (by omega) (by omega)
                generalize psW y = ws at *
                generalize spl 44 y = Y at *
                have tw : List.take ws.length (ws.map Wt.e) = ws.map Wt.e := List.take_of_length_le (by simp)
                simp (disch := omega) only [go_sem, h37c, sz, h', c1, L2, g0, g1, str_nil, cx, hx']
                rw [(rp0_all (G := G) (bb := bb) X M (fun p hp => (BX p hp).1) (fun p hp => by have := (BX p hp).2; omega) (by omega) ?_).1 aX]
                rotate_left
                · unfold rp0; rfl
                unfold rp0
                rw [gX]
                simp (disch := omega) only [go_sem, h37l0, g0, g1, str_nil, tg, lg, cy, hy']
                rw [(rp1_all (G := G) (bb := bb) Y gs (fun p hp => (BY p hp).1) LB (by omega) (by omega) ?_).1 oW']
                rotate_left
                · unfold rp1; rfl
                unfold rp1
                rw [gY]
                generalize hce : (chk gs ws).2 = ce at *
                by_cases he : ce = 0
                · rw [if_pos he]
                  simp (disch := omega) only [go_sem, h37l2, tw, lw, tg, lg, q, eq_true he]
                  try rfl
                · rw [if_neg he]
                  simp (disch := omega) only [go_sem, h37l2, tw, lw, tg, lg, q, he]
                  try rfl
              · rw [if_neg (fun h => oW h.2)]
                simp only
                rw [aY] at oW
                obtain ⟨st, e2, e1⟩ := rp1_no (G := G) (bb := bb) (spl 44 y) gs (fun p hp => (BY p hp).1) LB (by omega) (by omega) oW
                simp (disch := omega) only [go_sem, h37c, sz, h', c1, L2, g0, g1, str_nil, cx, hx']
                rw [(rp0_all (G := G) (bb := bb) X M (fun p hp => (BX p hp).1) (fun p hp => by have := (BX p hp).2; omega) (by omega) ?_).1 aX]
                rotate_left
                · unfold rp0; rfl
                unfold rp0
                rw [gX]
                simp (disch := omega) only [go_sem, h37l0, g0, g1, str_nil, tg, lg, cy, hy']
                rw [e1 _ ?_]
                rotate_left
                · unfold rp1; rfl
                exact e2
          · rw [if_neg (fun h => oG h.1)]
            simp only
            obtain ⟨st, e2, e1⟩ := rp0_no (G := G) (bb := bb) (spl 44 x) M (fun p hp => (BX p hp).1) LA (by omega) (by unfold okG at oG; rw [prt_n hx] at oG; exact oG)
            simp (disch := omega) only [go_sem, h37c, sz, h', c1, L2, g0, g1, str_nil, cx, hx']
            rw [e1 _ ?_]
            rotate_left
            · unfold rp0; rfl
            exact e2
    · rw [psB_n h2]
      generalize spl 59 s = L at *
      have hl3 : ¬ (L.length : Int) = 2 := by omega
      simp (disch := omega) only [go_sem, h37c, sz, h', c1, hl3]
      try rfl
end
section
variable {G : Glob} {bb : Bool}
abbrev flO (gs : List Gr) (ws : List Wt) : List AObj := [.box [.dc (.slc (gs.map Gr.e)), .dc (.slc (ws.map Wt.e))]]
def rf0 (gs : List Gr) (ws : List Wt) (k : Nat) : AS := ⟨(jk 1 (.one (.ptr 0 0) :: jk 1 (sv (jnI [44] ((gs.take k).map (txG dcR))) :: vi k :: jk 64 []))), flO gs ws⟩
theorem txG_len (g : Gr) : (txG dcR g).length ≤ 62 := by
  have a1 := dcR_len g.c
  have a2 := dcR_len g.l
  have a3 := dcR_len g.t
  unfold txG
  simp; omega
theorem txW_len (w : Wt) : (txW dcR w).length ≤ 62 := by
  have a1 := dcR_len w.c
  have a2 := ltr_len w.k
  unfold txW
  simp; omega
theorem rf_g {gs : List Gr} {k : Nat} (hk : k < gs.length) : jnI [44] ((gs.take (k + 1)).map (txG dcR)) = (if k = 0 then [] else jnI [44] ((gs.take k).map (txG dcR)) ++ [44]) ++ txG dcR gs[k] := by
  rw [List.take_add_one, List.getElem?_eq_getElem hk]
  by_cases h : k = 0
  · subst h; simp [jnI]
  · rw [if_neg h, List.map_append, Option.toList_some, List.map_cons, List.map_nil, jnI_snoc]
    intro e
    have := congrArg List.length e
    rw [List.length_map, List.length_take, List.length_nil] at this
    omega
theorem rf_w {ws : List Wt} {k : Nat} (hk : k < ws.length) : jnI [44] ((ws.take (k + 1)).map (txW dcR)) = (if k = 0 then [] else jnI [44] ((ws.take k).map (txW dcR)) ++ [44]) ++ txW dcR ws[k] := by
  rw [List.take_add_one, List.getElem?_eq_getElem hk]
  by_cases h : k = 0
  · subst h; simp [jnI]
  · rw [if_neg h, List.map_append, Option.toList_some, List.map_cons, List.map_nil, jnI_snoc]
    intro e
    have := congrArg List.length e
    rw [List.length_map, List.length_take, List.length_nil] at this
    omega
theorem rf_glen (gs : List Gr) (k : Nat) (hl : gs.length ≤ 1000) : (jnI [44] ((gs.take k).map (txG dcR))).length ≤ 100000 := by
  have := jnI_len [44] 62 (by simp) ((gs.take k).map (txG dcR)) (fun a ha => by
    obtain ⟨g, _, rfl⟩ := List.mem_map.1 ha
    exact txG_len g)
  rw [List.length_map, List.length_take] at this
  omega
theorem rf_wlen (ws : List Wt) (k : Nat) (hl : ws.length ≤ 1000) : (jnI [44] ((ws.take k).map (txW dcR))).length ≤ 100000 := by
  have := jnI_len [44] 62 (by simp) ((ws.take k).map (txW dcR)) (fun a ha => by
    obtain ⟨g, _, rfl⟩ := List.mem_map.1 ha
    exact txW_len g)
  rw [List.length_map, List.length_take] at this
  omega
theorem rf0_round (gs : List Gr) (ws : List Wt) (hl : gs.length ≤ 1000) (k : Nat) (hk : k < gs.length) (hg : ∀ g ∈ gs, inR g.c ∧ inR g.l ∧ inR g.t) :
    rnK [1, 1, 0] 1 (EC (EV G (Tb (bs bb))) G h35l0 (rf0 gs ws k)) = some (rf0 gs ws (k + 1)) := by
  have eg : (gs.map Gr.e)[k]? = some [ci gs[k].c, ci gs[k].l, ci gs[k].t] := by rw [List.getElem?_map, List.getElem?_eq_getElem hk]; rfl
  obtain ⟨r1, r2, r3⟩ := hg gs[k] (List.getElem_mem hk)
  have q1 := decimal_v (G := G) (bb := bb) gs[k].c r1
  have q2 := decimal_v (G := G) (bb := bb) gs[k].l r2
  have q3 := decimal_v (G := G) (bb := bb) gs[k].t r3
  have et := rf_g hk
  have lt := rf_glen gs (k + 1) hl
  have l0 := rf_glen gs k hl
  unfold rf0
  rw [et] at lt ⊢
  have hx : txG dcR gs[k] = dcR gs[k].c ++ [58] ++ dcR gs[k].l ++ [62] ++ dcR gs[k].t := rfl
  rw [hx] at lt ⊢
  generalize gs[k].c = c at *
  generalize gs[k].l = lv at *
  generalize gs[k].t = tt at *
  generalize dcR c = x1 at *
  generalize dcR lv = x2 at *
  generalize dcR tt = x3 at *
  by_cases h0 : k = 0
  · subst h0
    rw [if_pos rfl] at lt ⊢
    simp only [List.length_append, List.length_cons, List.length_nil] at lt
    have s0 : jnI [44] ((gs.take 0).map (txG dcR)) = [] := rfl
    rw [s0]
    have s1 : binV .add (sv []) (sv x1) = some (sv x1) := sadd_s (by simp; omega)
    have s2 : binV .add (sv x1) (sv [58]) = some (sv (x1 ++ [58])) := sadd_s (by simp; omega)
    have s3 : binV .add (sv (x1 ++ [58])) (sv x2) = some (sv (x1 ++ [58] ++ x2)) := sadd_s (by simp; omega)
    have s4 : binV .add (sv (x1 ++ [58] ++ x2)) (sv [62]) = some (sv (x1 ++ [58] ++ x2 ++ [62])) := sadd_s (by simp; omega)
    have s5 : binV .add (sv (x1 ++ [58] ++ x2 ++ [62])) (sv x3) = some (sv (x1 ++ [58] ++ x2 ++ [62] ++ x3)) := sadd_s (by simp; omega)
    rw [List.nil_append]
    simp (disch := omega) only [go_sem, h35l0, hk, eg, q1, q2, q3, c44, c58, c62, s1, s2, s3, s4, s5]
    rfl
  · rw [if_neg h0] at lt ⊢
    simp only [List.length_append, List.length_cons, List.length_nil] at lt
    generalize jnI [44] ((gs.take k).map (txG dcR)) = s at *
    have hk0 : (k : Int) > 0 := by omega
    have s0 : binV .add (sv s) (sv [44]) = some (sv (s ++ [44])) := sadd_s (by simp; omega)
    have s1 : binV .add (sv (s ++ [44])) (sv x1) = some (sv (s ++ [44] ++ x1)) := sadd_s (by simp; omega)
    have s2 : binV .add (sv (s ++ [44] ++ x1)) (sv [58]) = some (sv (s ++ [44] ++ x1 ++ [58])) := sadd_s (by simp; omega)
    have s3 : binV .add (sv (s ++ [44] ++ x1 ++ [58])) (sv x2) = some (sv (s ++ [44] ++ x1 ++ [58] ++ x2)) := sadd_s (by simp; omega)
    have s4 : binV .add (sv (s ++ [44] ++ x1 ++ [58] ++ x2)) (sv [62]) = some (sv (s ++ [44] ++ x1 ++ [58] ++ x2 ++ [62])) := sadd_s (by simp; omega)
    have s5 : binV .add (sv (s ++ [44] ++ x1 ++ [58] ++ x2 ++ [62])) (sv x3) = some (sv (s ++ [44] ++ (x1 ++ [58] ++ x2 ++ [62] ++ x3))) := by
      rw [sadd_s (by simp; omega)]; simp
    simp (disch := omega) only [go_sem, h35l0, hk, hk0, eg, q1, q2, q3, c44, c58, c62, s0, s1, s2, s3, s4, s5]
    done
def rf1 (gs : List Gr) (ws : List Wt) (t : List Int) (k : Nat) : AS := ⟨(jk 1 (.one (.ptr 0 0) :: jk 1 (sv (t ++ jnI [44] ((ws.take k).map (txW dcR))) :: jk 2 (vi k :: jk 62 [])))), flO gs ws⟩
theorem rf1_round (gs : List Gr) (ws : List Wt) (t : List Int) (ht : t.length ≤ 200000) (hl : ws.length ≤ 1000) (k : Nat) (hk : k < ws.length) (hg : ∀ w ∈ ws, inR w.c) :
    rnK [1, 1, 2] 1 (EC (EV G (Tb (bs bb))) G h35l1 (rf1 gs ws t k)) = some (rf1 gs ws t (k + 1)) := by
  have eg : (ws.map Wt.e)[k]? = some [ci ws[k].c, ci ws[k].k] := by rw [List.getElem?_map, List.getElem?_eq_getElem hk]; rfl
  have r1 := hg ws[k] (List.getElem_mem hk)
  have q1 := decimal_v (G := G) (bb := bb) ws[k].c r1
  have q2 := rletter_v (G := G) (bb := bb) ws[k].k
  have et := rf_w hk
  have lt := rf_wlen ws (k + 1) hl
  unfold rf1
  rw [et] at lt ⊢
  have hx : txW dcR ws[k] = dcR ws[k].c ++ ltr ws[k].k := rfl
  rw [hx] at lt ⊢
  generalize ws[k].c = c at *
  generalize ws[k].k = kk at *
  generalize dcR c = x1 at *
  generalize ltr kk = x2 at *
  by_cases h0 : k = 0
  · subst h0
    rw [if_pos rfl] at lt ⊢
    simp only [List.length_append, List.length_cons, List.length_nil] at lt
    have s0 : t ++ jnI [44] ((ws.take 0).map (txW dcR)) = t := by simp [jnI]
    rw [s0]
    have s1 : binV .add (sv t) (sv x1) = some (sv (t ++ x1)) := sadd_s (by omega)
    have s2 : binV .add (sv (t ++ x1)) (sv x2) = some (sv (t ++ (x1 ++ x2))) := by
      rw [sadd_s (by simp; omega)]; simp
    rw [List.nil_append]
    simp (disch := omega) only [go_sem, h35l1, hk, eg, q1, q2, c44, s1, s2]
    rfl
  · rw [if_neg h0] at lt ⊢
    simp only [List.length_append, List.length_cons, List.length_nil] at lt
    generalize jnI [44] ((ws.take k).map (txW dcR)) = s at *
    have hk0 : (k : Int) > 0 := by omega
    have s0 : binV .add (sv (t ++ s)) (sv [44]) = some (sv (t ++ s ++ [44])) := sadd_s (by simp; omega)
    have s1 : binV .add (sv (t ++ s ++ [44])) (sv x1) = some (sv (t ++ s ++ [44] ++ x1)) := sadd_s (by simp; omega)
    have s2 : binV .add (sv (t ++ s ++ [44] ++ x1)) (sv x2) = some (sv (t ++ (s ++ [44] ++ (x1 ++ x2)))) := by
      rw [sadd_s (by simp; omega)]; simp
    simp (disch := omega) only [go_sem, h35l1, hk, hk0, eg, q1, q2, c44, s0, s1, s2]
    done
theorem rformat_v (gs : List Gr) (ws : List Wt) (hl : gs.length ≤ 1000) (hw : ws.length ≤ 1000) (hg : ∀ g ∈ gs, inR g.c ∧ inR g.l ∧ inR g.t) (hw2 : ∀ w ∈ ws, inR w.c) :
    EV G (Tb (bs bb)) 35 [flV gs ws] [] = some (sv (txF dcR gs ws), []) := by
  refine EV_run rfl ?_
  have l0 := rf_glen gs gs.length hl
  rw [List.take_length] at l0
  have s1 : binV .add (sv (jnI [44] (gs.map (txG dcR)))) (sv [59]) = some (sv (jnI [44] (gs.map (txG dcR)) ++ [59])) := sadd_s (by simp; omega)
  simp (disch := omega) only [go_sem, h35c, str_nil]
  rw [EL_loop (fun k => rf0 gs ws k) gs.length ?_ (fun k hk => rf0_round gs ws hl k hk hg)]
  rotate_left
  · rfl
  unfold rf0
  rw [List.take_length]
  simp (disch := omega) only [go_sem, h35l0, c59, s1]
  rw [EL_loop (fun k => rf1 gs ws (jnI [44] (gs.map (txG dcR)) ++ [59]) k) ws.length ?_ (fun k hk => rf1_round gs ws _ (by simp; omega) hw k hk hw2)]
  rotate_left
  · unfold rf1
    simp only [List.take_zero, List.map_nil, jnI, List.append_nil]
    rfl
  unfold rf1
  rw [List.take_length]
  simp (disch := omega) only [go_sem, h35l1]
  rfl
end
section
variable {G : Glob} {bb : Bool}
section
variable (D : Int → List Int)
theorem fo0_roundS (hD : ∀ n, (D n).length ≤ 20) (gs : List Gr) (ws : List Wt) (hl : gs.length ≤ 1000000) (k : Nat) (hk : k < gs.length) (g : Gr) (hg : gs[k] = g) (h1 : EV G (Tb (bsS bb)) 79 [vi g.c] [] = some (sv (D g.c), [])) (h2 : EV G (Tb (bsS bb)) 79 [vi g.l] [] = some (sv (D g.l), [])) (h3 : EV G (Tb (bsS bb)) 79 [vi g.t] [] = some (sv (D g.t), [])) :
    rnK [1, 1, 0, 5, 0, 0] 3 (EC (EV G (Tb (bsS bb))) G h34l0 (fo0 D gs ws k)) = some (fo0 D gs ws (k + 1)) := by
  have eg : (gs.map Gr.e)[k]? = some [ci g.c, ci g.l, ci g.t] := by rw [List.getElem?_map, List.getElem?_eq_getElem hk, hg]; rfl
  have a1 := hD g.c
  have a2 := hD g.l
  have a3 := hD g.t
  have s1 : binV .add (sv (D g.c)) (sv [58]) = some (sv (D g.c ++ [58])) := sadd_s (by simp; omega)
  have s2 : binV .add (sv (D g.c ++ [58])) (sv (D g.l)) = some (sv (D g.c ++ [58] ++ D g.l)) := sadd_s (by simp; omega)
  have s3 : binV .add (sv (D g.c ++ [58] ++ D g.l)) (sv [62]) = some (sv (D g.c ++ [58] ++ D g.l ++ [62])) := sadd_s (by simp; omega)
  have s4 : binV .add (sv (D g.c ++ [58] ++ D g.l ++ [62])) (sv (D g.t)) = some (sv (txG D g)) := sadd_s (by simp; omega)
  have al := allLen_s ((gs.take k).map (txG D))
  have et : (gs.take (k + 1)).map (txG D) = (gs.take k).map (txG D) ++ [txG D g] := by rw [List.take_add_one, List.getElem?_eq_getElem hk, hg]; simp
  have ln : ((gs.take k).map (txG D)).length = k := by simp; omega
  have lm : (((gs.take k).map (txG D)).map sS).length = k := by simp; omega
  unfold fo0
  rw [et]
  generalize (gs.take k).map (txG D) = X at *
  subst ln
  generalize txG D g = y at *
  simp only [foH, List.map_append, List.map_cons, List.map_nil, sS]
  simp (disch := omega) only [go_sem, h34l0, eg, h1, h2, h3, c58, c62, s1, s2, s3, s4, al, List.take_length]
theorem fo1_roundS (hD : ∀ n, (D n).length ≤ 20) (gs : List Gr) (ws : List Wt) (hl : ws.length ≤ 1000000) (k : Nat) (hk : k < ws.length) (g : Wt) (hg : ws[k] = g) (h1 : EV G (Tb (bsS bb)) 79 [vi g.c] [] = some (sv (D g.c), [])) :
    rnK [3, 0, 29, 0, 0] 3 (EC (EV G (Tb (bsS bb))) G h34l1 (fo1 D gs ws k)) = some (fo1 D gs ws (k + 1)) := by
  have eg : (ws.map Wt.e)[k]? = some [ci g.c, ci g.k] := by rw [List.getElem?_map, List.getElem?_eq_getElem hk, hg]; rfl
  have a1 := hD g.c
  have a2 := ltr_len g.k
  have h2 := up (letter_v (G := G) (bb := bb) g.k)
  have s1 : binV .add (sv (D g.c)) (sv (ltr g.k)) = some (sv (txW D g)) := sadd_s (by omega)
  have al := allLen_s ((ws.take k).map (txW D))
  have et : (ws.take (k + 1)).map (txW D) = (ws.take k).map (txW D) ++ [txW D g] := by rw [List.take_add_one, List.getElem?_eq_getElem hk, hg]; simp
  have ln : ((ws.take k).map (txW D)).length = k := by simp; omega
  have lm : (((ws.take k).map (txW D)).map sS).length = k := by simp; omega
  unfold fo1
  rw [et]
  generalize (ws.take k).map (txW D) = X at *
  subst ln
  generalize txW D g = y at *
  simp only [foH, List.map_append, List.map_cons, List.map_nil, sS]
  simp (disch := omega) only [go_sem, h34l1, eg, h1, h2, s1, al, List.take_length]
theorem format_vS (hD : ∀ n, (D n).length ≤ 20) (gs : List Gr) (ws : List Wt) (hl : gs.length ≤ 1000) (hw : ws.length ≤ 1000)
    (h1 : ∀ g ∈ gs, EV G (Tb (bsS bb)) 79 [vi g.c] [] = some (sv (D g.c), []) ∧ EV G (Tb (bsS bb)) 79 [vi g.l] [] = some (sv (D g.l), []) ∧ EV G (Tb (bsS bb)) 79 [vi g.t] [] = some (sv (D g.t), []))
    (h2 : ∀ w ∈ ws, EV G (Tb (bsS bb)) 79 [vi w.c] [] = some (sv (D w.c), [])) :
    EV G (Tb (bsS bb)) 34 [.agg [.dc (.slc (gs.map Gr.e)), .dc (.slc (ws.map Wt.e))]] [] = some (sv (txF D gs ws), []) := by
  refine EV_run rfl ?_
  have b1 : (jnI [44] (gs.map (txG D))).length ≤ 1000 * 63 := by
    have := jnI_len [44] 62 (by simp) (gs.map (txG D)) (fun a ha => by
      obtain ⟨g, _, rfl⟩ := List.mem_map.1 ha
      have := hD g.c
      have := hD g.l
      have := hD g.t
      simp [txG]; omega)
    rw [List.length_map] at this
    omega
  have b2 : (jnI [44] (ws.map (txW D))).length ≤ 1000 * 63 := by
    have := jnI_len [44] 62 (by simp) (ws.map (txW D)) (fun a ha => by
      obtain ⟨g, _, rfl⟩ := List.mem_map.1 ha
      have := hD g.c
      have := ltr_len g.k
      simp [txW]; omega)
    rw [List.length_map] at this
    omega
  have j1 := up (joinV (G := G) (bb := bb) (gs.map (txG D)) (by simpa using hl) (by omega))
  have j2 := up (joinV (G := G) (bb := bb) (ws.map (txW D)) (by simpa using hw) (by omega))
  have s1 : binV .add (sv (jnI [44] (gs.map (txG D)))) (sv [59]) = some (sv (jnI [44] (gs.map (txG D)) ++ [59])) := sadd_s (by simp; omega)
  have s2 : binV .add (sv (jnI [44] (gs.map (txG D)) ++ [59])) (sv (jnI [44] (ws.map (txW D)))) = some (sv (txF D gs ws)) := sadd_s (by simp; omega)
  simp (disch := omega) only [go_sem, h34c, str_nil]
  rw [EL_loop (fun k => fo0 D gs ws k) gs.length ?_ (fun k hk => fo0_roundS D hD gs ws (by omega) k hk gs[k] rfl (h1 _ (List.getElem_mem hk)).1 (h1 _ (List.getElem_mem hk)).2.1 (h1 _ (List.getElem_mem hk)).2.2)]
  rotate_left
  · rfl
  unfold fo0
  rw [List.take_length]
  simp (disch := omega) only [go_sem, h34l0]
  rw [EL_loop (fun k => fo1 D gs ws k) ws.length ?_ (fun k hk => fo1_roundS D hD gs ws (by omega) k hk ws[k] rfl (h2 _ (List.getElem_mem hk)))]
  rotate_left
  · rfl
  unfold fo1
  rw [List.take_length]
  have lX : (gs.map (txG D)).length = gs.length := List.length_map ..
  have lY : (ws.map (txW D)).length = ws.length := List.length_map ..
  generalize gs.map (txG D) = X at *
  generalize ws.map (txW D) = Y at *
  generalize gs.length = n at *
  generalize ws.length = m at *
  subst lX
  subst lY
  have mX : (X.map sS).take X.length = X.map sS := List.take_of_length_le (by simp)
  have mY : (Y.map sS).take Y.length = Y.map sS := List.take_of_length_le (by simp)
  simp (disch := omega) only [go_sem, h34l1, c44, c59, List.length_map, j1, j2, s1, s2, mX, mY]
end
theorem formatS_v (gs : List Gr) (ws : List Wt) (hl : gs.length ≤ 1000) (hw : ws.length ≤ 1000) (hg : ∀ g ∈ gs, inR g.c ∧ inR g.l ∧ inR g.t) (hw2 : ∀ w ∈ ws, inR w.c) :
    EV G (Tb (bsS bb)) 34 [.agg [.dc (.slc (gs.map Gr.e)), .dc (.slc (ws.map Wt.e))]] [] = some (sv (txF dcR gs ws), []) :=
  format_vS dcR dcR_len gs ws hl hw (fun g h => ⟨itoaV (hg g h).1, itoaV (hg g h).2.1, itoaV (hg g h).2.2⟩) (fun w h => itoaV (hw2 w h))
end
end Go.Proofs.YtinageiefahjfaaGreatDoor
