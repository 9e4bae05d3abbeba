/- The reference's opened answers the program's place. Conditions: none. -/
import Derived.Test.YtinageiefahjfaaGreatDoorWg
namespace Go.Proofs.YtinageiefahjfaaGreatDoor
set_option linter.unusedSimpArgs false
set_option linter.unusedVariables false
set_option maxRecDepth 4000
section
variable {G : Glob} {bb : Bool}
def gtP (a : Ac) (g : Gr) : Bool := decide (g.c ≠ a.c) && (decide (a.l = 1 ∧ g.l > 1) || decide (a.l = 2 ∧ g.l > 0) || decide (a.l = 3))
theorem mayH_any (gs : List Gr) (ws : List Wt) (a : Ac) (h : 1 ≤ a.l ∧ a.l ≤ 3) : mayH gs ws a = if ws.length > 0 then false else !gs.any (gtP a) := by
  unfold mayH othG
  split
  · rfl
  · by_cases h3 : a.l = 3
    · rw [if_pos h3]
      have e : gs.any (gtP a) = gs.any fun g => decide (g.c ≠ a.c) := by
        congr 1; funext g; simp [gtP, h3]
      rw [e]
      cases hb : gs.any fun g => decide (g.c ≠ a.c) with
      | true =>
        obtain ⟨g, hg, hp⟩ := List.any_eq_true.1 hb
        have : g ∈ gs.filter fun g => decide (g.c ≠ a.c) := List.mem_filter.2 ⟨hg, hp⟩
        have := List.length_pos_of_mem this
        simp only [Bool.not_true, decide_eq_false_iff_not]; omega
      | false =>
        have : gs.filter (fun g => decide (g.c ≠ a.c)) = [] := by
          rw [List.filter_eq_nil_iff]
          exact List.any_eq_false.1 hb
        rw [this]; rfl
    · rw [if_neg h3]
      by_cases h2 : a.l = 2
      · rw [if_pos h2]
        rw [List.any_filter]
        have e : (fun g : Gr => decide (g.c ≠ a.c) && decide (g.l > 0)) = gtP a := by
          funext g; simp [gtP, h2]
        rw [e]
      · rw [if_neg h2]
        have h1 : a.l = 1 := by omega
        rw [List.any_filter]
        have e : (fun g : Gr => decide (g.c ≠ a.c) && decide (g.l > 1)) = gtP a := by
          funext g; simp [gtP, h1]
        rw [e]
theorem rgrants_v (gs : List Gr) (ws : List Wt) (a : Ac) (hl : gs.length ≤ 100000) (hw : ws.length ≤ 100000) (h : 1 ≤ a.l ∧ a.l ≤ 3) : EV G (Tb (bs bb)) 137 [flV gs ws, a.v] [] = some (vb (mayH gs ws a), []) := by
  refine EV_run rfl ?_
  rw [mayH_any gs ws a h]
  by_cases hw0 : ws.length > 0
  · rw [if_pos hw0]
    have hw1 : (ws.length : Int) > 0 := by omega
    simp (disch := omega) only [go_sem, h137c, hw1]
    try rfl
  · rw [if_neg hw0]
    have hw1 : ¬ (ws.length : Int) > 0 := by omega
    simp (disch := omega) only [go_sem, h137c, hw1]
    rw [EL_fst (fun j => ⟨(jk 2 (.one (.ptr 0 0) :: .one (.ptr 1 0) :: jk 1 (vi j :: jk 45 []))), [.box [.dc (.slc (gs.map Gr.e)), .dc (.slc (ws.map Wt.e))], .box [.dc (ci a.k), .dc (ci a.c), .dc (ci a.l)]]⟩) (fun j => gtP a (gs.getD j ⟨0, 0, 0⟩) = true) gs.length ?_ ?_]
    rotate_left
    · rfl
    · intro j hj hn
      have h3 := hn j (Nat.le_refl _)
      rw [getDz gs _ j hj] at h3
      have eg : (gs.map Gr.e)[j]? = some [ci gs[j].c, ci gs[j].l, ci gs[j].t] := by rw [List.getElem?_map, List.getElem?_eq_getElem hj]; rfl
      generalize gs[j] = g at *
      unfold gtP at h3
      by_cases h1 : g.c = a.c
      · simp (disch := omega) only [go_sem, h137l0, eg, eq_true h1]
      · simp only [Bool.and_eq_true, Bool.or_eq_true, decide_eq_true_eq] at h3
        have h4 : ¬ a.l = 3 := fun h => h3 ⟨h1, .inr h⟩
        by_cases h5 : a.l = 1
        · have h6 : ¬ g.l > 1 := fun h => h3 ⟨h1, .inl (.inl ⟨h5, h⟩)⟩
          have h7 : ¬ a.l = 2 := by omega
          simp (disch := omega) only [go_sem, h137l0, eg, h1, eq_true h5, h6, h7, h4]
        · have h7 : a.l = 2 := by omega
          have h6 : ¬ g.l > 0 := fun h => h3 ⟨h1, .inl (.inr ⟨h7, h⟩)⟩
          simp (disch := omega) only [go_sem, h137l0, eg, h1, h5, h6, eq_true h7, h4]
    obtain ⟨hk, hp, hn⟩ := ix_spec (fun j => gtP a (gs.getD j ⟨0, 0, 0⟩) = true) gs.length
    generalize ix (fun j => gtP a (gs.getD j ⟨0, 0, 0⟩) = true) gs.length = j at *
    have e : gs.any (gtP a) = decide (j < gs.length) := any_ix (gtP a) gs ⟨0, 0, 0⟩ j hp hn
    rw [e]
    rcases hp with rfl | ⟨hj, hp⟩
    · rw [decide_eq_false (by omega)]
      simp (disch := omega) only [go_sem, h137l0]
      try rfl
    · rw [decide_eq_true hj]
      rw [getDz gs _ j hj] at hp
      have eg : (gs.map Gr.e)[j]? = some [ci gs[j].c, ci gs[j].l, ci gs[j].t] := by rw [List.getElem?_map, List.getElem?_eq_getElem hj]; rfl
      generalize gs[j] = g at *
      unfold gtP at hp
      simp only [Bool.and_eq_true, Bool.or_eq_true, decide_eq_true_eq] at hp
      obtain ⟨h1, h2⟩ := hp
      rcases h2 with (⟨h2, h3⟩ | ⟨h2, h3⟩) | h2
      · simp (disch := omega) only [go_sem, h137l0, eg, h1, eq_true h2, h3]
        try rfl
      · have h4 : ¬ a.l = 1 := by omega
        simp (disch := omega) only [go_sem, h137l0, eg, h1, h4, eq_true h2, h3]
        try rfl
      · have h4 : ¬ a.l = 1 := by omega
        have h5 : ¬ a.l = 2 := by omega
        simp (disch := omega) only [go_sem, h137l0, eg, h1, h4, h5, eq_true h2]
        try rfl
theorem at_pos {gs : List Gr} (hs : Srt gs) {c : Int} (h : isIn gs c = true) : atI gs c = pos gs c := by
  obtain ⟨hk, he⟩ := (isIn_iff hs c).1 h
  unfold atI idxG
  obtain ⟨hk1, hp, hn⟩ := ix_spec (fun j => decide ((gs.getD j ⟨0, 0, 0⟩).c = c) = true) gs.length
  generalize ix (fun j => decide ((gs.getD j ⟨0, 0, 0⟩).c = c) = true) gs.length = j at *
  have hj : ¬ pos gs c < j := fun hlt => by
    have := hn _ hlt
    rw [getDz gs _ _ hk] at this
    simp [he] at this
  rcases hp with rfl | ⟨hj2, hp⟩
  · exact absurd hk hj
  · rw [if_neg (by omega)]
    rw [getDz gs _ j hj2] at hp
    have hp : gs[j].c = c := by simpa using hp
    have : ¬ j < pos gs c := fun hlt => by
      have := (pos_iff hs c j hj2).2 hlt
      omega
    have : j = pos gs c := by omega
    rw [this]
end
section
variable {G : Glob} {bb : Bool}
set_option maxHeartbeats 2000000 in
theorem racErr_v (gs : List Gr) (ws : List Wt) (a : Ac) (hs : Srt gs) (hl : gs.length ≤ 100000) (hw : ws.length ≤ 100000) : EV G (Tb (bs bb)) 73 [flV gs ws, a.v] [] = some (vi (acErr gs ws a), []) := by
  refine EV_run rfl ?_
  have q1 := rpresent_v (G := G) (bb := bb) gs ws a hl hw
  unfold acErr
  by_cases h0 : usErr gs ws a = 0
  · rw [if_neg (by omega)]
    rw [h0] at q1
    obtain ⟨h1, h2, h3, h4, h5⟩ := us_ok h0
    have q3 := rat_v (G := G) (bb := bb) gs ws a.c hl
    have q4 := rwaits_v (G := G) (bb := bb) a.k
    cases hi : isIn gs a.c with
    | false =>
      have hk : a.k = 0 := h5.2 hi
      have e2 := atI_in gs a.c
      rw [hi] at e2
      have e3 : ¬ atI gs a.c ≥ 0 := by simpa using e2
      have us : isUs a.k = true := by simp [isUs, hk]
      rw [us] at q4 ⊢
      rw [if_neg (by simp), if_neg (by omega)]
      generalize atI gs a.c = i at *
      by_cases h8 : ws.length = 8
      · have h9 : (ws.length : Int) = 8 := by omega
        rw [if_pos ⟨rfl, h8⟩]
        simp (disch := omega) only [go_sem, h73c, q1, q3, q4, e3, eq_true hk, eq_true h9]
        try rfl
      · have h9 : ¬ (ws.length : Int) = 8 := by omega
        rw [if_neg (by simp [h8])]
        simp (disch := omega) only [go_sem, h73c, q1, q3, q4, e3, eq_true hk, h9]
        try rfl
    | true =>
      have hk : ¬ a.k = 0 := fun h => by
        have := h5.1 h
        rw [hi] at this; cases this
      rw [at_pos hs hi] at q3
      obtain ⟨hp, hc⟩ := (isIn_iff hs a.c).1 hi
      have eg : (gs.map Gr.e)[pos gs a.c]? = some [ci (grE gs a.c).c, ci (grE gs a.c).l, ci (grE gs a.c).t] := by
        rw [List.getElem?_map, List.getElem?_eq_getElem hp, grE, getDz gs _ _ hp]; rfl
      have hpl := pos_le gs a.c
      generalize grE gs a.c = g at *
      generalize hpn : pos gs a.c = p at *
      have g0 : (p : Int) ≥ 0 := by omega
      unfold wrong
      by_cases k4 : a.k = 4
      · have k1 : ¬ a.k = 1 := by omega
        have us : isUs a.k = false := by simp [isUs, k4]
        rw [us] at q4 ⊢
        rw [if_pos k4]
        by_cases ht : g.t = g.l
        · rw [if_pos ⟨rfl, by simp [ht]⟩]
          simp (disch := omega) only [go_sem, h73c, q1, q3, g0, eg, eq_true k4, eq_true ht]
          try rfl
        · rw [if_neg (by simp [ht]), if_neg (by omega), if_neg (by simp)]
          simp (disch := omega) only [go_sem, h73c, q1, q3, q4, g0, eg, eq_true k4, ht]
          try rfl
      · rw [if_neg k4]
        by_cases k5 : a.k = 5
        · have us : isUs a.k = false := by simp [isUs, k5]
          rw [us] at q4 ⊢
          rw [if_pos k5, if_neg (by simp), if_neg (by omega), if_neg (by simp)]
          by_cases ht : g.t = g.l
          · simp (disch := omega) only [go_sem, h73c, q1, q3, q4, g0, eg, k4, eq_true k5, eq_true ht]
            try rfl
          · simp (disch := omega) only [go_sem, h73c, q1, q3, q4, g0, eg, k4, eq_true k5, ht]
            try rfl
        · rw [if_neg k5]
          by_cases k1 : a.k = 1
          · have us : isUs a.k = false := by simp [isUs, k1]
            have hlv : 1 ≤ a.l ∧ a.l ≤ 3 := by
              unfold lvOK at h3
              rw [if_pos k1] at h3
              simpa using h3
            have q5 := rgrants_v (G := G) (bb := bb) gs ws a hl hw hlv
            rw [us] at q4 ⊢
            rw [if_pos k1]
            by_cases ht : g.t = g.l
            · by_cases ha : a.l ≤ g.l
              · rw [if_pos ⟨rfl, by simp [ha]⟩]
                simp (disch := omega) only [go_sem, h73c, q1, q3, g0, eg, k4, eq_true k1, eq_true ht, ha]
                try rfl
              · rw [if_neg (by simp [ht]; omega)]
                cases hm : mayH gs ws a with
                | false =>
                  rw [hm] at q5
                  rw [if_pos ⟨k1, rfl⟩]
                  simp (disch := omega) only [go_sem, h73c, q1, q3, q5, g0, eg, k4, eq_true k1, eq_true ht, ha]
                  try rfl
                | true =>
                  rw [hm] at q5
                  rw [if_neg (by simp), if_neg (by simp)]
                  simp (disch := omega) only [go_sem, h73c, q1, q3, q4, q5, g0, eg, k4, eq_true k1, eq_true ht, ha]
                  try rfl
            · rw [if_pos ⟨rfl, by simp [ht]⟩]
              simp (disch := omega) only [go_sem, h73c, q1, q3, g0, eg, k4, eq_true k1, ht]
              try rfl
          · rw [if_neg k1]
            have us : isUs a.k = true := by simp [isUs]; omega
            rw [us] at q4 ⊢
            have k2 : a.k = 2 ∨ a.k = 3 := by omega
            by_cases ht : g.t = g.l
            · rw [if_neg (by simp [ht]), if_neg (by omega)]
              by_cases h8 : ws.length = 8
              · have h9 : (ws.length : Int) = 8 := by omega
                rw [if_pos ⟨rfl, h8⟩]
                simp (disch := omega) only [go_sem, h73c, q1, q3, q4, g0, eg, k4, k1, eq_true ht, eq_true h9]
                try rfl
              · have h9 : ¬ (ws.length : Int) = 8 := by omega
                rw [if_neg (by simp [h8])]
                simp (disch := omega) only [go_sem, h73c, q1, q3, q4, g0, eg, k4, k1, eq_true ht, h9]
                try rfl
            · rw [if_pos ⟨rfl, by simp [ht]⟩]
              rcases k2 with k2 | k2
              · simp (disch := omega) only [go_sem, h73c, q1, q3, g0, eg, k4, k1, eq_true k2, ht]
                try rfl
              · have k2' : ¬ a.k = 2 := by omega
                simp (disch := omega) only [go_sem, h73c, q1, q3, g0, eg, k4, k1, k2', eq_true k2, ht]
                try rfl
  · rw [if_pos h0]
    simp (disch := omega) only [go_sem, h73c, q1, h0]
    try rfl
end
section
variable {G : Glob} {bb : Bool}
theorem ins_map (gs : List Gr) (c : Int) : (insG gs c).map Gr.e = ((gs.map Gr.e).take (pos gs c)) ++ [ci c, ci 0, ci 0] :: (gs.map Gr.e).drop (pos gs c) := by
  simp [insG, Gr.e]
theorem ins_len (gs : List Gr) (c : Int) : (insG gs c).length = gs.length + 1 := by
  have := pos_le gs c
  simp [insG]; omega
theorem insert_v (gs : List Gr) (c : Int) (hl : gs.length ≤ 1000000) :
    EV G (Tb (bs bb)) 200 [.one (.bld 0 gs.length), vi (pos gs c : Nat), vl [[ci c, ci 0, ci 0]]] [.arr 0 3 (gs.map Gr.e)] = some (.one (.bld 0 (gs.length + 1)), [.arr 0 3 ((insG gs c).map Gr.e)]) := by
  have hp := pos_le gs c
  refine EV_base rfl ?_
  rw [show (Tb (bs bb)).base = bs bb from rfl]
  unfold bs
  rw [if_neg (by decide), if_neg (by decide), if_pos rfl]
  unfold insK
  simp only
  rw [if_pos ⟨trivial, by omega, by simpa using hp, by simp, by omega, rfl⟩, ins_map]
  simp only [Int.toNat_natCast, List.take_of_length_le (show (gs.map Gr.e).length ≤ gs.length by simp)]
theorem done_v (gs : List Gr) (ws : List Wt) (hs : Srt gs) (c k : Int) (hl : gs.length ≤ 100000) :
    EV G (Tb (bs bb)) 178 [.one (.ptr 0 0), (Wt.mk c k).v] (fileH gs ws) = some (.tup [], fileH (did gs c k) ws) := by
  refine EV_run rfl ?_
  have q := place_v (G := G) (bb := bb) ws hs hl c
  have q1 := insert_v (G := G) (bb := bb) gs c (by omega)
  have e1 := ins_len gs c
  unfold did
  by_cases hk : k = 0
  · cases h : isIn gs c with
    | true =>
      rw [if_neg (by simp)]
      rw [h] at q
      simp (disch := omega) only [go_sem, h178c, q, hk]
    | false =>
      rw [if_pos ⟨hk, rfl⟩]
      rw [h] at q
      simp (disch := omega) only [go_sem, h178c, q, hk, q1]
      unfold fileH
      rw [e1]
  · rw [if_neg (by simp [hk])]
    simp (disch := omega) only [go_sem, h178c, q, hk]
end
section
variable {G : Glob} {bb : Bool}
theorem did_len (gs : List Gr) (c k : Int) : (did gs c k).length ≤ gs.length + 1 := by
  unfold did
  split
  · rw [ins_len]; omega
  · omega
theorem Srt_br {gs : List Gr} (hs : Srt gs) (c k : Int) : Srt (brGs gs c k) := Srt_map (fun g => brG_c _ _ g) hs
theorem Srt_did {gs : List Gr} (hs : Srt gs) (c k : Int) : Srt (did gs c k) := by
  unfold did
  split
  · rename_i h; exact Srt_ins hs h.2
  · exact hs
abbrev twoA (d : Bool) (b : List Br) : AV := .tup [.one (.dc (.raw (.bool d))), .one (.dc (.slc (b.map Br.e)))]
theorem use_v (hG : G 0 = some alD) (gs : List Gr) (ws : List Wt) (hs : Srt gs) (c k : Int) (hk : kOK k) (hl : gs.length ≤ 100000) (hw : ws.length ≤ 100000) :
    EV G (Tb (bs bb)) 129 [.one (.ptr 0 0), (Wt.mk c k).v] (fileH gs ws) = some (twoA (useF gs ws c k).2.2.d (useF gs ws c k).2.2.b, fileH (useF gs ws c k).1 (useF gs ws c k).2.1) := by
  refine EV_run rfl ?_
  unfold useF
  have e1 := brGs_len gs c k
  by_cases h0 : ws.length = 0
  · rw [if_pos h0]
    have h0' : (ws.length : Int) = 0 := by omega
    have q1 := breaks_v (G := G) (bb := bb) hG gs ws c k hk (by omega)
    have q2 := held_v (G := G) (bb := bb) hG (brGs gs c k) ws c k hk (by omega)
    have q3 := done_v (G := G) (bb := bb) (brGs gs c k) ws (Srt_br hs c k) c k (by omega)
    simp only [fileH, e1] at q1 q3
    have tk : ((brGs gs c k).map Gr.e).take gs.length = (brGs gs c k).map Gr.e := List.take_of_length_le (by rw [List.length_map, e1]; omega)
    cases hh : held (brGs gs c k) c k with
    | true =>
      rw [if_pos rfl]
      rw [hh] at q2
      simp (disch := omega) only [go_sem, h129c, q1, q2, e1, tk, eq_true h0', fileH]
      obtain rfl := List.length_eq_zero_iff.1 h0
      rfl
    | false =>
      rw [if_neg (by simp)]
      rw [hh] at q2
      simp (disch := omega) only [go_sem, h129c, q1, q2, q3, e1, tk, eq_true h0', fileH]
      obtain rfl := List.length_eq_zero_iff.1 h0
      rfl
  · rw [if_neg h0]
    simp (disch := omega) only [go_sem, h129c, h0, fileH]
    rw [List.length_append, List.map_append]
    rfl
theorem fnK_of {call : CallT} {a : HC} {L : List Nat} {m : Nat} {r : Option (Exit × AS)} {s : AS} (h : rnK L m r = some s) : fnK call G a L m r = EL call G a L m s := by
  unfold rnK at h
  split at h
  · injection h with h; rw [← h]; rfl
  · cases h
theorem delW_v (w : Wt) (ws : List Wt) (hl : ws.length ≤ 1000000) : EV G (Tb (bs bb)) 179 [.one (.bld 0 (w :: ws).length), vi 0, vi 1] [.arr 0 2 ((w :: ws).map Wt.e)] = some (.one (.bld 0 ws.length), [.arr 0 2 (ws.map Wt.e)]) := by
  refine EV_base rfl ?_
  rw [show (Tb (bs bb)).base = bs bb from rfl]
  unfold bs
  rw [if_neg (by decide), if_pos rfl]
  unfold delK
  show (if _ then _ else _) = _
  rw [if_pos ⟨rfl, by omega, by omega, by simp, by simp, by simp; omega⟩]
  have e : (ws.map Wt.e).take ws.length = ws.map Wt.e := List.take_of_length_le (by simp)
  simp [e]
theorem delG_v (gs : List Gr) (i : Nat) (hi : i < gs.length) (hl : gs.length ≤ 1000000) : EV G (Tb (bs bb)) 128 [.one (.bld 0 gs.length), vi i, vi ((i : Int) + 1)] [.arr 0 3 (gs.map Gr.e)] = some (.one (.bld 0 (gs.length - 1)), [.arr 0 3 ((gs.take i ++ gs.drop (i + 1)).map Gr.e)]) := by
  refine EV_base rfl ?_
  rw [show (Tb (bs bb)).base = bs bb from rfl]
  unfold bs
  rw [if_pos rfl]
  unfold delK
  show (if _ then _ else _) = _
  rw [if_pos ⟨rfl, by omega, by omega, by simpa using hi, by simp, by simp; omega⟩]
  have e : (gs.map Gr.e).take gs.length = gs.map Gr.e := List.take_of_length_le (by simp)
  simp [e]
theorem allLen_br : ∀ gs : List Br, allLen 2 (gs.map Br.e) = true
  | [] => rfl
  | g :: gs => by rw [List.map_cons, allLen, allLen_br gs]; rfl
abbrev thrH (gs : List Gr) (ws : List Wt) (b : List Br) (f : List Wt) : List AObj := [.box [.bld 1 gs.length, .bld 2 ws.length], .arr 0 3 (gs.map Gr.e), .arr 0 2 (ws.map Wt.e), .arr 0 2 (b.map Br.e), .arr 0 2 (f.map Wt.e)]
def thrS (gs : List Gr) (ws : List Wt) (b : List Br) (f : List Wt) : AS := ⟨(.one (.ptr 0 0) :: jk 1 (.one (.bld 3 b.length) :: .one (.bld 4 f.length) :: jk 42 [])), thrH gs ws b f⟩
abbrev twoB (b : List Br) (f : List Wt) : AV := .tup [.one (.dc (.slc (b.map Br.e))), .one (.dc (.slc (f.map Wt.e)))]
theorem thr_key (hG : G 0 = some alD) : ∀ (ws : List Wt) (gs : List Gr) (b : List Br) (f : List Wt), Srt gs → (∀ w ∈ ws, kOK w.k) → gs.length + ws.length ≤ 1000 → b.length + 1000 * ws.length ≤ 10000000 → f.length + ws.length ≤ 1000000 →
    retZ false [RetV.tmp 2, RetV.tmp 3] 3 (sqK (EV G (Tb (bs bb))) G ((HC.region [Oo 44 (AI.mov (AArg.t 2)), Oo 45 (AI.mov (AArg.t 3)), Oo 2 (AI.mov (AArg.t 44)), Oo 3 (AI.mov (AArg.t 45))]).seq HC.ret) (blkK 0 (EL (EV G (Tb (bs bb))) G h127l0 [0, 1, 0] 5 (thrS gs ws b f)))) =
      some (twoB (b ++ (thr gs ws).2.2.1) (f ++ (thr gs ws).2.2.2), fileH (thr gs ws).1 (thr gs ws).2.1)
  | [], gs, b, f, hs, hk, hl, hb, hf => by
    rw [EL_unf, thr]
    unfold thrS
    simp only [List.append_nil]
    have hn : (([] : List Wt).length : Int) = 0 := rfl
    generalize ([] : List Wt) = W at *
    simp (disch := omega) only [go_sem, h127l0, eq_true hn, List.take_length]
  | w :: ws, gs, b, f, hs, hk, hl, hb, hf => by
    have hkw := hk w List.mem_cons_self
    have e1 := brGs_len gs w.c w.k
    have hbl := brBs_len gs w.c w.k
    have hdl := did_len (brGs gs w.c w.k) w.c w.k
    simp only [List.length_cons] at hl hb hf
    have q1 := breaks_v (G := G) (bb := bb) hG gs (w :: ws) w.c w.k hkw (by omega)
    have q2 := held_v (G := G) (bb := bb) hG (brGs gs w.c w.k) (w :: ws) w.c w.k hkw (by omega)
    have q3 := done_v (G := G) (bb := bb) (brGs gs w.c w.k) (w :: ws) (Srt_br hs w.c w.k) w.c w.k (by omega)
    have q4 := delW_v (G := G) (bb := bb) w ws (by omega)
    have e0 : ((w :: ws).map Wt.e)[0]? = some [ci w.c, ci w.k] := rfl
    have hn : ¬ (w :: ws).length = 0 := by simp
    have tk : ((brGs gs w.c w.k).map Gr.e).take gs.length = (brGs gs w.c w.k).map Gr.e := List.take_of_length_le (by rw [List.length_map, e1]; omega)
    have tk2 : List.take (b.length + (brBs gs w.c w.k).length) (b.map Br.e ++ (brBs gs w.c w.k).map Br.e) = (b ++ brBs gs w.c w.k).map Br.e := by
      rw [← List.map_append]; exact List.take_of_length_le (by simp)
    simp only [fileH, e1] at q1 q3
    have hWl : (w :: ws).length ≤ 1000 := by simp; omega
    cases hh : held (brGs gs w.c w.k) w.c w.k with
    | true =>
      rw [EL_unf, thr, if_pos hh]
      unfold thrS
      rw [hh] at q2
      generalize w :: ws = W at *
      simp (disch := omega) only [go_sem, h127l0, hn, e0, q1, q2, q3, q4, e1, tk, List.take_length, allLen_br, tk2, List.length_append, Nat.le_refl]
      unfold fileH
      rw [e1]
    | false =>
      have ih := thr_key hG ws (did (brGs gs w.c w.k) w.c w.k) (b ++ brBs gs w.c w.k) (f ++ [w]) (Srt_did (Srt_br hs w.c w.k) w.c w.k) (fun x hx => hk x (List.mem_cons_of_mem _ hx)) (by omega) (by rw [List.length_append]; omega) (by rw [List.length_append]; simp; omega)
      have hr : rnK [0, 1, 0] 5 (EC (EV G (Tb (bs bb))) G h127l0 (thrS gs (w :: ws) b f)) = some (thrS (did (brGs gs w.c w.k) w.c w.k) ws (b ++ brBs gs w.c w.k) (f ++ [w])) := by
        unfold thrS thrH
        rw [hh] at q2
        generalize w :: ws = W at *
        simp (disch := omega) only [go_sem, h127l0, hn, e0, q1, q2, q3, q4, e1, tk, List.take_length, allLen_br, tk2, List.length_append, Nat.le_refl, List.map_append, List.length_cons, List.length_nil, List.map_cons, List.map_nil, Wt.e]
      rw [EL_unf, fnK_of hr, ih, thr, if_neg (by rw [hh]; simp)]
      simp only [List.append_assoc, List.cons_append, List.nil_append]
theorem thr_v (hG : G 0 = some alD) (gs : List Gr) (ws : List Wt) (hs : Srt gs) (hk : ∀ w ∈ ws, kOK w.k) (hl : gs.length + ws.length ≤ 1000) :
    EV G (Tb (bs bb)) 127 [.one (.ptr 0 0)] (fileH gs ws) = some (twoB (thr gs ws).2.2.1 (thr gs ws).2.2.2, fileH (thr gs ws).1 (thr gs ws).2.1) := by
  refine EV_run rfl ?_
  have q := thr_key (bb := bb) hG ws gs [] [] hs hk (by omega) (by simp; omega) (by simp; omega)
  rw [List.nil_append, List.nil_append] at q
  rw [← q]
  simp (disch := omega) only [go_sem, h127c, fileH]
  rfl
end
section
variable {G : Glob} {bb : Bool}
def opK (c : Int) : List Gr → Bool → List Gr → List Gr × Bool
  | O, b, [] => (O, b)
  | O, b, g :: gs => if b = false ∧ g.c > c then opK c (O ++ [⟨c, 0, 0⟩] ++ [g]) true gs else opK c (O ++ [g]) b gs
def opF (gs : List Gr) (c : Int) : List Gr := if (opK c [] false gs).2 = true then (opK c [] false gs).1 else (opK c [] false gs).1 ++ [⟨c, 0, 0⟩]
def opS (gs : List Gr) (ws : List Wt) (c : Int) (O : List Gr) (b : Bool) (k : Nat) : AS := ⟨(jk 1 (vi c :: .one (.ptr 0 0) :: jk 1 (.one (.ptr 1 0) :: .one (.ptr 2 0) :: vb b :: vi k :: jk 49 []))), [.box [.dc (.slc (gs.map Gr.e)), .dc (.slc (ws.map Wt.e))], .box [.dc (.raw (.slice none 0 0)), .dc (.raw (.slice none 0 0))], .box [.bld 3 O.length, .dc (.slc (ws.map Wt.e))], .arr 0 3 (O.map Gr.e)]⟩
theorem op_round (gs : List Gr) (ws : List Wt) (c : Int) (O : List Gr) (b : Bool) (k : Nat) (hl : gs.length ≤ 100000) (hk : k < gs.length) (hO : O.length ≤ 200000) (g : Gr) (hg : gs[k] = g) :
    rnK [1, 0, 1, 0, 0, 0] 4 (EC (EV G (Tb (bs bb))) G h182l0 (opS gs ws c O b k)) = some (if b = false ∧ g.c > c then opS gs ws c (O ++ [⟨c, 0, 0⟩] ++ [g]) true (k + 1) else opS gs ws c (O ++ [g]) b (k + 1)) := by
  have eg : (gs.map Gr.e)[k]? = some [ci g.c, ci g.l, ci g.t] := by rw [List.getElem?_map, List.getElem?_eq_getElem hk, hg]; rfl
  have tk : List.take (O.length + 1) (O.map Gr.e ++ [[ci c, ci 0, ci 0]]) = O.map Gr.e ++ [[ci c, ci 0, ci 0]] := List.take_of_length_le (by simp)
  unfold opS
  cases b with
  | true =>
    rw [if_neg (by simp)]
    simp only [List.length_append, List.length_cons, List.length_nil, List.map_append, List.map_cons, List.map_nil]
    simp (disch := omega) only [go_sem, h182l0, eg, List.take_length, allLen_gr, List.length_append, List.length_cons, List.length_nil]
    try rfl
  | false =>
    by_cases h : g.c > c
    · rw [if_pos ⟨rfl, h⟩]
      simp only [List.length_append, List.length_cons, List.length_nil, List.map_append, List.map_cons, List.map_nil]
      simp (disch := omega) only [go_sem, h182l0, eg, h, tk, List.take_length, allLen_gr, List.length_append, List.length_cons, List.length_nil]
      try rfl
    · rw [if_neg (by simp [h])]
      simp only [List.length_append, List.length_cons, List.length_nil, List.map_append, List.map_cons, List.map_nil]
      simp (disch := omega) only [go_sem, h182l0, eg, h, tk, List.take_length, allLen_gr, List.length_append, List.length_cons, List.length_nil]
      try rfl
theorem op_loop (gs : List Gr) (ws : List Wt) (c : Int) (hl : gs.length ≤ 50000) : ∀ (rest : List Gr) (k : Nat) (O : List Gr) (b : Bool), gs.drop k = rest → k ≤ gs.length → O.length ≤ 2 * k →
    EL (EV G (Tb (bs bb))) G h182l0 [1, 0, 1, 0, 0, 0] 4 (opS gs ws c O b k) = EL (EV G (Tb (bs bb))) G h182l0 [1, 0, 1, 0, 0, 0] 4 (opS gs ws c (opK c O b rest).1 (opK c O b rest).2 gs.length)
  | [], k, O, b, hd, hk, hO => by
    have hkl : k = gs.length := by
      have := congrArg List.length hd
      simp at this; omega
    subst hkl
    rfl
  | g :: rest, k, O, b, hd, hk, hO => by
    have hkl : k < gs.length := by
      have := congrArg List.length hd
      simp at this; omega
    have ha : gs[k] = g := by
      have := List.drop_eq_getElem_cons hkl
      rw [hd] at this
      injection this with this _
      exact this.symm
    have hd' : gs.drop (k + 1) = rest := by
      have := List.drop_eq_getElem_cons hkl
      rw [hd] at this
      injection this with _ this
      exact this.symm
    have hr := op_round (G := G) (bb := bb) gs ws c O b k (by omega) hkl (by omega) g ha
    rw [opK, EL_unf]
    by_cases h : b = false ∧ g.c > c
    · rw [if_pos h] at hr ⊢
      rw [fnK_of hr]
      exact op_loop gs ws c hl rest (k + 1) _ _ hd' (by omega) (by simp; omega)
    · rw [if_neg h] at hr ⊢
      rw [fnK_of hr]
      exact op_loop gs ws c hl rest (k + 1) _ _ hd' (by omega) (by simp; omega)
theorem opK_len (c : Int) : ∀ (gs : List Gr) (O : List Gr) (b : Bool), (opK c O b gs).1.length ≤ O.length + 2 * gs.length
  | [], O, b => by simp [opK]
  | g :: gs, O, b => by
    rw [opK]
    split
    · have := opK_len c gs (O ++ [⟨c, 0, 0⟩] ++ [g]) true
      simp at this ⊢; omega
    · have := opK_len c gs (O ++ [g]) b
      simp at this ⊢; omega
theorem op_all {st : AS} (gs : List Gr) (ws : List Wt) (c : Int) (hl : gs.length ≤ 50000) (h0 : st = opS gs ws c [] false 0) :
    EL (EV G (Tb (bs bb))) G h182l0 [1, 0, 1, 0, 0, 0] 4 st = EL (EV G (Tb (bs bb))) G h182l0 [1, 0, 1, 0, 0, 0] 4 (opS gs ws c (opK c [] false gs).1 (opK c [] false gs).2 gs.length) := by
  subst h0
  exact op_loop gs ws c hl gs 0 [] false rfl (by omega) (by simp)
theorem opened_v (gs : List Gr) (ws : List Wt) (c : Int) (hl : gs.length ≤ 50000) : EV G (Tb (bs bb)) 182 [flV gs ws, vi c] [] = some (flV (opF gs c) ws, []) := by
  refine EV_run rfl ?_
  have ln := opK_len c gs [] false
  simp only [List.length_nil] at ln
  simp (disch := omega) only [go_sem, h182c]
  rw [op_all gs ws c hl ?_]
  rotate_left
  · rfl
  unfold opF
  generalize opK c [] false gs = r at *
  obtain ⟨O, b⟩ := r
  have ln2 : O.length ≤ 100000 := by simp only at ln; omega
  rw [EL_unf]
  unfold opS
  cases b with
  | true =>
    rw [if_pos rfl]
    simp (disch := omega) only [go_sem, h182l0, List.take_length, allLen_gr]
    try rfl
  | false =>
    rw [if_neg (by simp)]
    have tk : List.take (O.length + 1) (O.map Gr.e ++ [[ci c, ci 0, ci 0]]) = O.map Gr.e ++ [[ci c, ci 0, ci 0]] := List.take_of_length_le (by simp)
    simp only [List.map_append, List.map_cons, List.map_nil]
    simp (disch := omega) only [go_sem, h182l0, tk, List.take_length, allLen_gr, List.length_append, List.length_cons, List.length_nil]
    show _ = some (AV.agg [.dc (.slc ((O ++ [Gr.mk c 0 0]).map Gr.e)), .dc (.slc (ws.map Wt.e))], ([] : List AObj))
    rw [List.map_append]
    rfl
def didF (gs : List Gr) (c k : Int) : List Gr := if k = 0 then opF gs c else gs
theorem rdid_v (gs : List Gr) (ws : List Wt) (c k : Int) (hl : gs.length ≤ 50000) : EV G (Tb (bs bb)) 138 [flV gs ws, vi c, vi k] [] = some (flV (didF gs c k) ws, []) := by
  refine EV_run rfl ?_
  have q := opened_v (G := G) (bb := bb) gs ws c hl
  unfold didF
  by_cases h : k = 0
  · rw [if_pos h]
    simp (disch := omega) only [go_sem, h138c, q, eq_true h]
    try rfl
  · rw [if_neg h]
    simp (disch := omega) only [go_sem, h138c, h]
    try rfl
end
section
theorem opK_true (c : Int) : ∀ (gs O : List Gr), opK c O true gs = (O ++ gs, true)
  | [], O => by simp [opK]
  | g :: gs, O => by rw [opK, if_neg (by simp), opK_true c gs]; simp
theorem opK_false (c : Int) : ∀ (gs O : List Gr), Srt gs → isIn gs c = false → opK c O false gs = (if pos gs c < gs.length then O ++ insG gs c else O ++ gs, decide (pos gs c < gs.length))
  | [], O, _, _ => by simp [opK, pos]
  | g :: gs, O, hs, hi => by
    have hs2 : Srt gs := (List.pairwise_cons.1 hs).2
    have h1 := (List.pairwise_cons.1 hs).1
    have hi2 : g.c ≠ c ∧ isIn gs c = false := by
      unfold isIn at hi ⊢
      rw [List.any_cons, Bool.or_eq_false_iff] at hi
      exact ⟨by simpa using hi.1, hi.2⟩
    rw [opK]
    by_cases h : g.c > c
    · rw [if_pos ⟨rfl, h⟩, opK_true]
      have hp : pos (g :: gs) c = 0 := by
        unfold pos
        rw [List.countP_eq_zero]
        intro x hx
        rcases List.mem_cons.1 hx with rfl | hx
        · simp; omega
        · have := h1 x hx
          simp; omega
      rw [hp, if_pos (by simp), insG, hp]
      simp
    · rw [if_neg (by simp [h]), opK_false c gs _ hs2 hi2.2]
      have hlt : g.c < c := by have := hi2.1; omega
      have hp : pos (g :: gs) c = pos gs c + 1 := by
        unfold pos
        rw [List.countP_cons_of_pos (by simpa using hlt)]
      rw [hp]
      simp only [List.length_cons, Nat.add_lt_add_iff_right, insG, hp]
      by_cases hq : pos gs c < gs.length
      · simp [hq]
      · simp [hq]
theorem opF_ins {gs : List Gr} (hs : Srt gs) {c : Int} (hi : isIn gs c = false) : opF gs c = insG gs c := by
  unfold opF
  rw [opK_false c gs [] hs hi]
  by_cases hq : pos gs c < gs.length
  · simp [hq]
  · have e : pos gs c = gs.length := by have := pos_le gs c; omega
    simp [hq, insG, e]
theorem didF_did {gs : List Gr} (hs : Srt gs) {c k : Int} (hi : k = 0 → isIn gs c = false) : didF gs c k = did gs c k := by
  unfold didF did
  by_cases h : k = 0
  · rw [if_pos h, if_pos ⟨h, hi h⟩, opF_ins hs (hi h)]
  · rw [if_neg h, if_neg (fun h2 => h h2.1)]
end
end Go.Proofs.YtinageiefahjfaaGreatDoor
