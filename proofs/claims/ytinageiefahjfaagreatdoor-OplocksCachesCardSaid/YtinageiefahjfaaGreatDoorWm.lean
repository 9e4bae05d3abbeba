/- The reference: Step of acts that are held up. Conditions: none. -/
import Derived.Test.YtinageiefahjfaaGreatDoorVc
import Derived.Test.YtinageiefahjfaaGreatDoorUm
import Derived.Test.YtinageiefahjfaaGreatDoorUs
namespace Go.Proofs.YtinageiefahjfaaGreatDoor
set_option linter.unusedSimpArgs false
set_option linter.unusedVariables false
set_option maxRecDepth 4000
section
variable {G : Glob} {bb : Bool}
theorem any_ix {α : Type} (p : α → Bool) (l : List α) (z : α) (k : Nat) (hp : k = l.length ∨ (k < l.length ∧ p (l.getD k z) = true)) (hn : ∀ j, j < k → ¬ p (l.getD j z) = true) : l.any p = decide (k < l.length) := by
  rcases hp with rfl | ⟨hk, hp⟩
  · rw [decide_eq_false (by omega), List.any_eq_false]
    intro x hx
    obtain ⟨j, hj, rfl⟩ := List.getElem_of_mem hx
    have := hn j hj
    rwa [getDz l z j hj] at this
  · rw [decide_eq_true hk, List.any_eq_true]
    rw [getDz l z k hk] at hp
    exact ⟨_, List.getElem_mem hk, hp⟩
theorem rwaits_v (k : Int) : EV G (Tb (bs bb)) 76 [vi k] [] = some (vb (isUs k), []) := by
  refine EV_run rfl ?_
  by_cases h1 : k = 0
  · simp (disch := omega) only [go_sem, h76c]
    simp [isUs, h1]
  · by_cases h2 : k = 2
    · simp (disch := omega) only [go_sem, h76c]
      simp [isUs, h2]
    · simp (disch := omega) only [go_sem, h76c]
      simp [isUs, h1, h2]
def hlP (c k : Int) (g : Gr) : Bool := decide (g.c ≠ c) && decide (g.l > al k)
theorem rheld_v (gs : List Gr) (ws : List Wt) (c k : Int) (hl : gs.length ≤ 100000) : EV G (Tb (bs bb)) 60 [flV gs ws, vi c, vi k] [] = some (vb (held gs c k), []) := by
  refine EV_run rfl ?_
  simp (disch := omega) only [go_sem, h60c]
  rw [EL_fst (fun j => ⟨(jk 1 (vi c :: vi k :: .one (.ptr 0 0) :: jk 3 (vi j :: jk 26 []))), [.box [.dc (.slc (gs.map Gr.e)), .dc (.slc (ws.map Wt.e))]]⟩) (fun j => hlP c k (gs.getD j ⟨0, 0, 0⟩) = true) gs.length ?_ ?_]
  rotate_left
  · rfl
  · intro j hj hn
    have h3 := hn j (Nat.le_refl _)
    rw [getDz gs _ j hj] at h3
    have eg : (gs.map Gr.e)[j]? = some [ci gs[j].c, ci gs[j].l, ci gs[j].t] := by rw [List.getElem?_map, List.getElem?_eq_getElem hj]; rfl
    generalize gs[j] = g at *
    unfold hlP at h3
    by_cases h1 : g.c = c
    · simp (disch := omega) only [go_sem, h60l0, eg, eq_true h1]
    · have h2 : ¬ g.l > al k := by simpa [h1] using h3
      simp (disch := omega) only [go_sem, h60l0, eg, h1, h2, rallows_v]
  obtain ⟨hk, hp, hn⟩ := ix_spec (fun j => hlP c k (gs.getD j ⟨0, 0, 0⟩) = true) gs.length
  generalize ix (fun j => hlP c k (gs.getD j ⟨0, 0, 0⟩) = true) gs.length = j at *
  have e : held gs c k = decide (j < gs.length) := any_ix (hlP c k) gs ⟨0, 0, 0⟩ j hp hn
  rw [e]
  rcases hp with rfl | ⟨hj, hp⟩
  · rw [decide_eq_false (by omega)]
    simp (disch := omega) only [go_sem, h60l0]
  · rw [decide_eq_true hj]
    rw [getDz gs _ j hj] at hp
    have eg : (gs.map Gr.e)[j]? = some [ci gs[j].c, ci gs[j].l, ci gs[j].t] := by rw [List.getElem?_map, List.getElem?_eq_getElem hj]; rfl
    generalize gs[j] = g at *
    unfold hlP at hp
    simp only [Bool.and_eq_true, decide_eq_true_eq] at hp
    obtain ⟨h1, h2⟩ := hp
    simp (disch := omega) only [go_sem, h60l0, eg, h1, h2, rallows_v]
noncomputable def atI (gs : List Gr) (c : Int) : Int := idxG (fun g => decide (g.c = c)) gs ⟨0, 0, 0⟩
noncomputable def wtI (ws : List Wt) (c : Int) : Int := idxG (fun g => decide (g.c = c)) ws ⟨0, 0⟩
theorem atI_in (gs : List Gr) (c : Int) : decide (0 ≤ atI gs c) = isIn gs c := idxG_pos _ _ _
theorem wtI_in (ws : List Wt) (c : Int) : decide (0 ≤ wtI ws c) = isW ws c := idxG_pos _ _ _
theorem rat_v (gs : List Gr) (ws : List Wt) (c : Int) (hl : gs.length ≤ 100000) : EV G (Tb (bs bb)) 33 [flV gs ws, vi c] [] = some (vi (atI gs c), []) := by
  refine EV_run rfl ?_
  simp (disch := omega) only [go_sem, h33c]
  unfold atI idxG
  rw [EL_fst (fun j => ⟨(jk 1 (vi c :: .one (.ptr 0 0) :: jk 2 (vi j :: jk 16 []))), [.box [.dc (.slc (gs.map Gr.e)), .dc (.slc (ws.map Wt.e))]]⟩) (fun j => decide ((gs.getD j ⟨0, 0, 0⟩).c = c) = true) gs.length ?_ ?_]
  rotate_left
  · rfl
  · intro j hj hn
    have h3 := hn j (Nat.le_refl _)
    rw [getDz gs _ j hj] at h3
    have eg : (gs.map Gr.e)[j]? = some [ci gs[j].c, ci gs[j].l, ci gs[j].t] := by rw [List.getElem?_map, List.getElem?_eq_getElem hj]; rfl
    generalize gs[j] = g at *
    have h1 : ¬ g.c = c := by simpa using h3
    simp (disch := omega) only [go_sem, h33l0, eg, h1]
  obtain ⟨hk, hp, hn⟩ := ix_spec (fun j => decide ((gs.getD j ⟨0, 0, 0⟩).c = c) = true) gs.length
  generalize ix (fun j => decide ((gs.getD j ⟨0, 0, 0⟩).c = c) = true) gs.length = j at *
  rcases hp with rfl | ⟨hj, hp⟩
  · rw [if_pos rfl]
    simp (disch := omega) only [go_sem, h33l0]
  · rw [if_neg (by omega)]
    rw [getDz gs _ j hj] at hp
    have eg : (gs.map Gr.e)[j]? = some [ci gs[j].c, ci gs[j].l, ci gs[j].t] := by rw [List.getElem?_map, List.getElem?_eq_getElem hj]; rfl
    generalize gs[j] = g at *
    have h1 : g.c = c := by simpa using hp
    simp (disch := omega) only [go_sem, h33l0, eg, eq_true h1]
theorem rwaiting_v (gs : List Gr) (ws : List Wt) (c : Int) (hl : ws.length ≤ 100000) : EV G (Tb (bs bb)) 122 [flV gs ws, vi c] [] = some (vi (wtI ws c), []) := by
  refine EV_run rfl ?_
  simp (disch := omega) only [go_sem, h122c]
  unfold wtI idxG
  rw [EL_fst (fun j => ⟨(jk 1 (vi c :: .one (.ptr 0 0) :: jk 2 (vi j :: jk 16 []))), [.box [.dc (.slc (gs.map Gr.e)), .dc (.slc (ws.map Wt.e))]]⟩) (fun j => decide ((ws.getD j ⟨0, 0⟩).c = c) = true) ws.length ?_ ?_]
  rotate_left
  · rfl
  · intro j hj hn
    have h3 := hn j (Nat.le_refl _)
    rw [getDz ws _ j hj] at h3
    have eg : (ws.map Wt.e)[j]? = some [ci ws[j].c, ci ws[j].k] := by rw [List.getElem?_map, List.getElem?_eq_getElem hj]; rfl
    generalize ws[j] = g at *
    have h1 : ¬ g.c = c := by simpa using h3
    simp (disch := omega) only [go_sem, h122l0, eg, h1]
  obtain ⟨hk, hp, hn⟩ := ix_spec (fun j => decide ((ws.getD j ⟨0, 0⟩).c = c) = true) ws.length
  generalize ix (fun j => decide ((ws.getD j ⟨0, 0⟩).c = c) = true) ws.length = j at *
  rcases hp with rfl | ⟨hj, hp⟩
  · rw [if_pos rfl]
    simp (disch := omega) only [go_sem, h122l0]
  · rw [if_neg (by omega)]
    rw [getDz ws _ j hj] at hp
    have eg : (ws.map Wt.e)[j]? = some [ci ws[j].c, ci ws[j].k] := by rw [List.getElem?_map, List.getElem?_eq_getElem hj]; rfl
    generalize ws[j] = g at *
    have h1 : g.c = c := by simpa using hp
    simp (disch := omega) only [go_sem, h122l0, eg, eq_true h1]
end
section
variable {G : Glob} {bb : Bool}
end
section
variable {G : Glob} {bb : Bool}
end
section
variable {G : Glob} {bb : Bool}
theorem usErr_n (gs : List Gr) (ws : List Wt) (a : Ac) : usErr gs ws a = if wi a.k 0 5 = false then 15 else if (isCl a.c && lvOK a) = false then 2 else if isW ws a.c = true then 18 else if (decide (a.k ≠ 0) || !isIn gs a.c) = false then 5 else if (decide (a.k = 0) || isIn gs a.c) = false then 6 else 0 := by
  unfold usErr wi
  cases decide (0 ≤ a.k ∧ a.k ≤ 5) <;> cases isCl a.c && lvOK a <;> cases isW ws a.c <;> cases decide (a.k ≠ 0) || !isIn gs a.c <;> cases decide (a.k = 0) || isIn gs a.c <;> rfl
def fmE (a : Ac) : Int := if wi a.k 0 5 = false then 15 else if (isCl a.c && lvOK a) = false then 2 else 0
theorem rform_v (a : Ac) : EV G (Tb (bs bb)) 180 [a.v] [] = some (vi (fmE a), []) := by
  refine EV_run rfl ?_
  unfold fmE
  cases h1 : wi a.k 0 5 with
  | false =>
    simp (disch := omega) only [go_sem, h180c, rwithin_v, h1]
    try rfl
  | true =>
    cases h2 : isCl a.c with
    | false =>
      by_cases h3 : a.k = 1
      · simp (disch := omega) only [go_sem, h180c, rwithin_v, rclient_v, h1, h2, eq_true h3]
        try rfl
      · simp (disch := omega) only [go_sem, h180c, rwithin_v, rclient_v, h1, h2, h3]
        try rfl
    | true =>
      unfold lvOK
      by_cases h3 : a.k = 1
      · rw [if_pos h3]
        have e : decide (1 ≤ a.l ∧ a.l ≤ 3) = wi a.l 1 3 := rfl
        rw [e]
        cases h4 : wi a.l 1 3 with
        | false =>
          simp (disch := omega) only [go_sem, h180c, rwithin_v, rclient_v, h1, h2, eq_true h3, h4]
          try rfl
        | true =>
          simp (disch := omega) only [go_sem, h180c, rwithin_v, rclient_v, h1, h2, eq_true h3, h4]
          try rfl
      · rw [if_neg h3]
        by_cases h4 : a.l = 0
        · rw [decide_eq_true h4]
          simp (disch := omega) only [go_sem, h180c, rwithin_v, rclient_v, h1, h2, h3, eq_true h4]
          try rfl
        · rw [decide_eq_false h4]
          simp (disch := omega) only [go_sem, h180c, rwithin_v, rclient_v, h1, h2, h3, h4]
          try rfl
theorem rpresent_v (gs : List Gr) (ws : List Wt) (a : Ac) (hl : gs.length ≤ 100000) (hw : ws.length ≤ 100000) : EV G (Tb (bs bb)) 134 [flV gs ws, a.v] [] = some (vi (usErr gs ws a), []) := by
  refine EV_run rfl ?_
  have q1 := rform_v (G := G) (bb := bb) a
  have q2 := rwaiting_v (G := G) (bb := bb) gs ws a.c hw
  have q3 := rat_v (G := G) (bb := bb) gs ws a.c hl
  have e1 := wtI_in ws a.c
  have e2 := atI_in gs a.c
  rw [usErr_n]
  by_cases h0 : fmE a = 0
  · have h1 : wi a.k 0 5 = true ∧ (isCl a.c && lvOK a) = true := by
      unfold fmE at h0
      cases h1 : wi a.k 0 5 <;> cases h2 : isCl a.c && lvOK a <;> simp [h1, h2] at h0 <;> simp
    rw [h0] at q1
    rw [h1.1, h1.2, if_neg (by simp), if_neg (by simp)]
    rw [← e1, ← e2]
    generalize wtI ws a.c = w at *
    generalize atI gs a.c = i at *
    by_cases hw0 : w ≥ 0
    · rw [if_pos (by simpa using hw0)]
      simp (disch := omega) only [go_sem, h134c, q1, q2, q3, hw0]
      try rfl
    · rw [if_neg (by simpa using hw0)]
      by_cases hk : a.k = 0
      · by_cases hi : i ≥ 0
        · have hi' : ¬ i < 0 := by omega
          have hi2 : decide (0 ≤ i) = true := by simpa using hi
          rw [hi2, if_pos (by simp [hk])]
          simp (disch := omega) only [go_sem, h134c, q1, q2, q3, hw0, eq_true hk, hi, hi']
          try rfl
        · have hi' : i < 0 := by omega
          have hi2 : decide (0 ≤ i) = false := by simpa using hi
          rw [hi2, if_neg (by simp), if_neg (by simp [hk])]
          simp (disch := omega) only [go_sem, h134c, q1, q2, q3, hw0, eq_true hk, hi, hi']
          try rfl
      · by_cases hi : i ≥ 0
        · have hi' : ¬ i < 0 := by omega
          have hi2 : decide (0 ≤ i) = true := by simpa using hi
          rw [hi2, if_neg (by simp [hk]), if_neg (by simp)]
          simp (disch := omega) only [go_sem, h134c, q1, q2, q3, hw0, hk, hi, hi']
          try rfl
        · have hi' : i < 0 := by omega
          have hi2 : decide (0 ≤ i) = false := by simpa using hi
          rw [hi2, if_neg (by simp), if_pos (by simp [hk])]
          simp (disch := omega) only [go_sem, h134c, q1, q2, q3, hw0, hk, hi, hi']
          try rfl
  · have h1 : (if wi a.k 0 5 = false then (15 : Int) else if (isCl a.c && lvOK a) = false then 2 else if isW ws a.c = true then 18 else if (decide (a.k ≠ 0) || !isIn gs a.c) = false then 5 else if (decide (a.k = 0) || isIn gs a.c) = false then 6 else 0) = fmE a := by
      unfold fmE at h0 ⊢
      cases h1 : wi a.k 0 5 <;> cases h2 : isCl a.c && lvOK a <;> simp [h1, h2] at h0 ⊢
    rw [h1]
    simp (disch := omega) only [go_sem, h134c, q1, h0]
    try rfl
end
section
variable {G : Glob} {bb : Bool}
def gtP (a : Ac) (g : Gr) : Bool := decide (g.c ≠ a.c) && (decide (a.l = 1 ∧ g.l > 1) || decide (a.l = 2 ∧ g.l > 0) || decide (a.l = 3))
theorem mayH_any (gs : List Gr) (ws : List Wt) (a : Ac) (h : 1 ≤ a.l ∧ a.l ≤ 3) : mayH gs ws a = if ws.length > 0 then false else !gs.any (gtP a) := by
  unfold mayH othG
  split
  · rfl
  · by_cases h3 : a.l = 3
    · rw [if_pos h3]
      have e : gs.any (gtP a) = gs.any fun g => decide (g.c ≠ a.c) := by
        congr 1; funext g; simp [gtP, h3]
      rw [e]
      cases hb : gs.any fun g => decide (g.c ≠ a.c) with
      | true =>
        obtain ⟨g, hg, hp⟩ := List.any_eq_true.1 hb
        have : g ∈ gs.filter fun g => decide (g.c ≠ a.c) := List.mem_filter.2 ⟨hg, hp⟩
        have := List.length_pos_of_mem this
        simp only [Bool.not_true, decide_eq_false_iff_not]; omega
      | false =>
        have : gs.filter (fun g => decide (g.c ≠ a.c)) = [] := by
          rw [List.filter_eq_nil_iff]
          exact List.any_eq_false.1 hb
        rw [this]; rfl
    · rw [if_neg h3]
      by_cases h2 : a.l = 2
      · rw [if_pos h2]
        rw [List.any_filter]
        have e : (fun g : Gr => decide (g.c ≠ a.c) && decide (g.l > 0)) = gtP a := by
          funext g; simp [gtP, h2]
        rw [e]
      · rw [if_neg h2]
        have h1 : a.l = 1 := by omega
        rw [List.any_filter]
        have e : (fun g : Gr => decide (g.c ≠ a.c) && decide (g.l > 1)) = gtP a := by
          funext g; simp [gtP, h1]
        rw [e]
theorem rgrants_v (gs : List Gr) (ws : List Wt) (a : Ac) (hl : gs.length ≤ 100000) (hw : ws.length ≤ 100000) (h : 1 ≤ a.l ∧ a.l ≤ 3) : EV G (Tb (bs bb)) 137 [flV gs ws, a.v] [] = some (vb (mayH gs ws a), []) := by
  refine EV_run rfl ?_
  rw [mayH_any gs ws a h]
  by_cases hw0 : ws.length > 0
  · rw [if_pos hw0]
    have hw1 : (ws.length : Int) > 0 := by omega
    simp (disch := omega) only [go_sem, h137c, hw1]
    try rfl
  · rw [if_neg hw0]
    have hw1 : ¬ (ws.length : Int) > 0 := by omega
    simp (disch := omega) only [go_sem, h137c, hw1]
    rw [EL_fst (fun j => ⟨(jk 2 (.one (.ptr 0 0) :: .one (.ptr 1 0) :: jk 1 (vi j :: jk 45 []))), [.box [.dc (.slc (gs.map Gr.e)), .dc (.slc (ws.map Wt.e))], .box [.dc (ci a.k), .dc (ci a.c), .dc (ci a.l)]]⟩) (fun j => gtP a (gs.getD j ⟨0, 0, 0⟩) = true) gs.length ?_ ?_]
    rotate_left
    · rfl
    · intro j hj hn
      have h3 := hn j (Nat.le_refl _)
      rw [getDz gs _ j hj] at h3
      have eg : (gs.map Gr.e)[j]? = some [ci gs[j].c, ci gs[j].l, ci gs[j].t] := by rw [List.getElem?_map, List.getElem?_eq_getElem hj]; rfl
      generalize gs[j] = g at *
      unfold gtP at h3
      by_cases h1 : g.c = a.c
      · simp (disch := omega) only [go_sem, h137l0, eg, eq_true h1]
      · simp only [Bool.and_eq_true, Bool.or_eq_true, decide_eq_true_eq] at h3
        have h4 : ¬ a.l = 3 := fun h => h3 ⟨h1, .inr h⟩
        by_cases h5 : a.l = 1
        · have h6 : ¬ g.l > 1 := fun h => h3 ⟨h1, .inl (.inl ⟨h5, h⟩)⟩
          have h7 : ¬ a.l = 2 := by omega
          simp (disch := omega) only [go_sem, h137l0, eg, h1, eq_true h5, h6, h7, h4]
        · have h7 : a.l = 2 := by omega
          have h6 : ¬ g.l > 0 := fun h => h3 ⟨h1, .inl (.inr ⟨h7, h⟩)⟩
          simp (disch := omega) only [go_sem, h137l0, eg, h1, h5, h6, eq_true h7, h4]
    obtain ⟨hk, hp, hn⟩ := ix_spec (fun j => gtP a (gs.getD j ⟨0, 0, 0⟩) = true) gs.length
    generalize ix (fun j => gtP a (gs.getD j ⟨0, 0, 0⟩) = true) gs.length = j at *
    have e : gs.any (gtP a) = decide (j < gs.length) := any_ix (gtP a) gs ⟨0, 0, 0⟩ j hp hn
    rw [e]
    rcases hp with rfl | ⟨hj, hp⟩
    · rw [decide_eq_false (by omega)]
      simp (disch := omega) only [go_sem, h137l0]
      try rfl
    · rw [decide_eq_true hj]
      rw [getDz gs _ j hj] at hp
      have eg : (gs.map Gr.e)[j]? = some [ci gs[j].c, ci gs[j].l, ci gs[j].t] := by rw [List.getElem?_map, List.getElem?_eq_getElem hj]; rfl
      generalize gs[j] = g at *
      unfold gtP at hp
      simp only [Bool.and_eq_true, Bool.or_eq_true, decide_eq_true_eq] at hp
      obtain ⟨h1, h2⟩ := hp
      rcases h2 with (⟨h2, h3⟩ | ⟨h2, h3⟩) | h2
      · simp (disch := omega) only [go_sem, h137l0, eg, h1, eq_true h2, h3]
        try rfl
      · have h4 : ¬ a.l = 1 := by omega
        simp (disch := omega) only [go_sem, h137l0, eg, h1, h4, eq_true h2, h3]
        try rfl
      · have h4 : ¬ a.l = 1 := by omega
        have h5 : ¬ a.l = 2 := by omega
        simp (disch := omega) only [go_sem, h137l0, eg, h1, h4, h5, eq_true h2]
        try rfl
theorem at_pos {gs : List Gr} (hs : Srt gs) {c : Int} (h : isIn gs c = true) : atI gs c = pos gs c := by
  obtain ⟨hk, he⟩ := (isIn_iff hs c).1 h
  unfold atI idxG
  obtain ⟨hk1, hp, hn⟩ := ix_spec (fun j => decide ((gs.getD j ⟨0, 0, 0⟩).c = c) = true) gs.length
  generalize ix (fun j => decide ((gs.getD j ⟨0, 0, 0⟩).c = c) = true) gs.length = j at *
  have hj : ¬ pos gs c < j := fun hlt => by
    have := hn _ hlt
    rw [getDz gs _ _ hk] at this
    simp [he] at this
  rcases hp with rfl | ⟨hj2, hp⟩
  · exact absurd hk hj
  · rw [if_neg (by omega)]
    rw [getDz gs _ j hj2] at hp
    have hp : gs[j].c = c := by simpa using hp
    have : ¬ j < pos gs c := fun hlt => by
      have := (pos_iff hs c j hj2).2 hlt
      omega
    have : j = pos gs c := by omega
    rw [this]
end
section
variable {G : Glob} {bb : Bool}
set_option maxHeartbeats 2000000 in
theorem racErr_v (gs : List Gr) (ws : List Wt) (a : Ac) (hs : Srt gs) (hl : gs.length ≤ 100000) (hw : ws.length ≤ 100000) : EV G (Tb (bs bb)) 73 [flV gs ws, a.v] [] = some (vi (acErr gs ws a), []) := by
  refine EV_run rfl ?_
  have q1 := rpresent_v (G := G) (bb := bb) gs ws a hl hw
  unfold acErr
  by_cases h0 : usErr gs ws a = 0
  · rw [if_neg (by omega)]
    rw [h0] at q1
    obtain ⟨h1, h2, h3, h4, h5⟩ := us_ok h0
    have q3 := rat_v (G := G) (bb := bb) gs ws a.c hl
    have q4 := rwaits_v (G := G) (bb := bb) a.k
    cases hi : isIn gs a.c with
    | false =>
      have hk : a.k = 0 := h5.2 hi
      have e2 := atI_in gs a.c
      rw [hi] at e2
      have e3 : ¬ atI gs a.c ≥ 0 := by simpa using e2
      have us : isUs a.k = true := by simp [isUs, hk]
      rw [us] at q4 ⊢
      rw [if_neg (by simp), if_neg (by omega)]
      generalize atI gs a.c = i at *
      by_cases h8 : ws.length = 8
      · have h9 : (ws.length : Int) = 8 := by omega
        rw [if_pos ⟨rfl, h8⟩]
        simp (disch := omega) only [go_sem, h73c, q1, q3, q4, e3, eq_true hk, eq_true h9]
        try rfl
      · have h9 : ¬ (ws.length : Int) = 8 := by omega
        rw [if_neg (by simp [h8])]
        simp (disch := omega) only [go_sem, h73c, q1, q3, q4, e3, eq_true hk, h9]
        try rfl
    | true =>
      have hk : ¬ a.k = 0 := fun h => by
        have := h5.1 h
        rw [hi] at this; cases this
      rw [at_pos hs hi] at q3
      obtain ⟨hp, hc⟩ := (isIn_iff hs a.c).1 hi
      have eg : (gs.map Gr.e)[pos gs a.c]? = some [ci (grE gs a.c).c, ci (grE gs a.c).l, ci (grE gs a.c).t] := by
        rw [List.getElem?_map, List.getElem?_eq_getElem hp, grE, getDz gs _ _ hp]; rfl
      have hpl := pos_le gs a.c
      generalize grE gs a.c = g at *
      generalize hpn : pos gs a.c = p at *
      have g0 : (p : Int) ≥ 0 := by omega
      unfold wrong
      by_cases k4 : a.k = 4
      · have k1 : ¬ a.k = 1 := by omega
        have us : isUs a.k = false := by simp [isUs, k4]
        rw [us] at q4 ⊢
        rw [if_pos k4]
        by_cases ht : g.t = g.l
        · rw [if_pos ⟨rfl, by simp [ht]⟩]
          simp (disch := omega) only [go_sem, h73c, q1, q3, g0, eg, eq_true k4, eq_true ht]
          try rfl
        · rw [if_neg (by simp [ht]), if_neg (by omega), if_neg (by simp)]
          simp (disch := omega) only [go_sem, h73c, q1, q3, q4, g0, eg, eq_true k4, ht]
          try rfl
      · rw [if_neg k4]
        by_cases k5 : a.k = 5
        · have us : isUs a.k = false := by simp [isUs, k5]
          rw [us] at q4 ⊢
          rw [if_pos k5, if_neg (by simp), if_neg (by omega), if_neg (by simp)]
          by_cases ht : g.t = g.l
          · simp (disch := omega) only [go_sem, h73c, q1, q3, q4, g0, eg, k4, eq_true k5, eq_true ht]
            try rfl
          · simp (disch := omega) only [go_sem, h73c, q1, q3, q4, g0, eg, k4, eq_true k5, ht]
            try rfl
        · rw [if_neg k5]
          by_cases k1 : a.k = 1
          · have us : isUs a.k = false := by simp [isUs, k1]
            have hlv : 1 ≤ a.l ∧ a.l ≤ 3 := by
              unfold lvOK at h3
              rw [if_pos k1] at h3
              simpa using h3
            have q5 := rgrants_v (G := G) (bb := bb) gs ws a hl hw hlv
            rw [us] at q4 ⊢
            rw [if_pos k1]
            by_cases ht : g.t = g.l
            · by_cases ha : a.l ≤ g.l
              · rw [if_pos ⟨rfl, by simp [ha]⟩]
                simp (disch := omega) only [go_sem, h73c, q1, q3, g0, eg, k4, eq_true k1, eq_true ht, ha]
                try rfl
              · rw [if_neg (by simp [ht]; omega)]
                cases hm : mayH gs ws a with
                | false =>
                  rw [hm] at q5
                  rw [if_pos ⟨k1, rfl⟩]
                  simp (disch := omega) only [go_sem, h73c, q1, q3, q5, g0, eg, k4, eq_true k1, eq_true ht, ha]
                  try rfl
                | true =>
                  rw [hm] at q5
                  rw [if_neg (by simp), if_neg (by simp)]
                  simp (disch := omega) only [go_sem, h73c, q1, q3, q4, q5, g0, eg, k4, eq_true k1, eq_true ht, ha]
                  try rfl
            · rw [if_pos ⟨rfl, by simp [ht]⟩]
              simp (disch := omega) only [go_sem, h73c, q1, q3, g0, eg, k4, eq_true k1, ht]
              try rfl
          · rw [if_neg k1]
            have us : isUs a.k = true := by simp [isUs]; omega
            rw [us] at q4 ⊢
            have k2 : a.k = 2 ∨ a.k = 3 := by omega
            by_cases ht : g.t = g.l
            · rw [if_neg (by simp [ht]), if_neg (by omega)]
              by_cases h8 : ws.length = 8
              · have h9 : (ws.length : Int) = 8 := by omega
                rw [if_pos ⟨rfl, h8⟩]
                simp (disch := omega) only [go_sem, h73c, q1, q3, q4, g0, eg, k4, k1, eq_true ht, eq_true h9]
                try rfl
              · have h9 : ¬ (ws.length : Int) = 8 := by omega
                rw [if_neg (by simp [h8])]
                simp (disch := omega) only [go_sem, h73c, q1, q3, q4, g0, eg, k4, k1, eq_true ht, h9]
                try rfl
            · rw [if_pos ⟨rfl, by simp [ht]⟩]
              rcases k2 with k2 | k2
              · simp (disch := omega) only [go_sem, h73c, q1, q3, g0, eg, k4, k1, eq_true k2, ht]
                try rfl
              · have k2' : ¬ a.k = 2 := by omega
                simp (disch := omega) only [go_sem, h73c, q1, q3, g0, eg, k4, k1, k2', eq_true k2, ht]
                try rfl
  · rw [if_pos h0]
    simp (disch := omega) only [go_sem, h73c, q1, h0]
    try rfl
end
section
variable {G : Glob} {bb : Bool}
def opK (c : Int) : List Gr → Bool → List Gr → List Gr × Bool
  | O, b, [] => (O, b)
  | O, b, g :: gs => if b = false ∧ g.c > c then opK c (O ++ [⟨c, 0, 0⟩] ++ [g]) true gs else opK c (O ++ [g]) b gs
def opF (gs : List Gr) (c : Int) : List Gr := if (opK c [] false gs).2 = true then (opK c [] false gs).1 else (opK c [] false gs).1 ++ [⟨c, 0, 0⟩]
def opS (gs : List Gr) (ws : List Wt) (c : Int) (O : List Gr) (b : Bool) (k : Nat) : AS := ⟨(jk 1 (vi c :: .one (.ptr 0 0) :: jk 1 (.one (.ptr 1 0) :: .one (.ptr 2 0) :: vb b :: vi k :: jk 49 []))), [.box [.dc (.slc (gs.map Gr.e)), .dc (.slc (ws.map Wt.e))], .box [.dc (.raw (.slice none 0 0)), .dc (.raw (.slice none 0 0))], .box [.bld 3 O.length, .dc (.slc (ws.map Wt.e))], .arr 0 3 (O.map Gr.e)]⟩
theorem op_round (gs : List Gr) (ws : List Wt) (c : Int) (O : List Gr) (b : Bool) (k : Nat) (hl : gs.length ≤ 100000) (hk : k < gs.length) (hO : O.length ≤ 200000) (g : Gr) (hg : gs[k] = g) :
    rnK [1, 0, 1, 0, 0, 0] 4 (EC (EV G (Tb (bs bb))) G h182l0 (opS gs ws c O b k)) = some (if b = false ∧ g.c > c then opS gs ws c (O ++ [⟨c, 0, 0⟩] ++ [g]) true (k + 1) else opS gs ws c (O ++ [g]) b (k + 1)) := by
  have eg : (gs.map Gr.e)[k]? = some [ci g.c, ci g.l, ci g.t] := by rw [List.getElem?_map, List.getElem?_eq_getElem hk, hg]; rfl
  have tk : List.take (O.length + 1) (O.map Gr.e ++ [[ci c, ci 0, ci 0]]) = O.map Gr.e ++ [[ci c, ci 0, ci 0]] := List.take_of_length_le (by simp)
  unfold opS
  cases b with
  | true =>
    rw [if_neg (by simp)]
    simp only [List.length_append, List.length_cons, List.length_nil, List.map_append, List.map_cons, List.map_nil]
    simp (disch := omega) only [go_sem, h182l0, eg, List.take_length, allLen_gr, List.length_append, List.length_cons, List.length_nil]
    try rfl
  | false =>
    by_cases h : g.c > c
    · rw [if_pos ⟨rfl, h⟩]
      simp only [List.length_append, List.length_cons, List.length_nil, List.map_append, List.map_cons, List.map_nil]
      simp (disch := omega) only [go_sem, h182l0, eg, h, tk, List.take_length, allLen_gr, List.length_append, List.length_cons, List.length_nil]
      try rfl
    · rw [if_neg (by simp [h])]
      simp only [List.length_append, List.length_cons, List.length_nil, List.map_append, List.map_cons, List.map_nil]
      simp (disch := omega) only [go_sem, h182l0, eg, h, tk, List.take_length, allLen_gr, List.length_append, List.length_cons, List.length_nil]
      try rfl
theorem op_loop (gs : List Gr) (ws : List Wt) (c : Int) (hl : gs.length ≤ 50000) : ∀ (rest : List Gr) (k : Nat) (O : List Gr) (b : Bool), gs.drop k = rest → k ≤ gs.length → O.length ≤ 2 * k →
    EL (EV G (Tb (bs bb))) G h182l0 [1, 0, 1, 0, 0, 0] 4 (opS gs ws c O b k) = EL (EV G (Tb (bs bb))) G h182l0 [1, 0, 1, 0, 0, 0] 4 (opS gs ws c (opK c O b rest).1 (opK c O b rest).2 gs.length)
  | [], k, O, b, hd, hk, hO => by
    have hkl : k = gs.length := by
      have := congrArg List.length hd
      simp at this; omega
    subst hkl
    rfl
  | g :: rest, k, O, b, hd, hk, hO => by
    have hkl : k < gs.length := by
      have := congrArg List.length hd
      simp at this; omega
    have ha : gs[k] = g := by
      have := List.drop_eq_getElem_cons hkl
      rw [hd] at this
      injection this with this _
      exact this.symm
    have hd' : gs.drop (k + 1) = rest := by
      have := List.drop_eq_getElem_cons hkl
      rw [hd] at this
      injection this with _ this
      exact this.symm
    have hr := op_round (G := G) (bb := bb) gs ws c O b k (by omega) hkl (by omega) g ha
    rw [opK, EL_unf]
    by_cases h : b = false ∧ g.c > c
    · rw [if_pos h] at hr ⊢
      rw [fnK_of hr]
      exact op_loop gs ws c hl rest (k + 1) _ _ hd' (by omega) (by simp; omega)
    · rw [if_neg h] at hr ⊢
      rw [fnK_of hr]
      exact op_loop gs ws c hl rest (k + 1) _ _ hd' (by omega) (by simp; omega)
theorem opK_len (c : Int) : ∀ (gs : List Gr) (O : List Gr) (b : Bool), (opK c O b gs).1.length ≤ O.length + 2 * gs.length
  | [], O, b => by simp [opK]
  | g :: gs, O, b => by
    rw [opK]
    split
    · have := opK_len c gs (O ++ [⟨c, 0, 0⟩] ++ [g]) true
      simp at this ⊢; omega
    · have := opK_len c gs (O ++ [g]) b
      simp at this ⊢; omega
theorem op_all {st : AS} (gs : List Gr) (ws : List Wt) (c : Int) (hl : gs.length ≤ 50000) (h0 : st = opS gs ws c [] false 0) :
    EL (EV G (Tb (bs bb))) G h182l0 [1, 0, 1, 0, 0, 0] 4 st = EL (EV G (Tb (bs bb))) G h182l0 [1, 0, 1, 0, 0, 0] 4 (opS gs ws c (opK c [] false gs).1 (opK c [] false gs).2 gs.length) := by
  subst h0
  exact op_loop gs ws c hl gs 0 [] false rfl (by omega) (by simp)
theorem opened_v (gs : List Gr) (ws : List Wt) (c : Int) (hl : gs.length ≤ 50000) : EV G (Tb (bs bb)) 182 [flV gs ws, vi c] [] = some (flV (opF gs c) ws, []) := by
  refine EV_run rfl ?_
  have ln := opK_len c gs [] false
  simp only [List.length_nil] at ln
  simp (disch := omega) only [go_sem, h182c]
  rw [op_all gs ws c hl ?_]
  rotate_left
  · rfl
  unfold opF
  generalize opK c [] false gs = r at *
  obtain ⟨O, b⟩ := r
  have ln2 : O.length ≤ 100000 := by simp only at ln; omega
  rw [EL_unf]
  unfold opS
  cases b with
  | true =>
    rw [if_pos rfl]
    simp (disch := omega) only [go_sem, h182l0, List.take_length, allLen_gr]
    try rfl
  | false =>
    rw [if_neg (by simp)]
    have tk : List.take (O.length + 1) (O.map Gr.e ++ [[ci c, ci 0, ci 0]]) = O.map Gr.e ++ [[ci c, ci 0, ci 0]] := List.take_of_length_le (by simp)
    simp only [List.map_append, List.map_cons, List.map_nil]
    simp (disch := omega) only [go_sem, h182l0, tk, List.take_length, allLen_gr, List.length_append, List.length_cons, List.length_nil]
    show _ = some (AV.agg [.dc (.slc ((O ++ [Gr.mk c 0 0]).map Gr.e)), .dc (.slc (ws.map Wt.e))], ([] : List AObj))
    rw [List.map_append]
    rfl
def didF (gs : List Gr) (c k : Int) : List Gr := if k = 0 then opF gs c else gs
theorem rdid_v (gs : List Gr) (ws : List Wt) (c k : Int) (hl : gs.length ≤ 50000) : EV G (Tb (bs bb)) 138 [flV gs ws, vi c, vi k] [] = some (flV (didF gs c k) ws, []) := by
  refine EV_run rfl ?_
  have q := opened_v (G := G) (bb := bb) gs ws c hl
  unfold didF
  by_cases h : k = 0
  · rw [if_pos h]
    simp (disch := omega) only [go_sem, h138c, q, eq_true h]
    try rfl
  · rw [if_neg h]
    simp (disch := omega) only [go_sem, h138c, h]
    try rfl
end
section
theorem opK_true (c : Int) : ∀ (gs O : List Gr), opK c O true gs = (O ++ gs, true)
  | [], O => by simp [opK]
  | g :: gs, O => by rw [opK, if_neg (by simp), opK_true c gs]; simp
theorem opK_false (c : Int) : ∀ (gs O : List Gr), Srt gs → isIn gs c = false → opK c O false gs = (if pos gs c < gs.length then O ++ insG gs c else O ++ gs, decide (pos gs c < gs.length))
  | [], O, _, _ => by simp [opK, pos]
  | g :: gs, O, hs, hi => by
    have hs2 : Srt gs := (List.pairwise_cons.1 hs).2
    have h1 := (List.pairwise_cons.1 hs).1
    have hi2 : g.c ≠ c ∧ isIn gs c = false := by
      unfold isIn at hi ⊢
      rw [List.any_cons, Bool.or_eq_false_iff] at hi
      exact ⟨by simpa using hi.1, hi.2⟩
    rw [opK]
    by_cases h : g.c > c
    · rw [if_pos ⟨rfl, h⟩, opK_true]
      have hp : pos (g :: gs) c = 0 := by
        unfold pos
        rw [List.countP_eq_zero]
        intro x hx
        rcases List.mem_cons.1 hx with rfl | hx
        · simp; omega
        · have := h1 x hx
          simp; omega
      rw [hp, if_pos (by simp), insG, hp]
      simp
    · rw [if_neg (by simp [h]), opK_false c gs _ hs2 hi2.2]
      have hlt : g.c < c := by have := hi2.1; omega
      have hp : pos (g :: gs) c = pos gs c + 1 := by
        unfold pos
        rw [List.countP_cons_of_pos (by simpa using hlt)]
      rw [hp]
      simp only [List.length_cons, Nat.add_lt_add_iff_right, insG, hp]
      by_cases hq : pos gs c < gs.length
      · simp [hq]
      · simp [hq]
theorem opF_ins {gs : List Gr} (hs : Srt gs) {c : Int} (hi : isIn gs c = false) : opF gs c = insG gs c := by
  unfold opF
  rw [opK_false c gs [] hs hi]
  by_cases hq : pos gs c < gs.length
  · simp [hq]
  · have e : pos gs c = gs.length := by have := pos_le gs c; omega
    simp [hq, insG, e]
theorem didF_did {gs : List Gr} (hs : Srt gs) {c k : Int} (hi : k = 0 → isIn gs c = false) : didF gs c k = did gs c k := by
  unfold didF did
  by_cases h : k = 0
  · rw [if_pos h, if_pos ⟨h, hi h⟩, opF_ins hs (hi h)]
  · rw [if_neg h, if_neg (fun h2 => h h2.1)]
end
section
variable {G : Glob} {bb : Bool}
theorem rnX_M : ∀ (l : List Ac) (gs : List Gr) (ws : List Wt) (out : List An) (n : Nat), (∀ a ∈ l, True) → runM gs ws out n l = if (rnX gs ws out n l).2.2 = 0 then ((rnX gs ws out n l).1, ((n + l.length : Nat) : Int), 0) else (([], [], []), (rnX gs ws out n l).2)
  | [], gs, ws, out, n, _ => by rw [rnX, runM, if_pos rfl]; rfl
  | a :: l, gs, ws, out, n, _ => by
    rw [rnX, runM]
    by_cases he : acErr gs ws a = 0
    · rw [if_pos he, if_pos he, rnX_M l _ _ _ _ (fun _ _ => trivial), List.length_cons, show n + 1 + l.length = n + (l.length + 1) by omega]
    · rw [if_neg he, if_neg he, if_neg (by simpa using he)]
abbrev runV (r : (List Gr × List Wt × List An) × Int × Int) : AV := .tup [.agg [.dc (.slc (r.1.1.map Gr.e)), .dc (.slc (r.1.2.1.map Wt.e))], .one (.dc (.slc (r.1.2.2.map An.e))), .one (.dc (.raw (.int .i64 r.2.1))), .one (.dc (.raw (.int .i64 r.2.2)))]
set_option maxHeartbeats 1000000 in
theorem runOf_v (hG : G 0 = some alD) (l : List Ac) (hl : l.length ≤ 1000000) : EV G (Tb (bs bb)) 15 [acsV l] [] = some (runV (runF l), []) := by
  refine EV_run rfl ?_
  unfold runF
  by_cases h : l.length > 100
  · rw [if_pos h]
    simp (disch := omega) only [go_sem, h15c, h]
    try rfl
  · rw [if_neg h, rnX_M l [] [] [] 0 (fun _ _ => trivial)]
    have q := each61_v (bb := bb) hG l (by omega)
    generalize rnX [] [] [] 0 l = r at *
    obtain ⟨⟨gs, ws, out⟩, n, e⟩ := r
    simp only [runH, List.length_nil, List.map_nil] at q
    by_cases he : e = 0
    · subst he
      rw [if_pos rfl]
      simp (disch := omega) only [go_sem, h15c, h, evJ_6, q, List.take_length]
      rw [fvT_b (by rfl) (by simp)]
      simp (disch := omega) only [go_sem, List.take_length]
    · rw [if_neg (by simpa using he)]
      simp (disch := omega) only [go_sem, h15c, h, evJ_6, q, he]
      rfl
end
section
variable {G : Glob} {bb : Bool}
abbrev rspV (r : List Gr × List Wt × An) : AV := .tup [.agg [.dc (.slc (r.1.map Gr.e)), .dc (.slc (r.2.1.map Wt.e))], .agg [.dc (.raw (.bool r.2.2.d)), .dc (.slc (r.2.2.b.map Br.e)), .dc (.slc (r.2.2.f.map Wt.e))]]
set_option maxHeartbeats 2000000 in
theorem rstep_w (gs : List Gr) (w : Wt) (ws : List Wt) (a : Ac) (hl : gs.length ≤ 1000) (hw : ws.length ≤ 1000) (us : isUs a.k = true) :
    EV G (Tb (bs bb)) 74 [flV gs (w :: ws), a.v] [] = some (rspV (gs, (w :: ws) ++ [⟨a.c, a.k⟩], ⟨false, [], []⟩), []) := by
  refine EV_run rfl ?_
  have q := rcopy_v (G := G) (bb := bb) gs (w :: ws) (by omega) (by simp; omega)
  have q4 := rwaits_v (G := G) (bb := bb) a.k
  rw [us] at q4
  have hn : ¬ ((w :: ws).length : Int) = 0 := by simp; omega
  have hln : (w :: ws).length ≤ 1001 := by simp; omega
  have e1 : ((w :: ws) ++ [(⟨a.c, a.k⟩ : Wt)]).map Wt.e = (w :: ws).map Wt.e ++ [[ci a.c, ci a.k]] := by rw [List.map_append]; rfl
  rw [show rspV (gs, (w :: ws) ++ [⟨a.c, a.k⟩], ⟨false, [], []⟩) = .tup [.agg [.dc (.slc (gs.map Gr.e)), .dc (.slc ((w :: ws).map Wt.e ++ [[ci a.c, ci a.k]]))], .agg [.dc (.raw (.bool false)), .dc (.slc []), .dc (.slc [])]] from by rw [← e1]; rfl]
  generalize w :: ws = W at *
  have tk : List.take (W.length + 1) (W.map Wt.e ++ [[ci a.c, ci a.k]]) = W.map Wt.e ++ [[ci a.c, ci a.k]] := List.take_of_length_le (by simp)
  simp (disch := omega) only [go_sem, h74c, q, q4, hn, List.take_length, allLen_wt]
  rw [fvT_b (by rfl) (by simp)]
  simp (disch := omega) only [go_sem]
  rw [fvT_b (by rfl) (by simp)]
  simp (disch := omega) only [go_sem, tk, List.take_length, List.length_append, List.length_cons, List.length_nil]
  try rfl
end
section
variable {G : Glob} {bb : Bool}
set_option maxHeartbeats 2000000 in
theorem rstep_h (gs : List Gr) (a : Ac) (hl : gs.length ≤ 1000) (us : isUs a.k = true) (hh : held (brGs gs a.c a.k) a.c a.k = true) :
    EV G (Tb (bs bb)) 74 [flV gs [], a.v] [] = some (rspV (brGs gs a.c a.k, [⟨a.c, a.k⟩], ⟨false, brBs gs a.c a.k, []⟩), []) := by
  refine EV_run rfl ?_
  have q := rcopy_v (G := G) (bb := bb) gs [] (by omega) (by simp)
  have q1 := rbroken_v (G := G) (bb := bb) gs [] a.c a.k (by omega) (by simp)
  have q4 := rwaits_v (G := G) (bb := bb) a.k
  have e0 := brGs_len gs a.c a.k
  have q2 := rheld_v (G := G) (bb := bb) (brGs gs a.c a.k) [] a.c a.k (by omega)
  rw [us] at q4
  rw [hh] at q2
  simp only [brkH, flV, List.length_nil, List.map_nil] at q q1 q2
  generalize brGs gs a.c a.k = gs' at *
  generalize brBs gs a.c a.k = bs' at *
  have tg : List.take gs.length (gs'.map Gr.e) = gs'.map Gr.e := List.take_of_length_le (by simp; omega)
  have tb : List.take bs'.length (bs'.map Br.e) = bs'.map Br.e := List.take_of_length_le (by simp)
  simp (maxSteps := 1000000) (disch := omega) only [go_sem, h74c, q, q1, q2, q4, e0, tg, tb, List.take_length, List.length_nil, List.map_nil]
  rw [fvT_b (by rfl) (by simp)]
  simp (disch := omega) only [go_sem]
  rw [fvT_b (by rfl) (by simp)]
  simp (disch := omega) only [go_sem, tg, tb, List.take_length]
  try rfl
end
end Go.Proofs.YtinageiefahjfaaGreatDoor
