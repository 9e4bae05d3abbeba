/- The reference: the errors of clients and of acts that wait; the error of a file. Conditions: none. -/
import Derived.Test.YtinageiefahjfaaGreatDoorVc
namespace Go.Proofs.YtinageiefahjfaaGreatDoor
set_option linter.unusedSimpArgs false
set_option linter.unusedVariables false
set_option maxRecDepth 4000
section
variable {G : Glob} {bb : Bool}
theorem any_ix {α : Type} (p : α → Bool) (l : List α) (z : α) (k : Nat) (hp : k = l.length ∨ (k < l.length ∧ p (l.getD k z) = true)) (hn : ∀ j, j < k → ¬ p (l.getD j z) = true) : l.any p = decide (k < l.length) := by
  rcases hp with rfl | ⟨hk, hp⟩
  · rw [decide_eq_false (by omega), List.any_eq_false]
    intro x hx
    obtain ⟨j, hj, rfl⟩ := List.getElem_of_mem hx
    have := hn j hj
    rwa [getDz l z j hj] at this
  · rw [decide_eq_true hk, List.any_eq_true]
    rw [getDz l z k hk] at hp
    exact ⟨_, List.getElem_mem hk, hp⟩
theorem rwaits_v (k : Int) : EV G (Tb (bs bb)) 76 [vi k] [] = some (vb (isUs k), []) := by
  refine EV_run rfl ?_
  by_cases h1 : k = 0
  · simp (disch := omega) only [go_sem, h76c]
    simp [isUs, h1]
  · by_cases h2 : k = 2
    · simp (disch := omega) only [go_sem, h76c]
      simp [isUs, h2]
    · simp (disch := omega) only [go_sem, h76c]
      simp [isUs, h1, h2]
def hlP (c k : Int) (g : Gr) : Bool := decide (g.c ≠ c) && decide (g.l > al k)
theorem rheld_v (gs : List Gr) (ws : List Wt) (c k : Int) (hl : gs.length ≤ 100000) : EV G (Tb (bs bb)) 60 [flV gs ws, vi c, vi k] [] = some (vb (held gs c k), []) := by
  refine EV_run rfl ?_
  simp (disch := omega) only [go_sem, h60c]
  rw [EL_fst (fun j => ⟨(jk 1 (vi c :: vi k :: .one (.ptr 0 0) :: jk 3 (vi j :: jk 26 []))), [.box [.dc (.slc (gs.map Gr.e)), .dc (.slc (ws.map Wt.e))]]⟩) (fun j => hlP c k (gs.getD j ⟨0, 0, 0⟩) = true) gs.length ?_ ?_]
  rotate_left
  · rfl
  · intro j hj hn
    have h3 := hn j (Nat.le_refl _)
    rw [getDz gs _ j hj] at h3
    have eg : (gs.map Gr.e)[j]? = some [ci gs[j].c, ci gs[j].l, ci gs[j].t] := by rw [List.getElem?_map, List.getElem?_eq_getElem hj]; rfl
    generalize gs[j] = g at *
    unfold hlP at h3
    by_cases h1 : g.c = c
    · simp (disch := omega) only [go_sem, h60l0, eg, eq_true h1]
    · have h2 : ¬ g.l > al k := by simpa [h1] using h3
      simp (disch := omega) only [go_sem, h60l0, eg, h1, h2, rallows_v]
  obtain ⟨hk, hp, hn⟩ := ix_spec (fun j => hlP c k (gs.getD j ⟨0, 0, 0⟩) = true) gs.length
  generalize ix (fun j => hlP c k (gs.getD j ⟨0, 0, 0⟩) = true) gs.length = j at *
  have e : held gs c k = decide (j < gs.length) := any_ix (hlP c k) gs ⟨0, 0, 0⟩ j hp hn
  rw [e]
  rcases hp with rfl | ⟨hj, hp⟩
  · rw [decide_eq_false (by omega)]
    simp (disch := omega) only [go_sem, h60l0]
  · rw [decide_eq_true hj]
    rw [getDz gs _ j hj] at hp
    have eg : (gs.map Gr.e)[j]? = some [ci gs[j].c, ci gs[j].l, ci gs[j].t] := by rw [List.getElem?_map, List.getElem?_eq_getElem hj]; rfl
    generalize gs[j] = g at *
    unfold hlP at hp
    simp only [Bool.and_eq_true, decide_eq_true_eq] at hp
    obtain ⟨h1, h2⟩ := hp
    simp (disch := omega) only [go_sem, h60l0, eg, h1, h2, rallows_v]
noncomputable def atI (gs : List Gr) (c : Int) : Int := idxG (fun g => decide (g.c = c)) gs ⟨0, 0, 0⟩
noncomputable def wtI (ws : List Wt) (c : Int) : Int := idxG (fun g => decide (g.c = c)) ws ⟨0, 0⟩
theorem atI_in (gs : List Gr) (c : Int) : decide (0 ≤ atI gs c) = isIn gs c := idxG_pos _ _ _
theorem rat_v (gs : List Gr) (ws : List Wt) (c : Int) (hl : gs.length ≤ 100000) : EV G (Tb (bs bb)) 33 [flV gs ws, vi c] [] = some (vi (atI gs c), []) := by
  refine EV_run rfl ?_
  simp (disch := omega) only [go_sem, h33c]
  unfold atI idxG
  rw [EL_fst (fun j => ⟨(jk 1 (vi c :: .one (.ptr 0 0) :: jk 2 (vi j :: jk 16 []))), [.box [.dc (.slc (gs.map Gr.e)), .dc (.slc (ws.map Wt.e))]]⟩) (fun j => decide ((gs.getD j ⟨0, 0, 0⟩).c = c) = true) gs.length ?_ ?_]
  rotate_left
  · rfl
  · intro j hj hn
    have h3 := hn j (Nat.le_refl _)
    rw [getDz gs _ j hj] at h3
    have eg : (gs.map Gr.e)[j]? = some [ci gs[j].c, ci gs[j].l, ci gs[j].t] := by rw [List.getElem?_map, List.getElem?_eq_getElem hj]; rfl
    generalize gs[j] = g at *
    have h1 : ¬ g.c = c := by simpa using h3
    simp (disch := omega) only [go_sem, h33l0, eg, h1]
  obtain ⟨hk, hp, hn⟩ := ix_spec (fun j => decide ((gs.getD j ⟨0, 0, 0⟩).c = c) = true) gs.length
  generalize ix (fun j => decide ((gs.getD j ⟨0, 0, 0⟩).c = c) = true) gs.length = j at *
  rcases hp with rfl | ⟨hj, hp⟩
  · rw [if_pos rfl]
    simp (disch := omega) only [go_sem, h33l0]
  · rw [if_neg (by omega)]
    rw [getDz gs _ j hj] at hp
    have eg : (gs.map Gr.e)[j]? = some [ci gs[j].c, ci gs[j].l, ci gs[j].t] := by rw [List.getElem?_map, List.getElem?_eq_getElem hj]; rfl
    generalize gs[j] = g at *
    have h1 : g.c = c := by simpa using hp
    simp (disch := omega) only [go_sem, h33l0, eg, eq_true h1]
theorem rwaiting_v (gs : List Gr) (ws : List Wt) (c : Int) (hl : ws.length ≤ 100000) : EV G (Tb (bs bb)) 122 [flV gs ws, vi c] [] = some (vi (wtI ws c), []) := by
  refine EV_run rfl ?_
  simp (disch := omega) only [go_sem, h122c]
  unfold wtI idxG
  rw [EL_fst (fun j => ⟨(jk 1 (vi c :: .one (.ptr 0 0) :: jk 2 (vi j :: jk 16 []))), [.box [.dc (.slc (gs.map Gr.e)), .dc (.slc (ws.map Wt.e))]]⟩) (fun j => decide ((ws.getD j ⟨0, 0⟩).c = c) = true) ws.length ?_ ?_]
  rotate_left
  · rfl
  · intro j hj hn
    have h3 := hn j (Nat.le_refl _)
    rw [getDz ws _ j hj] at h3
    have eg : (ws.map Wt.e)[j]? = some [ci ws[j].c, ci ws[j].k] := by rw [List.getElem?_map, List.getElem?_eq_getElem hj]; rfl
    generalize ws[j] = g at *
    have h1 : ¬ g.c = c := by simpa using h3
    simp (disch := omega) only [go_sem, h122l0, eg, h1]
  obtain ⟨hk, hp, hn⟩ := ix_spec (fun j => decide ((ws.getD j ⟨0, 0⟩).c = c) = true) ws.length
  generalize ix (fun j => decide ((ws.getD j ⟨0, 0⟩).c = c) = true) ws.length = j at *
  rcases hp with rfl | ⟨hj, hp⟩
  · rw [if_pos rfl]
    simp (disch := omega) only [go_sem, h122l0]
  · rw [if_neg (by omega)]
    rw [getDz ws _ j hj] at hp
    have eg : (ws.map Wt.e)[j]? = some [ci ws[j].c, ci ws[j].k] := by rw [List.getElem?_map, List.getElem?_eq_getElem hj]; rfl
    generalize ws[j] = g at *
    have h1 : g.c = c := by simpa using hp
    simp (disch := omega) only [go_sem, h122l0, eg, eq_true h1]
end
section
variable {G : Glob} {bb : Bool}
abbrev vu (n : Int) : AV := .one (.dc (.raw (.int .u8 n)))
theorem dgc_v (a : Int) (ha : 0 ≤ a ∧ a ≤ 255) : EV G (Tb (bs bb)) 146 [vu a] [] = some (.tup [.one (.dc (ci (a - 48))), .one (.dc (.raw (.bool (dig a))))], []) := by
  refine EV_run rfl ?_
  unfold dig
  by_cases h1 : 48 ≤ a
  · by_cases h2 : a ≤ 57
    · rw [decide_eq_true (⟨h1, h2⟩ : 48 ≤ a ∧ a ≤ 57)]
      simp (disch := omega) only [go_sem, h146c, eq_true h1, eq_true h2]
    · rw [decide_eq_false (by omega : ¬ (48 ≤ a ∧ a ≤ 57))]
      simp (disch := omega) only [go_sem, h146c, eq_true h1, h2]
  · rw [decide_eq_false (by omega : ¬ (48 ≤ a ∧ a ≤ 57))]
    simp (disch := omega) only [go_sem, h146c, h1]
theorem grP_n {p : List Int} (h : p.length ≠ 5) : grP p = (⟨0, 0, 0⟩, false) := by
  unfold grP
  split
  · exact absurd rfl h
  · rfl
theorem wtP_n {p : List Int} (h : p.length ≠ 2) : wtP p = (⟨0, 0⟩, false) := by
  unfold wtP
  split
  · exact absurd rfl h
  · rfl
theorem byts_c {x : Int} {l : List Int} (h : Byts (x :: l)) : (0 ≤ x ∧ x ≤ 255) ∧ Byts l := ⟨h x List.mem_cons_self, fun y hy => h y (List.mem_cons_of_mem _ hy)⟩
theorem byts1 {x : Int} (h : 0 ≤ x ∧ x ≤ 255) : Byts [x] := fun y hy => by simp at hy; omega
theorem str1_eq {x y : Int} (h : 0 ≤ x ∧ x ≤ 255) (hy : 0 ≤ y ∧ y ≤ 255) : (str [x] = str [y]) = (x = y) := by
  rw [str_inj (byts1 h) (byts1 hy)]
  simp
abbrev grPV (r : Gr × Bool) : AV := .tup [.agg [.dc (ci r.1.c), .dc (ci r.1.l), .dc (ci r.1.t)], .one (.dc (.raw (.bool r.2)))]
abbrev wtPV (r : Wt × Bool) : AV := .tup [.agg [.dc (ci r.1.c), .dc (ci r.1.k)], .one (.dc (.raw (.bool r.2)))]
theorem grantIn_v (p : List Int) (hp : Byts p) (hl : p.length ≤ 1000) : EV G (Tb (bs bb)) 86 [sv p] [] = some (grPV (grP p), []) := by
  refine EV_run rfl ?_
  by_cases h5 : p.length = 5
  · match p, h5 with
    | [a, b, c, d, e], _ =>
      obtain ⟨ha, hp1⟩ := byts_c hp
      obtain ⟨hb, hp2⟩ := byts_c hp1
      obtain ⟨hc, hp3⟩ := byts_c hp2
      obtain ⟨hd, hp4⟩ := byts_c hp3
      obtain ⟨he, _⟩ := byts_c hp4
      have s1 : (str [a, b, c, d, e]).extract 1 2 = str [b] := by rw [str_ext]; rfl
      have s2 : (str [a, b, c, d, e]).extract 3 4 = str [d] := by rw [str_ext]; rfl
      have i1 : (str [a, b, c, d, e]).data.toList[0]? = some (u8 a) := by rw [str_data]; rfl
      have n1 : ((u8 a).toNat : Int) = a := u8_nat a ha
      have i2 : (str [a, b, c, d, e]).data.toList[2]? = some (u8 c) := by rw [str_data]; rfl
      have n2 : ((u8 c).toNat : Int) = c := u8_nat c hc
      have i3 : (str [a, b, c, d, e]).data.toList[4]? = some (u8 e) := by rw [str_data]; rfl
      have n3 : ((u8 e).toNat : Int) = e := u8_nat e he
      have q1 := dgc_v (G := G) (bb := bb) a ha
      have q2 := dgc_v (G := G) (bb := bb) c hc
      have q3 := dgc_v (G := G) (bb := bb) e he
      have e1 : (str [b] = str [58]) = (b = 58) := str1_eq hb (by omega)
      have e2 : (str [d] = str [62]) = (d = 62) := str1_eq hd (by omega)
      have sz : ((str [a, b, c, d, e]).size : Int) = 5 := by rw [str_size]; rfl
      simp only [grP]
      by_cases hb : b = 58
      · by_cases hd : d = 62
        · rw [if_pos ⟨hb, hd⟩]
          generalize dig a = da at *
          generalize dig c = dc at *
          generalize dig e = de at *
          cases da <;> cases dc <;> cases de
          all_goals
            simp (disch := omega) only [go_sem, h86c, Int.reduceToNat, s1, s2, i1, i2, i3, n1, n2, n3, q1, q2, q3, e1, e2, sz, c58, c62, eq_true hb, eq_true hd, Bool.and_true, Bool.and_false, Bool.true_and, Bool.false_and]
        · rw [if_neg (fun h => hd h.2)]
          simp (disch := omega) only [go_sem, h86c, Int.reduceToNat, s1, s2, i1, i2, i3, n1, n2, n3, q1, q2, q3, e1, e2, sz, c58, c62, eq_true hb, hd]
      · rw [if_neg (fun h => hb h.1)]
        simp (disch := omega) only [go_sem, h86c, Int.reduceToNat, s1, s2, i1, i2, i3, n1, n2, n3, q1, q2, q3, e1, e2, sz, c58, c62, hb]
  · rw [grP_n h5]
    have sz : ((str p).size : Int) = p.length := by rw [str_size]
    have h5' : ¬ (p.length : Int) = 5 := by omega
    simp (disch := omega) only [go_sem, h86c, sz, h5']
theorem fnK_nq {call : CallT} {a : HC} {L : List Nat} {m : Nat} {s : AS} : fnK call G a L m (some (.normal, s)) = EL call G a L m (trimA L m s) := rfl
theorem ltr0 : ltr 0 = [111] := rfl
theorem ltr2 : ltr 2 = [114] := rfl
theorem ltr3 : ltr 3 = [119] := rfl
theorem us0 : isUs 0 = true := rfl
theorem us1 : isUs 1 = false := rfl
theorem us2 : isUs 2 = true := rfl
theorem us3 : isUs 3 = true := rfl
theorem us4 : isUs 4 = false := rfl
theorem us5 : isUs 5 = false := rfl
theorem waitIn_v (p : List Int) (hp : Byts p) (hl : p.length ≤ 1000) : EV G (Tb (bs bb)) 87 [sv p] [] = some (wtPV (wtP p), []) := by
  refine EV_run rfl ?_
  by_cases h2 : p.length = 2
  · match p, h2 with
    | [a, b], _ =>
      obtain ⟨ha, hp1⟩ := byts_c hp
      obtain ⟨hb, hp2⟩ := byts_c hp1
      have s1 : (str [a, b]).extract 1 (str [a, b]).size = str [b] := by rw [str_ext, str_size]; rfl
      have i1 : (str [a, b]).data.toList[0]? = some (u8 a) := by rw [str_data]; rfl
      have n1 : ((u8 a).toNat : Int) = a := u8_nat a ha
      have q1 := dgc_v (G := G) (bb := bb) a ha
      have e1 : (str [b] = str [111]) = (b = 111) := str1_eq hb (by omega)
      have e2 : (str [b] = str [114]) = (b = 114) := str1_eq hb (by omega)
      have e3 : (str [b] = str [119]) = (b = 119) := str1_eq hb (by omega)
      have sz : ((str [a, b]).size : Int) = 2 := by rw [str_size]; rfl
      have u0 := isUse_v (G := G) (bb := bb) 0
      have u1 := isUse_v (G := G) (bb := bb) 1
      have u2 := isUse_v (G := G) (bb := bb) 2
      have u3 := isUse_v (G := G) (bb := bb) 3
      have u4 := isUse_v (G := G) (bb := bb) 4
      have u5 := isUse_v (G := G) (bb := bb) 5
      have l0 := letter_v (G := G) (bb := bb) 0
      have l2 := letter_v (G := G) (bb := bb) 2
      have l3 := letter_v (G := G) (bb := bb) 3
      rw [us0] at u0
      rw [us1] at u1
      rw [us2] at u2
      rw [us3] at u3
      rw [us4] at u4
      rw [us5] at u5
      rw [ltr0] at l0
      rw [ltr2] at l2
      rw [ltr3] at l3
      simp only [wtP]
      generalize dig a = da at *
      by_cases k0 : b = 111
      · rw [if_pos k0]
        simp (disch := omega) only [go_sem, h87c, sz, i1, n1, q1]
        rw [EL_unf]
        simp (disch := omega) only [go_sem, h87l0, u0, l0, Int.reduceToNat, s1, e1, eq_true k0]
      · rw [if_neg k0]
        by_cases k2 : b = 114
        · rw [if_pos k2]
          simp (disch := omega) only [go_sem, h87c, sz, i1, n1, q1]
          rw [EL_unf]
          simp (disch := omega) only [go_sem, h87l0, fnK_nq, Int.reduceAdd, u0, l0, Int.reduceToNat, s1, e1, k0]
          rw [EL_unf]
          simp (disch := omega) only [go_sem, h87l0, fnK_nq, Int.reduceAdd, u1]
          rw [EL_unf]
          simp (disch := omega) only [go_sem, h87l0, fnK_nq, Int.reduceAdd, u2, l2, Int.reduceToNat, s1, e2, eq_true k2]
        · rw [if_neg k2]
          by_cases k3 : b = 119
          · rw [if_pos k3]
            simp (disch := omega) only [go_sem, h87c, sz, i1, n1, q1]
            rw [EL_unf]
            simp (disch := omega) only [go_sem, h87l0, fnK_nq, Int.reduceAdd, u0, l0, Int.reduceToNat, s1, e1, k0]
            rw [EL_unf]
            simp (disch := omega) only [go_sem, h87l0, fnK_nq, Int.reduceAdd, u1]
            rw [EL_unf]
            simp (disch := omega) only [go_sem, h87l0, fnK_nq, Int.reduceAdd, u2, l2, Int.reduceToNat, s1, e2, k2]
            rw [EL_unf]
            simp (disch := omega) only [go_sem, h87l0, fnK_nq, Int.reduceAdd, u3, l3, Int.reduceToNat, s1, e3, eq_true k3]
          · rw [if_neg k3]
            simp (disch := omega) only [go_sem, h87c, sz, i1, n1, q1]
            rw [EL_unf]
            simp (disch := omega) only [go_sem, h87l0, fnK_nq, Int.reduceAdd, u0, l0, Int.reduceToNat, s1, e1, k0]
            rw [EL_unf]
            simp (disch := omega) only [go_sem, h87l0, fnK_nq, Int.reduceAdd, u1]
            rw [EL_unf]
            simp (disch := omega) only [go_sem, h87l0, fnK_nq, Int.reduceAdd, u2, l2, Int.reduceToNat, s1, e2, k2]
            rw [EL_unf]
            simp (disch := omega) only [go_sem, h87l0, fnK_nq, Int.reduceAdd, u3, l3, Int.reduceToNat, s1, e3, k3]
            rw [EL_unf]
            simp (disch := omega) only [go_sem, h87l0, fnK_nq, Int.reduceAdd, u4]
            rw [EL_unf]
            simp (disch := omega) only [go_sem, h87l0, fnK_nq, Int.reduceAdd, u5]
            rw [EL_unf]
            simp (disch := omega) only [go_sem, h87l0]
  · rw [wtP_n h2]
    have sz : ((str p).size : Int) = p.length := by rw [str_size]
    have h2' : ¬ (p.length : Int) = 2 := by omega
    simp (disch := omega) only [go_sem, h87c, sz, h2']
end
section
variable {G : Glob} {bb : Bool}
def cutS (c : Int) (s : List Int) : Nat → List (List Int) × Nat
  | 0 => ([], 0)
  | i + 1 => if s[i]? = some c then ((cutS c s i).1 ++ [(s.take i).drop (cutS c s i).2], i + 1) else cutS c s i
theorem cutS_ok (c : Int) (s : List Int) : ∀ i, i ≤ s.length → (cutS c s i).2 ≤ i ∧ (cutS c s i).1.length ≤ i ∧ spl c (s.take i) = (cutS c s i).1 ++ [(s.take i).drop (cutS c s i).2]
  | 0, _ => ⟨Nat.le_refl _, Nat.le_refl _, by simp [cutS, spl]⟩
  | i + 1, h => by
    obtain ⟨h1, h2, h3⟩ := cutS_ok c s i (by omega)
    have hi : i < s.length := by omega
    have hl : (s.take i).length = i := by rw [List.length_take]; omega
    rw [cutS, List.take_add_one, List.getElem?_eq_getElem hi, Option.toList_some, spl_snoc, h3]
    by_cases e : s[i] = c
    · rw [if_pos e, if_pos (by rw [e])]
      have e2 : (s.take i ++ [s[i]]).drop (i + 1) = [] := List.drop_of_length_le (by rw [List.length_append, hl]; simp)
      refine ⟨Nat.le_refl _, by simp; omega, ?_⟩
      simp only
      rw [e2]
    · rw [if_neg e, if_neg (fun q => e (by injection q))]
      refine ⟨by omega, by omega, ?_⟩
      rw [List.dropLast_concat, List.getLastD_concat, List.drop_append_of_le_length (by omega)]
def rc0 (s : List Int) (c : Int) (i : Nat) : AS := ⟨(sv s :: vu c :: jk 3 (.one (.bld 0 (cutS c s i).1.length) :: vi (cutS c s i).2 :: vi i :: jk 26 [])), [.arr 0 1 ((cutS c s i).1.map sS)]⟩
theorem rc0_round (s : List Int) (c : Int) (hs : Byts s) (hl : s.length ≤ 1000) (i : Nat) (hi : i < s.length) :
    rnK [0, 0, 3, 0, 0] 1 (EC (EV G (Tb (bs bb))) G h88l0 (rc0 s c i)) = some (rc0 s c (i + 1)) := by
  obtain ⟨h1, h2, _⟩ := cutS_ok c s i (by omega)
  have i1 : (str s).data.toList[i]? = some (u8 s[i]) := by rw [str_data, List.getElem?_map, List.getElem?_eq_getElem hi]; rfl
  have n1 : ((u8 s[i]).toNat : Int) = s[i] := u8_nat _ (hs _ (List.getElem_mem hi))
  have sz : ((str s).size : Int) = s.length := by rw [str_size]
  have sz2 : (str s).size = s.length := str_size s
  have x1 := str_ext s (cutS c s i).2 i
  have al := allLen_s (cutS c s i).1
  unfold rc0
  by_cases e : s[i] = c
  · have es : cutS c s (i + 1) = ((cutS c s i).1 ++ [(s.take i).drop (cutS c s i).2], i + 1) := by
      rw [cutS, if_pos (by rw [List.getElem?_eq_getElem hi, e])]
    rw [es]
    have e' : (s[i] = c) = True := eq_true e
    generalize cutS c s i = r at *
    obtain ⟨d, f⟩ := r
    simp only at h1 h2 x1 al ⊢
    generalize (s.take i).drop f = y at *
    generalize s[i] = z at *
    have ln : (d ++ [y]).length = d.length + 1 := by simp
    have ms : (d ++ [y]).map sS = d.map sS ++ [[.raw (.string (str y))]] := by rw [List.map_append]; rfl
    have tk : List.take d.length (d.map sS) = d.map sS := List.take_of_length_le (by simp)
    rw [ln, ms]
    simp (disch := omega) only [go_sem, h88l0, sz, sz2, i1, n1, e', x1, al, tk, Int.toNat_natCast]
    done
  · have es : cutS c s (i + 1) = cutS c s i := by
      rw [cutS, if_neg (fun q => e (by rw [List.getElem?_eq_getElem hi] at q; injection q))]
    rw [es]
    generalize cutS c s i = r at *
    obtain ⟨d, f⟩ := r
    simp only at h1 h2 x1 al ⊢
    generalize s[i] = z at *
    simp (disch := omega) only [go_sem, h88l0, sz, sz2, i1, n1, e, Int.toNat_natCast]
    done
theorem rcut_v (s : List Int) (c : Int) (hs : Byts s) (hl : s.length ≤ 1000) : EV G (Tb (bs bb)) 88 [sv s, vu c] [] = some (vl ((spl c s).map sS), []) := by
  refine EV_run rfl ?_
  simp (disch := omega) only [go_sem, h88c]
  rw [EL_loop (fun k => rc0 s c k) s.length ?_ (fun k hk => rc0_round s c hs hl k hk)]
  rotate_left
  · rfl
  obtain ⟨h1, h2, h3⟩ := cutS_ok c s s.length (Nat.le_refl _)
  rw [List.take_length] at h3
  rw [h3]
  have sz : ((str s).size : Int) = s.length := by rw [str_size]
  have sz2 : (str s).size = s.length := str_size s
  have x1 := str_ext s (cutS c s s.length).2 s.length
  rw [List.take_length] at x1
  unfold rc0
  have al := allLen_s (cutS c s s.length).1
  generalize cutS c s s.length = r at *
  obtain ⟨d, f⟩ := r
  simp only at h1 h2 x1 al ⊢
  generalize s.drop f = y at *
  have tk : List.take d.length (d.map sS) = d.map sS := List.take_of_length_le (by simp)
  have ms : (d ++ [y]).map sS = d.map sS ++ [[.raw (.string (str y))]] := by rw [List.map_append]; rfl
  rw [ms]
  have ln : (d.map sS ++ [[DC.raw (.string (str y))]]).length = d.length + 1 := by simp
  simp (disch := omega) only [go_sem, h88l0, sz, sz2, x1, al, tk, Int.toNat_natCast]
  rw [List.take_of_length_le (by rw [ln]; exact Nat.le_refl _)]
theorem rdigit_v (p : List Int) (hp : Byts p) (k : Nat) (hk : k < p.length) (hl : p.length ≤ 1000) : EV G (Tb (bs bb)) 89 [sv p, vi k] [] = some (.tup [.one (.dc (ci (p[k] - 48))), .one (.dc (.raw (.bool (dig p[k]))))], []) := by
  refine EV_run rfl ?_
  have hr := hp _ (List.getElem_mem hk)
  have i1 : (str p).data.toList[k]? = some (u8 p[k]) := by rw [str_data, List.getElem?_map, List.getElem?_eq_getElem hk]; rfl
  have n1 : ((u8 p[k]).toNat : Int) = p[k] := u8_nat _ hr
  unfold dig
  generalize p[k] = a at *
  by_cases h1 : 48 ≤ a
  · by_cases h2 : a ≤ 57
    · rw [decide_eq_true (⟨h1, h2⟩ : 48 ≤ a ∧ a ≤ 57)]
      simp (disch := omega) only [go_sem, h89c, i1, n1, eq_true h1, eq_true h2, Int.toNat_natCast]
    · rw [decide_eq_false (by omega : ¬ (48 ≤ a ∧ a ≤ 57))]
      simp (disch := omega) only [go_sem, h89c, i1, n1, eq_true h1, h2, Int.toNat_natCast]
  · rw [decide_eq_false (by omega : ¬ (48 ≤ a ∧ a ≤ 57))]
    simp (disch := omega) only [go_sem, h89c, i1, n1, h1, Int.toNat_natCast]
end
section
variable {G : Glob} {bb : Bool}
theorem size_v (n : Int) (h : -1000 ≤ n ∧ n ≤ 1000) : EV G (Tb (bs bb)) 143 [vi n] [] = some (vi n.natAbs, []) := by
  refine EV_run rfl ?_
  have e : (if 0 - n > n then 0 - n else n) = (n.natAbs : Int) := by split <;> omega
  simp (disch := omega) only [go_sem, h143c]
  rw [e]
theorem wrap8 {x : Int} (h : 0 ≤ x ∧ x ≤ 255) : IntKind.u8.wrap x = x := by
  rw [IntKind.wrap_u8]; omega
theorem byO (x : Int) : bytesOf [[DC.raw (Value.int IntKind.u8 x)]] = some [UInt8.ofNat x.toNat] := rfl
theorem strB (x : Int) : (⟨[UInt8.ofNat x.toNat].toArray⟩ : ByteArray) = str [x] := rfl
theorem c48 : (⟨#[48]⟩ : ByteArray) = str [48] := rfl
theorem c45 : (⟨#[45]⟩ : ByteArray) = str [45] := rfl
def de0 (sg : List Int) (z : Int × List Int) : AS := ⟨(vi z.1 :: jk 2 (sv z.2 :: sv sg :: jk 22 [])), []⟩
theorem tm10 (n : Int) : n.tmod 10 = if 0 ≤ n then ((n.natAbs % 10 : Nat) : Int) else -((n.natAbs % 10 : Nat) : Int) := by
  by_cases h : 0 ≤ n
  · rw [if_pos h, Int.tmod_eq_emod_of_nonneg h]; omega
  · rw [if_neg h]
    have : n = -((n.natAbs : Nat) : Int) := by omega
    rw [this, Int.neg_tmod, Int.tmod_eq_emod_of_nonneg (by omega)]
    omega
theorem td10 (n : Int) : (n.tdiv 10).natAbs = n.natAbs / 10 := by
  rw [Int.natAbs_tdiv]; rfl
theorem de0_round (sg : List Int) (n : Int) (t : List Int) (hn : n ≠ 0) (hr : inR n) (hl : t.length ≤ 1000) :
    rnK [0, 2, 0] 0 (EC (EV G (Tb (bs bb))) G h82l0 (de0 sg (n, t))) = some (de0 sg (n.tdiv 10, (48 + ((n.natAbs % 10 : Nat) : Int)) :: t)) := by
  have hd : -9 ≤ n.tmod 10 ∧ n.tmod 10 ≤ 9 ∧ ((n.tmod 10).natAbs : Int) = ((n.natAbs % 10 : Nat) : Int) := by
    rw [tm10]
    split <;> omega
  have hx : (0 : Int) ≤ ((n.natAbs % 10 : Nat) : Int) ∧ ((n.natAbs % 10 : Nat) : Int) ≤ 9 := by omega
  have h2 : -9223372036854775808 ≤ n.tdiv 10 ∧ n.tdiv 10 ≤ 9223372036854775807 := by
    have := td10 n
    unfold inR at hr
    omega
  have q := size_v (G := G) (bb := bb) (n.tmod 10) (by omega)
  rw [hd.2.2] at q
  generalize ((n.natAbs % 10 : Nat) : Int) = x at *
  generalize e1 : n.tmod 10 = d at *
  generalize e2 : n.tdiv 10 = n' at *
  have w1 : IntKind.u8.wrap (48 + x) = 48 + x := wrap8 (by omega)
  have s1 : binV .add (sv [48 + x]) (sv t) = some (sv ((48 + x) :: t)) := sadd_s (by simp; omega)
  unfold de0
  simp (disch := omega) only [go_sem, h82l0, hn, e1, e2, q, w1, byO, strB, s1, List.take_succ_cons]
theorem de0_all (sg : List Int) {st : AS} (n : Int) (hr : inR n) (h0 : st = de0 sg (n, [])) :
    EL (EV G (Tb (bs bb))) G h82l0 [0, 2, 0] 0 st = fnK (EV G (Tb (bs bb))) G h82l0 [0, 2, 0] 0 (EC (EV G (Tb (bs bb))) G h82l0 (de0 sg (0, dgZ n.natAbs))) := by
  have := EL_ind (st := st) (call := EV G (Tb (bs bb))) (G := G) (a := h82l0) (L := [0, 2, 0]) (m := 0) (fun z => de0 sg z) (fun z => fnK (EV G (Tb (bs bb))) G h82l0 [0, 2, 0] 0 (EC (EV G (Tb (bs bb))) G h82l0 (de0 sg (0, dgZ z.1.natAbs ++ z.2)))) (fun z => z.1.natAbs) (n, []) (fun z => inR z.1 ∧ z.2.length + (dgZ z.1.natAbs).length ≤ 1000) h0 ⟨hr, ?_⟩ ?_
  · rw [this, List.append_nil]
  · have := dgL_len 18 n.natAbs (by unfold inR at hr; omega)
    unfold dgZ
    split
    · simp
    · simp; omega
  · rintro ⟨n, t⟩ ⟨h1, h2⟩
    simp only at h1 h2
    by_cases hn : n = 0
    · refine .inr ?_
      subst hn
      rfl
    · refine .inl ⟨(n.tdiv 10, (48 + ((n.natAbs % 10 : Nat) : Int)) :: t), ⟨?_, ?_⟩, ?_, de0_round sg n t hn h1 (by omega), ?_⟩
      · have := td10 n
        unfold inR at *
        simp only
        omega
      · have e := dgZ_s n.natAbs (by omega)
        simp only [td10, List.length_cons]
        rw [e, List.length_append] at h2
        simp only [List.length_cons, List.length_nil] at h2
        omega
      · simp only [td10]
        omega
      · simp only [td10]
        rw [dgZ_s n.natAbs (by omega), List.append_assoc]
        rfl
theorem decimal_v (n : Int) (h : inR n) : EV G (Tb (bs bb)) 82 [vi n] [] = some (sv (dcR n), []) := by
  refine EV_run rfl ?_
  by_cases h0 : n = 0
  · rw [h0, dcR_digit 0 (by omega)]
    simp (disch := omega) only [go_sem, h82c, c48]
    try rfl
  · have hl : (dgZ n.natAbs).length ≤ 100 := by
      have := dgL_len 18 n.natAbs (by unfold inR at h; omega)
      unfold dgZ
      split
      · simp
      · omega
    by_cases hn : n < 0
    · have e : dcR n = [45] ++ dgZ n.natAbs := by
        unfold dcR dcI dgZ
        unfold inR at h
        rw [if_pos h, if_pos hn, if_neg (by omega)]; rfl
      have s1 : binV .add (sv [45]) (sv (dgZ n.natAbs)) = some (sv ([45] ++ dgZ n.natAbs)) := sadd_s (by simp; omega)
      rw [e]
      simp (disch := omega) only [go_sem, h82c, h0, eq_true hn, c45, str_nil]
      rw [de0_all [45] n h (by rfl)]
      unfold de0
      generalize dgZ n.natAbs = z at *
      simp (disch := omega) only [go_sem, h82l0, s1]
    · have e : dcR n = [] ++ dgZ n.natAbs := by
        unfold dcR dcI dgZ
        unfold inR at h
        rw [if_pos h, if_neg hn, if_neg (by omega)]
        have : n.toNat = n.natAbs := by omega
        rw [this]; rfl
      have s1 : binV .add (sv []) (sv (dgZ n.natAbs)) = some (sv ([] ++ dgZ n.natAbs)) := sadd_s (by simp; omega)
      rw [e]
      simp (disch := omega) only [go_sem, h82c, h0, hn, c45, str_nil]
      rw [de0_all [] n h (by rfl)]
      unfold de0
      generalize dgZ n.natAbs = z at *
      simp (disch := omega) only [go_sem, h82l0, s1]
theorem jnI_snoc (s a : List Int) : ∀ l : List (List Int), l ≠ [] → jnI s (l ++ [a]) = jnI s l ++ s ++ a
  | [], h => absurd rfl h
  | [b], _ => by simp [jnI]
  | b :: c :: l, _ => by
    have ih := jnI_snoc s a (c :: l) (by simp)
    rw [List.cons_append, List.cons_append, jnI, ← List.cons_append, ih, jnI]
    simp
theorem rletter_v (k : Int) : EV G (Tb (bs bb)) 83 [vi k] [] = some (sv (ltr k), []) := by
  refine EV_run rfl ?_
  unfold ltr
  by_cases h0 : k = 0
  · simp (disch := omega) only [go_sem, h83c, eq_true h0, c111]
  · by_cases h2 : k = 2
    · simp (disch := omega) only [go_sem, h83c, h0, eq_true h2, c114]
    · by_cases h3 : k = 3
      · simp (disch := omega) only [go_sem, h83c, h0, h2, eq_true h3, c119]
      · simp (disch := omega) only [go_sem, h83c, h0, h2, h3, c63]
end
section
variable {G : Glob} {bb : Bool}
def clP (g h : Gr) : Bool := decide (h.c ≠ g.c) && (decide (g.l ≥ 2) && decide (h.l > 0) || decide (g.l = 3))
theorem clP_any (gs : List Gr) (g : Gr) : gs.any (clP g) = clash gs g := by
  unfold clash
  rw [Bool.eq_iff_iff]
  simp only [List.any_eq_true, Bool.or_eq_true, Bool.and_eq_true, decide_eq_true_eq, clP]
  constructor
  · rintro ⟨h, h1, h2, h3 | h3⟩
    · exact .inl ⟨h3.1, h, h1, h2, by omega⟩
    · exact .inr ⟨h3, h, h1, h2⟩
  · rintro (⟨h1, h, h2, h3, h4⟩ | ⟨h1, h, h2, h3⟩)
    · exact ⟨h, h2, h3, .inl ⟨h1, by omega⟩⟩
    · exact ⟨h, h2, h3, .inr h1⟩
theorem gErr_n (gs : List Gr) (i : Nat) (g : Gr) : gErr gs i g = if (isCl g.c && wi g.l 0 3 && wi g.t 0 g.l) = false then 2 else if (decide (i = 0) || decide ((gs.getD (i - 1) ⟨0, 0, 0⟩).c < g.c)) = false then 9 else if (decide (g.l ≠ 1) || decide (g.t = g.l)) = false then 20 else if clash gs g = true then 13 else 0 := by
  rw [gErr_e]
  generalize (isCl g.c && wi g.l 0 3 && wi g.t 0 g.l) = a
  generalize (decide (i = 0) || decide ((gs.getD (i - 1) ⟨0, 0, 0⟩).c < g.c)) = b
  generalize (decide (g.l ≠ 1) || decide (g.t = g.l)) = c
  generalize clash gs g = d
  cases a <;> cases b <;> cases c <;> cases d <;> rfl
theorem wErr_n (gs : List Gr) (ws : List Wt) (i : Nat) (a : Wt) : wErr gs ws i a = if isCl a.c = false then 2 else if isUs a.k = false then 15 else if isW (ws.take i) a.c = true then 23 else if (decide (a.k ≠ 0) || !isIn gs a.c) = false then 5 else if (decide (a.k = 0) || isIn gs a.c) = false then 6 else 0 := by
  rw [show wErr gs ws i a = firstE [ifE (isCl a.c) 2, ifE (isUs a.k) 15, ifE (!isW (ws.take i) a.c) 23, ifE (decide (a.k ≠ 0) || !isIn gs a.c) 5, ifE (decide (a.k = 0) || isIn gs a.c) 6] from rfl]
  generalize (decide (a.k ≠ 0) || !isIn gs a.c) = x
  generalize (decide (a.k = 0) || isIn gs a.c) = y
  generalize isCl a.c = p
  generalize isUs a.k = q
  generalize isW (ws.take i) a.c = r
  cases p <;> cases q <;> cases r <;> cases x <;> cases y <;> rfl
def geS (gs : List Gr) (ws : List Wt) (g : Gr) (j : Nat) : AS := ⟨(jk 2 (.one (.ptr 0 0) :: jk 2 (.one (.ptr 1 0) :: vi j :: jk 82 []))), [.box [.dc (.slc (gs.map Gr.e)), .dc (.slc (ws.map Wt.e))], .box [.dc (ci g.c), .dc (ci g.l), .dc (ci g.t)]]⟩
theorem ge_out (gs : List Gr) (ws : List Wt) (g : Gr) (hl : gs.length ≤ 100000) {st : AS} (h0 : st = geS gs ws g 0) :
    retZ false [RetV.tmp 4] 0 (sqK (EV G (Tb (bs bb))) G ((HC.region [Oo 4 (AI.mov (Ki 0))]).seq HC.ret) (blkK 0 (EL (EV G (Tb (bs bb))) G h57l0 [2, 2, 0] 2 st))) = some (vi (if clash gs g = true then 13 else 0), []) := by
  subst h0
  rw [← clP_any]
  rw [EL_fst (fun j => geS gs ws g j) (fun j => clP g (gs.getD j ⟨0, 0, 0⟩) = true) gs.length rfl ?_]
  rotate_left
  · intro j hj hn
    have h3 := hn j (Nat.le_refl _)
    rw [getDz gs _ j hj] at h3
    have eg : (gs.map Gr.e)[j]? = some [ci gs[j].c, ci gs[j].l, ci gs[j].t] := by rw [List.getElem?_map, List.getElem?_eq_getElem hj]; rfl
    generalize gs[j] = h at *
    unfold clP at h3
    unfold geS
    by_cases h1 : h.c = g.c
    · simp (disch := omega) only [go_sem, h57l0, eg, eq_true h1]
    · by_cases h2 : g.l ≥ 2
      · by_cases h4 : h.l > 0
        · simp [h1, h2, h4] at h3
        · have h5 : ¬ g.l = 3 := by simpa [h1, h2, h4] using h3
          simp (disch := omega) only [go_sem, h57l0, eg, h1, h2, h4, h5]
      · have h5 : ¬ g.l = 3 := by omega
        simp (disch := omega) only [go_sem, h57l0, eg, h1, h2, h5]
  obtain ⟨hk, hp, hn⟩ := ix_spec (fun j => clP g (gs.getD j ⟨0, 0, 0⟩) = true) gs.length
  generalize ix (fun j => clP g (gs.getD j ⟨0, 0, 0⟩) = true) gs.length = j at *
  rw [any_ix (clP g) gs ⟨0, 0, 0⟩ j hp hn]
  unfold geS
  rcases hp with rfl | ⟨hj, hp⟩
  · rw [if_neg (by simp)]
    simp (disch := omega) only [go_sem, h57l0]
  · rw [if_pos (by simpa using hj)]
    rw [getDz gs _ j hj] at hp
    have eg : (gs.map Gr.e)[j]? = some [ci gs[j].c, ci gs[j].l, ci gs[j].t] := by rw [List.getElem?_map, List.getElem?_eq_getElem hj]; rfl
    generalize gs[j] = h at *
    unfold clP at hp
    simp only [Bool.and_eq_true, Bool.or_eq_true, decide_eq_true_eq] at hp
    obtain ⟨h1, h2⟩ := hp
    by_cases h3 : g.l ≥ 2
    · by_cases h4 : h.l > 0
      · simp (disch := omega) only [go_sem, h57l0, eg, h1, h3, h4]
      · have h5 : g.l = 3 := by omega
        simp (disch := omega) only [go_sem, h57l0, eg, h1, h3, h4, eq_true h5]
    · omega
set_option maxHeartbeats 4000000 in
theorem rgrantErr_v (gs : List Gr) (ws : List Wt) (i : Nat) (hi : i < gs.length) (hl : gs.length ≤ 100000) : EV G (Tb (bs bb)) 57 [flV gs ws, vi i] [] = some (vi (gErr gs i gs[i]), []) := by
  refine EV_run rfl ?_
  have eg : (gs.map Gr.e)[i]? = some [ci gs[i].c, ci gs[i].l, ci gs[i].t] := by rw [List.getElem?_map, List.getElem?_eq_getElem hi]; rfl
  have hi1 : i - 1 < gs.length := by omega
  have eg1 : (gs.map Gr.e)[i - 1]? = some [ci gs[i-1].c, ci gs[i-1].l, ci gs[i-1].t] := by rw [List.getElem?_map, List.getElem?_eq_getElem hi1]; rfl
  rw [gErr_n, grAt gs (i - 1) hi1]
  generalize gs[i] = g at *
  generalize gs[i - 1] = g1 at *
  have fin := fun st h0 => ge_out (G := G) (bb := bb) gs ws g hl (st := st) h0
  unfold geS at fin
  cases c1 : isCl g.c with
  | false =>
    rw [if_pos (by simp)]
    simp (disch := omega) only [go_sem, h57c, eg, rclient_v, rwithin_v, c1]
  | true =>
    cases c2 : wi g.l 0 3 with
    | false =>
      rw [if_pos (by simp)]
      simp (disch := omega) only [go_sem, h57c, eg, rclient_v, rwithin_v, c1, c2]
    | true =>
      cases c3 : wi g.t 0 g.l with
      | false =>
        rw [if_pos (by simp)]
        simp (disch := omega) only [go_sem, h57c, eg, rclient_v, rwithin_v, c1, c2, c3]
      | true =>
        rw [if_neg (by simp)]
        rcases Nat.eq_zero_or_pos i with rfl | h0
        · rw [if_neg (by simp)]
          by_cases k1 : g.l = 1
          · by_cases k2 : g.t = g.l
            · rw [if_neg (by simp [k2])]
              simp (disch := omega) only [go_sem, h57c, eg, rclient_v, rwithin_v, c1, c2, c3, eq_true k1, eq_true k2]
              exact fin _ rfl
            · rw [if_pos (by simp [k1, k2]; omega)]
              simp (disch := omega) only [go_sem, h57c, eg, rclient_v, rwithin_v, c1, c2, c3, eq_true k1, k2]
          · rw [if_neg (by simp [k1])]
            simp (disch := omega) only [go_sem, h57c, eg, rclient_v, rwithin_v, c1, c2, c3, k1]
            exact fin _ rfl
        · have hi0 : (i : Int) > 0 := by omega
          have et : ((i : Int) - 1).toNat = i - 1 := by omega
          by_cases k0 : g1.c < g.c
          · have k0' : ¬ g.c ≤ g1.c := by omega
            rw [if_neg (by simp [k0])]
            by_cases k1 : g.l = 1
            · by_cases k2 : g.t = g.l
              · rw [if_neg (by simp [k2])]
                simp (disch := omega) only [go_sem, h57c, eg, eg1, et, hi0, k0', rclient_v, rwithin_v, c1, c2, c3, eq_true k1, eq_true k2]
                exact fin _ rfl
              · rw [if_pos (by simp [k1, k2]; omega)]
                simp (disch := omega) only [go_sem, h57c, eg, eg1, et, hi0, k0', rclient_v, rwithin_v, c1, c2, c3, eq_true k1, k2]
            · rw [if_neg (by simp [k1])]
              simp (disch := omega) only [go_sem, h57c, eg, eg1, et, hi0, k0', rclient_v, rwithin_v, c1, c2, c3, k1]
              exact fin _ rfl
          · have k0' : g.c ≤ g1.c := by omega
            rw [if_pos (by simp; omega)]
            simp (disch := omega) only [go_sem, h57c, eg, eg1, et, hi0, k0', rclient_v, rwithin_v, c1, c2, c3]
end
end Go.Proofs.YtinageiefahjfaaGreatDoor
