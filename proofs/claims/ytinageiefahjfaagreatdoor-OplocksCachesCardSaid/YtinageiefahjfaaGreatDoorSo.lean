/- The reference: Step. Conditions: none. -/
import Derived.Test.YtinageiefahjfaaGreatDoorVc
import Derived.Test.YtinageiefahjfaaGreatDoorSp
namespace Go.Proofs.YtinageiefahjfaaGreatDoor
set_option linter.unusedSimpArgs false
set_option linter.unusedVariables false
set_option maxRecDepth 4000
section
variable {G : Glob} {bb : Bool}
def kl {α : Type} (f : Nat → α) : List α := [f 1, f 2, f 3, f 4, f 5, f 6, f 7, f 8]
theorem kl_len {α : Type} (f : Nat → α) : (kl f).length = 8 := rfl
theorem kl_get {α : Type} (f : Nat → α) {m : Nat} (h : m < 8) : (kl f)[m]? = some (f (m + 1)) := by
  rcases m with _ | _ | _ | _ | _ | _ | _ | _ | m <;> first | rfl | omega
theorem kl_set {α : Type} (f : Nat → α) {m : Nat} (h : m < 8) (x : α) : (kl f).set m x = kl (upd f (m + 1) x) := by
  rcases m with _ | _ | _ | _ | _ | _ | _ | _ | m <;> first | rfl | omega
theorem kl_ext {α : Type} {f g : Nat → α} (h : ∀ n, 1 ≤ n → n ≤ 8 → f n = g n) : kl f = kl g := by
  unfold kl
  rw [h 1 (by omega) (by omega), h 2 (by omega) (by omega), h 3 (by omega) (by omega), h 4 (by omega) (by omega), h 5 (by omega) (by omega), h 6 (by omega) (by omega), h 7 (by omega) (by omega), h 8 (by omega) (by omega)]
theorem ki_get (f : Nat → Int) {m : Nat} (h : m < 8) : ((kl f).map ci0)[m]? = some [ci (f (m + 1))] := by rw [List.getElem?_map, kl_get f h]; rfl
theorem kb_get (f : Nat → Bool) {m : Nat} (h : m < 8) : ((kl f).map bo)[m]? = some [.raw (.bool (f (m + 1)))] := by rw [List.getElem?_map, kl_get f h]; rfl
theorem ki_set (f : Nat → Int) {m : Nat} (h : m < 8) (x : Int) : ((kl f).map ci0).set m [ci x] = (kl (upd f (m + 1) x)).map ci0 := by rw [← kl_set f h, List.map_set]; rfl
theorem kb_set (f : Nat → Bool) {m : Nat} (h : m < 8) (x : Bool) : ((kl f).map bo).set m [.raw (.bool x)] = (kl (upd f (m + 1) x)).map bo := by rw [← kl_set f h, List.map_set]; rfl
theorem ki_len (f : Nat → Int) : ((kl f).map ci0).length = 8 := rfl
theorem kb_len (f : Nat → Bool) : ((kl f).map bo).length = 8 := rfl
theorem kt_i (f : Nat → Int) : List.take 8 ((kl f).map ci0) = (kl f).map ci0 := rfl
theorem kt_b (f : Nat → Bool) : List.take 8 ((kl f).map bo) = (kl f).map bo := rfl
abbrev rcV (x : Ca) : AV := .agg [.dc (.slc (x.gs.map Gr.e)), .dc (.slc (x.ws.map Wt.e)), .dc (ci x.v), .bld 0 8, .bld 1 8, .bld 2 x.sn.length, .bld 3 8]
abbrev rcH (x : Ca) : List AObj := [.arr 0 1 ((kl x.K).map ci0), .arr 0 1 ((kl x.D).map bo), .arr 0 1 (x.sn.map ci0), .arr 0 1 ((kl x.W).map ci0)]
abbrev rcD (x : Ca) : AV := .agg [.dc (.slc (x.gs.map Gr.e)), .dc (.slc (x.ws.map Wt.e)), .dc (ci x.v), .dc (.slc ((kl x.K).map ci0)), .dc (.slc ((kl x.D).map bo)), .dc (.slc (x.sn.map ci0)), .dc (.slc ((kl x.W).map ci0))]
def rlv (gs : List Gr) (c : Int) : Int := if isIn gs c = true then (grE gs c).l else 0
theorem rlv_lt (gs : List Gr) (c : Int) : rlv gs c < 1 ↔ lvF gs c < 1 := by
  unfold rlv lvF
  split
  · exact Iff.rfl
  · omega
theorem rlevel_v (gs : List Gr) (ws : List Wt) (c : Int) (hs : Srt gs) (hl : gs.length ≤ 100000) : EV G (Tb (bs bb)) 181 [flV gs ws, vi c] [] = some (vi (rlv gs c), []) := by
  refine EV_run rfl ?_
  have q := rat_v (G := G) (bb := bb) gs ws c hl
  have e1 := atI_in gs c
  unfold rlv
  cases hi : isIn gs c with
  | true =>
    obtain ⟨hp, he⟩ := (isIn_iff hs c).1 hi
    rw [at_pos hs hi] at q
    have eg : (gs.map Gr.e)[pos gs c]? = some [ci (grE gs c).c, ci (grE gs c).l, ci (grE gs c).t] := by rw [List.getElem?_map, List.getElem?_eq_getElem hp, grE, grAt gs _ hp]; rfl
    rw [if_pos rfl]
    generalize grE gs c = g at *
    simp (disch := omega) only [go_sem, h181c, q, eg]
  | false =>
    rw [hi] at e1
    have hp0 : ¬ atI gs c ≥ 0 := by simpa using e1
    rw [if_neg (by simp)]
    generalize atI gs c = p at *
    simp (disch := omega) only [go_sem, h181c, q, hp0]
def dpK (x : Ca) (k : Nat) : Nat → Int := fun n => if 1 ≤ n ∧ n ≤ k ∧ lvF x.gs n < 1 then -1 else x.K n
def dpD (x : Ca) (k : Nat) : Nat → Bool := fun n => if 1 ≤ n ∧ n ≤ k ∧ lvF x.gs n < 1 then false else x.D n
theorem dp_y (x : Ca) (k : Nat) (h : lvF x.gs ((k + 1 : Nat) : Int) < 1) : dpK x (k + 1) = upd (dpK x k) (k + 1) (-1) ∧ dpD x (k + 1) = upd (dpD x k) (k + 1) false := by
  constructor
  · funext n
    simp only [dpK, upd]
    by_cases hn : n = k + 1
    · subst hn; rw [if_pos ⟨by omega, by omega, h⟩, if_pos rfl]
    · rw [if_neg hn]
      by_cases h1 : 1 ≤ n ∧ n ≤ k ∧ lvF x.gs n < 1
      · rw [if_pos h1, if_pos ⟨h1.1, by omega, h1.2.2⟩]
      · rw [if_neg h1, if_neg (fun h2 => h1 ⟨h2.1, by omega, h2.2.2⟩)]
  · funext n
    simp only [dpD, upd]
    by_cases hn : n = k + 1
    · subst hn; rw [if_pos ⟨by omega, by omega, h⟩, if_pos rfl]
    · rw [if_neg hn]
      by_cases h1 : 1 ≤ n ∧ n ≤ k ∧ lvF x.gs n < 1
      · rw [if_pos h1, if_pos ⟨h1.1, by omega, h1.2.2⟩]
      · rw [if_neg h1, if_neg (fun h2 => h1 ⟨h2.1, by omega, h2.2.2⟩)]
theorem dp_n (x : Ca) (k : Nat) (h : ¬ lvF x.gs ((k + 1 : Nat) : Int) < 1) : dpK x (k + 1) = dpK x k ∧ dpD x (k + 1) = dpD x k := by
  constructor
  · funext n
    unfold dpK
    by_cases h1 : 1 ≤ n ∧ n ≤ k ∧ lvF x.gs n < 1
    · rw [if_pos h1, if_pos ⟨h1.1, by omega, h1.2.2⟩]
    · rw [if_neg h1, if_neg]
      rintro ⟨h2, h3, h4⟩
      by_cases hn : n = k + 1
      · subst hn; exact h h4
      · exact h1 ⟨h2, by omega, h4⟩
  · funext n
    unfold dpD
    by_cases h1 : 1 ≤ n ∧ n ≤ k ∧ lvF x.gs n < 1
    · rw [if_pos h1, if_pos ⟨h1.1, by omega, h1.2.2⟩]
    · rw [if_neg h1, if_neg]
      rintro ⟨h2, h3, h4⟩
      by_cases hn : n = k + 1
      · subst hn; exact h h4
      · exact h1 ⟨h2, by omega, h4⟩
theorem dp_8 (x : Ca) : kl (dpK x 8) = kl (drpF x 9).K ∧ kl (dpD x 8) = kl (drpF x 9).D := by
  constructor
  · refine kl_ext (fun n h1 h2 => ?_)
    have e : (n < 9 ∧ lvF x.gs n < 1) = (1 ≤ n ∧ n ≤ 8 ∧ lvF x.gs n < 1) := propext ⟨fun h => ⟨h1, h2, h.2⟩, fun h => ⟨by omega, h.2.2⟩⟩
    simp only [dpK, drpF, e]
  · refine kl_ext (fun n h1 h2 => ?_)
    have e : (n < 9 ∧ lvF x.gs n < 1) = (1 ≤ n ∧ n ≤ 8 ∧ lvF x.gs n < 1) := propext ⟨fun h => ⟨h1, h2, h.2⟩, fun h => ⟨by omega, h.2.2⟩⟩
    simp only [dpD, drpF, e]
def dpS (x : Ca) (K : Nat → Int) (D : Nat → Bool) (k : Nat) : AS := ⟨(jk 1 (.one (.ptr 4 0) :: .one (.ptr 5 0) :: vi k :: jk 26 [])), [.arr 0 1 ((kl K).map ci0), .arr 0 1 ((kl D).map bo), .arr 0 1 (x.sn.map ci0), .arr 0 1 ((kl x.W).map ci0), .box [.dc (.slc (x.gs.map Gr.e)), .dc (.slc (x.ws.map Wt.e)), .dc (ci x.v), .bld 0 8, .bld 1 8, .bld 2 x.sn.length, .bld 3 8], .box [.dc (.raw (.slice none 0 0)), .dc (.raw (.slice none 0 0)), .dc (ci 0), .dc (.raw (.slice none 0 0)), .dc (.raw (.slice none 0 0)), .dc (.raw (.slice none 0 0)), .dc (.raw (.slice none 0 0))]]⟩
theorem dp_round (x : Ca) (hs : Srt x.gs) (hl : x.gs.length ≤ 1000) (k : Nat) (hk : k < 8) : rnK [1, 0, 0] 6 (EC (EV G (Tb (bs bb))) G h135l0 (dpS x (dpK x k) (dpD x k) k)) = some (dpS x (dpK x (k + 1)) (dpD x (k + 1)) (k + 1)) := by
  have q := rlevel_v (G := G) (bb := bb) x.gs x.ws ((k : Int) + 1) hs (by omega)
  have e8 := ki_len (dpK x k)
  have e9 := kb_len (dpD x k)
  by_cases h : lvF x.gs ((k + 1 : Nat) : Int) < 1
  · have h' : rlv x.gs ((k : Int) + 1) < 1 := (rlv_lt _ _).2 h
    obtain ⟨e1, e2⟩ := dp_y x k h
    rw [e1, e2]
    have e3 := ki_set (dpK x k) hk (-1)
    have e4 := kb_set (dpD x k) hk false
    have e5 := ki_get (dpK x k) hk
    have e6 := kb_get (dpD x k) hk
    generalize dpK x k = K at *
    generalize dpD x k = D at *
    unfold dpS
    simp (disch := omega) only [go_sem, h135l0, q, h', e3, e4, e5, e6, e8, e9, meetE_e]
  · have h' : ¬ rlv x.gs ((k : Int) + 1) < 1 := fun h1 => h ((rlv_lt _ _).1 h1)
    obtain ⟨e1, e2⟩ := dp_n x k h
    rw [e1, e2]
    generalize dpK x k = K at *
    generalize dpD x k = D at *
    unfold dpS
    simp (disch := omega) only [go_sem, h135l0, q, h', e8]
theorem rdrop_v (x : Ca) (hs : Srt x.gs) (hl : x.gs.length ≤ 1000) : EV G (Tb (bs bb)) 135 [rcV x] (rcH x) = some (rcV (drpF x 9), rcH (drpF x 9)) := by
  refine EV_run rfl ?_
  have e0 : kl (dpK x 0) = kl x.K := kl_ext (fun n h1 h2 => by unfold dpK; rw [if_neg (by omega)])
  have e1 : kl (dpD x 0) = kl x.D := kl_ext (fun n h1 h2 => by unfold dpD; rw [if_neg (by omega)])
  obtain ⟨e2, e3⟩ := dp_8 x
  have e8 := ki_len (dpK x 8)
  simp (disch := omega) only [go_sem, h135c]
  rw [EL_loop (fun k => dpS x (dpK x k) (dpD x k) k) 8 ?_ (fun k hk => dp_round x hs hl k hk)]
  rotate_left
  · unfold dpS
    rw [e0, e1]
    rfl
  unfold dpS
  simp (disch := omega) only [go_sem, h135l0, e8]
  rw [e2, e3]
  rfl
end
section
variable {G : Glob} {bb : Bool}
theorem rlv_ge (gs : List Gr) (c : Int) : rlv gs c ≥ 1 ↔ lvF gs c ≥ 1 := by
  have := rlv_lt gs c
  omega
set_option maxHeartbeats 1000000 in
theorem rtouch_v (x : Ca) (hs : Srt x.gs) (hl : x.gs.length ≤ 1000) (hn : x.sn.length ≤ 100000) (m : Nat) (hm : m < 8) (k : Int) (hk : k = 0 ∨ k = 2 ∨ k = 3) :
    EV G (Tb (bs bb)) 136 [rcV x, vi ((m : Int) + 1), vi k] (rcH x) = some (rcV (effF x ((m : Int) + 1) k), rcH (effF x ((m : Int) + 1) k)) := by
  refine EV_run rfl ?_
  have q := rlevel_v (G := G) (bb := bb) x.gs x.ws ((m : Int) + 1) hs (by omega)
  have hr := rlv_ge x.gs ((m : Int) + 1)
  have ec : ((m : Int) + 1).toNat = m + 1 := toNat_add1 m
  have em : ((m : Int) + 1 - 1).toNat = m := by omega
  obtain ⟨gs, ws, v, K, D, W, sn⟩ := x
  simp only at hs hl hn q hr ⊢
  have e3 := ki_set K hm v
  have e4 := kb_set D hm false
  have e5 := ki_get K hm
  have e6 := kb_get D hm
  have e7 := ki_get W hm
  have e3' := ki_set K hm (W (m + 1))
  have e8 := ki_len K
  have e9 := kb_len D
  have e10 := ki_len W
  have tk : List.take sn.length (sn.map ci0) = sn.map ci0 := List.take_of_length_le (by simp)
  have msn : (sn ++ [v]).map ci0 = sn.map ci0 ++ [[ci v]] := by rw [List.map_append]; rfl
  have lsn : (sn ++ [v]).length = sn.length + 1 := by simp
  rcases hk with h0 | h2 | h3
  · have h2 : ¬ k = 2 := by omega
    have h3 : ¬ k = 3 := by omega
    have ee : effF ⟨gs, ws, v, K, D, W, sn⟩ ((m : Int) + 1) k = ⟨gs, ws, v, K, D, W, sn⟩ := by unfold effF; rw [if_neg h2, if_neg h3]
    rw [ee]
    simp (disch := omega) only [go_sem, h136c, em, eq_true h0, h2, h3]
  · have h3 : ¬ k = 3 := by omega
    have h0 : ¬ k = 0 := by omega
    by_cases hv : lvF gs ((m : Int) + 1) ≥ 1
    · have ee : effF ⟨gs, ws, v, K, D, W, sn⟩ ((m : Int) + 1) k = ⟨gs, ws, v, upd K (m + 1) v, upd D (m + 1) false, W, sn ++ [v]⟩ := by unfold effF; rw [if_pos h2, if_pos hv, ec]
      rw [ee]
      simp only [rcV, rcH, msn, lsn]
      simp (disch := omega) only [go_sem, h136c, em, h0, eq_true h2, h3, q, hr.2 hv, tk, e3, e4, e5, e6, e8, e9, meetE_e, List.length_append, List.length_cons, List.length_nil]
    · have ee : effF ⟨gs, ws, v, K, D, W, sn⟩ ((m : Int) + 1) k = ⟨gs, ws, v, K, D, W, sn ++ [v]⟩ := by unfold effF; rw [if_pos h2, if_neg hv]
      have hr' : ¬ rlv gs ((m : Int) + 1) ≥ 1 := fun h => hv (hr.1 h)
      rw [ee]
      simp only [rcV, rcH, msn, lsn]
      simp (disch := omega) only [go_sem, h136c, em, h0, eq_true h2, h3, q, hr', tk, List.length_append, List.length_cons, List.length_nil]
  · have h2 : ¬ k = 2 := by omega
    have h0 : ¬ k = 0 := by omega
    by_cases hv : lvF gs ((m : Int) + 1) ≥ 1
    · have ee : effF ⟨gs, ws, v, K, D, W, sn⟩ ((m : Int) + 1) k = ⟨gs, ws, W (m + 1), upd K (m + 1) (W (m + 1)), upd D (m + 1) false, W, sn⟩ := by unfold effF; rw [if_neg h2, if_pos h3, if_pos hv, ec]
      rw [ee]
      simp (disch := omega) only [go_sem, h136c, em, h0, h2, eq_true h3, q, hr.2 hv, e3', e4, e5, e6, e7, e8, e9, e10, meetE_e]
    · have ee : effF ⟨gs, ws, v, K, D, W, sn⟩ ((m : Int) + 1) k = ⟨gs, ws, W (m + 1), K, D, W, sn⟩ := by unfold effF; rw [if_neg h2, if_pos h3, if_neg hv, ec]
      have hr' : ¬ rlv gs ((m : Int) + 1) ≥ 1 := fun h => hv (hr.1 h)
      rw [ee]
      simp (disch := omega) only [go_sem, h136c, em, h0, h2, eq_true h3, q, hr', e7, e10]
def raB (x : Ca) (k c : Int) : Bool := isIn x.gs c && !isW x.ws c && isCl c && (if k = 2 then decide ((grE x.gs c).l ≥ 1) && decide (x.K c.toNat ≥ 0) else decide (k = 3) && (decide ((grE x.gs c).l ≥ 2) && decide ((grE x.gs c).t = (grE x.gs c).l)))
set_option maxHeartbeats 1000000 in
theorem ralone_v (x : Ca) (hs : Srt x.gs) (hl : x.gs.length ≤ 1000) (hw : x.ws.length ≤ 1000) (a : Cu) :
    EV G (Tb (bs bb)) 133 [rcD x, .agg [.dc (ci a.k), .dc (ci a.c), .dc (ci a.l), .dc (ci a.u)]] [] = some (vb (raB x a.k a.c), []) := by
  refine EV_run rfl ?_
  have q1 := rat_v (G := G) (bb := bb) x.gs x.ws a.c (by omega)
  have q2 := rwaiting_v (G := G) (bb := bb) x.gs x.ws a.c (by omega)
  have q3 := rclient_v (G := G) (bb := bb) a.c
  have e1 := atI_in x.gs a.c
  have e2 := wtI_in x.ws a.c
  unfold raB
  cases hi : isIn x.gs a.c with
  | false =>
    rw [hi] at e1
    have hp0 : atI x.gs a.c < 0 := by have : ¬ 0 ≤ atI x.gs a.c := by simpa using e1
                                      omega
    generalize atI x.gs a.c = p at *
    simp (disch := omega) only [go_sem, h133c, q1, hp0, Bool.false_and]
  | true =>
    obtain ⟨hp, he⟩ := (isIn_iff hs a.c).1 hi
    rw [at_pos hs hi] at q1
    have hp0 : ¬ ((pos x.gs a.c : Nat) : Int) < 0 := by omega
    have eg : (x.gs.map Gr.e)[pos x.gs a.c]? = some [ci (grE x.gs a.c).c, ci (grE x.gs a.c).l, ci (grE x.gs a.c).t] := by rw [List.getElem?_map, List.getElem?_eq_getElem hp, grE, grAt x.gs _ hp]; rfl
    cases hw : isW x.ws a.c with
    | true =>
      rw [hw] at e2
      have hw0 : wtI x.ws a.c ≥ 0 := by simpa using e2
      generalize wtI x.ws a.c = w at *
      simp (disch := omega) only [go_sem, h133c, q1, q2, hp0, hw0, Bool.not_true, Bool.and_false, Bool.false_and]
    | false =>
      rw [hw] at e2
      have hw0 : ¬ wtI x.ws a.c ≥ 0 := by simpa using e2
      generalize wtI x.ws a.c = w at *
      cases hc : isCl a.c with
      | false =>
        rw [hc] at q3
        simp (disch := omega) only [go_sem, h133c, q1, q2, q3, hp0, hw0, Bool.and_false, Bool.false_and]
      | true =>
        rw [hc] at q3
        have hc2 : 1 ≤ a.c ∧ a.c ≤ 8 := by simpa [isCl] using hc
        obtain ⟨m, hm, hm8⟩ : ∃ m : Nat, a.c = (m : Int) + 1 ∧ m < 8 := ⟨(a.c - 1).toNat, by omega, by omega⟩
        obtain ⟨k, c, l, u⟩ := a
        simp only at hm hi hw hc q1 q2 q3 hp0 he eg ⊢
        subst hm
        have ec : ((m : Int) + 1).toNat = m + 1 := by omega
        have em : ((m : Int) + 1 - 1).toNat = m := by omega
        have e5 := ki_get x.K hm8
        have e8 := ki_len x.K
        rw [ec]
        generalize grE x.gs ((m : Int) + 1) = g at *
        simp only [Bool.not_false, Bool.true_and]
        by_cases k2 : k = 2
        · rw [if_pos k2]
          by_cases h1 : g.l ≥ 1
          · rw [decide_eq_true h1, Bool.true_and]
            simp (disch := omega) only [go_sem, h133c, q1, q2, q3, hp0, hw0, eg, eq_true k2, h1, em, e5, e8]
          · rw [decide_eq_false h1, Bool.false_and]
            simp (disch := omega) only [go_sem, h133c, q1, q2, q3, hp0, hw0, eg, eq_true k2, h1]
        · rw [if_neg k2]
          by_cases k3 : k = 3
          · rw [decide_eq_true k3, Bool.true_and]
            by_cases h1 : g.l ≥ 2
            · rw [decide_eq_true h1, Bool.true_and]
              simp (disch := omega) only [go_sem, h133c, q1, q2, q3, hp0, hw0, eg, k2, eq_true k3, h1]
            · rw [decide_eq_false h1, Bool.false_and]
              simp (disch := omega) only [go_sem, h133c, q1, q2, q3, hp0, hw0, eg, k2, eq_true k3, h1]
          · rw [decide_eq_false k3, Bool.false_and]
            simp (disch := omega) only [go_sem, h133c, q1, q2, q3, hp0, hw0, eg, k2, k3]
def rueE (x : Ca) (a : Cu) : Int := if wi a.u 0 (if a.k = 3 then 999 else 0) = false then 2 else if raB x a.k a.c = true then usErr x.gs x.ws ⟨a.k, a.c, a.l⟩ else acErr x.gs x.ws ⟨a.k, a.c, a.l⟩
set_option maxHeartbeats 1000000 in
theorem ruseErr_v (x : Ca) (hs : Srt x.gs) (hl : x.gs.length ≤ 1000) (hw : x.ws.length ≤ 1000) (a : Cu) :
    EV G (Tb (bs bb)) 70 [rcD x, .agg [.dc (ci a.k), .dc (ci a.c), .dc (ci a.l), .dc (ci a.u)]] [] = some (vi (rueE x a), []) := by
  refine EV_run rfl ?_
  have q1 := ralone_v (G := G) (bb := bb) x hs hl hw a
  have q2 := rpresent_v (G := G) (bb := bb) x.gs x.ws ⟨a.k, a.c, a.l⟩ (by omega) (by omega)
  have q3 := racErr_v (G := G) (bb := bb) x.gs x.ws ⟨a.k, a.c, a.l⟩ hs (by omega) (by omega)
  have q4 := rwithin_v (G := G) (bb := bb) a.u 0 999
  unfold rueE
  generalize raB x a.k a.c = b at *
  generalize usErr x.gs x.ws ⟨a.k, a.c, a.l⟩ = e1 at *
  generalize acErr x.gs x.ws ⟨a.k, a.c, a.l⟩ = e2 at *
  by_cases k3 : a.k = 3
  · rw [if_pos k3]
    cases hwi : wi a.u 0 999 with
    | false =>
      rw [hwi] at q4
      rw [if_pos rfl]
      simp (disch := omega) only [go_sem, h70c, q4, eq_true k3]
    | true =>
      rw [hwi] at q4
      rw [if_neg (by simp)]
      cases b with
      | true =>
        rw [if_pos rfl]
        simp (disch := omega) only [go_sem, h70c, q1, q2, q4, eq_true k3]
      | false =>
        rw [if_neg (by simp)]
        simp (disch := omega) only [go_sem, h70c, q1, q3, q4, eq_true k3]
  · rw [if_neg k3]
    by_cases hu : a.u = 0
    · have e : wi a.u 0 0 = true := by unfold wi; simp; omega
      rw [e, if_neg (by simp)]
      cases b with
      | true =>
        rw [if_pos rfl]
        simp (disch := omega) only [go_sem, h70c, q1, q2, k3, eq_true hu]
      | false =>
        rw [if_neg (by simp)]
        simp (disch := omega) only [go_sem, h70c, q1, q3, k3, eq_true hu]
    · have e : wi a.u 0 0 = false := by unfold wi; simp; omega
      rw [e, if_pos rfl]
      simp (disch := omega) only [go_sem, h70c, k3, hu]
end
section
variable {G : Glob} {bb : Bool}
set_option maxHeartbeats 4000000 in
theorem rstep_4 (gs : List Gr) (ws : List Wt) (a : Ac) (hs : Srt gs) (hi : isIn gs a.c = true) (hl : gs.length ≤ 1000) (hw : ws.length ≤ 1000) (k4 : a.k = 4) (hV : Vd (ackG gs a.c) ws) :
    EV G (Tb (bs bb)) 74 [flV gs ws, a.v] [] = some (rspV (thA (thr (ackG gs a.c) ws)), []) := by
  refine EV_run rfl ?_
  have q := rcopy_v (G := G) (bb := bb) gs ws (by omega) (by omega)
  have q3 := rat_v (G := G) (bb := bb) gs ws a.c (by omega)
  have q4 := rwaits_v (G := G) (bb := bb) a.k
  have hu : isUs a.k = false := by unfold isUs; simp; omega
  have k1 : ¬ a.k = 1 := by omega
  rw [hu] at q4
  rw [at_pos hs hi] at q3
  obtain ⟨hp, he⟩ := (isIn_iff hs a.c).1 hi
  have eg : (gs.map Gr.e)[pos gs a.c]? = some [ci (grE gs a.c).c, ci (grE gs a.c).l, ci (grE gs a.c).t] := by rw [List.getElem?_map, List.getElem?_eq_getElem hp, grE, grAt gs _ hp]; rfl
  have hp' : pos gs a.c < (gs.map Gr.e).length := by simpa using hp
  have e1 := fun x => set_get (x := x) hp'
  have q1 := tqA0_key (G := G) (bb := bb) gs a ws (ackG gs a.c) hV
  unfold tqA0 at q1
  simp only [ack_map, ack_len, List.length_nil, List.map_nil] at q1
  rw [← q1]
  simp (maxSteps := 1000000) (disch := omega) only [go_sem, h74c, q, q3, q4, k1, eq_true k4, eg, e1, meetE_e, List.set_set, List.length_set, List.take_length]
  try rfl
set_option maxHeartbeats 8000000 in
theorem rstep_5 (gs : List Gr) (ws : List Wt) (a : Ac) (hs : Srt gs) (hi : isIn gs a.c = true) (hl : gs.length ≤ 1000) (hw : ws.length ≤ 1000) (k5 : a.k = 5) (hV : Vd (delG gs a.c) ws) :
    EV G (Tb (bs bb)) 74 [flV gs ws, a.v] [] = some (rspV (thA (thr (delG gs a.c) ws)), []) := by
  refine EV_run rfl ?_
  have q := rcopy_v (G := G) (bb := bb) gs ws (by omega) (by omega)
  have q3 := rat_v (G := G) (bb := bb) gs ws a.c (by omega)
  have q4 := rwaits_v (G := G) (bb := bb) a.k
  have hu : isUs a.k = false := by unfold isUs; simp; omega
  have k1 : ¬ a.k = 1 := by omega
  have k4 : ¬ a.k = 4 := by omega
  rw [hu] at q4
  rw [at_pos hs hi] at q3
  obtain ⟨hp, he⟩ := (isIn_iff hs a.c).1 hi
  have q1 := tqC0_key (G := G) (bb := bb) gs a ws (delG gs a.c) hV
  unfold tqC0 at q1
  have dm : (delG gs a.c).map Gr.e = (gs.map Gr.e).take (pos gs a.c) ++ (gs.map Gr.e).drop (pos gs a.c + 1) := by
    unfold delG; rw [List.map_append, List.map_take, List.map_drop]
  simp only [dm, del_len hs hi, List.length_nil, List.map_nil] at q1
  rw [← q1]
  have a1 : allLen 3 (List.take (pos gs a.c) (gs.map Gr.e)) = true := by rw [← List.map_take]; exact allLen_gr _
  have a2 : allLen 3 (List.drop (pos gs a.c + 1) (gs.map Gr.e)) = true := by rw [← List.map_drop]; exact allLen_gr _
  have l1 : (List.take (pos gs a.c) (gs.map Gr.e)).length = pos gs a.c := by simp; omega
  have l2 : (List.drop (pos gs a.c + 1) (gs.map Gr.e)).length = gs.length - (pos gs a.c + 1) := by simp
  have l3 : pos gs a.c + (gs.length - (pos gs a.c + 1)) = gs.length - 1 := by omega
  have t1 : List.take (pos gs a.c) (List.take (pos gs a.c) (gs.map Gr.e)) = List.take (pos gs a.c) (gs.map Gr.e) := by rw [List.take_take, Nat.min_self]
  simp (maxSteps := 1000000) (disch := omega) only [go_sem, h74c, q, q3, q4, k1, k4, eq_true k5, meetE_e, List.take_length, a1, a2, l1, l2, l3, t1]
  try rfl
theorem rstep_v {gs : List Gr} {ws : List Wt} {a : Ac} (hV : Vd gs ws) (hH : Hd gs ws) (he : acErr gs ws a = 0) :
    EV G (Tb (bs bb)) 74 [flV gs ws, a.v] [] = some (rspV (stp gs ws a), []) := by
  have hg := hV.gl
  have hw := hV.wl
  have hus : usErr gs ws a = 0 := by
    unfold acErr at he
    split at he
    · rename_i h1; exact absurd he h1
    · rename_i h1; exact Classical.not_not.1 h1
  obtain ⟨k1, k2, k3, k4, k5⟩ := us_ok hus
  have hi : a.k ≠ 0 → isIn gs a.c = true := fun h0 => by
    cases hi : isIn gs a.c with
    | true => rfl
    | false => exact absurd (k5.2 hi) h0
  unfold stp
  split
  · rename_i hk
    exact rstep_1 gs ws a hV.so (hi (by omega)) (by omega) (by omega) hk
  split
  · rename_i hk
    exact rstep_4 gs ws a hV.so (hi (by omega)) (by omega) (by omega) hk (hV.ack (hi (by omega)))
  split
  · rename_i hk
    exact rstep_5 gs ws a hV.so (hi (by omega)) (by omega) (by omega) hk (hV.del (hi (by omega)) k4)
  rename_i n1 n4 n5
  have hu : isUs a.k = true := by unfold isUs; simp; omega
  unfold useF
  cases ws with
  | nil =>
    rw [if_pos List.length_nil]
    cases hh : held (brGs gs a.c a.k) a.c a.k with
    | true =>
      rw [if_pos rfl]
      exact rstep_h gs a (by omega) hu hh
    | false =>
      rw [if_neg (by simp)]
      have h6 : didF (brGs gs a.c a.k) a.c a.k = did (brGs gs a.c a.k) a.c a.k := didF_did (hV.br a.c a.k).so (fun h0 => by rw [brGs_in]; exact k5.1 h0)
      have := rstep_d (G := G) (bb := bb) gs a (by omega) hu hh
      rw [h6] at this
      exact this
  | cons w ws =>
    rw [if_neg (by simp)]
    simp only [List.length_cons] at hw
    exact rstep_w gs w ws a (by omega) (by omega) hu
end
end Go.Proofs.YtinageiefahjfaaGreatDoor
