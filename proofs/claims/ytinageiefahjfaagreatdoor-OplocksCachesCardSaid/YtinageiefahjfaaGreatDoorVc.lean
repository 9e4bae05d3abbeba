/- The reference: breaks, whether an act is held up, where clients are. Conditions: none. -/
import Derived.Test.YtinageiefahjfaaGreatDoorUs
import Derived.Test.YtinageiefahjfaaGreatDoorUm
namespace Go.Proofs.YtinageiefahjfaaGreatDoor
set_option linter.unusedSimpArgs false
set_option linter.unusedVariables false
set_option maxRecDepth 4000
section
variable {G : Glob} {bb : Bool}
def rnX : List Gr → List Wt → List An → Nat → List Ac → (List Gr × List Wt × List An) × Int × Int
  | gs, ws, out, n, [] => ((gs, ws, out), 0, 0)
  | gs, ws, out, n, a :: l => if acErr gs ws a = 0 then rnX (stp gs ws a).1 (stp gs ws a).2.1 (out ++ [(stp gs ws a).2.2]) (n + 1) l else ((gs, ws, out), n, acErr gs ws a)
def eaS (l : List Ac) (k : Nat) (gs : List Gr) (ws : List Wt) (out : List An) : AS := ⟨(jk 1 (.one (.fn 62 [.ptr 0 0, .ptr 4 0]) :: jk 7 (acsV l :: vi l.length :: vi k :: jk 13 []))), runH gs ws out⟩
theorem each61_key (hG : G 0 = some alD) (l : List Ac) (hl : l.length ≤ 100) : ∀ (rest : List Ac) (k : Nat) (gs : List Gr) (ws : List Wt) (out : List An), l.drop k = rest → k ≤ l.length → Vd gs ws → Hd gs ws → out.length ≤ k →
    retZ false [RetV.tmp 4, RetV.tmp 5] 6 (sqK (EV G (Tb (bs bb))) G ((HC.region [Oo 4 (AI.mov (Ki 0)), Oo 5 (AI.mov (Ki 0))]).seq HC.ret) (blkK 0 (EL (EV G (Tb (bs bb))) G h61l0 [1, 7, 0, 0] 6 (eaS l k gs ws out)))) =
      some (twoI (rnX gs ws out k rest).2, runH (rnX gs ws out k rest).1.1 (rnX gs ws out k rest).1.2.1 (rnX gs ws out k rest).1.2.2)
  | [], k, gs, ws, out, hd, hk, hv, hh, ho => by
    have hkl : k = l.length := by
      have := congrArg List.length hd
      simp at this; omega
    subst hkl
    rw [EL_unf, rnX]
    unfold eaS
    simp only [runH]
    simp (disch := omega) only [go_sem, h61l0]
  | a :: rest, k, gs, ws, out, hd, hk, hv, hh, ho => by
    have hkl : k < l.length := by
      have := congrArg List.length hd
      simp at this; omega
    have ha : l[k] = a := by
      have := List.drop_eq_getElem_cons hkl
      rw [hd] at this
      injection this with this _
      exact this.symm
    have hd' : l.drop (k + 1) = rest := by
      have := List.drop_eq_getElem_cons hkl
      rw [hd] at this
      injection this with _ this
      exact this.symm
    have eg : (l.map Ac.e)[k]? = some [ci a.k, ci a.c, ci a.l] := by rw [List.getElem?_map, List.getElem?_eq_getElem hkl, ha]; rfl
    have q := p62_v (bb := bb) hG gs ws out hv k a (by omega)
    by_cases he : acErr gs ws a = 0
    · obtain ⟨h1, h2⟩ := stp_ok hv hh he
      have ih := each61_key hG l hl rest (k + 1) (stp gs ws a).1 (stp gs ws a).2.1 (out ++ [(stp gs ws a).2.2]) hd' (by omega) h1 h2 (by simp; omega)
      have hr : rnK [1, 7, 0, 0] 6 (EC (EV G (Tb (bs bb))) G h61l0 (eaS l k gs ws out)) = some (eaS l (k + 1) (stp gs ws a).1 (stp gs ws a).2.1 (out ++ [(stp gs ws a).2.2])) := by
        unfold eaS
        rw [if_pos he, he] at q
        generalize stp gs ws a = s at *
        simp only [runH] at q ⊢
        simp (disch := omega) only [go_sem, h61l0, evJ_6, eg, q]
      rw [EL_unf, fnK_of hr, ih, rnX, if_pos he]
    · rw [EL_unf, rnX, if_neg he]
      unfold eaS
      rw [if_neg he] at q
      simp only [runH] at q ⊢
      simp (disch := omega) only [go_sem, h61l0, evJ_6, eg, q, he]
theorem each61_v (hG : G 0 = some alD) (l : List Ac) (hl : l.length ≤ 100) : EV G (Tb (bs bb)) 61 [acsV l, .one (.fn 62 [.ptr 0 0, .ptr 4 0])] (runH [] [] []) = some (twoI (rnX [] [] [] 0 l).2, runH (rnX [] [] [] 0 l).1.1 (rnX [] [] [] 0 l).1.2.1 (rnX [] [] [] 0 l).1.2.2) := by
  refine EV_run rfl ?_
  have q := each61_key (bb := bb) hG l hl l 0 [] [] [] rfl (by omega) Vd.nil Hd.nil (by simp)
  rw [← q]
  simp (disch := omega) only [go_sem, h61c]
  rfl
end
section
variable {G : Glob} {bb : Bool}
structure Cu where
  k : Int
  c : Int
  l : Int
  u : Int
abbrev Cu.e (a : Cu) : List DC := [ci a.k, ci a.c, ci a.l, ci a.u]
abbrev cusV (l : List Cu) : AV := vl (l.map Cu.e)
theorem usF_len (x : Ca) (hh : x.ws.length ≤ 8) (k c l u : Int) : (usF x k c l u).1.sn.length ≤ x.sn.length + 9 := by
  unfold usF
  split
  · simp
  · split
    · rename_i y hy
      unfold aloF at hy
      split at hy
      · injection hy with hy; subst hy; simp
      · split at hy
        · injection hy with hy; subst hy; simp
        · cases hy
    · split
      · simp
      · rw [actF_e]
        have h1 := effL_gs (if (stp x.gs x.ws ⟨k, c, l⟩).2.2.d = true then effF (aft x k c l u) c k else aft x k c l u) (stp x.gs x.ws ⟨k, c, l⟩).2.2.f
        have h2 := (stp_f x.gs x.ws ⟨k, c, l⟩).2
        have h3 := effF_gs (aft x k c l u) c k
        have h4 : (aft x k c l u).sn = x.sn := (giv_gs x k c u).2.2
        rw [h4] at h3
        have h5 : (if (stp x.gs x.ws ⟨k, c, l⟩).2.2.d = true then effF (aft x k c l u) c k else aft x k c l u).sn.length ≤ x.sn.length + 1 := by
          split
          · exact h3.2.2
          · rw [h4]; omega
        have h6 : ∀ (y : Ca) (j : Nat), (drpF y j).sn = y.sn := fun _ _ => rfl
        rw [h6]
        omega
theorem usF_ok (x : Ca) (hv : Vd x.gs x.ws) (hh : Hd x.gs x.ws) (k c l u : Int) : Vd (usF x k c l u).1.gs (usF x k c l u).1.ws ∧ Hd (usF x k c l u).1.gs (usF x k c l u).1.ws := by
  unfold usF
  split
  · exact ⟨hv, hh⟩
  · split
    · rename_i y hy
      unfold aloF at hy
      split at hy
      · injection hy with hy; subst hy; exact ⟨hv, hh⟩
      · split at hy
        · injection hy with hy; subst hy; exact ⟨hv, hh⟩
        · cases hy
    · split
      · exact ⟨hv, hh⟩
      · rename_i he
        rw [actF_e]
        have h1 := effL_gs (if (stp x.gs x.ws ⟨k, c, l⟩).2.2.d = true then effF (aft x k c l u) c k else aft x k c l u) (stp x.gs x.ws ⟨k, c, l⟩).2.2.f
        have h3 := effF_gs (aft x k c l u) c k
        have h5 : (if (stp x.gs x.ws ⟨k, c, l⟩).2.2.d = true then effF (aft x k c l u) c k else aft x k c l u).gs = (stp x.gs x.ws ⟨k, c, l⟩).1 ∧ (if (stp x.gs x.ws ⟨k, c, l⟩).2.2.d = true then effF (aft x k c l u) c k else aft x k c l u).ws = (stp x.gs x.ws ⟨k, c, l⟩).2.1 := by
          split
          · exact ⟨h3.1, h3.2.1⟩
          · exact ⟨rfl, rfl⟩
        have h6 : ∀ (y : Ca) (j : Nat), (drpF y j).gs = y.gs ∧ (drpF y j).ws = y.ws := fun _ _ => ⟨rfl, rfl⟩
        simp only [h6]
        rw [h1.1, h1.2.1, h5.1, h5.2]
        exact stp_ok hv hh (Classical.not_not.1 he)
abbrev crH (x : Ca) : List AObj := [.box [.ptr 1 0], .box (caC 2 5 x.sn.length x.v x.K x.D x.W), .box [.bld 3 x.gs.length, .bld 4 x.ws.length], .arr 0 3 (x.gs.map Gr.e), .arr 0 2 (x.ws.map Wt.e), .arr 0 1 (x.sn.map ci0)]
theorem p67_v (hG : G 0 = some alD) (x : Ca) (hv : Vd x.gs x.ws) (hh : Hd x.gs x.ws) (hn : x.sn.length ≤ 9000) (i : Int) (a : Cu) :
    EV G (Tb (bs bb)) 67 [vi i, .agg [.dc (ci a.k), .dc (ci a.c), .dc (ci a.l), .dc (ci a.u)], .one (.ptr 0 0)] (crH x) = some (vi (usF x a.k a.c a.l a.u).2, crH (usF x a.k a.c a.l a.u).1) := by
  refine EV_run rfl ?_
  have q := cuse_v (bb := bb) hG x hv hh hn a.k a.c a.l a.u
  generalize usF x a.k a.c a.l a.u = r at *
  obtain ⟨y, e⟩ := r
  simp only [Ca.h, caH, crH] at q ⊢
  simp (disch := omega) only [go_sem, h67c, evJ_5, q]
def cuX : Ca → Nat → List Cu → Ca × Int × Int
  | x, n, [] => (x, 0, 0)
  | x, n, a :: l => if (usF x a.k a.c a.l a.u).2 = 0 then cuX (usF x a.k a.c a.l a.u).1 (n + 1) l else ((usF x a.k a.c a.l a.u).1, n, (usF x a.k a.c a.l a.u).2)
def caS (l : List Cu) (k : Nat) (x : Ca) : AS := ⟨(jk 1 (.one (.fn 67 [.ptr 0 0]) :: jk 7 (cusV l :: vi l.length :: vi k :: jk 13 []))), crH x⟩
theorem each66_key (hG : G 0 = some alD) (l : List Cu) (hl : l.length ≤ 100) : ∀ (rest : List Cu) (k : Nat) (x : Ca), l.drop k = rest → k ≤ l.length → Vd x.gs x.ws → Hd x.gs x.ws → x.sn.length ≤ 9 * k →
    retZ false [RetV.tmp 4, RetV.tmp 5] 6 (sqK (EV G (Tb (bs bb))) G ((HC.region [Oo 4 (AI.mov (Ki 0)), Oo 5 (AI.mov (Ki 0))]).seq HC.ret) (blkK 0 (EL (EV G (Tb (bs bb))) G h66l0 [1, 7, 0, 0] 6 (caS l k x)))) =
      some (twoI (cuX x k rest).2, crH (cuX x k rest).1)
  | [], k, x, hd, hk, hv, hh, ho => by
    have hkl : k = l.length := by
      have := congrArg List.length hd
      simp at this; omega
    subst hkl
    rw [EL_unf, cuX]
    unfold caS
    simp only [crH]
    simp (disch := omega) only [go_sem, h66l0]
  | a :: rest, k, x, hd, hk, hv, hh, ho => by
    have hkl : k < l.length := by
      have := congrArg List.length hd
      simp at this; omega
    have ha : l[k] = a := by
      have := List.drop_eq_getElem_cons hkl
      rw [hd] at this
      injection this with this _
      exact this.symm
    have hd' : l.drop (k + 1) = rest := by
      have := List.drop_eq_getElem_cons hkl
      rw [hd] at this
      injection this with _ this
      exact this.symm
    have eg : (l.map Cu.e)[k]? = some [ci a.k, ci a.c, ci a.l, ci a.u] := by rw [List.getElem?_map, List.getElem?_eq_getElem hkl, ha]; rfl
    have q := p67_v (bb := bb) hG x hv hh (by omega) k a
    have hl9 := usF_len x hv.wl a.k a.c a.l a.u
    obtain ⟨h1, h2⟩ := usF_ok x hv hh a.k a.c a.l a.u
    rw [cuX]
    by_cases he : (usF x a.k a.c a.l a.u).2 = 0
    · have ih := each66_key hG l hl rest (k + 1) (usF x a.k a.c a.l a.u).1 hd' (by omega) h1 h2 (by omega)
      have hr : rnK [1, 7, 0, 0] 6 (EC (EV G (Tb (bs bb))) G h66l0 (caS l k x)) = some (caS l (k + 1) (usF x a.k a.c a.l a.u).1) := by
        rw [he] at q
        generalize (usF x a.k a.c a.l a.u).1 = y at *
        unfold caS
        simp only [crH] at q ⊢
        simp (disch := omega) only [go_sem, h66l0, evJ_6, eg, q]
      rw [EL_unf, fnK_of hr, ih, if_pos he]
    · rw [EL_unf, if_neg he]
      generalize usF x a.k a.c a.l a.u = r at *
      obtain ⟨y, e⟩ := r
      unfold caS
      simp only [crH] at q he ⊢
      simp (disch := omega) only [go_sem, h66l0, evJ_6, eg, q, he]
theorem each66_v (hG : G 0 = some alD) (x : Ca) (hg : x.gs = []) (hw : x.ws = []) (hs : x.sn = []) (l : List Cu) (hl : l.length ≤ 100) : EV G (Tb (bs bb)) 66 [cusV l, .one (.fn 67 [.ptr 0 0])] (crH x) = some (twoI (cuX x 0 l).2, crH (cuX x 0 l).1) := by
  refine EV_run rfl ?_
  have q := each66_key (bb := bb) hG l hl l 0 x rfl (by omega) (by rw [hg, hw]; exact Vd.nil) (by rw [hg, hw]; exact Hd.nil) (by rw [hs]; simp)
  rw [← q]
  simp (disch := omega) only [go_sem, h66c]
  rfl
end
section
variable {G : Glob} {bb : Bool}
def ca1 (j : Nat) : Ca := ⟨[], [], 0, fun n => if n < j then -1 else 0, fun _ => false, fun _ => 0, []⟩
structure Ck where
  gs : List Gr
  ws : List Wt
  v : Int
  K : List Int
  D : List Bool
  sn : List Int
def Ca.k (x : Ca) : Ck := ⟨x.gs, x.ws, x.v, [x.K 1, x.K 2, x.K 3, x.K 4, x.K 5, x.K 6, x.K 7, x.K 8], [x.D 1, x.D 2, x.D 3, x.D 4, x.D 5, x.D 6, x.D 7, x.D 8], x.sn⟩
def bo (b : Bool) : List DC := [.raw (.bool b)]
abbrev ckC (x : Ck) : List Cel := [.dc (.slc (x.gs.map Gr.e)), .dc (.slc (x.ws.map Wt.e)), .dc (ci x.v), .dc (.slc (x.K.map ci0)), .dc (.slc (x.D.map bo)), .dc (.slc (x.sn.map ci0))]
def crF (l : List Cu) : Ck × Int × Int :=
  if l.length > 100 then (⟨[], [], 0, [], [], []⟩, 0, 8)
  else if (cuX (ca1 9) 0 l).2.2 ≠ 0 then (⟨[], [], 0, [], [], []⟩, (cuX (ca1 9) 0 l).2)
  else ((cuX (ca1 9) 0 l).1.k, l.length, 0)
abbrev crV (r : Ck × Int × Int) : AV := .tup [.agg (ckC r.1), .one (.dc (.raw (.int .i64 r.2.1))), .one (.dc (.raw (.int .i64 r.2.2)))]
theorem upd_1 (j : Nat) : upd (fun n => if n < j then (-1 : Int) else 0) j (-1) = fun n => if n < j + 1 then (-1 : Int) else 0 := by
  funext n
  unfold upd
  by_cases hn : n = j
  · subst hn; simp
  · have e : (n < j + 1) = (n < j) := propext ⟨by omega, by omega⟩
    simp [hn, e]
def i19 (l : List Cu) (x : Ca) (j : Nat) : AS := ⟨(cusV l :: jk 1 (.one (.ptr 0 0) :: jk 2 (.one (.ptr 3 0) :: jk 11 (vi j :: jk 45 [])))), [.box [.dc (.raw (.slice none 0 0)), .dc (.raw (.slice none 0 0)), .dc (ci 0), .dc (.raw (.slice none 0 0)), .dc (.raw (.slice none 0 0)), .dc (.raw (.slice none 0 0))], .box [.bld 4 x.gs.length, .bld 5 x.ws.length], .box (caC 1 6 x.sn.length x.v x.K x.D x.W), .box [.ptr 2 0], .arr 0 3 (x.gs.map Gr.e), .arr 0 2 (x.ws.map Wt.e), .arr 0 1 (x.sn.map ci0)]⟩
theorem i19_round (l : List Cu) (j : Nat) (hj : j < 9) : rnK [0, 1, 2, 11] 7 (EC (EV G (Tb (bs bb))) G h19l0 (i19 l (ca1 j) j)) = some (i19 l (ca1 (j + 1)) (j + 1)) := by
  have e : ca1 (j + 1) = { ca1 j with K := upd (ca1 j).K j (-1) } := by unfold ca1; rw [upd_1]
  rw [e]
  generalize ca1 j = x
  obtain ⟨gs, ws, v, K, D, W, sn⟩ := x
  unfold i19
  simp only
  simp (disch := omega) only [go_sem, h19l0, tn1, fvT_c]
set_option maxHeartbeats 4000000 in
theorem cacheRun_v (hG : G 0 = some alD) (l : List Cu) (hl : l.length ≤ 1000000) : EV G (Tb (bs bb)) 19 [cusV l] [] = some (crV (crF l), []) := by
  refine EV_run rfl ?_
  unfold crF
  by_cases h : l.length > 100
  · rw [if_pos h]
    simp (disch := omega) only [go_sem, h19c, h]
    try rfl
  · rw [if_neg h]
    have q := each66_v (bb := bb) hG (ca1 9) rfl rfl rfl l (by omega)
    simp (disch := omega) only [go_sem, h19c, h]
    rw [EL_loop (fun j => i19 l (ca1 j) j) 9 ?_ (fun j hj => i19_round l j hj)]
    rotate_left
    · rfl
    unfold i19
    generalize ca1 9 = x at *
    generalize cuX x 0 l = r at *
    obtain ⟨y, n, e⟩ := r
    simp only [crH] at q
    by_cases he : e = 0
    · subst he
      rw [if_neg (by simp)]
      simp (maxSteps := 1000000) (disch := omega) only [go_sem, h19l0, q, evJ_6, List.take_length]
      try rfl
    · rw [if_pos (by simpa using he)]
      simp (disch := omega) only [go_sem, h19l0, q, evJ_6, he]
      try rfl
end
section
theorem lvF_ge {gs : List Gr} (hs : Srt gs) {c : Int} (h : lvF gs c ≥ 0) : ∃ g ∈ gs, g.c = c ∧ g.l = lvF gs c := by
  unfold lvF at h ⊢
  cases hi : isIn gs c with
  | false => rw [hi, if_neg (by simp)] at h; omega
  | true =>
    rw [if_pos rfl]
    exact ⟨grE gs c, (grE_mem hs hi).1, (grE_mem hs hi).2, rfl⟩
theorem lv2 {gs : List Gr} {ws : List Wt} (h : Vd gs ws) {a b : Int} (ha : lvF gs a ≥ 2) (hb : b ≠ a) : lvF gs b ≤ 0 := by
  obtain ⟨g, hg, h1, h2⟩ := lvF_ge h.so (c := a) (by omega)
  by_cases h3 : lvF gs b ≥ 0
  · obtain ⟨k, hk, h4, h5⟩ := lvF_ge h.so h3
    have := (h.cl g hg k hk (by omega)).1 (by omega)
    omega
  · omega
theorem thr_split : ∀ (ws : List Wt) (gs : List Gr), (thr gs ws).2.2.2 ++ (thr gs ws).2.1 = ws
  | [], gs => rfl
  | w :: ws, gs => by
    rw [thr]
    split
    · rfl
    · simp only [List.cons_append, thr_split ws]
def frd (W : Int → Int) : List Wt → Int × List Int → Int × List Int
  | [], p => p
  | w :: l, p => frd W l (if w.k = 3 then W w.c else p.1, if w.k = 2 then p.2 ++ [p.1] else p.2)
theorem effF_v (x : Ca) (c k : Int) : (effF x c k).v = (if k = 3 then x.W c.toNat else x.v) ∧ (effF x c k).sn = (if k = 2 then x.sn ++ [x.v] else x.sn) ∧ (effF x c k).W = x.W := by
  unfold effF
  by_cases h2 : k = 2
  · have h3 : ¬ k = 3 := by omega
    rw [if_pos h2, if_pos h2, if_neg h3]
    split <;> exact ⟨rfl, rfl, rfl⟩
  · rw [if_neg h2, if_neg h2]
    by_cases h3 : k = 3
    · rw [if_pos h3, if_pos h3]
      split <;> exact ⟨rfl, rfl, rfl⟩
    · rw [if_neg h3, if_neg h3]
      exact ⟨rfl, rfl, rfl⟩
theorem effL_frd : ∀ (l : List Wt) (x : Ca), ((effL x l).v, (effL x l).sn) = frd (fun c => x.W c.toNat) l (x.v, x.sn) ∧ (effL x l).W = x.W
  | [], x => ⟨rfl, rfl⟩
  | w :: l, x => by
    have h1 := effF_v x w.c w.k
    have h2 := effL_frd l (effF x w.c w.k)
    have e : effL x (w :: l) = effL (effF x w.c w.k) l := rfl
    rw [e, h2.1, h2.2, h1.2.2]
    refine ⟨?_, rfl⟩
    rw [frd, h1.1, h1.2.1]
structure Cln (x : Ca) : Prop where
  d : ∀ n : Nat, n < 9 → x.D n = false
  k : ∀ n : Nat, n < 9 → lvF x.gs n ≥ 1 → x.K n = -1 ∨ x.K n = x.v
theorem Cln.eff {x : Ca} (h : Cln x) {c k : Int} (hc : 1 ≤ c ∧ c ≤ 8) (hw : k = 3 → ∀ n : Nat, (n : Int) ≠ c → lvF x.gs n ≤ 0) : Cln (effF x c k) := by
  have hcc : ((c.toNat : Nat) : Int) = c := by omega
  have hg := (effF_gs x c k).1
  constructor
  · intro n hn
    unfold effF
    repeat' split
    all_goals first | exact h.d n hn | skip
    all_goals
      simp only [upd]
      split
      · rfl
      · exact h.d n hn
  · intro n hn
    rw [hg]
    intro hl
    have h0 := h.k n hn hl
    unfold effF
    split
    · split
      · simp only [upd]
        split
        · exact .inr rfl
        · exact h0
      · exact h0
    · split
      · rename_i h3
        have hnc : (n : Int) = c := by
          apply Classical.byContradiction
          intro hne
          have := hw h3 n hne
          omega
        have e : n = c.toNat := by omega
        split
        · simp only [upd]
          rw [if_pos e]
          exact .inr rfl
        · rename_i h4
          rw [hnc] at hl
          exact absurd hl h4
      · exact h0
theorem Cln.effL : ∀ (l : List Wt) {x : Ca}, Cln x → (∀ w ∈ l, (1 ≤ w.c ∧ w.c ≤ 8) ∧ (w.k = 3 → ∀ n : Nat, (n : Int) ≠ w.c → lvF x.gs n ≤ 0)) → Cln (effL x l)
  | [], x, h, _ => h
  | w :: l, x, h, hw => by
    have h1 := hw w List.mem_cons_self
    have h2 := h.eff h1.1 h1.2
    have e : Go.Proofs.YtinageiefahjfaaGreatDoor.effL x (w :: l) = Go.Proofs.YtinageiefahjfaaGreatDoor.effL (effF x w.c w.k) l := rfl
    rw [e]
    refine Cln.effL l h2 (fun a ha => ?_)
    rw [(effF_gs x w.c w.k).1]
    exact hw a (List.mem_cons_of_mem _ ha)
structure Iv (x : Ca) (last : Int) : Prop where
  d : ∀ n, n < 9 → x.D n = true → lvF x.gs n ≥ 2 ∧ x.K n ≠ -1 ∧ x.K n = last
  k : ∀ n, n < 9 → x.K n ≠ -1 → lvF x.gs n ≥ 1 ∧ (x.D n = true ∨ x.K n = x.v)
  v : (∀ n, n < 9 → x.D n = false) → x.v = last
  w : ∀ a ∈ x.ws, x.D a.c.toNat = false
theorem Iv.one {x : Ca} {last : Int} (h : Iv x last) (hv : Vd x.gs x.ws) {c : Nat} (hc : c < 9) (hd : x.D c = true) : ∀ n, n < 9 → n ≠ c → x.K n = -1 ∧ x.D n = false := by
  intro n hn hne
  have h1 := (h.d c hc hd).1
  have h2 := lv2 hv h1 (b := (n : Int)) (by omega)
  constructor
  · apply Classical.byContradiction
    intro h3
    have := (h.k n hn h3).1
    omega
  · cases h3 : x.D n with
    | false => rfl
    | true => have := (h.d n hn h3).1; omega
theorem Cln.drp {x : Ca} (h : Cln x) (hw : ∀ a ∈ x.ws, a.c.toNat < 9) : Iv (drpF x 9) x.v := by
  have e : ∀ n, n < 9 → (drpF x 9).D n = false := by
    intro n hn
    simp only [drpF]
    split
    · rfl
    · exact h.d n hn
  refine ⟨fun n hn hd => ?_, fun n hn hk => ?_, fun _ => rfl, fun a ha => ?_⟩
  · rw [e n hn] at hd; cases hd
  · simp only [drpF] at hk ⊢
    split at hk
    · exact absurd rfl hk
    · rename_i h1
      have h2 : lvF x.gs n ≥ 1 := by omega
      rw [if_neg h1, if_neg h1]
      exact ⟨h2, .inr ((h.k n hn h2).resolve_left hk)⟩
  · simp only [drpF]
    split
    · rfl
    · rename_i h1
      exact h.d _ (hw a ha)
theorem Iv.keep {x y : Ca} {last : Int} (h : Iv x last) (eK : y.K = x.K) (eD : y.D = x.D) (ev : y.v = x.v) (hl : ∀ n : Nat, n < 9 → x.D n = true → lvF y.gs n ≥ 2) (hw : ∀ a ∈ y.ws, x.D a.c.toNat = false) : Iv (drpF y 9) last := by
  have key : ∀ n, n < 9 → ((drpF y 9).D n = true ↔ x.D n = true) := by
    intro n hn
    simp only [drpF, eD]
    constructor
    · intro h1
      split at h1
      · cases h1
      · exact h1
    · intro h1
      rw [if_neg (by have := hl n hn h1; omega)]
      exact h1
  refine ⟨fun n hn hd => ?_, fun n hn hk => ?_, fun hv => ?_, fun a ha => ?_⟩
  · have h1 := (key n hn).1 hd
    have h2 := hl n hn h1
    have h3 := h.d n hn h1
    simp only [drpF]
    rw [if_neg (by omega), eK]
    exact ⟨h2, h3.2⟩
  · simp only [drpF] at hk ⊢
    split at hk
    · exact absurd rfl hk
    · rename_i h1
      rw [if_neg h1, if_neg h1, eD, eK, ev]
      rw [eK] at hk
      exact ⟨by omega, (h.k n hn hk).2⟩
  · show y.v = last
    rw [ev]
    refine h.v (fun n hn => ?_)
    cases h1 : x.D n with
    | false => rfl
    | true => have := hv n hn; rw [(key n hn).2 h1] at this; cases this
  · simp only [drpF, eD]
    split
    · rfl
    · exact hw a ha
theorem usE_0 {x : Ca} {k c l u : Int} (h : usE x k c l u = 0) : 0 ≤ u ∧ usErr x.gs x.ws ⟨k, c, l⟩ = 0 := by
  unfold usE at h
  rw [firstE_0] at h
  simp only [List.mem_cons, List.not_mem_nil, or_false, forall_eq_or_imp, forall_eq] at h
  obtain ⟨h1, h2⟩ := h
  rw [ifE_0 (by decide)] at h1
  unfold wi at h1
  simp at h1
  exact ⟨h1.1, h2⟩
end
section
structure Alk (x y : Ca) (f : List Wt) : Prop where
  gs : x.gs = y.gs
  ws : x.ws = y.ws
  v : x.v = y.v
  sn : x.sn = y.sn
  kd : ∀ n : Nat, (lvF x.gs n ≥ 1 ∨ 9 ≤ n) → x.K n = y.K n ∧ x.D n = y.D n
  w : ∀ a ∈ f, a.k = 3 → x.W a.c.toNat = y.W a.c.toNat
theorem Alk.eff {x y : Ca} {f : List Wt} {w : Wt} (h : Alk x y (w :: f)) (hw : 1 ≤ w.c ∧ w.c ≤ 8) : Alk (effF x w.c w.k) (effF y w.c w.k) f := by
  have hg := (effF_gs x w.c w.k)
  have hg' := (effF_gs y w.c w.k)
  have hv := effF_v x w.c w.k
  have hv' := effF_v y w.c w.k
  have h3 : w.k = 3 → x.W w.c.toNat = y.W w.c.toNat := h.w w List.mem_cons_self
  refine ⟨by rw [hg.1, hg'.1, h.gs], by rw [hg.2.1, hg'.2.1, h.ws], ?_, ?_, ?_, fun a ha hk => by rw [hv.2.2, hv'.2.2]; exact h.w a (List.mem_cons_of_mem _ ha) hk⟩
  · rw [hv.1, hv'.1]
    split
    · rename_i hk; exact h3 hk
    · exact h.v
  · rw [hv.2.1, hv'.2.1, h.sn, h.v]
  · intro n hn
    rw [hg.1] at hn
    have h0 := h.kd n hn
    have e := h.gs
    unfold effF
    rw [← e]
    by_cases k2 : w.k = 2
    · rw [if_pos k2, if_pos k2]
      split
      · simp only [upd]
        split
        · exact ⟨h.v, rfl⟩
        · exact h0
      · exact h0
    · rw [if_neg k2, if_neg k2]
      by_cases k3 : w.k = 3
      · rw [if_pos k3, if_pos k3]
        split
        · simp only [upd]
          split
          · exact ⟨h3 k3, rfl⟩
          · exact h0
        · exact h0
      · rw [if_neg k3, if_neg k3]; exact h0
theorem Alk.effs : ∀ (f : List Wt) {x y : Ca}, Alk x y f → (∀ w ∈ f, 1 ≤ w.c ∧ w.c ≤ 8) → Alk (effL x f) (effL y f) []
  | [], x, y, h, _ => h
  | w :: f, x, y, h, hw => Alk.effs f (h.eff (hw w List.mem_cons_self)) (fun a ha => hw a (List.mem_cons_of_mem _ ha))
theorem Alk.drp {x y : Ca} {f : List Wt} (h : Alk x y f) : drpF x 9 = { drpF y 9 with W := x.W } := by
  have e1 := h.gs
  have e2 := h.ws
  have e3 := h.v
  have e4 := h.sn
  have e5 := h.kd
  obtain ⟨g, w, v, K, D, W, sn⟩ := x
  obtain ⟨g', w', v', K', D', W', sn'⟩ := y
  simp only at e1 e2 e3 e4 e5
  subst e1 e2 e3 e4
  unfold drpF
  simp only [Ca.mk.injEq, true_and, and_true]
  constructor
  · funext n
    by_cases h1 : n < 9 ∧ lvF g n < 1
    · rw [if_pos h1, if_pos h1]
    · rw [if_neg h1, if_neg h1]; exact (e5 n (by omega)).1
  · funext n
    by_cases h1 : n < 9 ∧ lvF g n < 1
    · rw [if_pos h1, if_pos h1]
    · rw [if_neg h1, if_neg h1]; exact (e5 n (by omega)).2
theorem Alk.d1 (x : Ca) (f : List Wt) : Alk (drpF x 9) x f := by
  refine ⟨rfl, rfl, rfl, rfl, fun n hn => ?_, fun _ _ _ => rfl⟩
  have hn : lvF x.gs n ≥ 1 ∨ 9 ≤ n := hn
  simp only [drpF]
  rw [if_neg (by omega), if_neg (by omega)]
  exact ⟨rfl, rfl⟩
def givR (x : Ca) (k c u : Int) : Ca :=
  if (k = 4 ∨ k = 5) ∧ x.D c.toNat = true then { x with v := x.K c.toNat, D := upd x.D c.toNat false } else if k = 3 then { x with W := upd x.W c.toNat u } else x
def aftR (x : Ca) (k c l u : Int) : Ca := ⟨(stp x.gs x.ws ⟨k, c, l⟩).1, (stp x.gs x.ws ⟨k, c, l⟩).2.1, (givR x k c u).v, (givR x k c u).K, (givR x k c u).D, (givR x k c u).W, (givR x k c u).sn⟩
def actR (x : Ca) (k c l u : Int) : Ca :=
  drpF (effL (if (stp x.gs x.ws ⟨k, c, l⟩).2.2.d = true ∧ isUs k = true then effF (drpF (aftR x k c l u) 9) c k else drpF (aftR x k c l u) 9) (stp x.gs x.ws ⟨k, c, l⟩).2.2.f) 9
def Eqv (x y : Ca) : Prop := y = { x with W := y.W } ∧ ∀ w ∈ x.ws, w.k = 3 → y.W w.c.toNat = x.W w.c.toNat
theorem giv_R (x : Ca) (k c u : Int) (V : Nat → Int) : givR { x with W := V } k c u = { giv x k c u with W := if k = 3 then upd V c.toNat u else V } := by
  unfold givR giv
  by_cases h : (k = 4 ∨ k = 5) ∧ x.D c.toNat = true
  · rw [if_pos h, if_pos h, if_neg (by omega)]
  · rw [if_neg h, if_neg h]
    by_cases h3 : k = 3
    · rw [if_pos h3, if_pos h3]
    · rw [if_neg h3, if_neg h3]
theorem stp_w (gs : List Gr) (ws : List Wt) (a : Ac) : ∀ w ∈ (stp gs ws a).2.1, w ∈ ws ∨ w = ⟨a.c, a.k⟩ := by
  intro w hw
  unfold stp at hw
  split at hw
  · exact .inl hw
  · split at hw
    · left
      rw [← thr_split ws (ackG gs a.c)]
      exact List.mem_append_right _ hw
    · split at hw
      · left
        rw [← thr_split ws (delG gs a.c)]
        exact List.mem_append_right _ hw
      · unfold useF at hw
        split at hw
        · split at hw
          · exact .inr (by simpa using hw)
          · cases hw
        · rcases List.mem_append.1 hw with h | h
          · exact .inl h
          · exact .inr (by simpa using h)
theorem act_eqv {x y : Ca} (h : Eqv x y) (hv : Vd x.gs x.ws) {k c l u : Int} (he : acErr x.gs x.ws ⟨k, c, l⟩ = 0) : Eqv (actF x k c l u) (actR y k c l u) := by
  obtain ⟨h1, h2⟩ := h
  have hus : usErr x.gs x.ws ⟨k, c, l⟩ = 0 := by
    unfold acErr at he
    split at he
    · rename_i h1; exact absurd he h1
    · rename_i h1; exact Classical.not_not.1 h1
  obtain ⟨hk, hc, _, hnw, hin⟩ := us_ok hus
  simp only at hk hc hnw hin
  have hne : ∀ w ∈ x.ws, w.c ≠ c := isW_false.1 hnw
  generalize y.W = V at h1 h2
  subst h1
  have hf := stp_f x.gs x.ws ⟨k, c, l⟩
  have hw' := stp_w x.gs x.ws ⟨k, c, l⟩
  rw [actF_e]
  have eR : aftR { x with W := V } k c l u = ⟨(stp x.gs x.ws ⟨k, c, l⟩).1, (stp x.gs x.ws ⟨k, c, l⟩).2.1, (giv x k c u).v, (giv x k c u).K, (giv x k c u).D, (if k = 3 then upd V c.toNat u else V), (giv x k c u).sn⟩ := by
    unfold aftR
    rw [giv_R]
  unfold actR
  rw [eR]
  unfold aft
  have gW : (giv x k c u).W = upd x.W c.toNat u := by unfold giv; split <;> rfl
  rw [gW]
  show Eqv _ (drpF (effL (if (stp x.gs x.ws ⟨k, c, l⟩).2.2.d = true ∧ isUs k = true then _ else _) (stp x.gs x.ws ⟨k, c, l⟩).2.2.f) 9)
  generalize stp x.gs x.ws ⟨k, c, l⟩ = s at *
  obtain ⟨gs', ws', d, b, f⟩ := s
  simp only at *
  have hcc : 0 ≤ c := by omega
  have hVx : ∀ w ∈ x.ws, w.k = 3 → upd x.W c.toNat u w.c.toNat = (if k = 3 then upd V c.toNat u else V) w.c.toNat := by
    intro w hw h3
    have h4 := hne w hw
    have h5 := (hv.wr w hw).1
    have h6 := h2 w hw h3
    have h7 : ¬ w.c.toNat = c.toNat := by omega
    split
    · simp only [upd]; rw [if_neg h7, if_neg h7]; exact h6.symm
    · simp only [upd]; rw [if_neg h7]; exact h6.symm
  have hVc : k = 3 → upd x.W c.toNat u c.toNat = (if k = 3 then upd V c.toNat u else V) c.toNat := by
    intro h3
    rw [if_pos h3]
    simp only [upd, if_true]
  generalize hV' : (if k = 3 then upd V c.toNat u else V) = V' at *
  generalize hF : (if d = true ∧ isUs k = true then [(⟨c, k⟩ : Wt)] else []) ++ f = F
  have e1 : effL (if d = true then effF ⟨gs', ws', (giv x k c u).v, (giv x k c u).K, (giv x k c u).D, upd x.W c.toNat u, (giv x k c u).sn⟩ c k else ⟨gs', ws', (giv x k c u).v, (giv x k c u).K, (giv x k c u).D, upd x.W c.toNat u, (giv x k c u).sn⟩) f
      = effL ⟨gs', ws', (giv x k c u).v, (giv x k c u).K, (giv x k c u).D, upd x.W c.toNat u, (giv x k c u).sn⟩ F := by
    rw [← hF]
    cases d with
    | false => rw [if_neg (by simp), if_neg (by simp)]; rfl
    | true =>
      rw [if_pos rfl]
      cases hu : isUs k with
      | true => rw [if_pos ⟨rfl, rfl⟩]; rfl
      | false =>
        rw [if_neg (by simp)]
        have e : ∀ z : Ca, effF z c k = z := fun z => by
          have : ¬ k = 2 ∧ ¬ k = 3 := by
            unfold isUs at hu
            simp at hu
            exact ⟨hu.2.1, hu.2.2⟩
          unfold effF; rw [if_neg this.1, if_neg this.2]
        rw [e]; rfl
  have e2 : ∀ z : Ca, effL (if d = true ∧ isUs k = true then effF z c k else z) f = effL z F := by
    intro z
    rw [← hF]
    split
    · rfl
    · rfl
  rw [e1, e2]
  have hFm : ∀ w ∈ F, (1 ≤ w.c ∧ w.c ≤ 8) ∧ (w.k = 3 → upd x.W c.toNat u w.c.toNat = V' w.c.toNat) := by
    intro w hw
    rw [← hF, List.mem_append] at hw
    rcases hw with hw | hw
    · split at hw
      · rw [List.mem_singleton] at hw
        subst hw
        exact ⟨hc, fun h3 => hVc h3⟩
      · cases hw
    · exact ⟨(hv.wr w (hf.1 w hw)).1, hVx w (hf.1 w hw)⟩
  have hA : Alk ⟨gs', ws', (giv x k c u).v, (giv x k c u).K, (giv x k c u).D, upd x.W c.toNat u, (giv x k c u).sn⟩ (drpF ⟨gs', ws', (giv x k c u).v, (giv x k c u).K, (giv x k c u).D, V', (giv x k c u).sn⟩ 9) F := by
    refine ⟨rfl, rfl, rfl, rfl, fun n hn => ?_, fun a ha h3 => (hFm a ha).2 h3⟩
    simp only at hn
    simp only [drpF]
    rw [if_neg (by omega), if_neg (by omega)]
    exact ⟨rfl, rfl⟩
  have hB := hA.effs F (fun w hw => (hFm w hw).1)
  have hD := hB.drp
  have g1 := effL_gs ⟨gs', ws', (giv x k c u).v, (giv x k c u).K, (giv x k c u).D, upd x.W c.toNat u, (giv x k c u).sn⟩ F
  have g2 := (effL_frd F ⟨gs', ws', (giv x k c u).v, (giv x k c u).K, (giv x k c u).D, upd x.W c.toNat u, (giv x k c u).sn⟩).2
  have g3 := (effL_frd F (drpF ⟨gs', ws', (giv x k c u).v, (giv x k c u).K, (giv x k c u).D, V', (giv x k c u).sn⟩ 9)).2
  generalize effL ⟨gs', ws', (giv x k c u).v, (giv x k c u).K, (giv x k c u).D, upd x.W c.toNat u, (giv x k c u).sn⟩ F = X at *
  generalize effL (drpF ⟨gs', ws', (giv x k c u).v, (giv x k c u).K, (giv x k c u).D, V', (giv x k c u).sn⟩ 9) F = Y at *
  refine ⟨?_, fun w hw h3 => ?_⟩
  · rw [hD]
  · show Y.W w.c.toNat = X.W w.c.toNat
    have hw : w ∈ X.ws := hw
    rw [g1.2.1] at hw
    rw [g2, g3]
    show V' w.c.toNat = upd x.W c.toNat u w.c.toNat
    rcases hw' w hw with h4 | h4
    · exact (hVx w h4 h3).symm
    · subst h4
      exact (hVc h3).symm
end
section
variable {G : Glob} {bb : Bool}
theorem meet_sw {n0 i j : Nat} {s s' : AS} (h1 : Nat.ble n0 i = true) (h2 : Nat.ble n0 j = true) (h3 : Nat.blt i s'.hp.length = true) (h4 : Nat.blt j s'.hp.length = true) (h : prm [(i, j)] s' = s) : meetE n0 (some s) (some s') = some s :=
  meetE_p [(i, j)] (fun x hx => by
    rw [List.mem_singleton] at hx
    subst hx
    exact ⟨Nat.le_of_ble_eq_true h1, Nat.le_of_ble_eq_true h2, Nat.le_of_ble_eq_true h3, Nat.le_of_ble_eq_true h4⟩) h
theorem meet23 {s s' : AS} (h3 : Nat.blt 2 s'.hp.length = true) (h4 : Nat.blt 3 s'.hp.length = true) (h : prm [(2, 3)] s' = s) : meetE 2 (some s) (some s') = some s := meet_sw rfl rfl h3 h4 h
theorem rwithin_v (n lo hi : Int) : EV G (Tb (bs bb)) 39 [vi n, vi lo, vi hi] [] = some (vb (wi n lo hi), []) := by
  refine EV_run rfl ?_
  unfold wi
  by_cases h : lo ≤ n
  all_goals simp (disch := omega) only [go_sem, h39c]
  all_goals simp [h]
theorem rclient_v (n : Int) : EV G (Tb (bs bb)) 121 [vi n] [] = some (vb (isCl n), []) := by
  refine EV_run rfl ?_
  simp (disch := omega) only [go_sem, h121c, rwithin_v]
  rfl
theorem rallows_v (k : Int) : EV G (Tb (bs bb)) 123 [vi k] [] = some (vi (al k), []) := by
  refine EV_run rfl ?_
  unfold al
  by_cases h1 : k = 0
  · simp (disch := omega) only [go_sem, h123c, eq_true h1]
  · by_cases h2 : k = 2
    · simp (disch := omega) only [go_sem, h123c, h1, eq_true h2]
    · simp (disch := omega) only [go_sem, h123c, h1, h2]
theorem rcopy_v (gs : List Gr) (ws : List Wt) (hg : gs.length ≤ 100000) (hw : ws.length ≤ 100000) : EV G (Tb (bs bb)) 13 [flV gs ws] [] = some (.agg [.bld 2 gs.length, .bld 3 ws.length], [.box [.dc (.slc (gs.map Gr.e)), .dc (.slc (ws.map Wt.e))], .box [.bld 2 gs.length, .bld 3 ws.length], .arr 0 3 (gs.map Gr.e), .arr 0 2 (ws.map Wt.e)]) := by
  refine EV_run rfl ?_
  simp (disch := omega) only [go_sem, h13c, allLen_gr, allLen_wt]
  repeat
    first
    | rw [meetE_e]
    | (rw [meet23 ?_ ?_ ?_]
       rotate_left
       · rfl
       · rfl
       · rfl)
  simp (disch := omega) only [go_sem]
end
section
variable {G : Glob} {bb : Bool}
def rbSt (gs : List Gr) (ws : List Wt) (c m : Int) (es os : List (List DC)) (j : Nat) : AS :=
  ⟨(jk 1 (vi c :: jk 4 (.one (.ptr 1 0) :: jk 1 (.one (.ptr 6 0) :: .one (.bld 7 os.length) :: vi m :: vi j :: jk 62 [])))), [.box [.dc (.slc (gs.map Gr.e)), .dc (.slc (ws.map Wt.e))], .box [.dc (.raw (.slice none 0 0)), .dc (.raw (.slice none 0 0))], .box [.dc (.slc (gs.map Gr.e)), .dc (.slc (ws.map Wt.e))], .box [.bld 4 gs.length, .bld 5 ws.length], .arr 0 3 es, .arr 0 2 (ws.map Wt.e), .box [.bld 4 gs.length, .bld 5 ws.length], .arr 0 2 os]⟩
theorem rb_round (gs : List Gr) (ws : List Wt) (c m : Int) (hm : 0 ≤ m) (hl : gs.length ≤ 1000000) (es os : List (List DC)) (j : Nat) (hj : j < gs.length) (g : Gr) (he : es[j]? = some [ci g.c, ci g.l, ci g.t]) (hel : es.length = gs.length) (ho : os.length ≤ 1000000) :
    rnK [1, 4, 1, 0, 0, 0] 8 (EC (EV G (Tb (bs bb))) G h59l0 (rbSt gs ws c m es os j)) = some (rbSt gs ws c m (es.set j (brG c m g).e) (os ++ (brB c m g).map Br.e) (j + 1)) := by
  have hje : j < es.length := by omega
  have e1 := fun x => set_get (x := x) hje
  unfold rbSt
  by_cases h1 : g.c = c
  · have a1 : brG c m g = g := by unfold brG; rw [if_pos (.inl h1)]
    have a2 : brB c m g = [] := by unfold brB; rw [if_pos (.inl h1)]
    rw [a1, a2, set_sm (x := g.e) he]
    simp (disch := omega) only [go_sem, h59l0, he, hel, eq_true h1, List.map_nil, List.append_nil]
  · by_cases h2 : g.l ≤ m
    · have a1 : brG c m g = g := by unfold brG; rw [if_pos (.inr h2)]
      have a2 : brB c m g = [] := by unfold brB; rw [if_pos (.inr h2)]
      rw [a1, a2, set_sm (x := g.e) he]
      simp (disch := omega) only [go_sem, h59l0, he, hel, h1, h2, List.map_nil, List.append_nil]
    · by_cases h3 : g.l = 1
      · have a1 : brG c m g = ⟨g.c, 0, 0⟩ := by unfold brG; rw [if_neg (by omega), if_pos h3]
        have a2 : brB c m g = [⟨g.c, 0⟩] := by unfold brB; rw [if_neg (by omega), if_pos h3]
        rw [a1, a2]
        simp (disch := omega) only [go_sem, h59l0, he, hel, h1, h2, eq_true h3, e1, List.set_set, List.length_set, Gr.e, Br.e, List.map_cons, List.map_nil, List.length_append, List.length_cons, List.length_nil, List.take_length]
      · by_cases h4 : g.t ≤ m
        · have a1 : brG c m g = g := by unfold brG; rw [if_neg (by omega), if_neg h3, if_pos h4]
          have a2 : brB c m g = [] := by unfold brB; rw [if_neg (by omega), if_neg h3, if_pos h4]
          have h4' : ¬ g.t > m := by omega
          rw [a1, a2, set_sm (x := g.e) he]
          simp (disch := omega) only [go_sem, h59l0, he, hel, h1, h2, h3, h4', List.map_nil, List.append_nil]
        · have a1 : brG c m g = ⟨g.c, g.l, m⟩ := by unfold brG; rw [if_neg (by omega), if_neg h3, if_neg h4]
          have a2 : brB c m g = [⟨g.c, m⟩] := by unfold brB; rw [if_neg (by omega), if_neg h3, if_neg h4]
          have h4' : g.t > m := by omega
          rw [a1, a2]
          simp (disch := omega) only [go_sem, h59l0, he, hel, h1, h2, h3, h4', e1, List.set_set, List.length_set, Gr.e, Br.e, List.map_cons, List.map_nil, List.length_append, List.length_cons, List.length_nil, List.take_length]
theorem rb_loop {st : AS} (gs : List Gr) (ws : List Wt) (c k : Int) (hl : gs.length ≤ 1000000) (h0 : st = rbSt gs ws c (al k) (gs.map Gr.e) [] 0) :
    EL (EV G (Tb (bs bb))) G h59l0 [1, 4, 1, 0, 0, 0] 8 st = fnK (EV G (Tb (bs bb))) G h59l0 [1, 4, 1, 0, 0, 0] 8 (EC (EV G (Tb (bs bb))) G h59l0 (rbSt gs ws c (al k) ((brGs gs c k).map Gr.e) ((brBs gs c k).map Br.e) gs.length)) := by
  subst h0
  have hm := (al_r k).1
  rw [← midE_all, ← outE_all]
  refine EL_loop (fun j => rbSt gs ws c (al k) (midE gs c (al k) j) (outE gs c (al k) j) j) gs.length ?_ ?_
  · rw [midE_0, outE_0]
  · intro j hj
    have h1 := outE_len gs c (al k) j (by omega)
    rw [midE_next c (al k) hj, outE_next c (al k) hj]
    exact rb_round gs ws c (al k) hm hl _ _ j hj gs[j] (midE_at c (al k) hj) (midE_len ..) (by omega)
abbrev brkH (gs : List Gr) (ws : List Wt) (c k : Int) : List AObj := [.box [.dc (.slc (gs.map Gr.e)), .dc (.slc (ws.map Wt.e))], .box [.bld 4 gs.length, .bld 5 ws.length], .box [.dc (.slc (gs.map Gr.e)), .dc (.slc (ws.map Wt.e))], .box [.bld 4 gs.length, .bld 5 ws.length], .arr 0 3 ((brGs gs c k).map Gr.e), .arr 0 2 (ws.map Wt.e), .box [.bld 4 gs.length, .bld 5 ws.length], .arr 0 2 ((brBs gs c k).map Br.e)]
theorem rbroken_v (gs : List Gr) (ws : List Wt) (c k : Int) (hl : gs.length ≤ 100000) (hw : ws.length ≤ 100000) :
    EV G (Tb (bs bb)) 59 [flV gs ws, vi c, vi k] [] = some (.tup [.agg [.bld 4 gs.length, .bld 5 ws.length], .one (.bld 7 (brBs gs c k).length)], brkH gs ws c k) := by
  refine EV_run rfl ?_
  have q := rcopy_v (G := G) (bb := bb) gs ws hl hw
  have e0 := brGs_len gs c k
  simp (disch := omega) only [go_sem, h59c, q, rallows_v]
  rw [rb_loop gs ws c k (by omega) ?_]
  rotate_left
  · rfl
  unfold rbSt
  simp (disch := omega) only [go_sem, h59l0, e0, List.take_length]
  try rfl
end
end Go.Proofs.YtinageiefahjfaaGreatDoor
