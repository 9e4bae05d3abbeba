/- CacheRun. Conditions: none. -/
import Derived.Test.YtinageiefahjfaaDoorUs
import Derived.Test.YtinageiefahjfaaDoorUm
namespace Go.Proofs.YtinageiefahjfaaDoor
set_option linter.unusedSimpArgs false
set_option linter.unusedVariables false
set_option maxRecDepth 4000
section
variable {G : Glob} {bb : Bool}
def rnX : List Gr → List Wt → List An → Nat → List Ac → (List Gr × List Wt × List An) × Int × Int
  | gs, ws, out, n, [] => ((gs, ws, out), 0, 0)
  | gs, ws, out, n, a :: l => if acErr gs ws a = 0 then rnX (stp gs ws a).1 (stp gs ws a).2.1 (out ++ [(stp gs ws a).2.2]) (n + 1) l else ((gs, ws, out), n, acErr gs ws a)
def eaS (l : List Ac) (k : Nat) (gs : List Gr) (ws : List Wt) (out : List An) : AS := ⟨(jk 1 (.one (.fn 36 [.ptr 0 0, .ptr 4 0]) :: jk 7 (acsV l :: vi l.length :: vi k :: jk 13 []))), runH gs ws out⟩
theorem each61_key (hG : G 0 = some alD) (l : List Ac) (hl : l.length ≤ 100) : ∀ (rest : List Ac) (k : Nat) (gs : List Gr) (ws : List Wt) (out : List An), l.drop k = rest → k ≤ l.length → Vd gs ws → Hd gs ws → out.length ≤ k →
    retZ false [RetV.tmp 4, RetV.tmp 5] 6 (sqK (EV G (Tb (bs bb))) G ((HC.region [Oo 4 (AI.mov (Ki 0)), Oo 5 (AI.mov (Ki 0))]).seq HC.ret) (blkK 0 (EL (EV G (Tb (bs bb))) G h35l0 [1, 7, 0, 0] 6 (eaS l k gs ws out)))) =
      some (twoI (rnX gs ws out k rest).2, runH (rnX gs ws out k rest).1.1 (rnX gs ws out k rest).1.2.1 (rnX gs ws out k rest).1.2.2)
  | [], k, gs, ws, out, hd, hk, hv, hh, ho => by
    have hkl : k = l.length := by
      have := congrArg List.length hd
      simp at this; omega
    subst hkl
    rw [EL_unf, rnX]
    unfold eaS
    simp only [runH]
    simp (disch := omega) only [go_sem, h35l0]
  | a :: rest, k, gs, ws, out, hd, hk, hv, hh, ho => by
    have hkl : k < l.length := by
      have := congrArg List.length hd
      simp at this; omega
    have ha : l[k] = a := by
      have := List.drop_eq_getElem_cons hkl
      rw [hd] at this
      injection this with this _
      exact this.symm
    have hd' : l.drop (k + 1) = rest := by
      have := List.drop_eq_getElem_cons hkl
      rw [hd] at this
      injection this with _ this
      exact this.symm
    have eg : (l.map Ac.e)[k]? = some [ci a.k, ci a.c, ci a.l] := by rw [List.getElem?_map, List.getElem?_eq_getElem hkl, ha]; rfl
    have q := p62_v (bb := bb) hG gs ws out hv k a (by omega)
    by_cases he : acErr gs ws a = 0
    · obtain ⟨h1, h2⟩ := stp_ok hv hh he
      have ih := each61_key hG l hl rest (k + 1) (stp gs ws a).1 (stp gs ws a).2.1 (out ++ [(stp gs ws a).2.2]) hd' (by omega) h1 h2 (by simp; omega)
      have hr : rnK [1, 7, 0, 0] 6 (EC (EV G (Tb (bs bb))) G h35l0 (eaS l k gs ws out)) = some (eaS l (k + 1) (stp gs ws a).1 (stp gs ws a).2.1 (out ++ [(stp gs ws a).2.2])) := by
        unfold eaS
        rw [if_pos he, he] at q
        generalize stp gs ws a = s at *
        simp only [runH] at q ⊢
        simp (disch := omega) only [go_sem, h35l0, evJ_6, eg, q]
      rw [EL_unf, fnK_of hr, ih, rnX, if_pos he]
    · rw [EL_unf, rnX, if_neg he]
      unfold eaS
      rw [if_neg he] at q
      simp only [runH] at q ⊢
      simp (disch := omega) only [go_sem, h35l0, evJ_6, eg, q, he]
theorem each61_v (hG : G 0 = some alD) (l : List Ac) (hl : l.length ≤ 100) : EV G (Tb (bs bb)) 35 [acsV l, .one (.fn 36 [.ptr 0 0, .ptr 4 0])] (runH [] [] []) = some (twoI (rnX [] [] [] 0 l).2, runH (rnX [] [] [] 0 l).1.1 (rnX [] [] [] 0 l).1.2.1 (rnX [] [] [] 0 l).1.2.2) := by
  refine EV_run rfl ?_
  have q := each61_key (bb := bb) hG l hl l 0 [] [] [] rfl (by omega) Vd.nil Hd.nil (by simp)
  rw [← q]
  simp (disch := omega) only [go_sem, h35c]
  rfl
end
section
variable {G : Glob} {bb : Bool}
structure Cu where
  k : Int
  c : Int
  l : Int
  u : Int
abbrev Cu.e (a : Cu) : List DC := [ci a.k, ci a.c, ci a.l, ci a.u]
abbrev cusV (l : List Cu) : AV := vl (l.map Cu.e)
theorem usF_len (x : Ca) (hh : x.ws.length ≤ 8) (k c l u : Int) : (usF x k c l u).1.sn.length ≤ x.sn.length + 9 := by
  unfold usF
  split
  · simp
  · split
    · rename_i y hy
      unfold aloF at hy
      split at hy
      · injection hy with hy; subst hy; simp
      · split at hy
        · injection hy with hy; subst hy; simp
        · cases hy
    · split
      · simp
      · rw [actF_e]
        have h1 := effL_gs (if (stp x.gs x.ws ⟨k, c, l⟩).2.2.d = true then effF (aft x k c l u) c k else aft x k c l u) (stp x.gs x.ws ⟨k, c, l⟩).2.2.f
        have h2 := (stp_f x.gs x.ws ⟨k, c, l⟩).2
        have h3 := effF_gs (aft x k c l u) c k
        have h4 : (aft x k c l u).sn = x.sn := (giv_gs x k c u).2.2
        rw [h4] at h3
        have h5 : (if (stp x.gs x.ws ⟨k, c, l⟩).2.2.d = true then effF (aft x k c l u) c k else aft x k c l u).sn.length ≤ x.sn.length + 1 := by
          split
          · exact h3.2.2
          · rw [h4]; omega
        have h6 : ∀ (y : Ca) (j : Nat), (drpF y j).sn = y.sn := fun _ _ => rfl
        rw [h6]
        omega
theorem usF_ok (x : Ca) (hv : Vd x.gs x.ws) (hh : Hd x.gs x.ws) (k c l u : Int) : Vd (usF x k c l u).1.gs (usF x k c l u).1.ws ∧ Hd (usF x k c l u).1.gs (usF x k c l u).1.ws := by
  unfold usF
  split
  · exact ⟨hv, hh⟩
  · split
    · rename_i y hy
      unfold aloF at hy
      split at hy
      · injection hy with hy; subst hy; exact ⟨hv, hh⟩
      · split at hy
        · injection hy with hy; subst hy; exact ⟨hv, hh⟩
        · cases hy
    · split
      · exact ⟨hv, hh⟩
      · rename_i he
        rw [actF_e]
        have h1 := effL_gs (if (stp x.gs x.ws ⟨k, c, l⟩).2.2.d = true then effF (aft x k c l u) c k else aft x k c l u) (stp x.gs x.ws ⟨k, c, l⟩).2.2.f
        have h3 := effF_gs (aft x k c l u) c k
        have h5 : (if (stp x.gs x.ws ⟨k, c, l⟩).2.2.d = true then effF (aft x k c l u) c k else aft x k c l u).gs = (stp x.gs x.ws ⟨k, c, l⟩).1 ∧ (if (stp x.gs x.ws ⟨k, c, l⟩).2.2.d = true then effF (aft x k c l u) c k else aft x k c l u).ws = (stp x.gs x.ws ⟨k, c, l⟩).2.1 := by
          split
          · exact ⟨h3.1, h3.2.1⟩
          · exact ⟨rfl, rfl⟩
        have h6 : ∀ (y : Ca) (j : Nat), (drpF y j).gs = y.gs ∧ (drpF y j).ws = y.ws := fun _ _ => ⟨rfl, rfl⟩
        simp only [h6]
        rw [h1.1, h1.2.1, h5.1, h5.2]
        exact stp_ok hv hh (Classical.not_not.1 he)
abbrev crH (x : Ca) : List AObj := [.box [.ptr 1 0], .box (caC 2 5 x.sn.length x.v x.K x.D x.W), .box [.bld 3 x.gs.length, .bld 4 x.ws.length], .arr 0 3 (x.gs.map Gr.e), .arr 0 2 (x.ws.map Wt.e), .arr 0 1 (x.sn.map ci0)]
theorem p67_v (hG : G 0 = some alD) (x : Ca) (hv : Vd x.gs x.ws) (hh : Hd x.gs x.ws) (hn : x.sn.length ≤ 9000) (i : Int) (a : Cu) :
    EV G (Tb (bs bb)) 19 [vi i, .agg [.dc (ci a.k), .dc (ci a.c), .dc (ci a.l), .dc (ci a.u)], .one (.ptr 0 0)] (crH x) = some (vi (usF x a.k a.c a.l a.u).2, crH (usF x a.k a.c a.l a.u).1) := by
  refine EV_run rfl ?_
  have q := cuse_v (bb := bb) hG x hv hh hn a.k a.c a.l a.u
  generalize usF x a.k a.c a.l a.u = r at *
  obtain ⟨y, e⟩ := r
  simp only [Ca.h, caH, crH] at q ⊢
  simp (disch := omega) only [go_sem, h19c, evJ_5, q]
def cuX : Ca → Nat → List Cu → Ca × Int × Int
  | x, n, [] => (x, 0, 0)
  | x, n, a :: l => if (usF x a.k a.c a.l a.u).2 = 0 then cuX (usF x a.k a.c a.l a.u).1 (n + 1) l else ((usF x a.k a.c a.l a.u).1, n, (usF x a.k a.c a.l a.u).2)
def caS (l : List Cu) (k : Nat) (x : Ca) : AS := ⟨(jk 1 (.one (.fn 19 [.ptr 0 0]) :: jk 7 (cusV l :: vi l.length :: vi k :: jk 13 []))), crH x⟩
theorem each66_key (hG : G 0 = some alD) (l : List Cu) (hl : l.length ≤ 100) : ∀ (rest : List Cu) (k : Nat) (x : Ca), l.drop k = rest → k ≤ l.length → Vd x.gs x.ws → Hd x.gs x.ws → x.sn.length ≤ 9 * k →
    retZ false [RetV.tmp 4, RetV.tmp 5] 6 (sqK (EV G (Tb (bs bb))) G ((HC.region [Oo 4 (AI.mov (Ki 0)), Oo 5 (AI.mov (Ki 0))]).seq HC.ret) (blkK 0 (EL (EV G (Tb (bs bb))) G h18l0 [1, 7, 0, 0] 6 (caS l k x)))) =
      some (twoI (cuX x k rest).2, crH (cuX x k rest).1)
  | [], k, x, hd, hk, hv, hh, ho => by
    have hkl : k = l.length := by
      have := congrArg List.length hd
      simp at this; omega
    subst hkl
    rw [EL_unf, cuX]
    unfold caS
    simp only [crH]
    simp (disch := omega) only [go_sem, h18l0]
  | a :: rest, k, x, hd, hk, hv, hh, ho => by
    have hkl : k < l.length := by
      have := congrArg List.length hd
      simp at this; omega
    have ha : l[k] = a := by
      have := List.drop_eq_getElem_cons hkl
      rw [hd] at this
      injection this with this _
      exact this.symm
    have hd' : l.drop (k + 1) = rest := by
      have := List.drop_eq_getElem_cons hkl
      rw [hd] at this
      injection this with _ this
      exact this.symm
    have eg : (l.map Cu.e)[k]? = some [ci a.k, ci a.c, ci a.l, ci a.u] := by rw [List.getElem?_map, List.getElem?_eq_getElem hkl, ha]; rfl
    have q := p67_v (bb := bb) hG x hv hh (by omega) k a
    have hl9 := usF_len x hv.wl a.k a.c a.l a.u
    obtain ⟨h1, h2⟩ := usF_ok x hv hh a.k a.c a.l a.u
    rw [cuX]
    by_cases he : (usF x a.k a.c a.l a.u).2 = 0
    · have ih := each66_key hG l hl rest (k + 1) (usF x a.k a.c a.l a.u).1 hd' (by omega) h1 h2 (by omega)
      have hr : rnK [1, 7, 0, 0] 6 (EC (EV G (Tb (bs bb))) G h18l0 (caS l k x)) = some (caS l (k + 1) (usF x a.k a.c a.l a.u).1) := by
        rw [he] at q
        generalize (usF x a.k a.c a.l a.u).1 = y at *
        unfold caS
        simp only [crH] at q ⊢
        simp (disch := omega) only [go_sem, h18l0, evJ_6, eg, q]
      rw [EL_unf, fnK_of hr, ih, if_pos he]
    · rw [EL_unf, if_neg he]
      generalize usF x a.k a.c a.l a.u = r at *
      obtain ⟨y, e⟩ := r
      unfold caS
      simp only [crH] at q he ⊢
      simp (disch := omega) only [go_sem, h18l0, evJ_6, eg, q, he]
theorem each66_v (hG : G 0 = some alD) (x : Ca) (hg : x.gs = []) (hw : x.ws = []) (hs : x.sn = []) (l : List Cu) (hl : l.length ≤ 100) : EV G (Tb (bs bb)) 18 [cusV l, .one (.fn 19 [.ptr 0 0])] (crH x) = some (twoI (cuX x 0 l).2, crH (cuX x 0 l).1) := by
  refine EV_run rfl ?_
  have q := each66_key (bb := bb) hG l hl l 0 x rfl (by omega) (by rw [hg, hw]; exact Vd.nil) (by rw [hg, hw]; exact Hd.nil) (by rw [hs]; simp)
  rw [← q]
  simp (disch := omega) only [go_sem, h18c]
  rfl
end
section
variable {G : Glob} {bb : Bool}
def ca1 (j : Nat) : Ca := ⟨[], [], 0, fun n => if n < j then -1 else 0, fun _ => false, fun _ => 0, []⟩
structure Ck where
  gs : List Gr
  ws : List Wt
  v : Int
  K : List Int
  D : List Bool
  sn : List Int
def Ca.k (x : Ca) : Ck := ⟨x.gs, x.ws, x.v, [x.K 1, x.K 2, x.K 3, x.K 4, x.K 5, x.K 6, x.K 7, x.K 8], [x.D 1, x.D 2, x.D 3, x.D 4, x.D 5, x.D 6, x.D 7, x.D 8], x.sn⟩
def bo (b : Bool) : List DC := [.raw (.bool b)]
abbrev ckC (x : Ck) : List Cel := [.dc (.slc (x.gs.map Gr.e)), .dc (.slc (x.ws.map Wt.e)), .dc (ci x.v), .dc (.slc (x.K.map ci0)), .dc (.slc (x.D.map bo)), .dc (.slc (x.sn.map ci0))]
def crF (l : List Cu) : Ck × Int × Int :=
  if l.length > 100 then (⟨[], [], 0, [], [], []⟩, 0, 8)
  else if (cuX (ca1 9) 0 l).2.2 ≠ 0 then (⟨[], [], 0, [], [], []⟩, (cuX (ca1 9) 0 l).2)
  else ((cuX (ca1 9) 0 l).1.k, l.length, 0)
abbrev crV (r : Ck × Int × Int) : AV := .tup [.agg (ckC r.1), .one (.dc (.raw (.int .i64 r.2.1))), .one (.dc (.raw (.int .i64 r.2.2)))]
theorem upd_1 (j : Nat) : upd (fun n => if n < j then (-1 : Int) else 0) j (-1) = fun n => if n < j + 1 then (-1 : Int) else 0 := by
  funext n
  unfold upd
  by_cases hn : n = j
  · subst hn; simp
  · have e : (n < j + 1) = (n < j) := propext ⟨by omega, by omega⟩
    simp [hn, e]
def i19 (l : List Cu) (x : Ca) (j : Nat) : AS := ⟨(cusV l :: jk 1 (.one (.ptr 0 0) :: jk 2 (.one (.ptr 3 0) :: jk 11 (vi j :: jk 45 [])))), [.box [.dc (.raw (.slice none 0 0)), .dc (.raw (.slice none 0 0)), .dc (ci 0), .dc (.raw (.slice none 0 0)), .dc (.raw (.slice none 0 0)), .dc (.raw (.slice none 0 0))], .box [.bld 4 x.gs.length, .bld 5 x.ws.length], .box (caC 1 6 x.sn.length x.v x.K x.D x.W), .box [.ptr 2 0], .arr 0 3 (x.gs.map Gr.e), .arr 0 2 (x.ws.map Wt.e), .arr 0 1 (x.sn.map ci0)]⟩
theorem i19_round (l : List Cu) (j : Nat) (hj : j < 9) : rnK [0, 1, 2, 11] 7 (EC (EV G (Tb (bs bb))) G h6l0 (i19 l (ca1 j) j)) = some (i19 l (ca1 (j + 1)) (j + 1)) := by
  have e : ca1 (j + 1) = { ca1 j with K := upd (ca1 j).K j (-1) } := by unfold ca1; rw [upd_1]
  rw [e]
  generalize ca1 j = x
  obtain ⟨gs, ws, v, K, D, W, sn⟩ := x
  unfold i19
  simp only
  simp (disch := omega) only [go_sem, h6l0, tn1, fvT_c]
set_option maxHeartbeats 4000000 in
theorem cacheRun_v (hG : G 0 = some alD) (l : List Cu) (hl : l.length ≤ 1000000) : EV G (Tb (bs bb)) 6 [cusV l] [] = some (crV (crF l), []) := by
  refine EV_run rfl ?_
  unfold crF
  by_cases h : l.length > 100
  · rw [if_pos h]
    simp (disch := omega) only [go_sem, h6c, h]
    try rfl
  · rw [if_neg h]
    have q := each66_v (bb := bb) hG (ca1 9) rfl rfl rfl l (by omega)
    simp (disch := omega) only [go_sem, h6c, h]
    rw [EL_loop (fun j => i19 l (ca1 j) j) 9 ?_ (fun j hj => i19_round l j hj)]
    rotate_left
    · rfl
    unfold i19
    generalize ca1 9 = x at *
    generalize cuX x 0 l = r at *
    obtain ⟨y, n, e⟩ := r
    simp only [crH] at q
    by_cases he : e = 0
    · subst he
      rw [if_neg (by simp)]
      simp (maxSteps := 1000000) (disch := omega) only [go_sem, h6l0, q, evJ_6, List.take_length]
      try rfl
    · rw [if_pos (by simpa using he)]
      simp (disch := omega) only [go_sem, h6l0, q, evJ_6, he]
      try rfl
end
end Go.Proofs.YtinageiefahjfaaDoor
