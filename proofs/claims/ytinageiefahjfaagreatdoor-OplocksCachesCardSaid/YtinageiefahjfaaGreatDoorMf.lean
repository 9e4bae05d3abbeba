/- Arguments of some types, opened. Conditions: none. -/
import Derived.Test.YtinageiefahjfaaGreatDoorVg
import Derived.Test.YtinageiefahjfaaGreatDoorMb
import Derived.OpenShut
namespace Go.Proofs.YtinageiefahjfaaGreatDoor
set_option linter.unusedSimpArgs false
set_option linter.unusedVariables false
set_option maxRecDepth 4000
section
variable {G : Glob} {bb : Bool}
set_option maxHeartbeats 2000000 in
theorem ruse_r (gs : List Gr) (ws : List Wt) (v : Int) (K : Nat → Int) (D : Nat → Bool) (W : Nat → Int) (sn : List Int) (hv : Vd gs ws) (hn : sn.length ≤ 50000) (k : Int) (m : Nat) (hm : m < 8) (l u : Int) (hb : raB ⟨gs, ws, v, K, D, W, sn⟩ k ((m : Int) + 1) = true) (k2 : k = 2) :
    EV G (Tb (bs bb)) 71 [rcV ⟨gs, ws, v, K, D, W, sn⟩, .agg [.dc (ci k), .dc (ci ((m : Int) + 1)), .dc (ci l), .dc (ci u)]] (rcH ⟨gs, ws, v, K, D, W, sn⟩) = some (rcV ⟨gs, ws, v, K, D, W, sn ++ [K (m + 1)]⟩, rcH ⟨gs, ws, v, K, D, W, sn ++ [K (m + 1)]⟩) := by
  refine EV_run rfl ?_
  have q1 := ralone_v (G := G) (bb := bb) ⟨gs, ws, v, K, D, W, sn⟩ hv.so (by have := hv.gl; simp only; omega) (by have := hv.wl; simp only; omega) ⟨k, (m : Int) + 1, l, u⟩
  simp only [rcD] at q1
  rw [hb] at q1
  have em : ((m : Int) + 1 - 1).toNat = m := by omega
  have e3 := ki_get K hm
  have e5 := ki_len K
  have tS : List.take sn.length (sn.map ci0) = sn.map ci0 := List.take_of_length_le (by simp)
  have msn : (sn ++ [K (m + 1)]).map ci0 = sn.map ci0 ++ [[ci (K (m + 1))]] := by rw [List.map_append]; rfl
  have lsn : (sn ++ [K (m + 1)]).length = sn.length + 1 := by simp
  simp only [rcV, rcH, msn, lsn]
  simp (disch := omega) only [go_sem, h71c, em, kt_i, kt_b, tS, kl_len, q1, eq_true k2, e3, e5, List.length_append, List.length_cons, List.length_nil]
set_option maxHeartbeats 2000000 in
theorem ruse_w (gs : List Gr) (ws : List Wt) (v : Int) (K : Nat → Int) (D : Nat → Bool) (W : Nat → Int) (sn : List Int) (hv : Vd gs ws) (hn : sn.length ≤ 50000) (k : Int) (m : Nat) (hm : m < 8) (l u : Int) (hb : raB ⟨gs, ws, v, K, D, W, sn⟩ k ((m : Int) + 1) = true) (k2 : ¬ k = 2) :
    EV G (Tb (bs bb)) 71 [rcV ⟨gs, ws, v, K, D, W, sn⟩, .agg [.dc (ci k), .dc (ci ((m : Int) + 1)), .dc (ci l), .dc (ci u)]] (rcH ⟨gs, ws, v, K, D, W, sn⟩) = some (rcV ⟨gs, ws, v, upd K (m + 1) u, upd D (m + 1) true, W, sn⟩, rcH ⟨gs, ws, v, upd K (m + 1) u, upd D (m + 1) true, W, sn⟩) := by
  refine EV_run rfl ?_
  have q1 := ralone_v (G := G) (bb := bb) ⟨gs, ws, v, K, D, W, sn⟩ hv.so (by have := hv.gl; simp only; omega) (by have := hv.wl; simp only; omega) ⟨k, (m : Int) + 1, l, u⟩
  simp only [rcD] at q1
  rw [hb] at q1
  have em : ((m : Int) + 1 - 1).toNat = m := by omega
  have e3 := ki_get K hm
  have e4 := kb_get D hm
  have e5 := ki_len K
  have e6 := kb_len D
  have e7 := kb_set D hm true
  have e8 := ki_set K hm u
  have tS : List.take sn.length (sn.map ci0) = sn.map ci0 := List.take_of_length_le (by simp)
  simp only [rcV, rcH]
  simp (disch := omega) only [go_sem, h71c, em, kt_i, kt_b, tS, kl_len, q1, k2, e3, e4, e5, e6, e7, e8, meetE_e]
theorem ruse_v (x : Ca) (hv : Vd x.gs x.ws) (hh : Hd x.gs x.ws) (hn : x.sn.length ≤ 50000) (hp : Pos x) (a : Cu) (he : rueE x a = 0) :
    EV G (Tb (bs bb)) 71 [rcV x, .agg [.dc (ci a.k), .dc (ci a.c), .dc (ci a.l), .dc (ci a.u)]] (rcH x) = some (rcV (rU x a), rcH (rU x a)) := by
  have hus := rue_us hp a
  rw [he] at hus
  have hu0 : usErr x.gs x.ws ⟨a.k, a.c, a.l⟩ = 0 := by
    unfold usF at hus
    by_cases hu : usE x a.k a.c a.l a.u ≠ 0
    · rw [if_pos hu] at hus; exact absurd hus.symm hu
    · exact (usE_0 (Classical.not_not.1 hu)).2
  obtain ⟨hk5, hc, _, hnw, hin⟩ := us_ok hu0
  simp only at hk5 hc hnw hin
  have hb := raB_alo hp (u := a.u) hu0
  obtain ⟨k, c, l, u⟩ := a
  simp only at hk5 hc hnw hin hb hus hu0 ⊢
  obtain ⟨m, hm, hm8⟩ : ∃ m : Nat, c = (m : Int) + 1 ∧ m < 8 := ⟨(c - 1).toNat, by omega, by omega⟩
  subst hm
  have ec : ((m : Int) + 1).toNat = m + 1 := toNat_add1 m
  unfold rU
  simp only
  cases ha : aloF x k ((m : Int) + 1) u with
  | some y =>
    rw [ha] at hb
    simp only [Option.isSome_some] at hb
    obtain ⟨gs, ws, v, K, D, W, sn⟩ := x
    simp only at hv hn
    unfold aloF at ha
    by_cases h1 : k = 2 ∧ lvF gs ((m : Int) + 1) ≥ 1 ∧ K ((m : Int) + 1).toNat ≠ -1
    · rw [if_pos h1] at ha
      injection ha with ha; subst ha
      rw [ec]
      exact ruse_r gs ws v K D W sn hv hn k m hm8 l u hb h1.1
    · rw [if_neg h1] at ha
      by_cases h2 : k = 3 ∧ lvF gs ((m : Int) + 1) ≥ 2 ∧ brF gs ((m : Int) + 1) = false
      · rw [if_pos h2] at ha
        injection ha with ha; subst ha
        rw [ec]
        exact ruse_w gs ws v K D W sn hv hn k m hm8 l u hb (by have := h2.1; omega)
      · rw [if_neg h2] at ha; cases ha
  | none =>
    rw [ha] at hb
    simp only [Option.isSome_none] at hb
    simp only
    have hac : acErr x.gs x.ws ⟨k, (m : Int) + 1, l⟩ = 0 := by
      have he : (if wi u 0 (if k = 3 then 999 else 0) = false then (2 : Int) else if raB x k ((m : Int) + 1) = true then usErr x.gs x.ws ⟨k, (m : Int) + 1, l⟩ else acErr x.gs x.ws ⟨k, (m : Int) + 1, l⟩) = 0 := he
      by_cases hwi : wi u 0 (if k = 3 then 999 else 0) = false
      · rw [if_pos hwi] at he
        exact absurd he (by decide)
      · rw [if_neg hwi, hb, if_neg (by simp)] at he
        exact he
    obtain ⟨gs, ws, v, K, D, W, sn⟩ := x
    simp only at hv hh hn hac
    by_cases k4 : k = 4
    · cases hd : D (m + 1) with
      | true => exact ruse_4D gs ws v K D W sn hv hh hn k m hm8 l u hb hac k4 hd
      | false => exact ruse_4N gs ws v K D W sn hv hh hn k m hm8 l u hb hac k4 hd
    by_cases k5 : k = 5
    · cases hd : D (m + 1) with
      | true => exact ruse_5D gs ws v K D W sn hv hh hn k m hm8 l u hb hac k5 hd
      | false => exact ruse_5N gs ws v K D W sn hv hh hn k m hm8 l u hb hac k5 hd
    by_cases k1 : k = 1
    · exact ruse_1 gs ws v K D W sn hv hh hn k m hm8 l u hb hac k1
    by_cases k3 : k = 3
    · cases hd : (stp gs ws ⟨k, (m : Int) + 1, l⟩).2.2.d with
      | true => exact ruse_3y gs ws v K D W sn hv hh hn k m hm8 l u hb hac k3 hd
      | false => exact ruse_3n gs ws v K D W sn hv hh hn k m hm8 l u hb hac k3 hd
    · cases hd : (stp gs ws ⟨k, (m : Int) + 1, l⟩).2.2.d with
      | true => exact ruse_0y gs ws v K D W sn hv hh hn k m hm8 l u hb hac (by omega) hd
      | false => exact ruse_0n gs ws v K D W sn hv hh hn k m hm8 l u hb hac (by omega) hd
abbrev bgH (k : Nat) : List AObj := [.box [.dc (.raw (.slice none 0 0)), .dc (.raw (.slice none 0 0)), .dc (ci 0), .bld 2 k, .bld 3 k, .bld 4 0, .bld 5 k], .arr 0 1 (List.replicate k [ci (-1)]), .arr 0 1 (List.replicate k [.raw (.bool false)]), .arr 0 1 [], .arr 0 1 (List.replicate k [ci 0])]
def bgS (k : Nat) : AS := ⟨(.one (.ptr 0 0) :: .one (.ptr 1 0) :: vi k :: jk 25 []), .box [.dc (.raw (.slice none 0 0)), .dc (.raw (.slice none 0 0)), .dc (ci 0), .dc (.raw (.slice none 0 0)), .dc (.raw (.slice none 0 0)), .dc (.raw (.slice none 0 0)), .dc (.raw (.slice none 0 0))] :: bgH k⟩
theorem bg_round (k : Nat) (hk : k < 8) : rnK [0, 0, 0] 6 (EC (EV G (Tb (bs bb))) G h69l0 (bgS k)) = some (bgS (k + 1)) := by
  have t1 : List.take k (List.replicate k [ci (-1)]) = List.replicate k [ci (-1)] := List.take_of_length_le (by simp)
  have t2 : List.take k (List.replicate k [(DC.raw (.bool false))]) = List.replicate k [.raw (.bool false)] := List.take_of_length_le (by simp)
  have t3 : List.take k (List.replicate k [ci 0]) = List.replicate k [ci 0] := List.take_of_length_le (by simp)
  have r1 : List.replicate (k + 1) [ci (-1)] = List.replicate k [ci (-1)] ++ [[ci (-1)]] := List.replicate_succ'
  have r2 : List.replicate (k + 1) [(DC.raw (.bool false))] = List.replicate k [.raw (.bool false)] ++ [[.raw (.bool false)]] := List.replicate_succ'
  have r3 : List.replicate (k + 1) [ci 0] = List.replicate k [ci 0] ++ [[ci 0]] := List.replicate_succ'
  unfold bgS bgH
  rw [r1, r2, r3]
  have l1 : (List.replicate k [ci (-1)]).length = k := by simp
  have l2 : (List.replicate k [(DC.raw (.bool false))]).length = k := by simp
  have l3 : (List.replicate k [ci 0]).length = k := by simp
  generalize List.replicate k [ci (-1)] = A1 at *
  generalize List.replicate k [(DC.raw (.bool false))] = A2 at *
  generalize List.replicate k [ci 0] = A3 at *
  simp (disch := omega) only [go_sem, h69l0, t1, t2, t3, l1, l2, l3, List.length_append, List.length_cons, List.length_nil]
theorem begin_v : EV G (Tb (bs bb)) 69 [] [] = some (.agg [.dc (.slc []), .dc (.slc []), .dc (ci 0), .bld 2 8, .bld 3 8, .bld 4 0, .bld 5 8], .box [.dc (.raw (.slice none 0 0)), .dc (.raw (.slice none 0 0)), .dc (ci 0), .bld 2 8, .bld 3 8, .bld 4 0, .bld 5 8] :: bgH 8) := by
  refine EV_run rfl ?_
  simp (disch := omega) only [go_sem, h69c]
  rw [EL_loop (fun k => bgS k) 8 ?_ (fun k hk => bg_round k hk)]
  rotate_left
  · rfl
  unfold bgS bgH
  simp (disch := omega) only [go_sem, h69l0]
  try rfl
def jb (b : Bool) (c : Cel) : Cel := bif b then .junk else c
abbrev b7C (b : Bool) : List Cel := [.dc (.raw (.slice none 0 0)), .dc (.raw (.slice none 0 0)), .dc (ci 0), jb b (.bld 3 8), jb b (.bld 4 8), jb b (.bld 5 0), jb b (.bld 6 8)]
def crS (b : Bool) (l : List Cu) (x : Ca) (k : Nat) : AS := ⟨(cusV l :: jk 1 (.one (.ptr 0 0) :: jk 2 (.one (.ptr 7 0) :: vi k :: jk 33 []))), [.box [.dc (.raw (.slice none 0 0)), .dc (.raw (.slice none 0 0)), .dc (ci 0), .dc (.raw (.slice none 0 0)), .dc (.raw (.slice none 0 0)), .dc (.raw (.slice none 0 0))], .box (b7C b), .box (b7C b), .arr 0 1 ((kl x.K).map ci0), .arr 0 1 ((kl x.D).map bo), .arr 0 1 (x.sn.map ci0), .arr 0 1 ((kl x.W).map ci0), .box [.dc (.slc (x.gs.map Gr.e)), .dc (.slc (x.ws.map Wt.e)), .dc (ci x.v), .bld 3 8, .bld 4 8, .bld 5 x.sn.length, .bld 6 8]]⟩
set_option maxHeartbeats 2000000 in
theorem cr_go (b : Bool) (l : List Cu) (x : Ca) (k : Nat) (a : Cu) (hk : k < l.length) (ha : l[k] = a) (hl : l.length ≤ 1000) (hv : Vd x.gs x.ws) (hh : Hd x.gs x.ws) (hn : x.sn.length ≤ 50000) (hp : Pos x) (he : rueE x a = 0) :
    rnK [0, 1, 2, 0] 8 (EC (EV G (Tb (bs bb))) G h20l0 (crS b l x k)) = some (crS true l (rU x a) (k + 1)) := by
  have eg : (l.map Cu.e)[k]? = some [ci a.k, ci a.c, ci a.l, ci a.u] := by rw [List.getElem?_map, List.getElem?_eq_getElem hk, ha]; rfl
  have q1 := ruseErr_v (G := G) (bb := bb) x hv.so (by have := hv.gl; omega) (by have := hv.wl; omega) a
  have q2 := ruse_v (G := G) (bb := bb) x hv hh hn hp a he
  rw [he] at q1
  obtain ⟨gs, ws, v, K, D, W, sn⟩ := x
  generalize rU ⟨gs, ws, v, K, D, W, sn⟩ a = y at *
  obtain ⟨gs', ws', v', K', D', W', sn'⟩ := y
  simp only [rcV, rcH, rcD] at q1 q2
  have tS : List.take sn.length (sn.map ci0) = sn.map ci0 := List.take_of_length_le (by simp)
  have e5 := ki_len K
  have e6 := kb_len D
  have e7 := ki_len W
  unfold crS
  cases b
  all_goals
    simp only [b7C, jb, cond_true, cond_false]
    simp (maxSteps := 1000000) (disch := omega) only [go_sem, h20l0, evJ_4, eg, q1, q2, kt_i, kt_b, tS, kl_len, e5, e6, e7]
set_option maxHeartbeats 2000000 in
theorem cr_key (l : List Cu) (hl : l.length ≤ 100) : ∀ (rest : List Cu) (k : Nat) (b : Bool) (x z : Ca), l.drop k = rest → k ≤ l.length → Vd x.gs x.ws → Hd x.gs x.ws → x.sn.length ≤ 9 * k → Pos x → Eqv z x → Vd z.gs z.ws → Hd z.gs z.ws → Pos z →
    retZ false [RetV.cell 2 true 6, RetV.tmp 3, RetV.tmp 4] 0 (sqK (EV G (Tb (bs bb))) G ((HC.region [Oo 36 (AI.addo 0 (AArg.t 5)), Oo 37 (AI.load true 6 (AArg.t 36)), Oo 38 (AI.mov (AArg.t 0)), Oo 39 (AI.lenL (AArg.t 38)), On (AI.store 6 (AArg.t 2) (AArg.t 37)), Oo 3 (AI.mov (AArg.t 39)), Oo 4 (AI.mov (Ki 0))]).seq HC.ret) (blkK 0 (EL (EV G (Tb (bs bb))) G h20l0 [0, 1, 2, 0] 8 (crS b l x k)))) =
      some (crV (if (cuR x k rest).2.2 ≠ 0 then (⟨[], [], 0, [], [], []⟩, (cuR x k rest).2) else ((cuR x k rest).1.k, l.length, 0)), [])
  | [], k, b, x, z, hd, hk, hv, hh, ho, hp, hz, _, _, _ => by
    have hkl : k = l.length := by
      have := congrArg List.length hd
      simp at this; omega
    subst hkl
    rw [EL_unf, cuR, if_neg (by simp)]
    obtain ⟨gs, ws, v, K, D, W, sn⟩ := x
    have tS : List.take sn.length (sn.map ci0) = sn.map ci0 := List.take_of_length_le (by simp)
    have e5 := ki_len K
    have e6 := kb_len D
    have e7 := ki_len W
    unfold crS
    cases b
    all_goals
      simp only [b7C, jb, cond_true, cond_false]
      simp (maxSteps := 1000000) (disch := omega) only [go_sem, h20l0, kt_i, kt_b, tS, kl_len, e5, e6, e7]
      try rfl
  | a :: rest, k, b, x, z, hd, hk, hv, hh, ho, hp, hz, hzv, hzh, hzp => by
    have hkl : k < l.length := by
      have := congrArg List.length hd
      simp at this; omega
    have ha : l[k] = a := by
      have := List.drop_eq_getElem_cons hkl
      rw [hd] at this
      injection this with this _
      exact this.symm
    have hd' : l.drop (k + 1) = rest := by
      have := List.drop_eq_getElem_cons hkl
      rw [hd] at this
      injection this with _ this
      exact this.symm
    rw [EL_unf, cuR]
    obtain ⟨r1, r2⟩ := rU_eqv hz hzv hzp hp a
    by_cases he : rueE x a = 0
    · rw [if_pos he, fnK_of (cr_go b l x k a hkl ha (by omega) hv hh (by omega) hp he)]
      have he0 : (usF z a.k a.c a.l a.u).2 = 0 := by rw [← r1]; exact he
      obtain ⟨i1, i2⟩ := usF_ok z hzv hzh a.k a.c a.l a.u
      have hu0 : 0 ≤ a.u := by
        unfold usF at he0
        by_cases hu : usE z a.k a.c a.l a.u ≠ 0
        · rw [if_pos hu] at he0; exact absurd he0 hu
        · exact (usE_0 (Classical.not_not.1 hu)).1
      have hE := r2 he0
      have eg : (rU x a).gs = (usF z a.k a.c a.l a.u).1.gs := by rw [hE.1]
      have ew : (rU x a).ws = (usF z a.k a.c a.l a.u).1.ws := by rw [hE.1]
      have es : (rU x a).sn = (usF z a.k a.c a.l a.u).1.sn := by rw [hE.1]
      have ez : x.sn = z.sn := by rw [hz.1]
      have hlen := usF_len z hzv.wl a.k a.c a.l a.u
      exact cr_key l hl rest (k + 1) true (rU x a) (usF z a.k a.c a.l a.u).1 hd' (by omega) (by rw [eg, ew]; exact i1) (by rw [eg, ew]; exact i2) (by rw [es]; rw [ez] at ho; omega) (hp.rU hu0) hE i1 i2 (hzp.us he0)
    · rw [if_neg he, if_pos he]
      have eg : (l.map Cu.e)[k]? = some [ci a.k, ci a.c, ci a.l, ci a.u] := by rw [List.getElem?_map, List.getElem?_eq_getElem hkl, ha]; rfl
      have q1 := ruseErr_v (G := G) (bb := bb) x hv.so (by have := hv.gl; omega) (by have := hv.wl; omega) a
      generalize rueE x a = e at *
      obtain ⟨gs, ws, v, K, D, W, sn⟩ := x
      simp only [rcD] at q1
      have tS : List.take sn.length (sn.map ci0) = sn.map ci0 := List.take_of_length_le (by simp)
      have e5 := ki_len K
      have e6 := kb_len D
      have e7 := ki_len W
      unfold crS
      cases b
      all_goals
        simp only [b7C, jb, cond_true, cond_false]
        simp (maxSteps := 1000000) (disch := omega) only [go_sem, h20l0, eg, q1, he, kt_i, kt_b, tS, kl_len, e5, e6, e7]
        try rfl
theorem pos0 : Pos (ca1 9) := by
  refine ⟨by simp [ca1], fun n => ?_, fun n => ?_⟩
  · simp only [ca1]; split <;> omega
  · simp [ca1]
theorem rcacheRun_v (l : List Cu) (hl : l.length ≤ 1000000) : EV G (Tb (bs bb)) 20 [cusV l] [] = some (crV (crF l), []) := by
  refine EV_run rfl ?_
  unfold crF
  by_cases h : l.length > 100
  · rw [if_pos h]
    simp (disch := omega) only [go_sem, h20c, h]
    try rfl
  · rw [if_neg h]
    have hE : Eqv (ca1 9) (ca1 9) := ⟨rfl, fun _ _ _ => rfl⟩
    have q := begin_v (G := G) (bb := bb)
    have key := cr_key (G := G) (bb := bb) l (by omega) l 0 false (ca1 9) (ca1 9) rfl (by omega) Vd.nil Hd.nil (by simp [ca1]) pos0 hE Vd.nil Hd.nil pos0
    obtain ⟨c1, c2⟩ := cuR_eqv l (ca1 9) (ca1 9) 0 hE Vd.nil Hd.nil pos0 pos0
    have c3 : (cuR (ca1 9) 0 l).1.k = (cuX (ca1 9) 0 l).1.k := by rw [c2.1]; rfl
    rw [c1, c3] at key
    rw [← key]
    simp only [bgH] at q
    simp (maxSteps := 1000000) (disch := omega) only [go_sem, h20c, h, q]
    try rfl
theorem sameC_v (x : Ck) (hg : x.gs.length ≤ 1000) (hw : x.ws.length ≤ 1000) (hK : x.K.length ≤ 1000) (hD : x.D.length ≤ 1000) (hs : x.sn.length ≤ 100000) : EV G (Tb (bs bb)) 21 [.agg (ckC x), .agg (ckC x)] [] = some (vb true, []) := by
  refine EV_run rfl ?_
  have q1 := same_v (G := G) (bb := bb) x.gs x.ws (by omega) (by omega)
  have q2 := ints_v (G := G) (bb := bb) x.K x.K (by omega)
  have q3 := ints_v (G := G) (bb := bb) x.sn x.sn (by omega)
  rw [decide_eq_true rfl] at q2 q3
  obtain ⟨gs, ws, v, K, D, sn⟩ := x
  simp only at hg hw hK hD hs q1 q2 q3 ⊢
  simp (disch := omega) only [go_sem, h21c, q1, q2, q3]
  rw [EL_loop (fun j => ⟨(jk 2 (.one (.ptr 0 0) :: .one (.ptr 1 0) :: jk 1 (vi j :: jk 56 []))), [.box (ckC ⟨gs, ws, v, K, D, sn⟩), .box (ckC ⟨gs, ws, v, K, D, sn⟩)]⟩) D.length ?_ ?_]
  rotate_left
  · rfl
  · intro j hj
    have eg : (D.map bo)[j]? = some [.raw (.bool D[j])] := by rw [List.getElem?_map, List.getElem?_eq_getElem hj]; rfl
    generalize D[j] = b at *
    simp only [ckC]
    cases b
    · simp (disch := omega) only [go_sem, h21l0, eg]
    · simp (disch := omega) only [go_sem, h21l0, eg]
  simp only [ckC]
  simp (disch := omega) only [go_sem, h21l0]
theorem cuX_len : ∀ (l : List Cu) (x : Ca) (n : Nat), Vd x.gs x.ws → Hd x.gs x.ws → (cuX x n l).1.gs.length ≤ 8 ∧ (cuX x n l).1.ws.length ≤ 8 ∧ (cuX x n l).1.sn.length ≤ x.sn.length + 9 * l.length
  | [], x, n, hv, hh => ⟨hv.gl, hv.wl, by simp [cuX]⟩
  | a :: l, x, n, hv, hh => by
    obtain ⟨h1, h2⟩ := usF_ok x hv hh a.k a.c a.l a.u
    have h3 := usF_len x hv.wl a.k a.c a.l a.u
    rw [cuX]
    split
    · obtain ⟨i1, i2, i3⟩ := cuX_len l _ (n + 1) h1 h2
      refine ⟨i1, i2, ?_⟩
      simp only [List.length_cons]
      omega
    · refine ⟨h1.gl, h1.wl, ?_⟩
      simp only [List.length_cons]
      omega
theorem crF_len (l : List Cu) : (crF l).1.gs.length ≤ 8 ∧ (crF l).1.ws.length ≤ 8 ∧ (crF l).1.K.length ≤ 8 ∧ (crF l).1.D.length ≤ 8 ∧ (crF l).1.sn.length ≤ 900 := by
  unfold crF
  split
  · simp
  · rename_i h
    split
    · simp
    · obtain ⟨h1, h2, h3⟩ := cuX_len l (ca1 9) 0 Vd.nil Hd.nil
      have h4 : (ca1 9).sn.length = 0 := rfl
      exact ⟨h1, h2, Nat.le_refl _, Nat.le_refl _, by simp only [Ca.k]; omega⟩
theorem caches_v (hG : G 0 = some alD) (l : List Cu) : EV G (Tb (bs true)) 5 [cusV l] [] = some (vb true, []) := by
  refine EV_run rfl ?_
  by_cases h : l.length > 110
  · have h' : (l.length : Int) > 110 := by omega
    simp (disch := omega) only [go_sem, h5c, awake_b, h']
  · have h' : ¬ (l.length : Int) > 110 := by omega
    have q1 := cacheRun_v (bb := true) hG l (by omega)
    have q2 := rcacheRun_v (G := G) (bb := true) l (by omega)
    obtain ⟨i1, i2, i3, i4, i5⟩ := crF_len l
    have al4 : allLen 4 (l.map Cu.e) = true := allLen_map (f := Cu.e) (n := 4) (fun _ => rfl) l
    generalize crF l = r at *
    obtain ⟨x, n, e⟩ := r
    simp only at i1 i2 i3 i4 i5 q1 q2
    have q3 := sameC_v (G := G) (bb := true) x (by omega) (by omega) (by omega) (by omega) (by omega)
    simp only [ckC] at q3
    simp (disch := omega) only [go_sem, h5c, awake_b, h', q1, q2, q3, List.take_length, al4]
    try rfl
end
section
variable {G : Glob} {bb : Bool}
def G26 : Glob := fun g => if g = 0 then some alD else none
noncomputable def bsW (G : Glob) : CallT := EV G (Tb (bs false))
theorem bsW_ok {G : Glob} : CallOK Tryz.prog G (bsW G) := by
  intro f args hp av o' h hp0 hh
  obtain ⟨n, hn⟩ := lim_some h
  exact callN_ok (Tb_ok (bs false)) (bs_ok (fun h => by cases h)) n f args hp av o' hn hp0 hh
def tbW : FuncId → Option HF := fun f => if f = 10 then some h10 else none
noncomputable def T2 (G : Glob) : HT := ⟨tbW, bsW G⟩
theorem T2_ok {G : Glob} : HTOK Tryz.prog (T2 G) := by
  intro f h hf
  change tbW f = some h at hf
  unfold tbW at hf
  split at hf
  · rename_i e
    subst e
    injection hf with hf; subst hf; exact ⟨by kernel_rfl, _, Tryz.func10, Tryz.ntmps10, h10_ok, r10_ok⟩
  · cases hf
theorem t2 {f : FuncId} {args : List AV} {hp : List AObj} {r : AV × List AObj} (h : EV G (Tb (bs false)) f args hp = some r) (h1 : f ≠ 10 := by decide) : EV G (T2 G) f args hp = some r :=
  EV_base (by show tbW f = none; exact if_neg h1) h
def dg (n : Int) : List Int := [48 + n]
theorem dg_len (n : Int) : (dg n).length ≤ 20 := by simp [dg]
theorem digit_v (n : Int) (h : 0 ≤ n ∧ n < 10) : EV G (Tb (bs bb)) 79 [vi n] [] = some (sv (dg n), []) := by
  refine EV_base rfl ?_
  rw [show (Tb (bs bb)).base = bs bb from rfl]
  show (if 0 ≤ n ∧ n < 10 then some (AV.one (.dc (.raw (.string ⟨#[UInt8.ofNat (48 + n.toNat)]⟩))), []) else none) = _
  rw [if_pos h]
  have e : (48 + n).toNat = 48 + n.toNat := by omega
  have e2 : str (dg n) = ⟨#[UInt8.ofNat (48 + n.toNat)]⟩ := by simp only [dg, str, u8, List.map_cons, List.map_nil, e]
  exact congrArg (fun s => some (AV.one (.dc (.raw (.string s))), ([] : List AObj))) e2.symm
def f1g : List Gr := [⟨1, 3, 2⟩]
def f1w : List Wt := [⟨2, 0⟩]
def l1 : List An := [⟨true, [], []⟩, ⟨true, [], []⟩, ⟨false, [⟨1, 2⟩], []⟩]
theorem x1 : runF [⟨0, 1, 0⟩, ⟨1, 1, 3⟩, ⟨0, 2, 0⟩] = ((f1g, f1w, l1), 3, 0) := by kernel_rfl
theorem x2 : stpF f1g f1w ⟨4, 1, 0⟩ = (([⟨1, 2, 2⟩, ⟨2, 0, 0⟩], [], ⟨true, [], [⟨2, 0⟩]⟩), 0) := by kernel_rfl
theorem x3 : crF [⟨0, 1, 0, 0⟩, ⟨1, 1, 2, 0⟩, ⟨3, 1, 0, 5⟩, ⟨0, 2, 0, 0⟩, ⟨2, 2, 0, 0⟩, ⟨4, 1, 0, 0⟩] = (⟨[⟨1, 1, 1⟩, ⟨2, 0, 0⟩], [], 5, [5, -1, -1, -1, -1, -1, -1, -1], [false, false, false, false, false, false, false, false], [5]⟩, 6, 0) := by kernel_rfl
theorem x4 : txF dg f1g f1w = [49, 58, 51, 62, 50, 59, 50, 111] := by kernel_rfl
theorem x5 : txF dg [⟨1, 2, 2⟩, ⟨2, 0, 0⟩] [] = [49, 58, 50, 62, 50, 44, 50, 58, 48, 62, 48, 59] := by kernel_rfl
theorem y1 : ((str [49, 58, 51, 62, 50, 59, 50, 111]) = (⟨#[49, 58, 51, 62, 50, 59, 50, 111]⟩ : ByteArray)) = True := eq_true (by kernel_rfl)
theorem y2 : ((str [49, 58, 50, 62, 50, 44, 50, 58, 48, 62, 48, 59]) = (⟨#[49, 58, 50, 62, 50, 44, 50, 58, 48, 62, 48, 59]⟩ : ByteArray)) = True := eq_true (by kernel_rfl)
set_option maxHeartbeats 4000000 in
theorem awake_e : EV G26 (T2 G26) 10 [] [] = some (vb true, []) := by
  have hG : G26 0 = some alD := rfl
  have h15 := t2 (runOf_v (bb := false) hG [⟨0, 1, 0⟩, ⟨1, 1, 3⟩, ⟨0, 2, 0⟩] (by simp))
  have h22 := t2 (stepped_v (bb := false) hG f1g f1w ⟨4, 1, 0⟩ (by simp [f1g]) (by simp [f1w]))
  have h19 := t2 (cacheRun_v (bb := false) hG [⟨0, 1, 0, 0⟩, ⟨1, 1, 2, 0⟩, ⟨3, 1, 0, 5⟩, ⟨0, 2, 0, 0⟩, ⟨2, 2, 0, 0⟩, ⟨4, 1, 0, 0⟩] (by simp))
  have h34 := t2 (format_v (G := G26) (bb := false) dg dg_len f1g f1w (by simp [f1g]) (by simp [f1w])
    (fun g hg => by
      simp only [f1g, List.mem_cons, List.not_mem_nil, or_false] at hg
      subst hg
      exact ⟨digit_v _ (by decide), digit_v _ (by decide), digit_v _ (by decide)⟩)
    (fun w hw => by
      simp only [f1w, List.mem_cons, List.not_mem_nil, or_false] at hw
      subst hw
      exact digit_v _ (by decide)))
  have h34b := t2 (format_v (G := G26) (bb := false) dg dg_len [⟨1, 2, 2⟩, ⟨2, 0, 0⟩] [] (by simp) (by simp)
    (fun g hg => by
      simp only [List.mem_cons, List.not_mem_nil, or_false] at hg
      rcases hg with rfl | rfl
      · exact ⟨digit_v _ (by decide), digit_v _ (by decide), digit_v _ (by decide)⟩
      · exact ⟨digit_v _ (by decide), digit_v _ (by decide), digit_v _ (by decide)⟩)
    (fun w hw => by cases hw))
  have h31 := t2 (ints_v (G := G26) (bb := false) [5] [5] (by simp))
  rw [x1] at h15
  rw [x2] at h22
  rw [x3] at h19
  rw [x4] at h34
  rw [x5] at h34b
  simp only [acsV, cusV, runV, stpV, crV, ckC, f1g, f1w, l1, flV, Ac.e, Cu.e, Ac.v, Gr.e, Wt.e, An.e, ci0, List.map_cons, List.map_nil] at h15 h22 h19 h34 h34b h31
  refine EV_run (h := h10) rfl ?_
  simp (maxSteps := 1000000) (disch := omega) only [go_sem, h10c, h15, h22, h19, h34, h34b, h31, y1, y2]
theorem awake_q : QC Tryz.prog G26 10 [] (vb true) := EV_qc T2_ok bsW_ok awake_e
end
section
open Go.ChangeShapes Go.WideShapes Go.ChangeAt Go.RowKit
def okT (P : Program) : Nat → TypeId → List DC → Prop
  | 0, _, _ => False
  | n + 1, t, ds =>
    match P.underlying t with
    | some .bool => ∃ b, ds = [.raw (.bool b)]
    | some (.int k) => ∃ i, ds = [.raw (.int k i)] ∧ k.min ≤ i ∧ i ≤ k.max
    | some .string => ∃ s : ByteArray, ds = [.raw (.string s)] ∧ s.size ≤ maxLen
    | some (.slice e) => ∃ es : List (List DC), ds = [.slc es] ∧ es.length ≤ maxLen ∧ ∀ d ∈ es, okT P n e d
    | some (.struct fs) => ds.length = P.cellsOf t ∧ ∀ (i : Nat) f, fs[i]? = some f → okT P n f.type ((ds.drop f.offset).take (P.cellsOf f.type))
    | some (.array m e) => ds.length = P.cellsOf t ∧ ∀ i, i < m → okT P n e ((ds.drop (i * P.cellsOf e)).take (P.cellsOf e))
    | _ => False
def conB : List (Nat × Nat) → Nat → Nat → Bool
  | [], off, tot => decide (off = tot)
  | p :: l, off, tot => decide (p.1 = off) && conB l (off + p.2) tot
def datT (P : Program) : Nat → TypeId → Bool
  | 0, _ => false
  | n + 1, t =>
    match P.underlying t with
    | some .bool => true
    | some (.int _) => true
    | some .string => true
    | some (.slice e) => datT P n e && decide (0 < P.cellsOf e)
    | some (.struct fs) => fs.toList.all (fun f => datT P n f.type) && conB (fs.toList.map fun f => (f.offset, P.cellsOf f.type)) 0 (P.cellsOf t)
    | some (.array m e) => datT P n e && decide (P.cellsOf t = m * P.cellsOf e)
    | _ => false
def RDs (F : Fz) (ds : List DC) (cs : List Value) : Prop := ds.length = cs.length ∧ ∀ (i : Nat) d v, ds[i]? = some d → cs[i]? = some v → RD F d v
theorem conB_le : ∀ (l : List (Nat × Nat)) (off tot : Nat), conB l off tot = true → off ≤ tot
  | [], off, tot, h => by simp [conB] at h; omega
  | p :: l, off, tot, h => by
    simp only [conB, Bool.and_eq_true, decide_eq_true_eq] at h
    have := conB_le l _ _ h.2; omega
theorem glue {F : Fz} {cs : List Value} : ∀ (l : List (Nat × Nat × (List DC → Prop))) (off : Nat), conB (l.map fun p => (p.1, p.2.1)) off cs.length = true → (∀ p ∈ l, ∃ ds, RDs F ds ((cs.drop p.1).take p.2.1) ∧ p.2.2 ds) →
    ∃ ds, RDs F ds (cs.drop off) ∧ ∀ p ∈ l, off ≤ p.1 ∧ p.2.2 ((ds.drop (p.1 - off)).take p.2.1)
  | [], off, h, _ => by
    simp only [List.map_nil, conB, decide_eq_true_eq] at h
    exact ⟨[], ⟨by simp [h], fun i d v h1 => by simp at h1⟩, fun p hp => by cases hp⟩
  | p :: l, off, h, hp => by
    simp only [List.map_cons, conB, Bool.and_eq_true, decide_eq_true_eq] at h
    obtain ⟨h0, h1⟩ := h
    have hle := conB_le _ _ _ h1
    obtain ⟨ds1, a1, a2⟩ := hp p List.mem_cons_self
    obtain ⟨ds2, b1, b2⟩ := glue l (off + p.2.1) h1 (fun q hq => hp q (List.mem_cons_of_mem _ hq))
    have hl1 : ds1.length = p.2.1 := by rw [a1.1, List.length_take, List.length_drop]; omega
    have hcat : cs.drop off = (cs.drop p.1).take p.2.1 ++ cs.drop (off + p.2.1) := by
      rw [h0, ← List.drop_drop, List.take_append_drop]
    refine ⟨ds1 ++ ds2, ⟨by rw [hcat, List.length_append, List.length_append, a1.1, b1.1], fun i d v h3 h4 => ?_⟩, fun q hq => ?_⟩
    · rw [hcat] at h4
      by_cases hi : i < ds1.length
      · rw [List.getElem?_append_left hi] at h3
        rw [List.getElem?_append_left (by rw [← a1.1]; exact hi)] at h4
        exact a1.2 i d v h3 h4
      · rw [List.getElem?_append_right (by omega)] at h3
        rw [List.getElem?_append_right (by rw [← a1.1]; omega), ← a1.1] at h4
        exact b1.2 _ d v h3 h4
    · rcases List.mem_cons.1 hq with rfl | hq
      · refine ⟨by omega, ?_⟩
        rw [h0, Nat.sub_self, List.drop_zero, List.take_append_of_le_length (by omega), List.take_of_length_le (by omega)]
        exact a2
      · obtain ⟨c1, c2⟩ := b2 q hq
        refine ⟨by omega, ?_⟩
        have : (ds1 ++ ds2).drop (q.1 - off) = ds2.drop (q.1 - (off + p.2.1)) := by
          rw [List.drop_append, List.drop_of_length_le (by omega), List.nil_append, hl1]
          congr 1; omega
        rw [this]; exact c2
theorem choose_list {α : Type} {Pr : Nat → α → Prop} : ∀ n, (∀ i, i < n → ∃ x, Pr i x) → ∃ l : List α, l.length = n ∧ ∀ (i : Nat) x, l[i]? = some x → Pr i x
  | 0, _ => ⟨[], rfl, fun i x h => by simp at h⟩
  | n + 1, h => by
    obtain ⟨l, hl, hp⟩ := choose_list n (fun i hi => h i (by omega))
    obtain ⟨x, hx⟩ := h n (by omega)
    refine ⟨l ++ [x], by simp [hl], fun i y hy => ?_⟩
    rcases append_one hy with h1 | ⟨h1, rfl⟩
    · exact hp i y h1
    · rw [h1, hl]; exact hx
section
variable {H : Type} {enc : TypeId × Value → H} {P : Program} {w : World} {base : Nat} {spare : Nat → Bool} {held : Bool}
theorem cell_spot {a : Addr} {v : Value} (h : w.cell? a = some v) : a.spot = none := by
  unfold World.cell? at h
  split at h
  · split at h
    · cases h
    · rename_i h1; cases hs : a.spot with
      | none => rfl
      | some x => simp [hs] at h1
  · cases h
theorem add_at {a : Addr} (h : a.spot = none) (i : Nat) : a.add i = ⟨a.block, a.off + i, none⟩ := by
  unfold Addr.add
  split
  · rename_i h0; subst h0; cases a; simp_all
  · rfl
theorem cell_all {a : Addr} {v : Value} (h : w.cell? a = some v) : (allF w).cell? a = some v := by
  unfold World.cell? at h
  unfold Fz.cell? allF
  exact h
theorem trod_data : ∀ (n : Nat) (t : TypeId) (cs : List Value) (x : DataW H × List MemPlace) (m : Nat), datT P m t = true → DataW.trod enc P w base spare held n t cs = some x → ∃ ds, RDs (allF w) ds cs ∧ okT P m t ds
  | 0, t, cs, x, m, hd, h => by simp [DataW.trod] at h
  | n + 1, t, cs, x, 0, hd, h => by simp [datT] at hd
  | n + 1, t, cs, x, m + 1, hd, h => by
    rw [datT] at hd
    cases hu : P.underlying t with
    | none => simp [hu] at hd
    | some u =>
      simp only [hu] at hd
      cases u <;> try (simp at hd; done)
      case bool =>
        obtain ⟨b, rfl, rfl⟩ := DataW.trod_bool hu h
        exact ⟨[.raw (.bool b)], ⟨rfl, fun i d v h1 h2 => by
          cases i with
          | zero => simp at h1 h2; subst h1; subst h2; exact .raw _ rfl
          | succ i => simp at h1⟩, by rw [okT, hu]; exact ⟨b, rfl⟩⟩
      case int k =>
        obtain ⟨i, rfl, rfl, hw⟩ := DataW.trod_int hu h
        refine ⟨[.raw (.int k i)], ⟨rfl, fun j d v h1 h2 => ?_⟩, by rw [okT, hu]; exact ⟨i, rfl, by simpa [Lit.wf] using hw⟩⟩
        cases j with
        | zero => simp at h1 h2; subst h1; subst h2; exact .raw _ rfl
        | succ j => simp at h1
      case string =>
        obtain ⟨s, rfl, rfl, hw⟩ := DataW.trod_string hu h
        refine ⟨[.raw (.string s)], ⟨rfl, fun j d v h1 h2 => ?_⟩, by rw [okT, hu]; exact ⟨s, rfl, hw⟩⟩
        cases j with
        | zero => simp at h1 h2; subst h1; subst h2; exact .raw _ rfl
        | succ j => simp at h1
      case slice e =>
        simp only [Bool.and_eq_true, decide_eq_true_eq] at hd
        rcases DataW.trod_slice hu h with ⟨rfl, _⟩ | ⟨a, len, cap, elems, rest, n', hn, rfl, _, hb, hl, hcm, hel, hat, _, _⟩
        · refine ⟨[.slc []], ⟨rfl, fun j d v h1 h2 => ?_⟩, by rw [okT, hu]; exact ⟨[], rfl, Nat.zero_le _, by simp⟩⟩
          cases j with
          | zero => simp at h1 h2; subst h1; subst h2; exact .nil _ _
          | succ j => simp at h1
        · have hn' : n' = n := by omega
          subst hn'
          have key : ∀ i, i < len → ∃ e' : List DC × List Value, w.cells? base (a.add (i * P.cellsOf e)) (P.cellsOf e) = some e'.2 ∧ RDs (allF w) e'.1 e'.2 ∧ okT P m e e'.1 := by
            intro i hi
            have h1 := hat i hi
            have hi2 : i < elems.length := by omega
            rw [List.getElem?_eq_getElem hi2] at h1
            obtain ⟨cs', h2, h3⟩ := Option.bind_eq_some_iff.1 h1
            obtain ⟨ds, h4, h5⟩ := trod_data n' e cs' _ m hd.1 h3
            exact ⟨(ds, cs'), h2, h4, h5⟩
          obtain ⟨L, hL, hLp⟩ := choose_list len key
          refine ⟨[.slc (L.map (·.1))], ⟨rfl, fun j d v h1 h2 => ?_⟩, ?_⟩
          · cases j with
            | succ j => simp at h1
            | zero =>
              simp at h1 h2; subst h1; subst h2
              by_cases h0 : len = 0
              · have : L = [] := List.eq_nil_of_length_eq_zero (by omega)
                subst this; rw [h0]; exact .nil _ _
              · have hcells : ∀ (i j : Nat) e' d, L[i]? = some e' → e'.1[j]? = some d → ∃ u, e'.2[j]? = some u ∧ w.cell? ((a.add (i * P.cellsOf e)).add j) = some u ∧ j < P.cellsOf e := by
                  intro i j e' d g1 g2
                  obtain ⟨g3, g4, _⟩ := hLp i e' g1
                  obtain ⟨_, g5, g6⟩ := World.cells?_some g3
                  have hj : j < e'.2.length := by rw [← g4.1]; exact lt_of_get g2
                  exact ⟨_, List.getElem?_eq_getElem hj, by rw [g6 j (by omega), List.getElem?_eq_getElem hj], by omega⟩
                have hsp : a.spot = none := by
                  have hL0 : 0 < L.length := by omega
                  obtain ⟨g3, g4, _⟩ := hLp 0 _ (List.getElem?_eq_getElem hL0)
                  obtain ⟨_, g5, g6⟩ := World.cells?_some g3
                  have hj : 0 < (L[0]).2.length := by rw [g5]; exact hd.2
                  have g7 := g6 0 hd.2
                  rw [List.getElem?_eq_getElem hj] at g7
                  have := cell_spot g7
                  simp only [Nat.zero_mul] at this
                  simpa [Addr.add] using this
                have haddr : ∀ i j, (a.add (i * P.cellsOf e)).add j = ⟨a.block, a.off + (i * P.cellsOf e + j), none⟩ := by
                  intro i j
                  rw [add_at hsp, add_at rfl, Nat.add_assoc]
                have ha : (some a : Option Addr) = some ⟨a.block, a.off, none⟩ := by cases a; simp_all
                rw [ha]
                have hmap : (L.map (·.1)).length = len := by simp [hL]
                have hgoal := RD.slc (F := allF w) a.block a.off cap (P.cellsOf e) (L.map (·.1)) (fun i j => ((L.getD i ([], [])).2).getD j undef) (fun e' he' => by
                    obtain ⟨p, hp, rfl⟩ := List.mem_map.1 he'
                    obtain ⟨i, hi⟩ := List.mem_iff_getElem?.1 hp
                    obtain ⟨g3, g4, _⟩ := hLp i p hi
                    rw [g4.1, (World.cells?_some g3).2.1]) (fun i j e' d g1 g2 => by
                    rw [List.getElem?_map] at g1
                    obtain ⟨p, hp, rfl⟩ := Option.map_eq_some_iff.1 g1
                    obtain ⟨u, hu1, hu2, hu3⟩ := hcells i j p d hp g2
                    simp only [List.getD_eq_getElem?_getD, hp, Option.getD_some, hu1]
                    exact (hLp i p hp).2.1.2 j d u g2 hu1) (fun i j e' d g1 g2 => by
                    rw [List.getElem?_map] at g1
                    obtain ⟨p, hp, rfl⟩ := Option.map_eq_some_iff.1 g1
                    obtain ⟨u, hu1, hu2, hu3⟩ := hcells i j p d hp g2
                    simp only [List.getD_eq_getElem?_getD, hp, Option.getD_some, hu1]
                    rw [haddr] at hu2
                    exact cell_all hu2) (by rw [hmap]; exact hl)
                rw [hmap] at hgoal
                exact hgoal
          · rw [okT, hu]
            refine ⟨_, rfl, by simp [hL]; omega, fun d hdm => ?_⟩
            obtain ⟨p, hp, rfl⟩ := List.mem_map.1 hdm
            obtain ⟨i, hi⟩ := List.mem_iff_getElem?.1 hp
            exact (hLp i p hi).2.2
      case struct fs =>
        simp only [Bool.and_eq_true, List.all_eq_true] at hd
        obtain ⟨xs, n', hn, _, hlen, hxl, hf⟩ := DataW.trod_struct hu h
        have hn' : n' = n := by omega
        subst hn'
        obtain ⟨ds, h1, h2⟩ := glue (F := allF w) (cs := cs) (fs.toList.map fun f => (f.offset, P.cellsOf f.type, okT P m f.type)) 0 (by
          rw [hlen, List.map_map]; exact hd.2) (fun p hp => by
          obtain ⟨f, hfm, rfl⟩ := List.mem_map.1 hp
          obtain ⟨i, hi⟩ := List.mem_iff_getElem?.1 hfm
          have hi' : fs[i]? = some f := by simpa using hi
          have h3 := hf i f hi'
          have hix : i < xs.length := by rw [hxl]; exact (Array.getElem?_eq_some_iff.1 hi').1
          rw [List.getElem?_eq_getElem hix] at h3
          exact trod_data n' f.type _ _ m (hd.1 f hfm) h3)
        simp only [List.drop_zero] at h1
        refine ⟨ds, h1, ?_⟩
        rw [okT, hu]
        refine ⟨by rw [h1.1, hlen], fun i f hi => ?_⟩
        have := (h2 _ (List.mem_map.2 ⟨f, by exact List.mem_iff_getElem?.2 ⟨i, by simpa using hi⟩, rfl⟩)).2
        simpa using this
      case array m' e =>
        simp only [Bool.and_eq_true, decide_eq_true_eq] at hd
        obtain ⟨xs, n', hn, _, hlen, hxl, hf⟩ := DataW.trod_array hu h
        have hn' : n' = n := by omega
        subst hn'
        have hcon : ∀ (k s : Nat), conB ((List.range' s k).map fun i => (i * P.cellsOf e, P.cellsOf e)) (s * P.cellsOf e) ((s + k) * P.cellsOf e) = true := by
          intro k
          induction k with
          | zero => intro s; simp [conB]
          | succ k ih =>
            intro s
            have := ih (s + 1)
            rw [List.range'_succ, List.map_cons, conB]
            simp only [decide_true, Bool.true_and]
            rw [← Nat.succ_mul, show s + (k + 1) = s + 1 + k by omega]
            exact this
        obtain ⟨ds, h1, h2⟩ := glue (F := allF w) (cs := cs) ((List.range m').map fun i => (i * P.cellsOf e, P.cellsOf e, okT P m e)) 0 (by
          rw [hlen, List.map_map, hd.2, List.range_eq_range']
          have := hcon m' 0
          simpa [Function.comp_def] using this) (fun p hp => by
          obtain ⟨i, him, rfl⟩ := List.mem_map.1 hp
          have hi := List.mem_range.1 him
          have h3 := hf i hi
          rw [List.getElem?_eq_getElem (by omega)] at h3
          exact trod_data n' e _ _ m hd.1 h3)
        simp only [List.drop_zero] at h1
        refine ⟨ds, h1, ?_⟩
        rw [okT, hu]
        refine ⟨by rw [h1.1, hlen], fun i hi => ?_⟩
        have := (h2 _ (List.mem_map.2 ⟨i, List.mem_range.2 hi, rfl⟩)).2
        simpa using this
def aggT (P : Program) (t : TypeId) : Bool :=
  match P.underlying t with
  | some (.struct _) => true
  | some (.array _ _) => true
  | _ => false
def okA (P : Program) (m : Nat) (t : TypeId) : AV → Prop
  | .one (.dc d) => aggT P t = false ∧ okT P m t [d]
  | .agg cs => aggT P t = true ∧ ∃ ds, cs = dcC ds ∧ okT P m t ds
  | _ => False
theorem arg_data {r : Reach} {b0 m : Nat} {t : TypeId} {v : Value} {d : DataW H} {ps : List MemPlace} (hval : Value.okWide P w r b0 t v) (hd : DataW.Trod enc P w base spare held t v d ps) (hdat : datT P m t = true) :
    ∃ av, RV (allF w) [] av v ∧ okA P m t av := by
  obtain ⟨n, h⟩ := hd
  obtain ⟨ds, h1, h2⟩ := trod_data n t _ _ m hdat h
  have one : ∀ x : Value, v = x → aggT P t = false → (∀ cs, x ≠ .agg cs) → ∃ av, RV (allF w) [] av v ∧ okA P m t av := by
    intro x hx h3 h4
    subst hx
    have hc : v.cells.toList = [v] := by cases v <;> first | rfl | (exact absurd rfl (h4 _))
    rw [hc] at h1
    match ds, h1, h2 with
    | [d0], h1, h2 => exact ⟨.one (.dc d0), .one _ _ (.dc _ _ (h1.2 0 d0 v rfl rfl)), h3, h2⟩
    | [], h1, _ => simp [RDs] at h1
    | _ :: _ :: _, h1, _ => simp [RDs] at h1
  have many : ∀ cs, v = .agg cs → aggT P t = true → ∃ av, RV (allF w) [] av v ∧ okA P m t av := by
    intro cs hv h0
    subst hv
    have hc : (Value.agg cs).cells.toList = cs.toList := rfl
    rw [hc] at h1
    refine ⟨.agg (dcC ds), .agg _ _ (by rw [dcC, List.length_map, h1.1, Array.length_toList]) (fun i c u h3 h4 => ?_), h0, ds, rfl, h2⟩
    rw [dcC, List.getElem?_map] at h3
    obtain ⟨d0, h5, rfl⟩ := Option.map_eq_some_iff.1 h3
    exact .dc _ _ (h1.2 i d0 u h5 (by simpa using h4))
  cases m with
  | zero => simp [datT] at hdat
  | succ m =>
    rw [datT] at hdat
    cases hu : P.underlying t with
    | none => simp [hu] at hdat
    | some u =>
      simp only [hu] at hdat
      cases u <;> try (simp at hdat; done)
      case bool => obtain ⟨b, hv⟩ := okWide_bool hu hval; exact one _ hv (by rw [aggT, hu]) (fun cs h => by cases h)
      case int k => obtain ⟨b, hv⟩ := okWide_int hu hval; exact one _ hv (by rw [aggT, hu]) (fun cs h => by cases h)
      case string => obtain ⟨b, hv⟩ := okWide_string hu hval; exact one _ hv (by rw [aggT, hu]) (fun cs h => by cases h)
      case slice e => obtain ⟨a, l, c, hv⟩ := okWide_slice hu hval; exact one _ hv (by rw [aggT, hu]) (fun cs h => by cases h)
      case struct fs => obtain ⟨cs, hv, _⟩ := okWide_struct hu hval; exact many cs hv (by rw [aggT, hu])
      case array k e =>
        unfold Value.okWide at hval
        rw [hu] at hval
        obtain ⟨cs, hv, _⟩ := hval
        exact many cs hv (by rw [aggT, hu])
def okAs (P : Program) (m : Nat) : List TypeId → List AV → Prop
  | [], [] => True
  | t :: ts, a :: avs => okA P m t a ∧ okAs P m ts avs
  | _, _ => False
theorem args_data {r : Reach} {b0 m : Nat} : ∀ {ts : List TypeId} {vs : List Value} {ds : List (DataW H)} {ps : List MemPlace}, DataW.TrodAll enc P w base spare held ts vs ds ps →
    (∀ (j : Nat) t v, ts[j]? = some t → vs[j]? = some v → Value.okWide P w r b0 t v) → (∀ t ∈ ts, datT P m t = true) → ∃ avs : List AV, vs.length = avs.length ∧ (∀ (i : Nat) av v, avs[i]? = some av → vs[i]? = some v → RV (allF w) [] av v) ∧ okAs P m ts avs ∧ ds.length = ts.length
  | [], vs, ds, ps, h, _, _ => by
    obtain ⟨rfl, rfl, rfl⟩ := trodAll_nil h
    exact ⟨[], rfl, fun i av v h => by simp at h, trivial, rfl⟩
  | t :: ts, vs, ds, ps, h, hval, hdat => by
    obtain ⟨v, vs', d, ds', p, q, rfl, rfl, rfl, h1, h2⟩ := trodAll_cons h
    obtain ⟨av, a1, a2⟩ := arg_data (hval 0 t v rfl rfl) h1 (hdat t List.mem_cons_self)
    obtain ⟨avs, b1, b2, b3, b4⟩ := args_data h2 (fun j t v h3 h4 => hval (j + 1) t v (by simpa using h3) (by simpa using h4)) (fun t ht => hdat t (List.mem_cons_of_mem _ ht))
    refine ⟨av :: avs, by simp [b1], fun i x y h3 h4 => ?_, ⟨a2, b3⟩, by simp [b4]⟩
    cases i with
    | zero => simp at h3 h4; subst h3; subst h4; exact a1
    | succ i => exact b2 i x y (by simpa using h3) (by simpa using h4)
end
end
section
section
variable {P : Program} {m : Nat} {t : TypeId} {av : AV}
theorem okA_one (ha : aggT P t = false) (h : okA P m t av) : ∃ d, av = .one (.dc d) ∧ okT P m t [d] := by
  cases av with
  | one c => cases c with
    | dc d => exact ⟨d, rfl, h.2⟩
    | _ => exact h.elim
  | agg cs => rw [h.1] at ha; cases ha
  | tup l => exact h.elim
  | junk => exact h.elim
theorem okA_slice {e : TypeId} (hu : P.underlying t = some (.slice e)) (h : okA P (m + 1) t av) : ∃ es, av = .one (.dc (.slc es)) ∧ es.length ≤ maxLen ∧ ∀ d ∈ es, okT P m e d := by
  obtain ⟨d, rfl, h2⟩ := okA_one (by rw [aggT, hu]) h
  rw [okT, hu] at h2
  obtain ⟨i, h3, h4⟩ := h2
  simp only [List.cons.injEq, and_true] at h3
  exact ⟨i, by rw [h3], h4⟩
theorem okT_int1 {k : IntKind} {ds : List DC} (hu : P.underlying t = some (.int k)) (h : okT P (m + 1) t ds) : ∃ i, ds = [.raw (.int k i)] ∧ k.min ≤ i ∧ i ≤ k.max := by
  rw [okT, hu] at h; exact h
end
end
end Go.Proofs.YtinageiefahjfaaGreatDoor
