/- Arguments of some types, opened. Conditions: none. -/
import Derived.Test.YtinageiefahjfaaGreatDoorVn
import Derived.Test.YtinageiefahjfaaGreatDoorVc
import Derived.Test.YtinageiefahjfaaGreatDoorVj
import Derived.Test.YtinageiefahjfaaGreatDoorMb
import Derived.KernelRfl
import Derived.OpenShut
namespace Go.Proofs.YtinageiefahjfaaGreatDoor
set_option linter.unusedSimpArgs false
set_option linter.unusedVariables false
set_option maxRecDepth 4000
section
variable {G : Glob} {bb : Bool}
structure Cu where
  k : Int
  c : Int
  l : Int
  u : Int
abbrev Cu.e (a : Cu) : List DC := [ci a.k, ci a.c, ci a.l, ci a.u]
abbrev cusV (l : List Cu) : AV := vl (l.map Cu.e)
theorem usF_len (x : Ca) (hh : x.ws.length ≤ 8) (k c l u : Int) : (usF x k c l u).1.sn.length ≤ x.sn.length + 9 := by
  unfold usF
  split
  · simp
  · split
    · rename_i y hy
      unfold aloF at hy
      split at hy
      · injection hy with hy; subst hy; simp
      · split at hy
        · injection hy with hy; subst hy; simp
        · cases hy
    · split
      · simp
      · rw [actF_e]
        have h1 := effL_gs (if (stp x.gs x.ws ⟨k, c, l⟩).2.2.d = true then effF (aft x k c l u) c k else aft x k c l u) (stp x.gs x.ws ⟨k, c, l⟩).2.2.f
        have h2 := (stp_f x.gs x.ws ⟨k, c, l⟩).2
        have h3 := effF_gs (aft x k c l u) c k
        have h4 : (aft x k c l u).sn = x.sn := (giv_gs x k c u).2.2
        rw [h4] at h3
        have h5 : (if (stp x.gs x.ws ⟨k, c, l⟩).2.2.d = true then effF (aft x k c l u) c k else aft x k c l u).sn.length ≤ x.sn.length + 1 := by
          split
          · exact h3.2.2
          · rw [h4]; omega
        have h6 : ∀ (y : Ca) (j : Nat), (drpF y j).sn = y.sn := fun _ _ => rfl
        rw [h6]
        omega
theorem usF_ok (x : Ca) (hv : Vd x.gs x.ws) (hh : Hd x.gs x.ws) (k c l u : Int) : Vd (usF x k c l u).1.gs (usF x k c l u).1.ws ∧ Hd (usF x k c l u).1.gs (usF x k c l u).1.ws := by
  unfold usF
  split
  · exact ⟨hv, hh⟩
  · split
    · rename_i y hy
      unfold aloF at hy
      split at hy
      · injection hy with hy; subst hy; exact ⟨hv, hh⟩
      · split at hy
        · injection hy with hy; subst hy; exact ⟨hv, hh⟩
        · cases hy
    · split
      · exact ⟨hv, hh⟩
      · rename_i he
        rw [actF_e]
        have h1 := effL_gs (if (stp x.gs x.ws ⟨k, c, l⟩).2.2.d = true then effF (aft x k c l u) c k else aft x k c l u) (stp x.gs x.ws ⟨k, c, l⟩).2.2.f
        have h3 := effF_gs (aft x k c l u) c k
        have h5 : (if (stp x.gs x.ws ⟨k, c, l⟩).2.2.d = true then effF (aft x k c l u) c k else aft x k c l u).gs = (stp x.gs x.ws ⟨k, c, l⟩).1 ∧ (if (stp x.gs x.ws ⟨k, c, l⟩).2.2.d = true then effF (aft x k c l u) c k else aft x k c l u).ws = (stp x.gs x.ws ⟨k, c, l⟩).2.1 := by
          split
          · exact ⟨h3.1, h3.2.1⟩
          · exact ⟨rfl, rfl⟩
        have h6 : ∀ (y : Ca) (j : Nat), (drpF y j).gs = y.gs ∧ (drpF y j).ws = y.ws := fun _ _ => ⟨rfl, rfl⟩
        simp only [h6]
        rw [h1.1, h1.2.1, h5.1, h5.2]
        exact stp_ok hv hh (Classical.not_not.1 he)
abbrev crH (x : Ca) : List AObj := [.box [.ptr 1 0], .box (caC 2 5 x.sn.length x.v x.K x.D x.W), .box [.bld 3 x.gs.length, .bld 4 x.ws.length], .arr 0 3 (x.gs.map Gr.e), .arr 0 2 (x.ws.map Wt.e), .arr 0 1 (x.sn.map ci0)]
theorem p67_v (hG : G 0 = some alD) (x : Ca) (hv : Vd x.gs x.ws) (hh : Hd x.gs x.ws) (hn : x.sn.length ≤ 9000) (i : Int) (a : Cu) :
    EV G (Tb (bs bb)) 67 [vi i, .agg [.dc (ci a.k), .dc (ci a.c), .dc (ci a.l), .dc (ci a.u)], .one (.ptr 0 0)] (crH x) = some (vi (usF x a.k a.c a.l a.u).2, crH (usF x a.k a.c a.l a.u).1) := by
  refine EV_run rfl ?_
  have q := cuse_v (bb := bb) hG x hv hh hn a.k a.c a.l a.u
  generalize usF x a.k a.c a.l a.u = r at *
  obtain ⟨y, e⟩ := r
  simp only [Ca.h, caH, crH] at q ⊢
  simp (disch := omega) only [go_sem, h67c, evJ_5, q]
def cuX : Ca → Nat → List Cu → Ca × Int × Int
  | x, n, [] => (x, 0, 0)
  | x, n, a :: l => if (usF x a.k a.c a.l a.u).2 = 0 then cuX (usF x a.k a.c a.l a.u).1 (n + 1) l else ((usF x a.k a.c a.l a.u).1, n, (usF x a.k a.c a.l a.u).2)
def caS (l : List Cu) (k : Nat) (x : Ca) : AS := ⟨(jk 1 (.one (.fn 67 [.ptr 0 0]) :: jk 7 (cusV l :: vi l.length :: vi k :: jk 13 []))), crH x⟩
theorem each66_key (hG : G 0 = some alD) (l : List Cu) (hl : l.length ≤ 100) : ∀ (rest : List Cu) (k : Nat) (x : Ca), l.drop k = rest → k ≤ l.length → Vd x.gs x.ws → Hd x.gs x.ws → x.sn.length ≤ 9 * k →
    retZ false [RetV.tmp 4, RetV.tmp 5] 6 (sqK (EV G (Tb (bs bb))) G ((HC.region [Oo 4 (AI.mov (Ki 0)), Oo 5 (AI.mov (Ki 0))]).seq HC.ret) (blkK 0 (EL (EV G (Tb (bs bb))) G h66l0 [1, 7, 0, 0] 6 (caS l k x)))) =
      some (twoI (cuX x k rest).2, crH (cuX x k rest).1)
  | [], k, x, hd, hk, hv, hh, ho => by
    have hkl : k = l.length := by
      have := congrArg List.length hd
      simp at this; omega
    subst hkl
    rw [EL_unf, cuX]
    unfold caS
    simp only [crH]
    simp (disch := omega) only [go_sem, h66l0]
  | a :: rest, k, x, hd, hk, hv, hh, ho => by
    have hkl : k < l.length := by
      have := congrArg List.length hd
      simp at this; omega
    have ha : l[k] = a := by
      have := List.drop_eq_getElem_cons hkl
      rw [hd] at this
      injection this with this _
      exact this.symm
    have hd' : l.drop (k + 1) = rest := by
      have := List.drop_eq_getElem_cons hkl
      rw [hd] at this
      injection this with _ this
      exact this.symm
    have eg : (l.map Cu.e)[k]? = some [ci a.k, ci a.c, ci a.l, ci a.u] := by rw [List.getElem?_map, List.getElem?_eq_getElem hkl, ha]; rfl
    have q := p67_v (bb := bb) hG x hv hh (by omega) k a
    have hl9 := usF_len x hv.wl a.k a.c a.l a.u
    obtain ⟨h1, h2⟩ := usF_ok x hv hh a.k a.c a.l a.u
    rw [cuX]
    by_cases he : (usF x a.k a.c a.l a.u).2 = 0
    · have ih := each66_key hG l hl rest (k + 1) (usF x a.k a.c a.l a.u).1 hd' (by omega) h1 h2 (by omega)
      have hr : rnK [1, 7, 0, 0] 6 (EC (EV G (Tb (bs bb))) G h66l0 (caS l k x)) = some (caS l (k + 1) (usF x a.k a.c a.l a.u).1) := by
        rw [he] at q
        generalize (usF x a.k a.c a.l a.u).1 = y at *
        unfold caS
        simp only [crH] at q ⊢
        simp (disch := omega) only [go_sem, h66l0, evJ_6, eg, q]
      rw [EL_unf, fnK_of hr, ih, if_pos he]
    · rw [EL_unf, if_neg he]
      generalize usF x a.k a.c a.l a.u = r at *
      obtain ⟨y, e⟩ := r
      unfold caS
      simp only [crH] at q he ⊢
      simp (disch := omega) only [go_sem, h66l0, evJ_6, eg, q, he]
theorem each66_v (hG : G 0 = some alD) (x : Ca) (hg : x.gs = []) (hw : x.ws = []) (hs : x.sn = []) (l : List Cu) (hl : l.length ≤ 100) : EV G (Tb (bs bb)) 66 [cusV l, .one (.fn 67 [.ptr 0 0])] (crH x) = some (twoI (cuX x 0 l).2, crH (cuX x 0 l).1) := by
  refine EV_run rfl ?_
  have q := each66_key (bb := bb) hG l hl l 0 x rfl (by omega) (by rw [hg, hw]; exact Vd.nil) (by rw [hg, hw]; exact Hd.nil) (by rw [hs]; simp)
  rw [← q]
  simp (disch := omega) only [go_sem, h66c]
  rfl
end
section
variable {G : Glob} {bb : Bool}
def ca1 (j : Nat) : Ca := ⟨[], [], 0, fun n => if n < j then -1 else 0, fun _ => false, fun _ => 0, []⟩
structure Ck where
  gs : List Gr
  ws : List Wt
  v : Int
  K : List Int
  D : List Bool
  sn : List Int
def Ca.k (x : Ca) : Ck := ⟨x.gs, x.ws, x.v, [x.K 1, x.K 2, x.K 3, x.K 4, x.K 5, x.K 6, x.K 7, x.K 8], [x.D 1, x.D 2, x.D 3, x.D 4, x.D 5, x.D 6, x.D 7, x.D 8], x.sn⟩
def bo (b : Bool) : List DC := [.raw (.bool b)]
abbrev ckC (x : Ck) : List Cel := [.dc (.slc (x.gs.map Gr.e)), .dc (.slc (x.ws.map Wt.e)), .dc (ci x.v), .dc (.slc (x.K.map ci0)), .dc (.slc (x.D.map bo)), .dc (.slc (x.sn.map ci0))]
def crF (l : List Cu) : Ck × Int × Int :=
  if l.length > 100 then (⟨[], [], 0, [], [], []⟩, 0, 8)
  else if (cuX (ca1 9) 0 l).2.2 ≠ 0 then (⟨[], [], 0, [], [], []⟩, (cuX (ca1 9) 0 l).2)
  else ((cuX (ca1 9) 0 l).1.k, l.length, 0)
abbrev crV (r : Ck × Int × Int) : AV := .tup [.agg (ckC r.1), .one (.dc (.raw (.int .i64 r.2.1))), .one (.dc (.raw (.int .i64 r.2.2)))]
theorem upd_1 (j : Nat) : upd (fun n => if n < j then (-1 : Int) else 0) j (-1) = fun n => if n < j + 1 then (-1 : Int) else 0 := by
  funext n
  unfold upd
  by_cases hn : n = j
  · subst hn; simp
  · have e : (n < j + 1) = (n < j) := propext ⟨by omega, by omega⟩
    simp [hn, e]
def i19 (l : List Cu) (x : Ca) (j : Nat) : AS := ⟨(cusV l :: jk 1 (.one (.ptr 0 0) :: jk 2 (.one (.ptr 3 0) :: jk 11 (vi j :: jk 45 [])))), [.box [.dc (.raw (.slice none 0 0)), .dc (.raw (.slice none 0 0)), .dc (ci 0), .dc (.raw (.slice none 0 0)), .dc (.raw (.slice none 0 0)), .dc (.raw (.slice none 0 0))], .box [.bld 4 x.gs.length, .bld 5 x.ws.length], .box (caC 1 6 x.sn.length x.v x.K x.D x.W), .box [.ptr 2 0], .arr 0 3 (x.gs.map Gr.e), .arr 0 2 (x.ws.map Wt.e), .arr 0 1 (x.sn.map ci0)]⟩
theorem i19_round (l : List Cu) (j : Nat) (hj : j < 9) : rnK [0, 1, 2, 11] 7 (EC (EV G (Tb (bs bb))) G h19l0 (i19 l (ca1 j) j)) = some (i19 l (ca1 (j + 1)) (j + 1)) := by
  have e : ca1 (j + 1) = { ca1 j with K := upd (ca1 j).K j (-1) } := by unfold ca1; rw [upd_1]
  rw [e]
  generalize ca1 j = x
  obtain ⟨gs, ws, v, K, D, W, sn⟩ := x
  unfold i19
  simp only
  simp (disch := omega) only [go_sem, h19l0, tn1, fvT_c]
set_option maxHeartbeats 4000000 in
theorem cacheRun_v (hG : G 0 = some alD) (l : List Cu) (hl : l.length ≤ 1000000) : EV G (Tb (bs bb)) 19 [cusV l] [] = some (crV (crF l), []) := by
  refine EV_run rfl ?_
  unfold crF
  by_cases h : l.length > 100
  · rw [if_pos h]
    simp (disch := omega) only [go_sem, h19c, h]
    try rfl
  · rw [if_neg h]
    have q := each66_v (bb := bb) hG (ca1 9) rfl rfl rfl l (by omega)
    simp (disch := omega) only [go_sem, h19c, h]
    rw [EL_loop (fun j => i19 l (ca1 j) j) 9 ?_ (fun j hj => i19_round l j hj)]
    rotate_left
    · rfl
    unfold i19
    generalize ca1 9 = x at *
    generalize cuX x 0 l = r at *
    obtain ⟨y, n, e⟩ := r
    simp only [crH] at q
    by_cases he : e = 0
    · subst he
      rw [if_neg (by simp)]
      simp (maxSteps := 1000000) (disch := omega) only [go_sem, h19l0, q, evJ_6, List.take_length]
      try rfl
    · rw [if_pos (by simpa using he)]
      simp (disch := omega) only [go_sem, h19l0, q, evJ_6, he]
      try rfl
end
section
variable {G : Glob} {bb : Bool}
def inS (a b : List Int) (k : Nat) : AS := ⟨(vl (a.map ci0) :: vl (b.map ci0) :: jk 3 (vi k :: jk 20 [])), []⟩
theorem ints_key (a b : List Int) (hl : a.length = b.length) (hb : a.length ≤ 1000000000) : ∀ (n k : Nat), a.length - k = n → k ≤ a.length →
    retZ false [RetV.tmp 4] 0 (sqK (EV G (Tb (bs bb))) G ((HC.region [Oo 4 (AI.mov (AArg.k (.bool true)))]).seq HC.ret) (blkK 0 (EL (EV G (Tb (bs bb))) G h31l0 [0, 0, 3] 0 (inS a b k)))) = some (vb (decide (a.drop k = b.drop k)), [])
  | 0, k, hn, hk => by
    have hkl : k = a.length := by omega
    subst hkl
    rw [EL_unf, List.drop_length, hl, List.drop_length]
    unfold inS
    simp (disch := omega) only [go_sem, h31l0, hl]
    try rfl
  | n + 1, k, hn, hk => by
    have hkl : k < a.length := by omega
    have hkb : k < b.length := by omega
    have ea : (a.map ci0)[k]? = some [ci a[k]] := by rw [List.getElem?_map, List.getElem?_eq_getElem hkl]; rfl
    have eb : (b.map ci0)[k]? = some [ci b[k]] := by rw [List.getElem?_map, List.getElem?_eq_getElem hkb]; rfl
    rw [List.drop_eq_getElem_cons hkl, List.drop_eq_getElem_cons hkb]
    by_cases h : a[k] = b[k]
    · have hr : rnK [0, 0, 3] 0 (EC (EV G (Tb (bs bb))) G h31l0 (inS a b k)) = some (inS a b (k + 1)) := by
        unfold inS
        rw [h] at ea
        generalize b[k] = x at *
        simp (disch := omega) only [go_sem, h31l0, ea, eb]
      have e : (a[k] :: a.drop (k + 1) = b[k] :: b.drop (k + 1)) = (a.drop (k + 1) = b.drop (k + 1)) := by rw [List.cons.injEq, eq_true h, true_and]
      rw [EL_unf, fnK_of hr, ints_key a b hl hb n (k + 1) (by omega) (by omega)]
      simp only [e]
    · have e : (a[k] :: a.drop (k + 1) = b[k] :: b.drop (k + 1)) = False := by rw [List.cons.injEq, eq_false h, false_and]
      rw [EL_unf]
      simp only [e, decide_false]
      generalize a[k] = x at *
      generalize b[k] = y at *
      unfold inS
      simp (disch := omega) only [go_sem, h31l0, ea, eb, h]
      try rfl
theorem ints_v (a b : List Int) (ha : a.length ≤ 1000000000) : EV G (Tb (bs bb)) 31 [vl (a.map ci0), vl (b.map ci0)] [] = some (vb (decide (a = b)), []) := by
  refine EV_run rfl ?_
  by_cases hl : a.length = b.length
  · have q := ints_key (G := G) (bb := bb) a b hl ha a.length 0 rfl (by omega)
    simp only [List.drop_zero] at q
    rw [← q]
    have hl2 : (b.length : Int) = a.length := by omega
    simp (disch := omega) only [go_sem, h31c, eq_true hl, hl2]
    try rfl
  · have e : (a = b) = False := by simp; intro h; exact hl (by rw [h])
    have hl2 : ¬ (a.length : Int) = b.length := by omega
    simp only [e, decide_false]
    simp (disch := omega) only [go_sem, h31c, hl, hl2]
    try rfl
end
section
variable {G : Glob} {bb : Bool}
noncomputable def bsW (G : Glob) : CallT := EV G (Tb (bs false))
theorem bsW_ok {G : Glob} : CallOK Tryz.prog G (bsW G) := by
  intro f args hp av o' h hp0 hh
  obtain ⟨n, hn⟩ := lim_some h
  exact callN_ok (Tb_ok (bs false)) (bs_ok (fun h => by cases h)) n f args hp av o' hn hp0 hh
def tbW : FuncId → Option HF := fun f => if f = 10 then some h10 else none
noncomputable def T2 (G : Glob) : HT := ⟨tbW, bsW G⟩
theorem T2_ok {G : Glob} : HTOK Tryz.prog (T2 G) := by
  intro f h hf
  change tbW f = some h at hf
  unfold tbW at hf
  split at hf
  · rename_i e
    subst e
    injection hf with hf; subst hf; exact ⟨by kernel_rfl, _, Tryz.func10, Tryz.ntmps10, h10_ok, r10_ok⟩
  · cases hf
theorem t2 {f : FuncId} {args : List AV} {hp : List AObj} {r : AV × List AObj} (h : EV G (Tb (bs false)) f args hp = some r) (h1 : f ≠ 10 := by decide) : EV G (T2 G) f args hp = some r :=
  EV_base (by show tbW f = none; exact if_neg h1) h
def dg (n : Int) : List Int := [48 + n]
theorem dg_len (n : Int) : (dg n).length ≤ 20 := by simp [dg]
theorem digit_v (n : Int) (h : 0 ≤ n ∧ n < 10) : EV G (Tb (bs bb)) 79 [vi n] [] = some (sv (dg n), []) := by
  refine EV_base rfl ?_
  rw [show (Tb (bs bb)).base = bs bb from rfl]
  show (if 0 ≤ n ∧ n < 10 then some (AV.one (.dc (.raw (.string ⟨#[UInt8.ofNat (48 + n.toNat)]⟩))), []) else none) = _
  rw [if_pos h]
  have e : (48 + n).toNat = 48 + n.toNat := by omega
  have e2 : str (dg n) = ⟨#[UInt8.ofNat (48 + n.toNat)]⟩ := by simp only [dg, str, u8, List.map_cons, List.map_nil, e]
  exact congrArg (fun s => some (AV.one (.dc (.raw (.string s))), ([] : List AObj))) e2.symm
def f1g : List Gr := [⟨1, 3, 2⟩]
def f1w : List Wt := [⟨2, 0⟩]
def l1 : List An := [⟨true, [], []⟩, ⟨true, [], []⟩, ⟨false, [⟨1, 2⟩], []⟩]
theorem x1 : runF [⟨0, 1, 0⟩, ⟨1, 1, 3⟩, ⟨0, 2, 0⟩] = ((f1g, f1w, l1), 3, 0) := by kernel_rfl
theorem x2 : stpF f1g f1w ⟨4, 1, 0⟩ = (([⟨1, 2, 2⟩, ⟨2, 0, 0⟩], [], ⟨true, [], [⟨2, 0⟩]⟩), 0) := by kernel_rfl
theorem x3 : crF [⟨0, 1, 0, 0⟩, ⟨1, 1, 2, 0⟩, ⟨3, 1, 0, 5⟩, ⟨0, 2, 0, 0⟩, ⟨2, 2, 0, 0⟩, ⟨4, 1, 0, 0⟩] = (⟨[⟨1, 1, 1⟩, ⟨2, 0, 0⟩], [], 5, [5, -1, -1, -1, -1, -1, -1, -1], [false, false, false, false, false, false, false, false], [5]⟩, 6, 0) := by kernel_rfl
theorem x4 : txF dg f1g f1w = [49, 58, 51, 62, 50, 59, 50, 111] := by kernel_rfl
theorem x5 : txF dg [⟨1, 2, 2⟩, ⟨2, 0, 0⟩] [] = [49, 58, 50, 62, 50, 44, 50, 58, 48, 62, 48, 59] := by kernel_rfl
theorem y1 : ((str [49, 58, 51, 62, 50, 59, 50, 111]) = (⟨#[49, 58, 51, 62, 50, 59, 50, 111]⟩ : ByteArray)) = True := eq_true (by kernel_rfl)
theorem y2 : ((str [49, 58, 50, 62, 50, 44, 50, 58, 48, 62, 48, 59]) = (⟨#[49, 58, 50, 62, 50, 44, 50, 58, 48, 62, 48, 59]⟩ : ByteArray)) = True := eq_true (by kernel_rfl)
set_option maxHeartbeats 4000000 in
theorem awake_g {G : Glob} (hG : G 0 = some alD) : EV G (T2 G) 10 [] [] = some (vb true, []) := by
  have h15 := t2 (runOf_v (bb := false) hG [⟨0, 1, 0⟩, ⟨1, 1, 3⟩, ⟨0, 2, 0⟩] (by simp))
  have h22 := t2 (stepped_v (bb := false) hG f1g f1w ⟨4, 1, 0⟩ (by simp [f1g]) (by simp [f1w]))
  have h19 := t2 (cacheRun_v (bb := false) hG [⟨0, 1, 0, 0⟩, ⟨1, 1, 2, 0⟩, ⟨3, 1, 0, 5⟩, ⟨0, 2, 0, 0⟩, ⟨2, 2, 0, 0⟩, ⟨4, 1, 0, 0⟩] (by simp))
  have h34 := t2 (format_v (G := G) (bb := false) dg dg_len f1g f1w (by simp [f1g]) (by simp [f1w])
    (fun g hg => by
      simp only [f1g, List.mem_cons, List.not_mem_nil, or_false] at hg
      subst hg
      exact ⟨digit_v _ (by decide), digit_v _ (by decide), digit_v _ (by decide)⟩)
    (fun w hw => by
      simp only [f1w, List.mem_cons, List.not_mem_nil, or_false] at hw
      subst hw
      exact digit_v _ (by decide)))
  have h34b := t2 (format_v (G := G) (bb := false) dg dg_len [⟨1, 2, 2⟩, ⟨2, 0, 0⟩] [] (by simp) (by simp)
    (fun g hg => by
      simp only [List.mem_cons, List.not_mem_nil, or_false] at hg
      rcases hg with rfl | rfl
      · exact ⟨digit_v _ (by decide), digit_v _ (by decide), digit_v _ (by decide)⟩
      · exact ⟨digit_v _ (by decide), digit_v _ (by decide), digit_v _ (by decide)⟩)
    (fun w hw => by cases hw))
  have h31 := t2 (ints_v (G := G) (bb := false) [5] [5] (by simp))
  rw [x1] at h15
  rw [x2] at h22
  rw [x3] at h19
  rw [x4] at h34
  rw [x5] at h34b
  simp only [acsV, cusV, runV, stpV, crV, ckC, f1g, f1w, l1, flV, Ac.e, Cu.e, Ac.v, Gr.e, Wt.e, An.e, ci0, List.map_cons, List.map_nil] at h15 h22 h19 h34 h34b h31
  refine EV_run (h := h10) rfl ?_
  simp (maxSteps := 1000000) (disch := omega) only [go_sem, h10c, h15, h22, h19, h34, h34b, h31, y1, y2]
theorem awake_qG {G : Glob} (hG : G 0 = some alD) : QC Tryz.prog G 10 [] (vb true) := EV_qc T2_ok bsW_ok (awake_g hG)
end
section
open Go.ChangeShapes Go.WideShapes Go.ChangeAt Go.RowKit
def okT (P : Program) : Nat → TypeId → List DC → Prop
  | 0, _, _ => False
  | n + 1, t, ds =>
    match P.underlying t with
    | some .bool => ∃ b, ds = [.raw (.bool b)]
    | some (.int k) => ∃ i, ds = [.raw (.int k i)] ∧ k.min ≤ i ∧ i ≤ k.max
    | some .string => ∃ s : ByteArray, ds = [.raw (.string s)] ∧ s.size ≤ maxLen
    | some (.slice e) => ∃ es : List (List DC), ds = [.slc es] ∧ es.length ≤ maxLen ∧ ∀ d ∈ es, okT P n e d
    | some (.struct fs) => ds.length = P.cellsOf t ∧ ∀ (i : Nat) f, fs[i]? = some f → okT P n f.type ((ds.drop f.offset).take (P.cellsOf f.type))
    | some (.array m e) => ds.length = P.cellsOf t ∧ ∀ i, i < m → okT P n e ((ds.drop (i * P.cellsOf e)).take (P.cellsOf e))
    | _ => False
def conB : List (Nat × Nat) → Nat → Nat → Bool
  | [], off, tot => decide (off = tot)
  | p :: l, off, tot => decide (p.1 = off) && conB l (off + p.2) tot
def datT (P : Program) : Nat → TypeId → Bool
  | 0, _ => false
  | n + 1, t =>
    match P.underlying t with
    | some .bool => true
    | some (.int _) => true
    | some .string => true
    | some (.slice e) => datT P n e && decide (0 < P.cellsOf e)
    | some (.struct fs) => fs.toList.all (fun f => datT P n f.type) && conB (fs.toList.map fun f => (f.offset, P.cellsOf f.type)) 0 (P.cellsOf t)
    | some (.array m e) => datT P n e && decide (P.cellsOf t = m * P.cellsOf e)
    | _ => false
def RDs (F : Fz) (ds : List DC) (cs : List Value) : Prop := ds.length = cs.length ∧ ∀ (i : Nat) d v, ds[i]? = some d → cs[i]? = some v → RD F d v
theorem conB_le : ∀ (l : List (Nat × Nat)) (off tot : Nat), conB l off tot = true → off ≤ tot
  | [], off, tot, h => by simp [conB] at h; omega
  | p :: l, off, tot, h => by
    simp only [conB, Bool.and_eq_true, decide_eq_true_eq] at h
    have := conB_le l _ _ h.2; omega
theorem glue {F : Fz} {cs : List Value} : ∀ (l : List (Nat × Nat × (List DC → Prop))) (off : Nat), conB (l.map fun p => (p.1, p.2.1)) off cs.length = true → (∀ p ∈ l, ∃ ds, RDs F ds ((cs.drop p.1).take p.2.1) ∧ p.2.2 ds) →
    ∃ ds, RDs F ds (cs.drop off) ∧ ∀ p ∈ l, off ≤ p.1 ∧ p.2.2 ((ds.drop (p.1 - off)).take p.2.1)
  | [], off, h, _ => by
    simp only [List.map_nil, conB, decide_eq_true_eq] at h
    exact ⟨[], ⟨by simp [h], fun i d v h1 => by simp at h1⟩, fun p hp => by cases hp⟩
  | p :: l, off, h, hp => by
    simp only [List.map_cons, conB, Bool.and_eq_true, decide_eq_true_eq] at h
    obtain ⟨h0, h1⟩ := h
    have hle := conB_le _ _ _ h1
    obtain ⟨ds1, a1, a2⟩ := hp p List.mem_cons_self
    obtain ⟨ds2, b1, b2⟩ := glue l (off + p.2.1) h1 (fun q hq => hp q (List.mem_cons_of_mem _ hq))
    have hl1 : ds1.length = p.2.1 := by rw [a1.1, List.length_take, List.length_drop]; omega
    have hcat : cs.drop off = (cs.drop p.1).take p.2.1 ++ cs.drop (off + p.2.1) := by
      rw [h0, ← List.drop_drop, List.take_append_drop]
    refine ⟨ds1 ++ ds2, ⟨by rw [hcat, List.length_append, List.length_append, a1.1, b1.1], fun i d v h3 h4 => ?_⟩, fun q hq => ?_⟩
    · rw [hcat] at h4
      by_cases hi : i < ds1.length
      · rw [List.getElem?_append_left hi] at h3
        rw [List.getElem?_append_left (by rw [← a1.1]; exact hi)] at h4
        exact a1.2 i d v h3 h4
      · rw [List.getElem?_append_right (by omega)] at h3
        rw [List.getElem?_append_right (by rw [← a1.1]; omega), ← a1.1] at h4
        exact b1.2 _ d v h3 h4
    · rcases List.mem_cons.1 hq with rfl | hq
      · refine ⟨by omega, ?_⟩
        rw [h0, Nat.sub_self, List.drop_zero, List.take_append_of_le_length (by omega), List.take_of_length_le (by omega)]
        exact a2
      · obtain ⟨c1, c2⟩ := b2 q hq
        refine ⟨by omega, ?_⟩
        have : (ds1 ++ ds2).drop (q.1 - off) = ds2.drop (q.1 - (off + p.2.1)) := by
          rw [List.drop_append, List.drop_of_length_le (by omega), List.nil_append, hl1]
          congr 1; omega
        rw [this]; exact c2
theorem choose_list {α : Type} {Pr : Nat → α → Prop} : ∀ n, (∀ i, i < n → ∃ x, Pr i x) → ∃ l : List α, l.length = n ∧ ∀ (i : Nat) x, l[i]? = some x → Pr i x
  | 0, _ => ⟨[], rfl, fun i x h => by simp at h⟩
  | n + 1, h => by
    obtain ⟨l, hl, hp⟩ := choose_list n (fun i hi => h i (by omega))
    obtain ⟨x, hx⟩ := h n (by omega)
    refine ⟨l ++ [x], by simp [hl], fun i y hy => ?_⟩
    rcases append_one hy with h1 | ⟨h1, rfl⟩
    · exact hp i y h1
    · rw [h1, hl]; exact hx
section
variable {H : Type} {enc : TypeId × Value → H} {P : Program} {w : World} {base : Nat} {spare : Nat → Bool} {held : Bool}
theorem cell_spot {a : Addr} {v : Value} (h : w.cell? a = some v) : a.spot = none := by
  unfold World.cell? at h
  split at h
  · split at h
    · cases h
    · rename_i h1; cases hs : a.spot with
      | none => rfl
      | some x => simp [hs] at h1
  · cases h
theorem add_at {a : Addr} (h : a.spot = none) (i : Nat) : a.add i = ⟨a.block, a.off + i, none⟩ := by
  unfold Addr.add
  split
  · rename_i h0; subst h0; cases a; simp_all
  · rfl
theorem cell_all {a : Addr} {v : Value} (h : w.cell? a = some v) : (allF w).cell? a = some v := by
  unfold World.cell? at h
  unfold Fz.cell? allF
  exact h
theorem trod_data : ∀ (n : Nat) (t : TypeId) (cs : List Value) (x : DataW H × List MemPlace) (m : Nat), datT P m t = true → DataW.trod enc P w base spare held n t cs = some x → ∃ ds, RDs (allF w) ds cs ∧ okT P m t ds
  | 0, t, cs, x, m, hd, h => by simp [DataW.trod] at h
  | n + 1, t, cs, x, 0, hd, h => by simp [datT] at hd
  | n + 1, t, cs, x, m + 1, hd, h => by
    rw [datT] at hd
    cases hu : P.underlying t with
    | none => simp [hu] at hd
    | some u =>
      simp only [hu] at hd
      cases u <;> try (simp at hd; done)
      case bool =>
        obtain ⟨b, rfl, rfl⟩ := DataW.trod_bool hu h
        exact ⟨[.raw (.bool b)], ⟨rfl, fun i d v h1 h2 => by
          cases i with
          | zero => simp at h1 h2; subst h1; subst h2; exact .raw _ rfl
          | succ i => simp at h1⟩, by rw [okT, hu]; exact ⟨b, rfl⟩⟩
      case int k =>
        obtain ⟨i, rfl, rfl, hw⟩ := DataW.trod_int hu h
        refine ⟨[.raw (.int k i)], ⟨rfl, fun j d v h1 h2 => ?_⟩, by rw [okT, hu]; exact ⟨i, rfl, by simpa [Lit.wf] using hw⟩⟩
        cases j with
        | zero => simp at h1 h2; subst h1; subst h2; exact .raw _ rfl
        | succ j => simp at h1
      case string =>
        obtain ⟨s, rfl, rfl, hw⟩ := DataW.trod_string hu h
        refine ⟨[.raw (.string s)], ⟨rfl, fun j d v h1 h2 => ?_⟩, by rw [okT, hu]; exact ⟨s, rfl, hw⟩⟩
        cases j with
        | zero => simp at h1 h2; subst h1; subst h2; exact .raw _ rfl
        | succ j => simp at h1
      case slice e =>
        simp only [Bool.and_eq_true, decide_eq_true_eq] at hd
        rcases DataW.trod_slice hu h with ⟨rfl, _⟩ | ⟨a, len, cap, elems, rest, n', hn, rfl, _, hb, hl, hcm, hel, hat, _, _⟩
        · refine ⟨[.slc []], ⟨rfl, fun j d v h1 h2 => ?_⟩, by rw [okT, hu]; exact ⟨[], rfl, Nat.zero_le _, by simp⟩⟩
          cases j with
          | zero => simp at h1 h2; subst h1; subst h2; exact .nil _ _
          | succ j => simp at h1
        · have hn' : n' = n := by omega
          subst hn'
          have key : ∀ i, i < len → ∃ e' : List DC × List Value, w.cells? base (a.add (i * P.cellsOf e)) (P.cellsOf e) = some e'.2 ∧ RDs (allF w) e'.1 e'.2 ∧ okT P m e e'.1 := by
            intro i hi
            have h1 := hat i hi
            have hi2 : i < elems.length := by omega
            rw [List.getElem?_eq_getElem hi2] at h1
            obtain ⟨cs', h2, h3⟩ := Option.bind_eq_some_iff.1 h1
            obtain ⟨ds, h4, h5⟩ := trod_data n' e cs' _ m hd.1 h3
            exact ⟨(ds, cs'), h2, h4, h5⟩
          obtain ⟨L, hL, hLp⟩ := choose_list len key
          refine ⟨[.slc (L.map (·.1))], ⟨rfl, fun j d v h1 h2 => ?_⟩, ?_⟩
          · cases j with
            | succ j => simp at h1
            | zero =>
              simp at h1 h2; subst h1; subst h2
              by_cases h0 : len = 0
              · have : L = [] := List.eq_nil_of_length_eq_zero (by omega)
                subst this; rw [h0]; exact .nil _ _
              · have hcells : ∀ (i j : Nat) e' d, L[i]? = some e' → e'.1[j]? = some d → ∃ u, e'.2[j]? = some u ∧ w.cell? ((a.add (i * P.cellsOf e)).add j) = some u ∧ j < P.cellsOf e := by
                  intro i j e' d g1 g2
                  obtain ⟨g3, g4, _⟩ := hLp i e' g1
                  obtain ⟨_, g5, g6⟩ := World.cells?_some g3
                  have hj : j < e'.2.length := by rw [← g4.1]; exact lt_of_get g2
                  exact ⟨_, List.getElem?_eq_getElem hj, by rw [g6 j (by omega), List.getElem?_eq_getElem hj], by omega⟩
                have hsp : a.spot = none := by
                  have hL0 : 0 < L.length := by omega
                  obtain ⟨g3, g4, _⟩ := hLp 0 _ (List.getElem?_eq_getElem hL0)
                  obtain ⟨_, g5, g6⟩ := World.cells?_some g3
                  have hj : 0 < (L[0]).2.length := by rw [g5]; exact hd.2
                  have g7 := g6 0 hd.2
                  rw [List.getElem?_eq_getElem hj] at g7
                  have := cell_spot g7
                  simp only [Nat.zero_mul] at this
                  simpa [Addr.add] using this
                have haddr : ∀ i j, (a.add (i * P.cellsOf e)).add j = ⟨a.block, a.off + (i * P.cellsOf e + j), none⟩ := by
                  intro i j
                  rw [add_at hsp, add_at rfl, Nat.add_assoc]
                have ha : (some a : Option Addr) = some ⟨a.block, a.off, none⟩ := by cases a; simp_all
                rw [ha]
                have hmap : (L.map (·.1)).length = len := by simp [hL]
                have hgoal := RD.slc (F := allF w) a.block a.off cap (P.cellsOf e) (L.map (·.1)) (fun i j => ((L.getD i ([], [])).2).getD j undef) (fun e' he' => by
                    obtain ⟨p, hp, rfl⟩ := List.mem_map.1 he'
                    obtain ⟨i, hi⟩ := List.mem_iff_getElem?.1 hp
                    obtain ⟨g3, g4, _⟩ := hLp i p hi
                    rw [g4.1, (World.cells?_some g3).2.1]) (fun i j e' d g1 g2 => by
                    rw [List.getElem?_map] at g1
                    obtain ⟨p, hp, rfl⟩ := Option.map_eq_some_iff.1 g1
                    obtain ⟨u, hu1, hu2, hu3⟩ := hcells i j p d hp g2
                    simp only [List.getD_eq_getElem?_getD, hp, Option.getD_some, hu1]
                    exact (hLp i p hp).2.1.2 j d u g2 hu1) (fun i j e' d g1 g2 => by
                    rw [List.getElem?_map] at g1
                    obtain ⟨p, hp, rfl⟩ := Option.map_eq_some_iff.1 g1
                    obtain ⟨u, hu1, hu2, hu3⟩ := hcells i j p d hp g2
                    simp only [List.getD_eq_getElem?_getD, hp, Option.getD_some, hu1]
                    rw [haddr] at hu2
                    exact cell_all hu2) (by rw [hmap]; exact hl)
                rw [hmap] at hgoal
                exact hgoal
          · rw [okT, hu]
            refine ⟨_, rfl, by simp [hL]; omega, fun d hdm => ?_⟩
            obtain ⟨p, hp, rfl⟩ := List.mem_map.1 hdm
            obtain ⟨i, hi⟩ := List.mem_iff_getElem?.1 hp
            exact (hLp i p hi).2.2
      case struct fs =>
        simp only [Bool.and_eq_true, List.all_eq_true] at hd
        obtain ⟨xs, n', hn, _, hlen, hxl, hf⟩ := DataW.trod_struct hu h
        have hn' : n' = n := by omega
        subst hn'
        obtain ⟨ds, h1, h2⟩ := glue (F := allF w) (cs := cs) (fs.toList.map fun f => (f.offset, P.cellsOf f.type, okT P m f.type)) 0 (by
          rw [hlen, List.map_map]; exact hd.2) (fun p hp => by
          obtain ⟨f, hfm, rfl⟩ := List.mem_map.1 hp
          obtain ⟨i, hi⟩ := List.mem_iff_getElem?.1 hfm
          have hi' : fs[i]? = some f := by simpa using hi
          have h3 := hf i f hi'
          have hix : i < xs.length := by rw [hxl]; exact (Array.getElem?_eq_some_iff.1 hi').1
          rw [List.getElem?_eq_getElem hix] at h3
          exact trod_data n' f.type _ _ m (hd.1 f hfm) h3)
        simp only [List.drop_zero] at h1
        refine ⟨ds, h1, ?_⟩
        rw [okT, hu]
        refine ⟨by rw [h1.1, hlen], fun i f hi => ?_⟩
        have := (h2 _ (List.mem_map.2 ⟨f, by exact List.mem_iff_getElem?.2 ⟨i, by simpa using hi⟩, rfl⟩)).2
        simpa using this
      case array m' e =>
        simp only [Bool.and_eq_true, decide_eq_true_eq] at hd
        obtain ⟨xs, n', hn, _, hlen, hxl, hf⟩ := DataW.trod_array hu h
        have hn' : n' = n := by omega
        subst hn'
        have hcon : ∀ (k s : Nat), conB ((List.range' s k).map fun i => (i * P.cellsOf e, P.cellsOf e)) (s * P.cellsOf e) ((s + k) * P.cellsOf e) = true := by
          intro k
          induction k with
          | zero => intro s; simp [conB]
          | succ k ih =>
            intro s
            have := ih (s + 1)
            rw [List.range'_succ, List.map_cons, conB]
            simp only [decide_true, Bool.true_and]
            rw [← Nat.succ_mul, show s + (k + 1) = s + 1 + k by omega]
            exact this
        obtain ⟨ds, h1, h2⟩ := glue (F := allF w) (cs := cs) ((List.range m').map fun i => (i * P.cellsOf e, P.cellsOf e, okT P m e)) 0 (by
          rw [hlen, List.map_map, hd.2, List.range_eq_range']
          have := hcon m' 0
          simpa [Function.comp_def] using this) (fun p hp => by
          obtain ⟨i, him, rfl⟩ := List.mem_map.1 hp
          have hi := List.mem_range.1 him
          have h3 := hf i hi
          rw [List.getElem?_eq_getElem (by omega)] at h3
          exact trod_data n' e _ _ m hd.1 h3)
        simp only [List.drop_zero] at h1
        refine ⟨ds, h1, ?_⟩
        rw [okT, hu]
        refine ⟨by rw [h1.1, hlen], fun i hi => ?_⟩
        have := (h2 _ (List.mem_map.2 ⟨i, List.mem_range.2 hi, rfl⟩)).2
        simpa using this
def aggT (P : Program) (t : TypeId) : Bool :=
  match P.underlying t with
  | some (.struct _) => true
  | some (.array _ _) => true
  | _ => false
def okA (P : Program) (m : Nat) (t : TypeId) : AV → Prop
  | .one (.dc d) => aggT P t = false ∧ okT P m t [d]
  | .agg cs => aggT P t = true ∧ ∃ ds, cs = dcC ds ∧ okT P m t ds
  | _ => False
theorem arg_data {r : Reach} {b0 m : Nat} {t : TypeId} {v : Value} {d : DataW H} {ps : List MemPlace} (hval : Value.okWide P w r b0 t v) (hd : DataW.Trod enc P w base spare held t v d ps) (hdat : datT P m t = true) :
    ∃ av, RV (allF w) [] av v ∧ okA P m t av := by
  obtain ⟨n, h⟩ := hd
  obtain ⟨ds, h1, h2⟩ := trod_data n t _ _ m hdat h
  have one : ∀ x : Value, v = x → aggT P t = false → (∀ cs, x ≠ .agg cs) → ∃ av, RV (allF w) [] av v ∧ okA P m t av := by
    intro x hx h3 h4
    subst hx
    have hc : v.cells.toList = [v] := by cases v <;> first | rfl | (exact absurd rfl (h4 _))
    rw [hc] at h1
    match ds, h1, h2 with
    | [d0], h1, h2 => exact ⟨.one (.dc d0), .one _ _ (.dc _ _ (h1.2 0 d0 v rfl rfl)), h3, h2⟩
    | [], h1, _ => simp [RDs] at h1
    | _ :: _ :: _, h1, _ => simp [RDs] at h1
  have many : ∀ cs, v = .agg cs → aggT P t = true → ∃ av, RV (allF w) [] av v ∧ okA P m t av := by
    intro cs hv h0
    subst hv
    have hc : (Value.agg cs).cells.toList = cs.toList := rfl
    rw [hc] at h1
    refine ⟨.agg (dcC ds), .agg _ _ (by rw [dcC, List.length_map, h1.1, Array.length_toList]) (fun i c u h3 h4 => ?_), h0, ds, rfl, h2⟩
    rw [dcC, List.getElem?_map] at h3
    obtain ⟨d0, h5, rfl⟩ := Option.map_eq_some_iff.1 h3
    exact .dc _ _ (h1.2 i d0 u h5 (by simpa using h4))
  cases m with
  | zero => simp [datT] at hdat
  | succ m =>
    rw [datT] at hdat
    cases hu : P.underlying t with
    | none => simp [hu] at hdat
    | some u =>
      simp only [hu] at hdat
      cases u <;> try (simp at hdat; done)
      case bool => obtain ⟨b, hv⟩ := okWide_bool hu hval; exact one _ hv (by rw [aggT, hu]) (fun cs h => by cases h)
      case int k => obtain ⟨b, hv⟩ := okWide_int hu hval; exact one _ hv (by rw [aggT, hu]) (fun cs h => by cases h)
      case string => obtain ⟨b, hv⟩ := okWide_string hu hval; exact one _ hv (by rw [aggT, hu]) (fun cs h => by cases h)
      case slice e => obtain ⟨a, l, c, hv⟩ := okWide_slice hu hval; exact one _ hv (by rw [aggT, hu]) (fun cs h => by cases h)
      case struct fs => obtain ⟨cs, hv, _⟩ := okWide_struct hu hval; exact many cs hv (by rw [aggT, hu])
      case array k e =>
        unfold Value.okWide at hval
        rw [hu] at hval
        obtain ⟨cs, hv, _⟩ := hval
        exact many cs hv (by rw [aggT, hu])
def okAs (P : Program) (m : Nat) : List TypeId → List AV → Prop
  | [], [] => True
  | t :: ts, a :: avs => okA P m t a ∧ okAs P m ts avs
  | _, _ => False
theorem args_data {r : Reach} {b0 m : Nat} : ∀ {ts : List TypeId} {vs : List Value} {ds : List (DataW H)} {ps : List MemPlace}, DataW.TrodAll enc P w base spare held ts vs ds ps →
    (∀ (j : Nat) t v, ts[j]? = some t → vs[j]? = some v → Value.okWide P w r b0 t v) → (∀ t ∈ ts, datT P m t = true) → ∃ avs : List AV, vs.length = avs.length ∧ (∀ (i : Nat) av v, avs[i]? = some av → vs[i]? = some v → RV (allF w) [] av v) ∧ okAs P m ts avs ∧ ds.length = ts.length
  | [], vs, ds, ps, h, _, _ => by
    obtain ⟨rfl, rfl, rfl⟩ := trodAll_nil h
    exact ⟨[], rfl, fun i av v h => by simp at h, trivial, rfl⟩
  | t :: ts, vs, ds, ps, h, hval, hdat => by
    obtain ⟨v, vs', d, ds', p, q, rfl, rfl, rfl, h1, h2⟩ := trodAll_cons h
    obtain ⟨av, a1, a2⟩ := arg_data (hval 0 t v rfl rfl) h1 (hdat t List.mem_cons_self)
    obtain ⟨avs, b1, b2, b3, b4⟩ := args_data h2 (fun j t v h3 h4 => hval (j + 1) t v (by simpa using h3) (by simpa using h4)) (fun t ht => hdat t (List.mem_cons_of_mem _ ht))
    refine ⟨av :: avs, by simp [b1], fun i x y h3 h4 => ?_, ⟨a2, b3⟩, by simp [b4]⟩
    cases i with
    | zero => simp at h3 h4; subst h3; subst h4; exact a1
    | succ i => exact b2 i x y (by simpa using h3) (by simpa using h4)
end
end
section
section
variable {P : Program} {m : Nat} {t : TypeId} {av : AV}
theorem okA_one (ha : aggT P t = false) (h : okA P m t av) : ∃ d, av = .one (.dc d) ∧ okT P m t [d] := by
  cases av with
  | one c => cases c with
    | dc d => exact ⟨d, rfl, h.2⟩
    | _ => exact h.elim
  | agg cs => rw [h.1] at ha; cases ha
  | tup l => exact h.elim
  | junk => exact h.elim
theorem okA_many (ha : aggT P t = true) (h : okA P m t av) : ∃ ds, av = .agg (dcC ds) ∧ okT P m t ds := by
  cases av with
  | one c => cases c with
    | dc d => rw [h.1] at ha; cases ha
    | _ => exact h.elim
  | agg cs => obtain ⟨_, ds, rfl, h2⟩ := h; exact ⟨ds, rfl, h2⟩
  | tup l => exact h.elim
  | junk => exact h.elim
theorem okA_string (hu : P.underlying t = some .string) (h : okA P (m + 1) t av) : ∃ s : ByteArray, av = .one (.dc (.raw (.string s))) ∧ s.size ≤ maxLen := by
  obtain ⟨d, rfl, h2⟩ := okA_one (by rw [aggT, hu]) h
  rw [okT, hu] at h2
  obtain ⟨i, h3, h4⟩ := h2
  simp only [List.cons.injEq, and_true] at h3
  exact ⟨i, by rw [h3], h4⟩
theorem i64_bounds {i : Int} (h : IntKind.i64.min ≤ i ∧ i ≤ IntKind.i64.max) : -9223372036854775808 ≤ i ∧ i ≤ 9223372036854775807 := by
  have e1 : IntKind.i64.min = -9223372036854775808 := by decide
  have e2 : IntKind.i64.max = 9223372036854775807 := by decide
  omega
theorem okT_int1 {k : IntKind} {ds : List DC} (hu : P.underlying t = some (.int k)) (h : okT P (m + 1) t ds) : ∃ i, ds = [.raw (.int k i)] ∧ k.min ≤ i ∧ i ≤ k.max := by
  rw [okT, hu] at h; exact h
theorem okT_two {f0 f1 : Field} {ds : List DC} (hu : P.underlying t = some (.struct #[f0, f1])) (h0 : P.underlying f0.type = some (.int .i64)) (h1 : P.underlying f1.type = some (.int .i64)) (o0 : f0.offset = 0) (o1 : f1.offset = 1)
    (c0 : P.cellsOf f0.type = 1) (c1 : P.cellsOf f1.type = 1) (hc : P.cellsOf t = 2) (h : okT P (m + 2) t ds) :
    ∃ a b : Int, ds = [ci a, ci b] ∧ (-9223372036854775808 ≤ a ∧ a ≤ 9223372036854775807) ∧ (-9223372036854775808 ≤ b ∧ b ≤ 9223372036854775807) := by
  rw [okT, hu] at h
  obtain ⟨hl, hf⟩ := h
  rw [hc] at hl
  obtain ⟨a, ha, ha2⟩ := okT_int1 h0 (hf 0 f0 rfl)
  obtain ⟨b, hb, hb2⟩ := okT_int1 h1 (hf 1 f1 rfl)
  match ds, hl with
  | [x, y], _ =>
    rw [o0, c0] at ha
    rw [o1, c1] at hb
    simp at ha hb
    exact ⟨a, b, by rw [ha, hb], i64_bounds ha2, i64_bounds hb2⟩
end
end
end Go.Proofs.YtinageiefahjfaaGreatDoor
