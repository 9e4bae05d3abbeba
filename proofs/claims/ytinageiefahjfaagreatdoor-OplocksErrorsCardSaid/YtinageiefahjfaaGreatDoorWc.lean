/- The chapter's examples. Conditions: none. -/
import Derived.Test.YtinageiefahjfaaGreatDoorUt
import Derived.Test.YtinageiefahjfaaGreatDoorTh
import Derived.Test.YtinageiefahjfaaGreatDoorUp
import Derived.Test.YtinageiefahjfaaGreatDoorMb
import Derived.KernelRfl
namespace Go.Proofs.YtinageiefahjfaaGreatDoor
section
set_option maxRecDepth 4000
set_option linter.unusedSimpArgs false
set_option linter.unusedVariables false
variable {G : Glob} {bb : Bool}
structure Cu where
  k : Int
  c : Int
  l : Int
  u : Int
abbrev Cu.e (a : Cu) : List DC := [ci a.k, ci a.c, ci a.l, ci a.u]
abbrev cusV (l : List Cu) : AV := vl (l.map Cu.e)
theorem usF_len (x : Ca) (hh : x.ws.length ≤ 8) (k c l u : Int) : (usF x k c l u).1.sn.length ≤ x.sn.length + 9 := by
  unfold usF
  split
  · simp
  · split
    · rename_i y hy
      unfold aloF at hy
      split at hy
      · injection hy with hy; subst hy; simp
      · split at hy
        · injection hy with hy; subst hy; simp
        · cases hy
    · split
      · simp
      · rw [actF_e]
        have h1 := effL_gs (if (stp x.gs x.ws ⟨k, c, l⟩).2.2.d = true then effF (aft x k c l u) c k else aft x k c l u) (stp x.gs x.ws ⟨k, c, l⟩).2.2.f
        have h2 := (stp_f x.gs x.ws ⟨k, c, l⟩).2
        have h3 := effF_gs (aft x k c l u) c k
        have h4 : (aft x k c l u).sn = x.sn := (giv_gs x k c u).2.2
        rw [h4] at h3
        have h5 : (if (stp x.gs x.ws ⟨k, c, l⟩).2.2.d = true then effF (aft x k c l u) c k else aft x k c l u).sn.length ≤ x.sn.length + 1 := by
          split
          · exact h3.2.2
          · rw [h4]; omega
        have h6 : ∀ (y : Ca) (j : Nat), (drpF y j).sn = y.sn := fun _ _ => rfl
        rw [h6]
        omega
theorem usF_ok (x : Ca) (hv : Vd x.gs x.ws) (hh : Hd x.gs x.ws) (k c l u : Int) : Vd (usF x k c l u).1.gs (usF x k c l u).1.ws ∧ Hd (usF x k c l u).1.gs (usF x k c l u).1.ws := by
  unfold usF
  split
  · exact ⟨hv, hh⟩
  · split
    · rename_i y hy
      unfold aloF at hy
      split at hy
      · injection hy with hy; subst hy; exact ⟨hv, hh⟩
      · split at hy
        · injection hy with hy; subst hy; exact ⟨hv, hh⟩
        · cases hy
    · split
      · exact ⟨hv, hh⟩
      · rename_i he
        rw [actF_e]
        have h1 := effL_gs (if (stp x.gs x.ws ⟨k, c, l⟩).2.2.d = true then effF (aft x k c l u) c k else aft x k c l u) (stp x.gs x.ws ⟨k, c, l⟩).2.2.f
        have h3 := effF_gs (aft x k c l u) c k
        have h5 : (if (stp x.gs x.ws ⟨k, c, l⟩).2.2.d = true then effF (aft x k c l u) c k else aft x k c l u).gs = (stp x.gs x.ws ⟨k, c, l⟩).1 ∧ (if (stp x.gs x.ws ⟨k, c, l⟩).2.2.d = true then effF (aft x k c l u) c k else aft x k c l u).ws = (stp x.gs x.ws ⟨k, c, l⟩).2.1 := by
          split
          · exact ⟨h3.1, h3.2.1⟩
          · exact ⟨rfl, rfl⟩
        have h6 : ∀ (y : Ca) (j : Nat), (drpF y j).gs = y.gs ∧ (drpF y j).ws = y.ws := fun _ _ => ⟨rfl, rfl⟩
        simp only [h6]
        rw [h1.1, h1.2.1, h5.1, h5.2]
        exact stp_ok hv hh (Classical.not_not.1 he)
/-- the objects of a run of uses -/
abbrev crH (x : Ca) : List AObj := [.box [.ptr 1 0], .box (caC 2 5 x.sn.length x.v x.K x.D x.W), .box [.bld 3 x.gs.length, .bld 4 x.ws.length], .arr 0 3 (x.gs.map Gr.e), .arr 0 2 (x.ws.map Wt.e), .arr 0 1 (x.sn.map ci0)]
theorem p67_v (hG : G 0 = some alD) (x : Ca) (hv : Vd x.gs x.ws) (hh : Hd x.gs x.ws) (hn : x.sn.length ≤ 9000) (i : Int) (a : Cu) :
    EV G (Tb (bs bb)) 67 [vi i, .agg [.dc (ci a.k), .dc (ci a.c), .dc (ci a.l), .dc (ci a.u)], .one (.ptr 0 0)] (crH x) = some (vi (usF x a.k a.c a.l a.u).2, crH (usF x a.k a.c a.l a.u).1) := by
  refine EV_run rfl ?_
  have q := cuse_v (bb := bb) hG x hv hh hn a.k a.c a.l a.u
  generalize usF x a.k a.c a.l a.u = r at *
  obtain ⟨y, e⟩ := r
  simp only [Ca.h, caH, crH] at q ⊢
  simp (disch := omega) only [go_sem, Nat.reduceAdd, Nat.reduceSub, Nat.reduceMul, Nat.reduceLeDiff, Nat.reduceEqDiff, kpCs_d, idsL_d, renL_d, ctCs_d, killL_d, outJ_m, mapM1, mapM2, oneOf, Option.map_some, Option.map_none, Option.bind_some, all_gr, all_wt, List.getElem?_nil, List.length_map, h67c, evJ_5, q]
/-- a run of uses up to its end, or to the first error -/
def cuX : Ca → Nat → List Cu → Ca × Int × Int
  | x, n, [] => (x, 0, 0)
  | x, n, a :: l => if (usF x a.k a.c a.l a.u).2 = 0 then cuX (usF x a.k a.c a.l a.u).1 (n + 1) l else ((usF x a.k a.c a.l a.u).1, n, (usF x a.k a.c a.l a.u).2)
def caS (l : List Cu) (k : Nat) (x : Ca) : AS := ⟨(jk 1 (.one (.fn 67 [.ptr 0 0]) :: jk 7 (cusV l :: vi l.length :: vi k :: jk 13 []))), crH x⟩
theorem each66_key (hG : G 0 = some alD) (l : List Cu) (hl : l.length ≤ 100) : ∀ (rest : List Cu) (k : Nat) (x : Ca), l.drop k = rest → k ≤ l.length → Vd x.gs x.ws → Hd x.gs x.ws → x.sn.length ≤ 9 * k →
    retZ false [RetV.tmp 4, RetV.tmp 5] 6 (sqK (EV G (Tb (bs bb))) G ((HC.region [Oo 4 (AI.mov (Ki 0)), Oo 5 (AI.mov (Ki 0))]).seq HC.ret) (blkK 0 (EL (EV G (Tb (bs bb))) G h66l0 [1, 7, 0, 0] 6 (caS l k x)))) =
      some (twoI (cuX x k rest).2, crH (cuX x k rest).1)
  | [], k, x, hd, hk, hv, hh, ho => by
    have hkl : k = l.length := by
      have := congrArg List.length hd
      simp at this; omega
    subst hkl
    rw [EL_unf, cuX]
    unfold caS
    simp only [crH]
    simp (disch := omega) only [go_sem, Nat.reduceAdd, Nat.reduceSub, Nat.reduceMul, Nat.reduceLeDiff, Nat.reduceEqDiff, kpCs_d, idsL_d, renL_d, ctCs_d, killL_d, outJ_m, mapM1, mapM2, oneOf, Option.map_some, Option.map_none, Option.bind_some, all_gr, all_wt, List.getElem?_nil, List.length_map, h66l0]
  | a :: rest, k, x, hd, hk, hv, hh, ho => by
    have hkl : k < l.length := by
      have := congrArg List.length hd
      simp at this; omega
    have ha : l[k] = a := by
      have := List.drop_eq_getElem_cons hkl
      rw [hd] at this
      injection this with this _
      exact this.symm
    have hd' : l.drop (k + 1) = rest := by
      have := List.drop_eq_getElem_cons hkl
      rw [hd] at this
      injection this with _ this
      exact this.symm
    have eg : (l.map Cu.e)[k]? = some [ci a.k, ci a.c, ci a.l, ci a.u] := by rw [List.getElem?_map, List.getElem?_eq_getElem hkl, ha]; rfl
    have q := p67_v (bb := bb) hG x hv hh (by omega) k a
    have hl9 := usF_len x hv.wl a.k a.c a.l a.u
    obtain ⟨h1, h2⟩ := usF_ok x hv hh a.k a.c a.l a.u
    rw [cuX]
    by_cases he : (usF x a.k a.c a.l a.u).2 = 0
    · have ih := each66_key hG l hl rest (k + 1) (usF x a.k a.c a.l a.u).1 hd' (by omega) h1 h2 (by omega)
      have hr : rnK [1, 7, 0, 0] 6 (EC (EV G (Tb (bs bb))) G h66l0 (caS l k x)) = some (caS l (k + 1) (usF x a.k a.c a.l a.u).1) := by
        rw [he] at q
        generalize (usF x a.k a.c a.l a.u).1 = y at *
        unfold caS
        simp only [crH] at q ⊢
        simp (disch := omega) only [go_sem, Nat.reduceAdd, Nat.reduceSub, Nat.reduceMul, Nat.reduceLeDiff, Nat.reduceEqDiff, kpCs_d, idsL_d, renL_d, ctCs_d, killL_d, outJ_m, mapM1, mapM2, oneOf, Option.map_some, Option.map_none, Option.bind_some, all_gr, all_wt, List.getElem?_nil, List.length_map, h66l0, evJ_6, eg, q]
      rw [EL_unf, fnK_of hr, ih, if_pos he]
    · rw [EL_unf, if_neg he]
      generalize usF x a.k a.c a.l a.u = r at *
      obtain ⟨y, e⟩ := r
      unfold caS
      simp only [crH] at q he ⊢
      simp (disch := omega) only [go_sem, Nat.reduceAdd, Nat.reduceSub, Nat.reduceMul, Nat.reduceLeDiff, Nat.reduceEqDiff, kpCs_d, idsL_d, renL_d, ctCs_d, killL_d, outJ_m, mapM1, mapM2, oneOf, Option.map_some, Option.map_none, Option.bind_some, all_gr, all_wt, List.getElem?_nil, List.length_map, h66l0, evJ_6, eg, q, he]
theorem each66_v (hG : G 0 = some alD) (x : Ca) (hg : x.gs = []) (hw : x.ws = []) (hs : x.sn = []) (l : List Cu) (hl : l.length ≤ 100) : EV G (Tb (bs bb)) 66 [cusV l, .one (.fn 67 [.ptr 0 0])] (crH x) = some (twoI (cuX x 0 l).2, crH (cuX x 0 l).1) := by
  refine EV_run rfl ?_
  have q := each66_key (bb := bb) hG l hl l 0 x rfl (by omega) (by rw [hg, hw]; exact Vd.nil) (by rw [hg, hw]; exact Hd.nil) (by rw [hs]; simp)
  rw [← q]
  simp (disch := omega) only [go_sem, Nat.reduceAdd, Nat.reduceSub, Nat.reduceMul, Nat.reduceLeDiff, Nat.reduceEqDiff, kpCs_d, idsL_d, renL_d, ctCs_d, killL_d, outJ_m, mapM1, mapM2, oneOf, Option.map_some, Option.map_none, Option.bind_some, all_gr, all_wt, List.getElem?_nil, List.length_map, h66c]
  rfl
end
section
set_option maxRecDepth 4000
set_option linter.unusedSimpArgs false
set_option linter.unusedVariables false
variable {G : Glob} {bb : Bool}
def ca1 (j : Nat) : Ca := ⟨[], [], 0, fun n => if n < j then -1 else 0, fun _ => false, fun _ => 0, []⟩
/-- caches that are told -/
structure Ck where
  gs : List Gr
  ws : List Wt
  v : Int
  K : List Int
  D : List Bool
  sn : List Int
def Ca.k (x : Ca) : Ck := ⟨x.gs, x.ws, x.v, [x.K 1, x.K 2, x.K 3, x.K 4, x.K 5, x.K 6, x.K 7, x.K 8], [x.D 1, x.D 2, x.D 3, x.D 4, x.D 5, x.D 6, x.D 7, x.D 8], x.sn⟩
def bo (b : Bool) : List DC := [.raw (.bool b)]
abbrev ckC (x : Ck) : List Cel := [.dc (.slc (x.gs.map Gr.e)), .dc (.slc (x.ws.map Wt.e)), .dc (ci x.v), .dc (.slc (x.K.map ci0)), .dc (.slc (x.D.map bo)), .dc (.slc (x.sn.map ci0))]
def crF (l : List Cu) : Ck × Int × Int :=
  if l.length > 100 then (⟨[], [], 0, [], [], []⟩, 0, 8)
  else if (cuX (ca1 9) 0 l).2.2 ≠ 0 then (⟨[], [], 0, [], [], []⟩, (cuX (ca1 9) 0 l).2)
  else ((cuX (ca1 9) 0 l).1.k, l.length, 0)
abbrev crV (r : Ck × Int × Int) : AV := .tup [.agg (ckC r.1), .one (.dc (.raw (.int .i64 r.2.1))), .one (.dc (.raw (.int .i64 r.2.2)))]
theorem upd_1 (j : Nat) : upd (fun n => if n < j then (-1 : Int) else 0) j (-1) = fun n => if n < j + 1 then (-1 : Int) else 0 := by
  funext n
  unfold upd
  by_cases hn : n = j
  · subst hn; simp
  · have e : (n < j + 1) = (n < j) := propext ⟨by omega, by omega⟩
    simp [hn, e]
def i19 (l : List Cu) (x : Ca) (j : Nat) : AS := ⟨(cusV l :: jk 1 (.one (.ptr 0 0) :: jk 2 (.one (.ptr 3 0) :: jk 11 (vi j :: jk 45 [])))), [.box [.dc (.raw (.slice none 0 0)), .dc (.raw (.slice none 0 0)), .dc (ci 0), .dc (.raw (.slice none 0 0)), .dc (.raw (.slice none 0 0)), .dc (.raw (.slice none 0 0))], .box [.bld 4 x.gs.length, .bld 5 x.ws.length], .box (caC 1 6 x.sn.length x.v x.K x.D x.W), .box [.ptr 2 0], .arr 0 3 (x.gs.map Gr.e), .arr 0 2 (x.ws.map Wt.e), .arr 0 1 (x.sn.map ci0)]⟩
theorem i19_round (l : List Cu) (j : Nat) (hj : j < 9) : rnK [0, 1, 2, 11] 7 (EC (EV G (Tb (bs bb))) G h19l0 (i19 l (ca1 j) j)) = some (i19 l (ca1 (j + 1)) (j + 1)) := by
  have e : ca1 (j + 1) = { ca1 j with K := upd (ca1 j).K j (-1) } := by unfold ca1; rw [upd_1]
  rw [e]
  generalize ca1 j = x
  obtain ⟨gs, ws, v, K, D, W, sn⟩ := x
  unfold i19
  simp only
  simp (disch := omega) only [go_sem, Nat.reduceAdd, Nat.reduceSub, Nat.reduceMul, Nat.reduceLeDiff, Nat.reduceEqDiff, kpCs_d, idsL_d, renL_d, ctCs_d, killL_d, outJ_m, mapM1, mapM2, oneOf, Option.map_some, Option.map_none, Option.bind_some, all_gr, all_wt, List.getElem?_nil, List.length_map, h19l0, tn1, fvT_c]
set_option maxHeartbeats 4000000 in
theorem cacheRun_v (hG : G 0 = some alD) (l : List Cu) (hl : l.length ≤ 1000000) : EV G (Tb (bs bb)) 19 [cusV l] [] = some (crV (crF l), []) := by
  refine EV_run rfl ?_
  unfold crF
  by_cases h : l.length > 100
  · rw [if_pos h]
    simp (disch := omega) only [go_sem, Nat.reduceAdd, Nat.reduceSub, Nat.reduceMul, Nat.reduceLeDiff, Nat.reduceEqDiff, kpCs_d, idsL_d, renL_d, ctCs_d, killL_d, outJ_m, mapM1, mapM2, oneOf, Option.map_some, Option.map_none, Option.bind_some, all_gr, all_wt, List.getElem?_nil, List.length_map, h19c, h]
    try rfl
  · rw [if_neg h]
    have q := each66_v (bb := bb) hG (ca1 9) rfl rfl rfl l (by omega)
    simp (disch := omega) only [go_sem, Nat.reduceAdd, Nat.reduceSub, Nat.reduceMul, Nat.reduceLeDiff, Nat.reduceEqDiff, kpCs_d, idsL_d, renL_d, ctCs_d, killL_d, outJ_m, mapM1, mapM2, oneOf, Option.map_some, Option.map_none, Option.bind_some, all_gr, all_wt, List.getElem?_nil, List.length_map, h19c, h]
    rw [EL_loop (fun j => i19 l (ca1 j) j) 9 ?_ (fun j hj => i19_round l j hj)]
    rotate_left
    · rfl
    unfold i19
    generalize ca1 9 = x at *
    generalize cuX x 0 l = r at *
    obtain ⟨y, n, e⟩ := r
    simp only [crH] at q
    by_cases he : e = 0
    · subst he
      rw [if_neg (by simp)]
      simp (maxSteps := 1000000) (disch := omega) only [go_sem, Nat.reduceAdd, Nat.reduceSub, Nat.reduceMul, Nat.reduceLeDiff, Nat.reduceEqDiff, kpCs_d, idsL_d, renL_d, ctCs_d, killL_d, outJ_m, mapM1, mapM2, oneOf, Option.map_some, Option.map_none, Option.bind_some, all_gr, all_wt, List.getElem?_nil, List.length_map, h19l0, q, evJ_6, List.take_length]
      try rfl
    · rw [if_pos (by simpa using he)]
      simp (disch := omega) only [go_sem, Nat.reduceAdd, Nat.reduceSub, Nat.reduceMul, Nat.reduceLeDiff, Nat.reduceEqDiff, kpCs_d, idsL_d, renL_d, ctCs_d, killL_d, outJ_m, mapM1, mapM2, oneOf, Option.map_some, Option.map_none, Option.bind_some, all_gr, all_wt, List.getElem?_nil, List.length_map, h19l0, q, evJ_6, he]
      try rfl
end
section
set_option maxRecDepth 4000
set_option linter.unusedSimpArgs false
set_option linter.unusedVariables false
def u8 (n : Int) : UInt8 := UInt8.ofNat n.toNat
def str (l : List Int) : ByteArray := ⟨(l.map u8).toArray⟩
abbrev sv (l : List Int) : AV := .one (.dc (.raw (.string (str l))))
theorem str_nil : (⟨#[]⟩ : ByteArray) = str [] := rfl
theorem str_size (l : List Int) : (str l).size = l.length := by simp [str, ByteArray.size]
theorem str_app (a b : List Int) : str a ++ str b = str (a ++ b) := by
  apply ByteArray.ext
  simp [str, ByteArray.data_append]
theorem sadd_s {a b : List Int} (h : a.length + b.length ≤ 9223372036854775807) : binV .add (sv a) (sv b) = some (sv (a ++ b)) := by
  rw [bin_sadd (by rw [str_size, str_size]; exact h), str_app]
theorem str_data (l : List Int) : (str l).data.toList = l.map u8 := by simp [str]
/-- strings with a separator between them -/
def jnI (s : List Int) : List (List Int) → List Int
  | [] => []
  | [a] => a
  | a :: b :: l => a ++ s ++ jnI s (b :: l)
theorem jnI_join (s : List Int) : ∀ l : List (List Int), Lib.join (l.map (·.map u8)) (s.map u8) = (jnI s l).map u8
  | [] => rfl
  | [a] => by rw [List.map_cons, List.map_nil, Lib.join_one]; rfl
  | a :: b :: l => by
    have ih := jnI_join s (b :: l)
    rw [jnI, List.map_append, List.map_append, ← ih]
    simp [Lib.join, List.intercalate]
theorem joinS_s (s : List Int) (l : List (List Int)) : joinS (l.map str) (str s) = str (jnI s l) := by
  apply ByteArray.ext
  apply Array.ext'
  simp only [joinS, str_data, List.map_map, Function.comp_def]
  rw [jnI_join]
def sS (l : List Int) : List DC := [.raw (.string (str l))]
theorem allLen_s : ∀ l : List (List Int), allLen 1 (l.map sS) = true
  | [] => rfl
  | g :: gs => by rw [List.map_cons, allLen, allLen_s gs]; rfl
end
section
set_option maxRecDepth 4000
set_option linter.unusedSimpArgs false
set_option linter.unusedVariables false
variable {G : Glob} {bb : Bool}
/-- what a kind of act is called -/
def ltr (k : Int) : List Int := if k = 0 then [111] else if k = 2 then [114] else if k = 3 then [119] else [63]
theorem c58 : (⟨#[58]⟩ : ByteArray) = str [58] := rfl
theorem c62 : (⟨#[62]⟩ : ByteArray) = str [62] := rfl
theorem c44 : (⟨#[44]⟩ : ByteArray) = str [44] := rfl
theorem c59 : (⟨#[59]⟩ : ByteArray) = str [59] := rfl
theorem c111 : (⟨#[111]⟩ : ByteArray) = str [111] := rfl
theorem c114 : (⟨#[114]⟩ : ByteArray) = str [114] := rfl
theorem c119 : (⟨#[119]⟩ : ByteArray) = str [119] := rfl
theorem c63 : (⟨#[63]⟩ : ByteArray) = str [63] := rfl
theorem letter_v (k : Int) : EV G (Tb (bs bb)) 80 [vi k] [] = some (sv (ltr k), []) := by
  refine EV_run rfl ?_
  unfold ltr
  by_cases h0 : k = 0
  · simp (disch := omega) only [go_sem, Nat.reduceAdd, Nat.reduceSub, Nat.reduceMul, Nat.reduceLeDiff, Nat.reduceEqDiff, kpCs_d, idsL_d, renL_d, ctCs_d, killL_d, outJ_m, mapM1, mapM2, oneOf, Option.map_some, Option.map_none, Option.bind_some, all_gr, all_wt, List.getElem?_nil, List.length_map, h80c, eq_true h0, c111]
  · by_cases h2 : k = 2
    · simp (disch := omega) only [go_sem, Nat.reduceAdd, Nat.reduceSub, Nat.reduceMul, Nat.reduceLeDiff, Nat.reduceEqDiff, kpCs_d, idsL_d, renL_d, ctCs_d, killL_d, outJ_m, mapM1, mapM2, oneOf, Option.map_some, Option.map_none, Option.bind_some, all_gr, all_wt, List.getElem?_nil, List.length_map, h80c, h0, eq_true h2, c114]
    · by_cases h3 : k = 3
      · simp (disch := omega) only [go_sem, Nat.reduceAdd, Nat.reduceSub, Nat.reduceMul, Nat.reduceLeDiff, Nat.reduceEqDiff, kpCs_d, idsL_d, renL_d, ctCs_d, killL_d, outJ_m, mapM1, mapM2, oneOf, Option.map_some, Option.map_none, Option.bind_some, all_gr, all_wt, List.getElem?_nil, List.length_map, h80c, h0, h2, eq_true h3, c119]
      · simp (disch := omega) only [go_sem, Nat.reduceAdd, Nat.reduceSub, Nat.reduceMul, Nat.reduceLeDiff, Nat.reduceEqDiff, kpCs_d, idsL_d, renL_d, ctCs_d, killL_d, outJ_m, mapM1, mapM2, oneOf, Option.map_some, Option.map_none, Option.bind_some, all_gr, all_wt, List.getElem?_nil, List.length_map, h80c, h0, h2, h3, c63]
section
variable (D : Int → List Int)
def txG (g : Gr) : List Int := D g.c ++ [58] ++ D g.l ++ [62] ++ D g.t
def txW (w : Wt) : List Int := D w.c ++ ltr w.k
def txF (gs : List Gr) (ws : List Wt) : List Int := jnI [44] (gs.map (txG D)) ++ [59] ++ jnI [44] (ws.map (txW D))
abbrev foH (gs : List Gr) (ws : List Wt) (a b : List (List Int)) : List AObj := [.box [.dc (.slc (gs.map Gr.e)), .dc (.slc (ws.map Wt.e))], .arr 0 1 (a.map sS), .arr 0 1 (b.map sS)]
def fo0 (gs : List Gr) (ws : List Wt) (k : Nat) : AS := ⟨(jk 1 (.one (.ptr 0 0) :: jk 1 (.one (.bld 1 k) :: .one (.bld 2 0) :: jk 5 (vl (gs.map Gr.e) :: vi gs.length :: vi k :: jk 44 [])))), foH gs ws ((gs.take k).map (txG D)) []⟩
theorem fo0_round (hD : ∀ n, (D n).length ≤ 20) (gs : List Gr) (ws : List Wt) (hl : gs.length ≤ 1000000) (k : Nat) (hk : k < gs.length) (g : Gr) (hg : gs[k] = g) (h1 : EV G (Tb (bs bb)) 79 [vi g.c] [] = some (sv (D g.c), [])) (h2 : EV G (Tb (bs bb)) 79 [vi g.l] [] = some (sv (D g.l), [])) (h3 : EV G (Tb (bs bb)) 79 [vi g.t] [] = some (sv (D g.t), [])) :
    rnK [1, 1, 0, 5, 0, 0] 3 (EC (EV G (Tb (bs bb))) G h34l0 (fo0 D gs ws k)) = some (fo0 D gs ws (k + 1)) := by
  have eg : (gs.map Gr.e)[k]? = some [ci g.c, ci g.l, ci g.t] := by rw [List.getElem?_map, List.getElem?_eq_getElem hk, hg]; rfl
  have a1 := hD g.c
  have a2 := hD g.l
  have a3 := hD g.t
  have s1 : binV .add (sv (D g.c)) (sv [58]) = some (sv (D g.c ++ [58])) := sadd_s (by simp; omega)
  have s2 : binV .add (sv (D g.c ++ [58])) (sv (D g.l)) = some (sv (D g.c ++ [58] ++ D g.l)) := sadd_s (by simp; omega)
  have s3 : binV .add (sv (D g.c ++ [58] ++ D g.l)) (sv [62]) = some (sv (D g.c ++ [58] ++ D g.l ++ [62])) := sadd_s (by simp; omega)
  have s4 : binV .add (sv (D g.c ++ [58] ++ D g.l ++ [62])) (sv (D g.t)) = some (sv (txG D g)) := sadd_s (by simp; omega)
  have al := allLen_s ((gs.take k).map (txG D))
  have et : (gs.take (k + 1)).map (txG D) = (gs.take k).map (txG D) ++ [txG D g] := by rw [List.take_add_one, List.getElem?_eq_getElem hk, hg]; simp
  have ln : ((gs.take k).map (txG D)).length = k := by simp; omega
  have lm : (((gs.take k).map (txG D)).map sS).length = k := by simp; omega
  unfold fo0
  rw [et]
  generalize (gs.take k).map (txG D) = X at *
  subst ln
  generalize txG D g = y at *
  simp only [foH, List.map_append, List.map_cons, List.map_nil, sS]
  simp (disch := omega) only [go_sem, Nat.reduceAdd, Nat.reduceSub, Nat.reduceMul, Nat.reduceLeDiff, Nat.reduceEqDiff, kpCs_d, idsL_d, renL_d, ctCs_d, killL_d, outJ_m, mapM1, mapM2, oneOf, Option.map_some, Option.map_none, Option.bind_some, all_gr, all_wt, List.getElem?_nil, List.length_map, h34l0, eg, h1, h2, h3, c58, c62, s1, s2, s3, s4, al, List.take_length]
def fo1 (gs : List Gr) (ws : List Wt) (k : Nat) : AS := ⟨(jk 3 (.one (.bld 1 gs.length) :: .one (.bld 2 k) :: jk 29 (vl (ws.map Wt.e) :: vi ws.length :: vi k :: jk 20 []))), foH gs ws (gs.map (txG D)) ((ws.take k).map (txW D))⟩
theorem ltr_len (k : Int) : (ltr k).length = 1 := by
  unfold ltr
  repeat' split
  all_goals rfl
theorem fo1_round (hD : ∀ n, (D n).length ≤ 20) (gs : List Gr) (ws : List Wt) (hl : ws.length ≤ 1000000) (k : Nat) (hk : k < ws.length) (g : Wt) (hg : ws[k] = g) (h1 : EV G (Tb (bs bb)) 79 [vi g.c] [] = some (sv (D g.c), [])) :
    rnK [3, 0, 29, 0, 0] 3 (EC (EV G (Tb (bs bb))) G h34l1 (fo1 D gs ws k)) = some (fo1 D gs ws (k + 1)) := by
  have eg : (ws.map Wt.e)[k]? = some [ci g.c, ci g.k] := by rw [List.getElem?_map, List.getElem?_eq_getElem hk, hg]; rfl
  have a1 := hD g.c
  have a2 := ltr_len g.k
  have h2 := letter_v (G := G) (bb := bb) g.k
  have s1 : binV .add (sv (D g.c)) (sv (ltr g.k)) = some (sv (txW D g)) := sadd_s (by omega)
  have al := allLen_s ((ws.take k).map (txW D))
  have et : (ws.take (k + 1)).map (txW D) = (ws.take k).map (txW D) ++ [txW D g] := by rw [List.take_add_one, List.getElem?_eq_getElem hk, hg]; simp
  have ln : ((ws.take k).map (txW D)).length = k := by simp; omega
  have lm : (((ws.take k).map (txW D)).map sS).length = k := by simp; omega
  unfold fo1
  rw [et]
  generalize (ws.take k).map (txW D) = X at *
  subst ln
  generalize txW D g = y at *
  simp only [foH, List.map_append, List.map_cons, List.map_nil, sS]
  simp (disch := omega) only [go_sem, Nat.reduceAdd, Nat.reduceSub, Nat.reduceMul, Nat.reduceLeDiff, Nat.reduceEqDiff, kpCs_d, idsL_d, renL_d, ctCs_d, killL_d, outJ_m, mapM1, mapM2, oneOf, Option.map_some, Option.map_none, Option.bind_some, all_gr, all_wt, List.getElem?_nil, List.length_map, h34l1, eg, h1, h2, s1, al, List.take_length]
theorem jnI_len (s : List Int) (m : Nat) (hs : s.length ≤ 1) : ∀ l : List (List Int), (∀ a ∈ l, a.length ≤ m) → (jnI s l).length ≤ l.length * (m + 1)
  | [], h => by simp [jnI]
  | [a], h => by
    have := h a (by simp)
    rw [jnI]; simp; omega
  | a :: b :: l, h => by
    have h1 := h a (by simp)
    have ih := jnI_len s m hs (b :: l) (fun x hx => h x (by simp at hx ⊢; right; exact hx))
    rw [jnI]
    simp only [List.length_append, List.length_cons] at ih ⊢
    rw [Nat.add_mul (l.length + 1) 1 (m + 1)]
    omega
theorem joinV (l : List (List Int)) (h1 : l.length ≤ 1000) (h2 : (jnI [44] l).length ≤ 1000000) : EV G (Tb (bs bb)) 81 [vl (l.map sS), sv [44]] [] = some (sv (jnI [44] l), []) := by
  refine EV_base rfl ?_
  have e1 : strsO (l.map sS) = some (l.map str) := by
    rw [← strsO_of (l.map str), List.map_map]; rfl
  have e2 : Lib.join ((l.map str).map (·.data.toList)) (str [44]).data.toList = (jnI [44] l).map u8 := by
    rw [← jnI_join]
    simp only [List.map_map, Function.comp_def, str_data]
  rw [show (Tb (bs bb)).base = bs bb from rfl]
  show joinO (str [44]) (strsO (l.map sS)) = _
  rw [e1]
  unfold joinO
  simp only
  rw [if_pos ⟨by simpa using h1, by rw [e2]; simpa using h2⟩, joinS_s]
theorem format_v (hD : ∀ n, (D n).length ≤ 20) (gs : List Gr) (ws : List Wt) (hl : gs.length ≤ 1000) (hw : ws.length ≤ 1000)
    (h1 : ∀ g ∈ gs, EV G (Tb (bs bb)) 79 [vi g.c] [] = some (sv (D g.c), []) ∧ EV G (Tb (bs bb)) 79 [vi g.l] [] = some (sv (D g.l), []) ∧ EV G (Tb (bs bb)) 79 [vi g.t] [] = some (sv (D g.t), []))
    (h2 : ∀ w ∈ ws, EV G (Tb (bs bb)) 79 [vi w.c] [] = some (sv (D w.c), [])) :
    EV G (Tb (bs bb)) 34 [.agg [.dc (.slc (gs.map Gr.e)), .dc (.slc (ws.map Wt.e))]] [] = some (sv (txF D gs ws), []) := by
  refine EV_run rfl ?_
  have b1 : (jnI [44] (gs.map (txG D))).length ≤ 1000 * 63 := by
    have := jnI_len [44] 62 (by simp) (gs.map (txG D)) (fun a ha => by
      obtain ⟨g, _, rfl⟩ := List.mem_map.1 ha
      have := hD g.c
      have := hD g.l
      have := hD g.t
      simp [txG]; omega)
    rw [List.length_map] at this
    omega
  have b2 : (jnI [44] (ws.map (txW D))).length ≤ 1000 * 63 := by
    have := jnI_len [44] 62 (by simp) (ws.map (txW D)) (fun a ha => by
      obtain ⟨g, _, rfl⟩ := List.mem_map.1 ha
      have := hD g.c
      have := ltr_len g.k
      simp [txW]; omega)
    rw [List.length_map] at this
    omega
  have j1 := joinV (G := G) (bb := bb) (gs.map (txG D)) (by simpa using hl) (by omega)
  have j2 := joinV (G := G) (bb := bb) (ws.map (txW D)) (by simpa using hw) (by omega)
  have s1 : binV .add (sv (jnI [44] (gs.map (txG D)))) (sv [59]) = some (sv (jnI [44] (gs.map (txG D)) ++ [59])) := sadd_s (by simp; omega)
  have s2 : binV .add (sv (jnI [44] (gs.map (txG D)) ++ [59])) (sv (jnI [44] (ws.map (txW D)))) = some (sv (txF D gs ws)) := sadd_s (by simp; omega)
  simp (disch := omega) only [go_sem, Nat.reduceAdd, Nat.reduceSub, Nat.reduceMul, Nat.reduceLeDiff, Nat.reduceEqDiff, kpCs_d, idsL_d, renL_d, ctCs_d, killL_d, outJ_m, mapM1, mapM2, oneOf, Option.map_some, Option.map_none, Option.bind_some, all_gr, all_wt, List.getElem?_nil, List.length_map, h34c, str_nil]
  rw [EL_loop (fun k => fo0 D gs ws k) gs.length ?_ (fun k hk => fo0_round D hD gs ws (by omega) k hk gs[k] rfl (h1 _ (List.getElem_mem hk)).1 (h1 _ (List.getElem_mem hk)).2.1 (h1 _ (List.getElem_mem hk)).2.2)]
  rotate_left
  · rfl
  unfold fo0
  rw [List.take_length]
  simp (disch := omega) only [go_sem, Nat.reduceAdd, Nat.reduceSub, Nat.reduceMul, Nat.reduceLeDiff, Nat.reduceEqDiff, kpCs_d, idsL_d, renL_d, ctCs_d, killL_d, outJ_m, mapM1, mapM2, oneOf, Option.map_some, Option.map_none, Option.bind_some, all_gr, all_wt, List.getElem?_nil, List.length_map, h34l0]
  rw [EL_loop (fun k => fo1 D gs ws k) ws.length ?_ (fun k hk => fo1_round D hD gs ws (by omega) k hk ws[k] rfl (h2 _ (List.getElem_mem hk)))]
  rotate_left
  · rfl
  unfold fo1
  rw [List.take_length]
  have lX : (gs.map (txG D)).length = gs.length := List.length_map ..
  have lY : (ws.map (txW D)).length = ws.length := List.length_map ..
  generalize gs.map (txG D) = X at *
  generalize ws.map (txW D) = Y at *
  generalize gs.length = n at *
  generalize ws.length = m at *
  subst lX
  subst lY
  have mX : (X.map sS).take X.length = X.map sS := List.take_of_length_le (by simp)
  have mY : (Y.map sS).take Y.length = Y.map sS := List.take_of_length_le (by simp)
  simp (disch := omega) only [go_sem, Nat.reduceAdd, Nat.reduceSub, Nat.reduceMul, Nat.reduceLeDiff, Nat.reduceEqDiff, kpCs_d, idsL_d, renL_d, ctCs_d, killL_d, outJ_m, mapM1, mapM2, oneOf, Option.map_some, Option.map_none, Option.bind_some, all_gr, all_wt, List.getElem?_nil, List.length_map, h34l1, c44, c59, List.length_map, j1, j2, s1, s2, mX, mY]
end
end
section
set_option maxRecDepth 4000
set_option linter.unusedSimpArgs false
set_option linter.unusedVariables false
variable {G : Glob} {bb : Bool}
theorem rnX_M : ∀ (l : List Ac) (gs : List Gr) (ws : List Wt) (out : List An) (n : Nat), (∀ a ∈ l, True) → runM gs ws out n l = if (rnX gs ws out n l).2.2 = 0 then ((rnX gs ws out n l).1, ((n + l.length : Nat) : Int), 0) else (([], [], []), (rnX gs ws out n l).2)
  | [], gs, ws, out, n, _ => by rw [rnX, runM, if_pos rfl]; rfl
  | a :: l, gs, ws, out, n, _ => by
    rw [rnX, runM]
    by_cases he : acErr gs ws a = 0
    · rw [if_pos he, if_pos he, rnX_M l _ _ _ _ (fun _ _ => trivial), List.length_cons, show n + 1 + l.length = n + (l.length + 1) by omega]
    · rw [if_neg he, if_neg he, if_neg (by simpa using he)]
abbrev runV (r : (List Gr × List Wt × List An) × Int × Int) : AV := .tup [.agg [.dc (.slc (r.1.1.map Gr.e)), .dc (.slc (r.1.2.1.map Wt.e))], .one (.dc (.slc (r.1.2.2.map An.e))), .one (.dc (.raw (.int .i64 r.2.1))), .one (.dc (.raw (.int .i64 r.2.2)))]
set_option maxHeartbeats 1000000 in
theorem runOf_v (hG : G 0 = some alD) (l : List Ac) (hl : l.length ≤ 1000000) : EV G (Tb (bs bb)) 15 [acsV l] [] = some (runV (runF l), []) := by
  refine EV_run rfl ?_
  unfold runF
  by_cases h : l.length > 100
  · rw [if_pos h]
    simp (disch := omega) only [go_sem, Nat.reduceAdd, Nat.reduceSub, Nat.reduceMul, Nat.reduceLeDiff, Nat.reduceEqDiff, kpCs_d, idsL_d, renL_d, ctCs_d, killL_d, outJ_m, mapM1, mapM2, oneOf, Option.map_some, Option.map_none, Option.bind_some, all_gr, all_wt, List.getElem?_nil, List.length_map, h15c, h]
    try rfl
  · rw [if_neg h, rnX_M l [] [] [] 0 (fun _ _ => trivial)]
    have q := each61_v (bb := bb) hG l (by omega)
    generalize rnX [] [] [] 0 l = r at *
    obtain ⟨⟨gs, ws, out⟩, n, e⟩ := r
    simp only [runH, List.length_nil, List.map_nil] at q
    by_cases he : e = 0
    · subst he
      rw [if_pos rfl]
      simp (disch := omega) only [go_sem, Nat.reduceAdd, Nat.reduceSub, Nat.reduceMul, Nat.reduceLeDiff, Nat.reduceEqDiff, kpCs_d, idsL_d, renL_d, ctCs_d, killL_d, outJ_m, mapM1, mapM2, oneOf, Option.map_some, Option.map_none, Option.bind_some, all_gr, all_wt, List.getElem?_nil, List.length_map, h15c, h, evJ_6, q, List.take_length]
      rw [fvT_b (by rfl) (by simp)]
      simp (disch := omega) only [go_sem, Nat.reduceAdd, Nat.reduceSub, Nat.reduceMul, Nat.reduceLeDiff, Nat.reduceEqDiff, kpCs_d, idsL_d, renL_d, ctCs_d, killL_d, outJ_m, mapM1, mapM2, oneOf, Option.map_some, Option.map_none, Option.bind_some, all_gr, all_wt, List.getElem?_nil, List.length_map, List.take_length]
    · rw [if_neg (by simpa using he)]
      simp (disch := omega) only [go_sem, Nat.reduceAdd, Nat.reduceSub, Nat.reduceMul, Nat.reduceLeDiff, Nat.reduceEqDiff, kpCs_d, idsL_d, renL_d, ctCs_d, killL_d, outJ_m, mapM1, mapM2, oneOf, Option.map_some, Option.map_none, Option.bind_some, all_gr, all_wt, List.getElem?_nil, List.length_map, h15c, h, evJ_6, q, he]
      rfl
end
section
set_option maxRecDepth 4000
set_option linter.unusedSimpArgs false
set_option linter.unusedVariables false
variable {G : Glob} {bb : Bool}
def inS (a b : List Int) (k : Nat) : AS := ⟨(vl (a.map ci0) :: vl (b.map ci0) :: jk 3 (vi k :: jk 20 [])), []⟩
theorem ints_key (a b : List Int) (hl : a.length = b.length) (hb : a.length ≤ 1000000000) : ∀ (n k : Nat), a.length - k = n → k ≤ a.length →
    retZ false [RetV.tmp 4] 0 (sqK (EV G (Tb (bs bb))) G ((HC.region [Oo 4 (AI.mov (AArg.k (.bool true)))]).seq HC.ret) (blkK 0 (EL (EV G (Tb (bs bb))) G h31l0 [0, 0, 3] 0 (inS a b k)))) = some (vb (decide (a.drop k = b.drop k)), [])
  | 0, k, hn, hk => by
    have hkl : k = a.length := by omega
    subst hkl
    rw [EL_unf, List.drop_length, hl, List.drop_length]
    unfold inS
    simp (disch := omega) only [go_sem, Nat.reduceAdd, Nat.reduceSub, Nat.reduceMul, Nat.reduceLeDiff, Nat.reduceEqDiff, kpCs_d, idsL_d, renL_d, ctCs_d, killL_d, outJ_m, mapM1, mapM2, oneOf, Option.map_some, Option.map_none, Option.bind_some, all_gr, all_wt, List.getElem?_nil, List.length_map, h31l0, hl]
    try rfl
  | n + 1, k, hn, hk => by
    have hkl : k < a.length := by omega
    have hkb : k < b.length := by omega
    have ea : (a.map ci0)[k]? = some [ci a[k]] := by rw [List.getElem?_map, List.getElem?_eq_getElem hkl]; rfl
    have eb : (b.map ci0)[k]? = some [ci b[k]] := by rw [List.getElem?_map, List.getElem?_eq_getElem hkb]; rfl
    rw [List.drop_eq_getElem_cons hkl, List.drop_eq_getElem_cons hkb]
    by_cases h : a[k] = b[k]
    · have hr : rnK [0, 0, 3] 0 (EC (EV G (Tb (bs bb))) G h31l0 (inS a b k)) = some (inS a b (k + 1)) := by
        unfold inS
        rw [h] at ea
        generalize b[k] = x at *
        simp (disch := omega) only [go_sem, Nat.reduceAdd, Nat.reduceSub, Nat.reduceMul, Nat.reduceLeDiff, Nat.reduceEqDiff, kpCs_d, idsL_d, renL_d, ctCs_d, killL_d, outJ_m, mapM1, mapM2, oneOf, Option.map_some, Option.map_none, Option.bind_some, all_gr, all_wt, List.getElem?_nil, List.length_map, h31l0, ea, eb]
      have e : (a[k] :: a.drop (k + 1) = b[k] :: b.drop (k + 1)) = (a.drop (k + 1) = b.drop (k + 1)) := by rw [List.cons.injEq, eq_true h, true_and]
      rw [EL_unf, fnK_of hr, ints_key a b hl hb n (k + 1) (by omega) (by omega)]
      simp only [e]
    · have e : (a[k] :: a.drop (k + 1) = b[k] :: b.drop (k + 1)) = False := by rw [List.cons.injEq, eq_false h, false_and]
      rw [EL_unf]
      simp only [e, decide_false]
      generalize a[k] = x at *
      generalize b[k] = y at *
      unfold inS
      simp (disch := omega) only [go_sem, Nat.reduceAdd, Nat.reduceSub, Nat.reduceMul, Nat.reduceLeDiff, Nat.reduceEqDiff, kpCs_d, idsL_d, renL_d, ctCs_d, killL_d, outJ_m, mapM1, mapM2, oneOf, Option.map_some, Option.map_none, Option.bind_some, all_gr, all_wt, List.getElem?_nil, List.length_map, h31l0, ea, eb, h]
      try rfl
theorem ints_v (a b : List Int) (ha : a.length ≤ 1000000000) : EV G (Tb (bs bb)) 31 [vl (a.map ci0), vl (b.map ci0)] [] = some (vb (decide (a = b)), []) := by
  refine EV_run rfl ?_
  by_cases hl : a.length = b.length
  · have q := ints_key (G := G) (bb := bb) a b hl ha a.length 0 rfl (by omega)
    simp only [List.drop_zero] at q
    rw [← q]
    have hl2 : (b.length : Int) = a.length := by omega
    simp (disch := omega) only [go_sem, Nat.reduceAdd, Nat.reduceSub, Nat.reduceMul, Nat.reduceLeDiff, Nat.reduceEqDiff, kpCs_d, idsL_d, renL_d, ctCs_d, killL_d, outJ_m, mapM1, mapM2, oneOf, Option.map_some, Option.map_none, Option.bind_some, all_gr, all_wt, List.getElem?_nil, List.length_map, h31c, eq_true hl, hl2]
    try rfl
  · have e : (a = b) = False := by simp; intro h; exact hl (by rw [h])
    have hl2 : ¬ (a.length : Int) = b.length := by omega
    simp only [e, decide_false]
    simp (disch := omega) only [go_sem, Nat.reduceAdd, Nat.reduceSub, Nat.reduceMul, Nat.reduceLeDiff, Nat.reduceEqDiff, kpCs_d, idsL_d, renL_d, ctCs_d, killL_d, outJ_m, mapM1, mapM2, oneOf, Option.map_some, Option.map_none, Option.bind_some, all_gr, all_wt, List.getElem?_nil, List.length_map, h31c, hl, hl2]
    try rfl
end
end Go.Proofs.YtinageiefahjfaaGreatDoor
