/- The error of a file. Conditions: none. -/
import Derived.Test.YtinageiefahjfaaDoorUm
import Derived.Test.YtinageiefahjfaaDoorUe
namespace Go.Proofs.YtinageiefahjfaaDoor
set_option linter.unusedSimpArgs false
set_option linter.unusedVariables false
set_option maxRecDepth 4000
section
variable {G : Glob} {bb : Bool}
def An.e (a : An) : List DC := [.raw (.bool a.d), .slc (a.b.map Br.e), .slc (a.f.map Wt.e)]
abbrev An.v (a : An) : AV := .agg [.dc (.raw (.bool a.d)), .dc (.slc (a.b.map Br.e)), .dc (.slc (a.f.map Wt.e))]
theorem req_map (gs : List Gr) (c l : Int) : (reqG gs c l).map Gr.e = (gs.map Gr.e).set (pos gs c) [ci (grE gs c).c, ci l, ci l] := by
  unfold reqG; rw [List.map_set]; rfl
theorem ack_map (gs : List Gr) (c : Int) : (ackG gs c).map Gr.e = (gs.map Gr.e).set (pos gs c) [ci (grE gs c).c, ci (grE gs c).t, ci (grE gs c).t] := by
  unfold ackG; rw [List.map_set]; rfl
theorem req_len (gs : List Gr) (c l : Int) : (reqG gs c l).length = gs.length := by simp [reqG]
theorem ack_len (gs : List Gr) (c : Int) : (ackG gs c).length = gs.length := by simp [ackG]
theorem Srt_set {gs : List Gr} (hs : Srt gs) {c : Int} (hi : isIn gs c = true) (g' : Gr) (hg : g'.c = c) : Srt (gs.set (pos gs c) g') := by
  obtain ⟨f, h1, h2, _, _⟩ := set_map hs hi g' hg
  rw [h1]
  exact Srt_map h2 hs
theorem Srt_del {gs : List Gr} (hs : Srt gs) {c : Int} (hi : isIn gs c = true) : Srt (delG gs c) := by
  rw [delG_eq hs hi]
  exact List.Pairwise.sublist List.filter_sublist hs
theorem del_len {gs : List Gr} (hs : Srt gs) {c : Int} (hi : isIn gs c = true) : (delG gs c).length = gs.length - 1 := by
  obtain ⟨hp, he⟩ := (isIn_iff hs c).1 hi
  simp [delG]; omega
theorem thA_1 (p : List Gr × List Wt × List Br × List Wt) : (thA p).1 = p.1 := rfl
theorem thA_2 (p : List Gr × List Wt × List Br × List Wt) : (thA p).2.1 = p.2.1 := rfl
theorem useF_f (gs : List Gr) (ws : List Wt) (c k : Int) : (useF gs ws c k).2.2.f = [] := by
  unfold useF
  split
  · split <;> rfl
  · rfl
set_option maxHeartbeats 2000000 in
theorem step_v (hG : G 0 = some alD) (gs : List Gr) (ws : List Wt) (a : Ac) (hs : Srt gs) (hk : ∀ w ∈ ws, kOK w.k) (ha : 0 ≤ a.k ∧ a.k ≤ 5) (hi : a.k ≠ 0 → isIn gs a.c = true) (hl : gs.length + ws.length ≤ 900) :
    EV G (Tb (bs bb)) 23 [.one (.ptr 0 0), a.v] (fileH gs ws) = some (An.v (stp gs ws a).2.2, fileH (stp gs ws a).1 (stp gs ws a).2.1) := by
  refine EV_run rfl ?_
  have q := place_v (G := G) (bb := bb) ws hs (by omega) a.c
  unfold stp
  by_cases k1 : a.k = 1
  · rw [if_pos k1]
    have h := hi (by omega)
    obtain ⟨hp, he⟩ := (isIn_iff hs a.c).1 h
    have eg : (gs.map Gr.e)[pos gs a.c]? = some [ci (grE gs a.c).c, ci (grE gs a.c).l, ci (grE gs a.c).t] := by rw [List.getElem?_map, List.getElem?_eq_getElem hp, grE, grAt gs _ hp]; rfl
    have hp' : pos gs a.c < (gs.map Gr.e).length := by simpa using hp
    have e1 := fun x => set_get (x := x) hp'
    simp only [fileH, req_map, req_len]
    simp (disch := omega) only [go_sem, h23c, q, eq_true k1, eg, e1, List.set_set, List.length_set]
    rfl
  rw [if_neg k1]
  by_cases k4 : a.k = 4
  · rw [if_pos k4]
    have h := hi (by omega)
    obtain ⟨hp, he⟩ := (isIn_iff hs a.c).1 h
    have eg : (gs.map Gr.e)[pos gs a.c]? = some [ci (grE gs a.c).c, ci (grE gs a.c).l, ci (grE gs a.c).t] := by rw [List.getElem?_map, List.getElem?_eq_getElem hp, grE, grAt gs _ hp]; rfl
    have hp' : pos gs a.c < (gs.map Gr.e).length := by simpa using hp
    have e1 := fun x => set_get (x := x) hp'
    have q1 := thr_v (bb := bb) hG (ackG gs a.c) ws (Srt_set hs h _ (grE_mem hs h).2) hk (by rw [ack_len]; omega)
    simp only [fileH, ack_map, ack_len] at q1
    rw [thA_1, thA_2]
    simp only [fileH, thA]
    simp (disch := omega) only [go_sem, h23c, q, k1, eq_true k4, eg, e1, List.set_set, List.length_set, q1]
  rw [if_neg k4]
  by_cases k5 : a.k = 5
  · rw [if_pos k5]
    have h := hi (by omega)
    obtain ⟨hp, he⟩ := (isIn_iff hs a.c).1 h
    have q2 := delG_v (G := G) (bb := bb) gs (pos gs a.c) hp (by omega)
    have q1 := thr_v (bb := bb) hG (delG gs a.c) ws (Srt_del hs h) hk (by rw [del_len hs h]; omega)
    rw [show gs.take (pos gs a.c) ++ gs.drop (pos gs a.c + 1) = delG gs a.c from rfl] at q2
    simp only [fileH, del_len hs h] at q1
    rw [thA_1, thA_2]
    simp only [fileH, thA]
    simp (disch := omega) only [go_sem, h23c, q, k1, k4, eq_true k5, q1, q2]
  rw [if_neg k5]
  have q1 := use_v (bb := bb) hG gs ws hs a.c a.k (by unfold kOK; omega) (by omega) (by omega)
  simp only [fileH] at q1
  simp only [fileH, useF_f]
  simp (disch := omega) only [go_sem, h23c, q, k1, k4, k5, q1]
  unfold An.v
  rw [useF_f]
  rfl
end
section
variable {G : Glob} {bb : Bool}
def upd {α : Type} (f : Nat → α) (n : Nat) (x : α) : Nat → α := fun m => if m = n then x else f m
def caC (p s n : Nat) (v : Int) (K : Nat → Int) (D : Nat → Bool) (W : Nat → Int) : List Cel :=
  [.ptr p 0, .dc (ci v), .dc (ci (K 0)), .dc (ci (K 1)), .dc (ci (K 2)), .dc (ci (K 3)), .dc (ci (K 4)), .dc (ci (K 5)), .dc (ci (K 6)), .dc (ci (K 7)), .dc (ci (K 8)),
   .dc (.raw (.bool (D 0))), .dc (.raw (.bool (D 1))), .dc (.raw (.bool (D 2))), .dc (.raw (.bool (D 3))), .dc (.raw (.bool (D 4))), .dc (.raw (.bool (D 5))), .dc (.raw (.bool (D 6))), .dc (.raw (.bool (D 7))), .dc (.raw (.bool (D 8))),
   .dc (ci (W 0)), .dc (ci (W 1)), .dc (ci (W 2)), .dc (ci (W 3)), .dc (ci (W 4)), .dc (ci (W 5)), .dc (ci (W 6)), .dc (ci (W 7)), .dc (ci (W 8)), .bld s n]
def jkC : Bool → Bool → List Cel → List Cel
  | false, false, cs => cs
  | false, true, cs => cs.set 29 .junk
  | true, false, cs => cs.set 0 .junk
  | true, true, cs => (cs.set 0 .junk).set 29 .junk
theorem jk_ff {cs : List Cel} : jkC false false cs = cs := rfl
theorem jk_ft {cs : List Cel} : jkC false true cs = cs.set 29 .junk := rfl
theorem bneff : (false != false) = false := rfl
theorem bnetf : (true != false) = true := rfl
section
variable {p s n : Nat} {v : Int} {K : Nat → Int} {D : Nat → Bool} {W : Nat → Int}
theorem caC_len : (caC p s n v K D W).length = 30 := rfl
theorem caC_0 : ((caC p s n v K D W).drop 0).take 1 = [.ptr p 0] := rfl
theorem caC_0' : (caC p s n v K D W).take 1 = [.ptr p 0] := rfl
theorem caC_1 : ((caC p s n v K D W).drop 1).take 1 = [.dc (ci v)] := rfl
theorem caC_29 : ((caC p s n v K D W).drop 29).take 1 = [.bld s n] := rfl
theorem caC_k {m : Nat} (h : m < 9) : ((caC p s n v K D W).drop (2 + m)).take 1 = [.dc (ci (K m))] := by
  match m, h with
  | 0, _ => rfl | 1, _ => rfl | 2, _ => rfl | 3, _ => rfl | 4, _ => rfl | 5, _ => rfl | 6, _ => rfl | 7, _ => rfl | 8, _ => rfl
theorem caC_d {m : Nat} (h : m < 9) : ((caC p s n v K D W).drop (11 + m)).take 1 = [.dc (.raw (.bool (D m)))] := by
  match m, h with
  | 0, _ => rfl | 1, _ => rfl | 2, _ => rfl | 3, _ => rfl | 4, _ => rfl | 5, _ => rfl | 6, _ => rfl | 7, _ => rfl | 8, _ => rfl
theorem caC_w {m : Nat} (h : m < 9) : ((caC p s n v K D W).drop (20 + m)).take 1 = [.dc (ci (W m))] := by
  match m, h with
  | 0, _ => rfl | 1, _ => rfl | 2, _ => rfl | 3, _ => rfl | 4, _ => rfl | 5, _ => rfl | 6, _ => rfl | 7, _ => rfl | 8, _ => rfl
theorem caP_1 {x : Int} : putAt (caC p s n v K D W) 1 [.dc (ci x)] = caC p s n x K D W := rfl
theorem caP_29 {s' n' : Nat} : putAt (caC p s n v K D W) 29 [.bld s' n'] = caC p s' n' v K D W := rfl
theorem caP_k {m : Nat} (h : m < 9) {x : Int} : putAt (caC p s n v K D W) (2 + m) [.dc (ci x)] = caC p s n v (upd K m x) D W := by
  match m, h with
  | 0, _ => rfl | 1, _ => rfl | 2, _ => rfl | 3, _ => rfl | 4, _ => rfl | 5, _ => rfl | 6, _ => rfl | 7, _ => rfl | 8, _ => rfl
theorem caP_d {m : Nat} (h : m < 9) {x : Bool} : putAt (caC p s n v K D W) (11 + m) [.dc (.raw (.bool x))] = caC p s n v K (upd D m x) W := by
  match m, h with
  | 0, _ => rfl | 1, _ => rfl | 2, _ => rfl | 3, _ => rfl | 4, _ => rfl | 5, _ => rfl | 6, _ => rfl | 7, _ => rfl | 8, _ => rfl
theorem caP_w {m : Nat} (h : m < 9) {x : Int} : putAt (caC p s n v K D W) (20 + m) [.dc (ci x)] = caC p s n v K D (upd W m x) := by
  match m, h with
  | 0, _ => rfl | 1, _ => rfl | 2, _ => rfl | 3, _ => rfl | 4, _ => rfl | 5, _ => rfl | 6, _ => rfl | 7, _ => rfl | 8, _ => rfl
theorem caC_kp {J : List Nat} : kpCs J (caC p s n v K D W) = (memN p J && memN s J) := by
  simp only [caC, kpCs, kpC, Bool.true_and, Bool.and_true]
theorem caC_id : idsL (caC p s n v K D W) = [p, s] := rfl
theorem caC_ren {f : Nat → Nat} : (caC p s n v K D W).map (renC f) = caC (f p) (f s) n v K D W := rfl
theorem caC_ct {m : Nat} : ctCs m (caC p s n v K D W) = jkC (decide (m ≤ p)) (decide (m ≤ s)) (caC p s n v K D W) := by
  by_cases h1 : m ≤ p <;> by_cases h2 : m ≤ s <;> simp [caC, ctCs, ctC, jkC, h1, h2]
theorem caC_ka {A : List Nat} : kaCs A (caC p s n v K D W) = jkC (memN p A) (memN s A) (caC p s n v K D W) := by
  cases h1 : memN p A <;> cases h2 : memN s A <;> simp [caC, kaCs, kaC, jkC, h1, h2]
theorem caC_kl {i : Nat} : klCs i (caC p s n v K D W) = jkC (nq p i) (nq s i) (caC p s n v K D W) := by
  cases h1 : nq p i <;> cases h2 : nq s i <;> simp [caC, klCs, klC, jkC, h1, h2]
theorem caC_kill {f : Nat → Bool} : (caC p s n v K D W).map (killC f) = jkC (f p) (f s) (caC p s n v K D W) := by
  cases h1 : f p <;> cases h2 : f s <;> simp [caC, killC, Cel.keep, jkC, h1, h2]
theorem caJ_29 {s' n' : Nat} : putAt ((caC p s n v K D W).set 29 .junk) 29 [.bld s' n'] = caC p s' n' v K D W := rfl
theorem caJ_len : ((caC p s n v K D W).set 29 .junk).length = 30 := rfl
end
attribute [go_sem] caC_len caC_0 caC_0' caC_1 caC_29 caC_k caC_d caC_w caP_1 caP_29 caP_k caP_d caP_w caC_kp caC_id caC_ren caC_ct caC_ka caC_kl jk_ff jk_ft bneff bnetf caC_kill caJ_29 caJ_len
theorem evJ_5 {call : CallT} {d : Option Nat} {f : FuncId} {avs : List AV} {st : AS} {a0 a1 a2 a3 a4 : Nat} : evJ call d f avs st [a0, a1, a2, a3, a4] = evB call d f avs st [a0, a1, a2, a3, a4] (dstN [a0, a1, a2, a3, a4] && kpH [a0, a1, a2, a3, a4] st.hp [a0, a1, a2, a3, a4] && kpVs [a0, a1, a2, a3, a4] avs) := evJ_e _
def ci0 (i : Int) : List DC := [ci i]
abbrev caH (gs : List Gr) (ws : List Wt) (v : Int) (K : Nat → Int) (D : Nat → Bool) (W : Nat → Int) (sn : List Int) : List AObj := [.box (caC 1 4 sn.length v K D W), .box [.bld 2 gs.length, .bld 3 ws.length], .arr 0 3 (gs.map Gr.e), .arr 0 2 (ws.map Wt.e), .arr 0 1 (sn.map ci0)]
theorem grant_oy {gs : List Gr} (ws : List Wt) (hs : Srt gs) (hl : gs.length ≤ 100000) (c : Int) (h : isIn gs c = true) : EV G (Tb (bs bb)) 46 [.one (.ptr 0 0), vi c] (fileH gs ws) = some (.one (.ept 1 (pos gs c) 3 0), fileH gs ws) := by
  refine EV_run rfl ?_
  obtain ⟨hk, he⟩ := (isIn_iff hs c).1 h
  have q := place_v (G := G) (bb := bb) ws hs hl c
  rw [h] at q
  simp (disch := omega) only [go_sem, h46c, q]
theorem grant_on {gs : List Gr} (ws : List Wt) (hs : Srt gs) (hl : gs.length ≤ 100000) (c : Int) (h : isIn gs c = false) : EV G (Tb (bs bb)) 46 [.one (.ptr 0 0), vi c] (fileH gs ws) = some (.one (.dc (.raw (.pointer none))), fileH gs ws) := by
  refine EV_run rfl ?_
  have q := place_v (G := G) (bb := bb) ws hs hl c
  rw [h] at q
  simp (disch := omega) only [go_sem, h46c, q]
def lvF (gs : List Gr) (c : Int) : Int := if isIn gs c = true then (grE gs c).l else -1
def brF (gs : List Gr) (c : Int) : Bool := if isIn gs c = true then decide ((grE gs c).t ≠ (grE gs c).l) else false
theorem level_v {gs : List Gr} (ws : List Wt) (hs : Srt gs) (hl : gs.length ≤ 100000) (v : Int) (K : Nat → Int) (D : Nat → Bool) (W : Nat → Int) (sn : List Int) (c : Int) :
    EV G (Tb (bs bb)) 45 [.one (.ptr 0 0), vi c] (caH gs ws v K D W sn) = some (.tup [.one (.dc (ci (lvF gs c))), .one (.dc (.raw (.bool (brF gs c))))], caH gs ws v K D W sn) := by
  refine EV_run rfl ?_
  unfold lvF brF
  cases h : isIn gs c with
  | true =>
    have q := grant_oy (G := G) (bb := bb) ws hs hl c h
    obtain ⟨hk, he⟩ := (isIn_iff hs c).1 h
    have eg : (gs.map Gr.e)[pos gs c]? = some [ci (grE gs c).c, ci (grE gs c).l, ci (grE gs c).t] := by rw [List.getElem?_map, List.getElem?_eq_getElem hk, grE, grAt gs _ hk]; rfl
    generalize grE gs c = g at *
    simp (disch := omega) only [go_sem, h45c, q, evJ_5, eg]
  | false =>
    have q := grant_on (G := G) (bb := bb) ws hs hl c h
    simp (disch := omega) only [go_sem, h45c, q, evJ_5]
end
section
variable {G : Glob} {bb : Bool}
structure Ca where
  gs : List Gr
  ws : List Wt
  v : Int
  K : Nat → Int
  D : Nat → Bool
  W : Nat → Int
  sn : List Int
abbrev Ca.h (x : Ca) : List AObj := caH x.gs x.ws x.v x.K x.D x.W x.sn
def effF (x : Ca) (c k : Int) : Ca :=
  if k = 2 then (if lvF x.gs c ≥ 1 then { x with sn := x.sn ++ [x.v], K := upd x.K c.toNat x.v, D := upd x.D c.toNat false } else { x with sn := x.sn ++ [x.v] })
  else if k = 3 then (if lvF x.gs c ≥ 1 then { x with v := x.W c.toNat, K := upd x.K c.toNat (x.W c.toNat), D := upd x.D c.toNat false } else { x with v := x.W c.toNat })
  else x
def aloF (x : Ca) (k c u : Int) : Option Ca :=
  if k = 2 ∧ lvF x.gs c ≥ 1 ∧ x.K c.toNat ≠ -1 then some { x with sn := x.sn ++ [x.K c.toNat] }
  else if k = 3 ∧ lvF x.gs c ≥ 2 ∧ brF x.gs c = false then some { x with K := upd x.K c.toNat u, D := upd x.D c.toNat true }
  else none
theorem fvT_c {st : AS} {id off : Nat} {y : Cel} {p s n : Nat} {v : Int} {K : Nat → Int} {D : Nat → Bool} {W : Nat → Int} (h : off + 1 ≤ 30) : fvT 1 id off [y] st (some (.box (caC p s n v K D W))) = some (⟨st.sl, st.hp.set id (.box (putAt (caC p s n v K D W) off [y]))⟩, [id], [id]) := fvT_b rfl h
theorem tn1 (c : Int) : c.toNat * 1 = c.toNat := Nat.mul_one _
set_option maxHeartbeats 2000000 in
theorem effect_v (x : Ca) (hs : Srt x.gs) (hl : x.gs.length ≤ 100000) (hn : x.sn.length ≤ 100000) (c k : Int) (hc : 1 ≤ c ∧ c ≤ 8) :
    EV G (Tb (bs bb)) 44 [.one (.ptr 0 0), (Wt.mk c k).v] x.h = some (.tup [], (effF x c k).h) := by
  obtain ⟨gs, ws, v, K, D, W, sn⟩ := x
  refine EV_run rfl ?_
  have hcn : c.toNat < 9 := by omega
  unfold effF
  by_cases k2 : k = 2
  · have q := level_v (G := G) (bb := bb) ws hs hl v K D W (sn ++ [v]) c
    simp only at hn hs hl
    simp only [caH, List.length_append, List.length_cons, List.length_nil, List.map_append, List.map_cons, List.map_nil, Nat.zero_add, ci0] at q
    rw [if_pos k2]
    by_cases hlv : lvF gs c ≥ 1
    · rw [if_pos hlv]
      simp (disch := omega) only [go_sem, h44c, fvT_c, evJ_5, eq_true k2, q, hlv, tn1, List.take_length, List.length_append, List.length_cons, List.length_nil, List.map_append, List.map_cons, List.map_nil, ci0]
      simp only [Ca.h, caH, List.length_append, List.length_cons, List.length_nil, List.map_append, List.map_cons, List.map_nil, ci0, Nat.zero_add]
    · rw [if_neg hlv]
      simp (disch := omega) only [go_sem, h44c, fvT_c, evJ_5, eq_true k2, q, hlv, tn1, List.take_length, List.length_append, List.length_cons, List.length_nil, List.map_append, List.map_cons, List.map_nil, ci0]
      simp only [Ca.h, caH, List.length_append, List.length_cons, List.length_nil, List.map_append, List.map_cons, List.map_nil, ci0, Nat.zero_add]
  · rw [if_neg k2]
    by_cases k3 : k = 3
    · have q := level_v (G := G) (bb := bb) ws hs hl (W c.toNat) K D W sn c
      rw [if_pos k3]
      by_cases hlv : lvF gs c ≥ 1
      · rw [if_pos hlv]
        simp (disch := omega) only [go_sem, h44c, fvT_c, evJ_5, k2, eq_true k3, q, hlv, tn1, List.take_length]
      · rw [if_neg hlv]
        simp (disch := omega) only [go_sem, h44c, fvT_c, evJ_5, k2, eq_true k3, q, hlv, tn1, List.take_length]
    · rw [if_neg k3]
      simp (disch := omega) only [go_sem, h44c, fvT_c, k2, k3]
set_option maxHeartbeats 2000000 in
theorem alone_v (x : Ca) (hs : Srt x.gs) (hl : x.gs.length ≤ 100000) (hn : x.sn.length ≤ 100000) (k c l u : Int) (hc : 1 ≤ c ∧ c ≤ 8) :
    EV G (Tb (bs bb)) 43 [.one (.ptr 0 0), .agg [.dc (ci k), .dc (ci c), .dc (ci l), .dc (ci u)]] x.h = some (vb (aloF x k c u).isSome, ((aloF x k c u).getD x).h) := by
  obtain ⟨gs, ws, v, K, D, W, sn⟩ := x
  refine EV_run rfl ?_
  have hcn : c.toNat < 9 := by omega
  have q := level_v (G := G) (bb := bb) ws hs hl v K D W sn c
  simp only at hn hs hl
  unfold aloF
  by_cases k2 : k = 2
  · have k3 : ¬ k = 3 := by omega
    by_cases h1 : lvF gs c ≥ 1
    · by_cases h2 : K c.toNat = -1
      · rw [if_neg (fun h => h.2.2 h2), if_neg (fun h => k3 h.1)]
        simp (disch := omega) only [go_sem, h43c, evJ_5, eq_true k2, k3, q, h1, eq_true h2, tn1]
        try rfl
      · rw [if_pos ⟨k2, h1, h2⟩]
        simp (disch := omega) only [go_sem, h43c, evJ_5, eq_true k2, k3, q, h1, h2, tn1, List.take_length]
        simp only [Ca.h, caH, List.length_append, List.length_cons, List.length_nil, List.map_append, List.map_cons, List.map_nil, ci0, Nat.zero_add, Option.isSome_some, Option.getD_some]
    · rw [if_neg (fun h => h1 h.2.1), if_neg (fun h => k3 h.1)]
      simp (disch := omega) only [go_sem, h43c, evJ_5, eq_true k2, k3, q, h1, tn1]
      try rfl
  · rw [if_neg (fun h => k2 h.1)]
    by_cases k3 : k = 3
    · by_cases h1 : lvF gs c ≥ 2
      · cases h2 : brF gs c with
        | true =>
          rw [h2] at q
          rw [if_neg (by simp)]
          simp (disch := omega) only [go_sem, h43c, evJ_5, k2, eq_true k3, q, h1, tn1]
          try rfl
        | false =>
          rw [h2] at q
          rw [if_pos ⟨k3, h1, rfl⟩]
          simp (disch := omega) only [go_sem, h43c, evJ_5, k2, eq_true k3, q, h1, tn1]
          try rfl
      · rw [if_neg (fun h => h1 h.2.1)]
        simp (disch := omega) only [go_sem, h43c, evJ_5, k2, eq_true k3, q, h1, tn1]
        try rfl
    · rw [if_neg (fun h => k3 h.1)]
      simp (disch := omega) only [go_sem, h43c, evJ_5, k2, k3, q, tn1]
      try rfl
end
section
variable {G : Glob} {bb : Bool}
theorem effF_gs (x : Ca) (c k : Int) : (effF x c k).gs = x.gs ∧ (effF x c k).ws = x.ws ∧ (effF x c k).sn.length ≤ x.sn.length + 1 := by
  unfold effF
  repeat' split
  all_goals simp
def effL (x : Ca) (l : List Wt) : Ca := l.foldl (fun y a => effF y a.c a.k) x
theorem effL_gs (x : Ca) (l : List Wt) : (effL x l).gs = x.gs ∧ (effL x l).ws = x.ws ∧ (effL x l).sn.length ≤ x.sn.length + l.length := by
  unfold effL
  induction l generalizing x with
  | nil => simp
  | cons a l ih =>
    simp only [List.foldl_cons, List.length_cons]
    have h1 := effF_gs x a.c a.k
    have h2 := ih (effF x a.c a.k)
    exact ⟨h2.1.trans h1.1, h2.2.1.trans h1.2.1, by omega⟩
theorem effL_next (x : Ca) (l : List Wt) (j : Nat) (hj : j < l.length) : effL x (l.take (j + 1)) = effF (effL x (l.take j)) l[j].c l[j].k := by
  unfold effL
  rw [List.take_add_one, List.getElem?_eq_getElem hj, Option.toList_some, List.foldl_append]
  rfl
def drpF (x : Ca) (j : Nat) : Ca := { x with K := fun n => if n < j ∧ lvF x.gs n < 1 then -1 else x.K n, D := fun n => if n < j ∧ lvF x.gs n < 1 then false else x.D n }
theorem drpF_0 (x : Ca) : drpF x 0 = x := by
  unfold drpF
  simp
theorem drpF_y (x : Ca) (j : Nat) (h : lvF x.gs j < 1) : drpF x (j + 1) = { drpF x j with K := upd (drpF x j).K j (-1), D := upd (drpF x j).D j false } := by
  unfold drpF upd
  simp only [Ca.mk.injEq, true_and, and_true]
  constructor
  · funext n
    by_cases hn : n = j
    · subst hn; simp [h]
    · simp only [hn, if_false]
      by_cases h2 : n < j
      · simp [h2, Nat.lt_succ_of_lt h2]
      · have : ¬ n < j + 1 := by omega
        simp [h2, this]
  · funext n
    by_cases hn : n = j
    · subst hn; simp [h]
    · simp only [hn, if_false]
      by_cases h2 : n < j
      · simp [h2, Nat.lt_succ_of_lt h2]
      · have : ¬ n < j + 1 := by omega
        simp [h2, this]
theorem drpF_n (x : Ca) (j : Nat) (h : ¬ lvF x.gs j < 1) : drpF x (j + 1) = drpF x j := by
  unfold drpF
  simp only [Ca.mk.injEq, true_and, and_true]
  constructor
  · funext n
    by_cases hn : n = j
    · subst hn; simp [h]
    · have e : (n < j + 1) = (n < j) := propext ⟨by omega, by omega⟩
      simp [e]
  · funext n
    by_cases hn : n = j
    · subst hn; simp [h]
    · have e : (n < j + 1) = (n < j) := propext ⟨by omega, by omega⟩
      simp [e]
theorem thr_f : ∀ (ws : List Wt) (gs : List Gr), ∀ w ∈ (thr gs ws).2.2.2, w ∈ ws
  | [], gs, w, h => by simp [thr] at h
  | a :: ws, gs, w, h => by
    rw [thr] at h
    split at h
    · simp at h
    · simp only [List.mem_cons] at h
      rcases h with rfl | h
      · exact List.mem_cons_self
      · exact List.mem_cons_of_mem _ (thr_f ws _ w h)
theorem thr_fl : ∀ (ws : List Wt) (gs : List Gr), (thr gs ws).2.2.2.length ≤ ws.length
  | [], gs => by simp [thr]
  | a :: ws, gs => by
    rw [thr]
    split
    · simp
    · have := thr_fl ws (did (brGs gs a.c a.k) a.c a.k)
      simp only [List.length_cons]
      omega
theorem stp_f (gs : List Gr) (ws : List Wt) (a : Ac) : (∀ w ∈ (stp gs ws a).2.2.f, w ∈ ws) ∧ (stp gs ws a).2.2.f.length ≤ ws.length := by
  unfold stp
  split
  · simp
  · split
    · exact ⟨thr_f ws _, thr_fl ws _⟩
    · split
      · exact ⟨thr_f ws _, thr_fl ws _⟩
      · rw [useF_f]; simp
def usE (x : Ca) (k c l u : Int) : Int := firstE [ifE (wi u 0 (if k = 3 then 999 else 0)) 2, usErr x.gs x.ws ⟨k, c, l⟩]
def giv (x : Ca) (k c u : Int) : Ca := if (k = 4 ∨ k = 5) ∧ x.D c.toNat = true then { x with v := x.K c.toNat, D := upd x.D c.toNat false, W := upd x.W c.toNat u } else { x with W := upd x.W c.toNat u }
def actF (x : Ca) (k c l u : Int) : Ca :=
  drpF (effL (if (stp x.gs x.ws ⟨k, c, l⟩).2.2.d = true then effF { giv x k c u with gs := (stp x.gs x.ws ⟨k, c, l⟩).1, ws := (stp x.gs x.ws ⟨k, c, l⟩).2.1 } c k else { giv x k c u with gs := (stp x.gs x.ws ⟨k, c, l⟩).1, ws := (stp x.gs x.ws ⟨k, c, l⟩).2.1 }) (stp x.gs x.ws ⟨k, c, l⟩).2.2.f) 9
def usF (x : Ca) (k c l u : Int) : Ca × Int :=
  if usE x k c l u ≠ 0 then (x, usE x k c l u)
  else match aloF x k c u with
    | some y => (y, 0)
    | none => if acErr x.gs x.ws ⟨k, c, l⟩ ≠ 0 then (x, acErr x.gs x.ws ⟨k, c, l⟩) else (actF x k c l u, 0)
theorem first2 (a b : Int) : EV G (Tb (bs bb)) 40 [vl [[ci a], [ci b]]] [] = some (vi (firstE [a, b]), []) := first_v [a, b] (by simp)
abbrev usH (x : Ca) (k c l u : Int) (z : List (List DC)) (a : An) : List AObj := [.box (caC 1 4 x.sn.length x.v x.K x.D x.W), .box [.bld 2 x.gs.length, .bld 3 x.ws.length], .arr 0 3 (x.gs.map Gr.e), .arr 0 2 (x.ws.map Wt.e), .arr 0 1 (x.sn.map ci0), .box [.dc (ci k), .dc (ci c), .dc (ci l), .dc (ci u)], .arr 0 1 z, .box [.dc (.raw (.bool a.d)), .dc (.slc (a.b.map Br.e)), .dc (.slc (a.f.map Wt.e))]]
def fr0 (x : Ca) (k c l u : Int) (z : List (List DC)) (a : An) (j : Nat) : AS := ⟨(.one (.ptr 0 0) :: jk 107 (vl (a.f.map Wt.e) :: vi a.f.length :: vi j :: jk 29 [])), usH x k c l u z a⟩
def dr0 (x : Ca) (k c l u : Int) (z : List (List DC)) (a : An) (j : Nat) : AS := ⟨(.one (.ptr 0 0) :: jk 117 (vi j :: jk 21 [])), usH x k c l u z a⟩
theorem fr_round (x : Ca) (hs : Srt x.gs) (hl : x.gs.length ≤ 1000) (hn : x.sn.length ≤ 10000) (k c l u : Int) (z : List (List DC)) (a : An) (hf : a.f.length ≤ 10) (j : Nat) (hj : j < a.f.length) (w : Wt) (hw : a.f[j] = w) (hc : 1 ≤ w.c ∧ w.c ≤ 8) :
    rnK [0, 107, 0, 0] 8 (EC (EV G (Tb (bs bb))) G h20l0 (fr0 x k c l u z a j)) = some (fr0 (effF x w.c w.k) k c l u z a (j + 1)) := by
  have q := effect_v (G := G) (bb := bb) x hs (by omega) (by omega) w.c w.k hc
  have eg : (a.f.map Wt.e)[j]? = some [ci w.c, ci w.k] := by rw [List.getElem?_map, List.getElem?_eq_getElem hj, hw]; rfl
  generalize effF x w.c w.k = y at *
  unfold fr0 usH
  simp only [Ca.h, caH] at q
  simp (disch := omega) only [go_sem, h20l0, evJ_5, eg, q]
theorem fr_loop {st : AS} (x : Ca) (hs : Srt x.gs) (hl : x.gs.length ≤ 1000) (hn : x.sn.length + 20 ≤ 10000) (k c l u : Int) (z : List (List DC)) (a : An) (hf : a.f.length ≤ 10) (hc : ∀ w ∈ a.f, 1 ≤ w.c ∧ w.c ≤ 8) (h0 : st = fr0 x k c l u z a 0) :
    EL (EV G (Tb (bs bb))) G h20l0 [0, 107, 0, 0] 8 st = fnK (EV G (Tb (bs bb))) G h20l0 [0, 107, 0, 0] 8 (EC (EV G (Tb (bs bb))) G h20l0 (fr0 (effL x a.f) k c l u z a a.f.length)) := by
  subst h0
  have h := EL_loop (call := EV G (Tb (bs bb))) (G := G) (a := h20l0) (L := [0, 107, 0, 0]) (m := 8) (fun j => fr0 (effL x (a.f.take j)) k c l u z a j) a.f.length rfl (fun j hj => by
    have e := effL_gs x (a.f.take j)
    rw [List.length_take] at e
    rw [effL_next x a.f j hj]
    exact fr_round _ (by rw [e.1]; exact hs) (by rw [e.1]; exact hl) (by omega) k c l u z a hf j hj a.f[j] rfl (hc _ (List.getElem_mem hj)))
  rw [List.take_length] at h
  exact h
theorem dr_round (x : Ca) (hs : Srt x.gs) (hl : x.gs.length ≤ 1000) (k c l u : Int) (z : List (List DC)) (a : An) (j : Nat) (hj : j < 9) :
    rnK [0, 117] 8 (EC (EV G (Tb (bs bb))) G h20l1 (dr0 (drpF x j) k c l u z a j)) = some (dr0 (drpF x (j + 1)) k c l u z a (j + 1)) := by
  have q := level_v (G := G) (bb := bb) x.ws hs (by omega) x.v (drpF x j).K (drpF x j).D x.W x.sn j
  have ek : drpF x j = { x with K := (drpF x j).K, D := (drpF x j).D } := rfl
  by_cases h : lvF x.gs j < 1
  · rw [drpF_y x j h, ek]
    generalize (drpF x j).K = K at *
    generalize (drpF x j).D = D at *
    obtain ⟨gs, ws, v, K0, D0, W, sn⟩ := x
    unfold dr0
    simp only [caH] at q h
    simp (disch := omega) only [go_sem, h20l1, evJ_5, q, h, tn1]
  · rw [drpF_n x j h, ek]
    generalize (drpF x j).K = K at *
    generalize (drpF x j).D = D at *
    obtain ⟨gs, ws, v, K0, D0, W, sn⟩ := x
    unfold dr0
    simp only [caH] at q h
    simp (disch := omega) only [go_sem, h20l1, evJ_5, q, h, tn1]
theorem tail2 {st : AS} (x : Ca) (hs : Srt x.gs) (hl : x.gs.length ≤ 1000) (hn : x.sn.length + 20 ≤ 10000) (k c l u : Int) (z : List (List DC)) (a : An) (hf : a.f.length ≤ 10) (hc : ∀ w ∈ a.f, 1 ≤ w.c ∧ w.c ≤ 8) (h0 : st = fr0 x k c l u z a 0) :
    retZ false [RetV.tmp 4] 5 (sqK (EV G (Tb (bs bb))) G (((HC.region [Oo 118 (AI.mov (Ki 0))]).seq (HC.block 2 (HC.loop [0, 117] h20l1))).seq ((HC.region [Oo 4 (AI.mov (Ki 0))]).seq HC.ret)) (blkK 0 (EL (EV G (Tb (bs bb))) G h20l0 [0, 107, 0, 0] 8 st))) = some (vi 0, (drpF (effL x a.f) 9).h) := by
  rw [fr_loop x hs hl hn k c l u z a hf hc h0]
  have e := effL_gs x a.f
  generalize effL x a.f = y at *
  have hs' : Srt y.gs := by rw [e.1]; exact hs
  have hl' : y.gs.length ≤ 1000 := by rw [e.1]; exact hl
  unfold fr0
  simp (disch := omega) only [go_sem, h20l0]
  rw [EL_loop (fun j => dr0 (drpF y j) k c l u z a j) 9 ?_ ?_]
  rotate_left
  · rw [drpF_0]; rfl
  · intro j hj
    exact dr_round y hs' hl' k c l u z a j hj
  generalize drpF y 9 = z at *
  unfold dr0
  simp (disch := omega) only [go_sem, h20l1]
  try rfl
theorem giv_gs (x : Ca) (k c u : Int) : (giv x k c u).gs = x.gs ∧ (giv x k c u).ws = x.ws ∧ (giv x k c u).sn = x.sn := by
  unfold giv
  split <;> simp
end
section
variable {G : Glob} {bb : Bool}
set_option maxHeartbeats 4000000 in
theorem grantErr_v (gs : List Gr) (ws : List Wt) (i : Nat) (hi : i < gs.length) (hl : gs.length ≤ 1000000) : EV G (Tb (bs bb)) 27 [flR gs ws, vi i] [] = some (vi (gErr gs i gs[i]), []) := by
  refine EV_run rfl ?_
  have q := any1_v (G := G) (bb := bb) 59 [ci gs[i].c, ci gs[i].l, ci gs[i].t] (fun h => decide (h.c ≠ gs[i].c)) gs hl (fun h _ => p116_v gs[i] h)
  simp only [List.map_cons, List.map_nil] at q
  rw [show (gs.any fun h => decide (h.c ≠ gs[i].c)) = othA gs gs[i].c from rfl] at q
  have q1 := p113_v (G := G) (bb := bb) gs ws gs[i] 1 hl
  have eg : (gs.map Gr.e)[i]? = some [ci gs[i].c, ci gs[i].l, ci gs[i].t] := by rw [List.getElem?_map, List.getElem?_eq_getElem hi]; rfl
  have hi1 : i - 1 < gs.length := by omega
  have eg1 : (gs.map Gr.e)[i - 1]? = some [ci gs[i-1].c, ci gs[i-1].l, ci gs[i-1].t] := by rw [List.getElem?_map, List.getElem?_eq_getElem hi1]; rfl
  rw [gErr_e, clash_e, grAt gs (i - 1) hi1]
  generalize gs[i] = g at *
  generalize gs[i - 1] = g1 at *
  have c1 : isCl g.c = false ∨ (isCl g.c = true ∧ wi g.l 0 3 = false) ∨ (isCl g.c = true ∧ wi g.l 0 3 = true) := by
    cases isCl g.c <;> cases wi g.l 0 3 <;> simp
  have c2 : (g.l ≥ 2 ∧ g.l ≠ 1 ∧ othL gs g.c 1 = true) ∨ (g.l ≥ 2 ∧ g.l ≠ 1 ∧ othL gs g.c 1 = false ∧ g.l = 3) ∨ (g.l ≥ 2 ∧ g.l ≠ 1 ∧ othL gs g.c 1 = false ∧ g.l ≠ 3) ∨ (¬g.l ≥ 2 ∧ g.l ≠ 3 ∧ g.l = 1) ∨ (¬g.l ≥ 2 ∧ g.l ≠ 3 ∧ g.l ≠ 1) := by
    cases othL gs g.c 1 <;> simp <;> omega
  rcases Nat.eq_zero_or_pos i with rfl | h0
  · rcases c1 with h1 | ⟨h1, h2⟩ | ⟨h1, h2⟩
    · rcases c2 with ⟨k1, k2, k3⟩ | ⟨k1, k2, k3, k4⟩ | ⟨k1, k2, k3, k4⟩ | ⟨k1, k2, k3⟩ | ⟨k1, k2, k3⟩
      · simp (disch := omega) only [go_sem, h27c, q, q1, eg, isClient_v, within_u, unless_u, first4, h1, k1, k2, k3]
      · simp (disch := omega) only [go_sem, h27c, q, q1, eg, isClient_v, within_u, unless_u, first4, h1, k1, k2, k3, eq_true k4]
      · simp (disch := omega) only [go_sem, h27c, q, q1, eg, isClient_v, within_u, unless_u, first4, h1, k1, k2, k3, k4]
      · simp (disch := omega) only [go_sem, h27c, q, q1, eg, isClient_v, within_u, unless_u, first4, h1, k1, k2, eq_true k3]
      · simp (disch := omega) only [go_sem, h27c, q, q1, eg, isClient_v, within_u, unless_u, first4, h1, k1, k2, k3]
    · rcases c2 with ⟨k1, k2, k3⟩ | ⟨k1, k2, k3, k4⟩ | ⟨k1, k2, k3, k4⟩ | ⟨k1, k2, k3⟩ | ⟨k1, k2, k3⟩
      · simp (disch := omega) only [go_sem, h27c, q, q1, eg, isClient_v, within_u, unless_u, first4, h1, h2, k1, k2, k3]
      · simp (disch := omega) only [go_sem, h27c, q, q1, eg, isClient_v, within_u, unless_u, first4, h1, h2, k1, k2, k3, eq_true k4]
      · simp (disch := omega) only [go_sem, h27c, q, q1, eg, isClient_v, within_u, unless_u, first4, h1, h2, k1, k2, k3, k4]
      · simp (disch := omega) only [go_sem, h27c, q, q1, eg, isClient_v, within_u, unless_u, first4, h1, h2, k1, k2, eq_true k3]
      · simp (disch := omega) only [go_sem, h27c, q, q1, eg, isClient_v, within_u, unless_u, first4, h1, h2, k1, k2, k3]
    · rcases c2 with ⟨k1, k2, k3⟩ | ⟨k1, k2, k3, k4⟩ | ⟨k1, k2, k3, k4⟩ | ⟨k1, k2, k3⟩ | ⟨k1, k2, k3⟩
      · simp (disch := omega) only [go_sem, h27c, q, q1, eg, isClient_v, within_u, unless_u, first4, h1, h2, k1, k2, k3]
      · simp (disch := omega) only [go_sem, h27c, q, q1, eg, isClient_v, within_u, unless_u, first4, h1, h2, k1, k2, k3, eq_true k4]
      · simp (disch := omega) only [go_sem, h27c, q, q1, eg, isClient_v, within_u, unless_u, first4, h1, h2, k1, k2, k3, k4]
      · simp (disch := omega) only [go_sem, h27c, q, q1, eg, isClient_v, within_u, unless_u, first4, h1, h2, k1, k2, eq_true k3]
      · simp (disch := omega) only [go_sem, h27c, q, q1, eg, isClient_v, within_u, unless_u, first4, h1, h2, k1, k2, k3]
  · have h0' : ¬ i = 0 := by omega
    rcases c1 with h1 | ⟨h1, h2⟩ | ⟨h1, h2⟩
    · rcases c2 with ⟨k1, k2, k3⟩ | ⟨k1, k2, k3, k4⟩ | ⟨k1, k2, k3, k4⟩ | ⟨k1, k2, k3⟩ | ⟨k1, k2, k3⟩
      · simp (disch := omega) only [go_sem, h27c, q, q1, eg, eg1, max0, h0', isClient_v, within_u, unless_u, first4, h1, k1, k2, k3]
      · simp (disch := omega) only [go_sem, h27c, q, q1, eg, eg1, max0, h0', isClient_v, within_u, unless_u, first4, h1, k1, k2, k3, eq_true k4]
      · simp (disch := omega) only [go_sem, h27c, q, q1, eg, eg1, max0, h0', isClient_v, within_u, unless_u, first4, h1, k1, k2, k3, k4]
      · simp (disch := omega) only [go_sem, h27c, q, q1, eg, eg1, max0, h0', isClient_v, within_u, unless_u, first4, h1, k1, k2, eq_true k3]
      · simp (disch := omega) only [go_sem, h27c, q, q1, eg, eg1, max0, h0', isClient_v, within_u, unless_u, first4, h1, k1, k2, k3]
    · rcases c2 with ⟨k1, k2, k3⟩ | ⟨k1, k2, k3, k4⟩ | ⟨k1, k2, k3, k4⟩ | ⟨k1, k2, k3⟩ | ⟨k1, k2, k3⟩
      · simp (disch := omega) only [go_sem, h27c, q, q1, eg, eg1, max0, h0', isClient_v, within_u, unless_u, first4, h1, h2, k1, k2, k3]
      · simp (disch := omega) only [go_sem, h27c, q, q1, eg, eg1, max0, h0', isClient_v, within_u, unless_u, first4, h1, h2, k1, k2, k3, eq_true k4]
      · simp (disch := omega) only [go_sem, h27c, q, q1, eg, eg1, max0, h0', isClient_v, within_u, unless_u, first4, h1, h2, k1, k2, k3, k4]
      · simp (disch := omega) only [go_sem, h27c, q, q1, eg, eg1, max0, h0', isClient_v, within_u, unless_u, first4, h1, h2, k1, k2, eq_true k3]
      · simp (disch := omega) only [go_sem, h27c, q, q1, eg, eg1, max0, h0', isClient_v, within_u, unless_u, first4, h1, h2, k1, k2, k3]
    · rcases c2 with ⟨k1, k2, k3⟩ | ⟨k1, k2, k3, k4⟩ | ⟨k1, k2, k3, k4⟩ | ⟨k1, k2, k3⟩ | ⟨k1, k2, k3⟩
      · simp (disch := omega) only [go_sem, h27c, q, q1, eg, eg1, max0, h0', isClient_v, within_u, unless_u, first4, h1, h2, k1, k2, k3]
      · simp (disch := omega) only [go_sem, h27c, q, q1, eg, eg1, max0, h0', isClient_v, within_u, unless_u, first4, h1, h2, k1, k2, k3, eq_true k4]
      · simp (disch := omega) only [go_sem, h27c, q, q1, eg, eg1, max0, h0', isClient_v, within_u, unless_u, first4, h1, h2, k1, k2, k3, k4]
      · simp (disch := omega) only [go_sem, h27c, q, q1, eg, eg1, max0, h0', isClient_v, within_u, unless_u, first4, h1, h2, k1, k2, eq_true k3]
      · simp (disch := omega) only [go_sem, h27c, q, q1, eg, eg1, max0, h0', isClient_v, within_u, unless_u, first4, h1, h2, k1, k2, k3]
end
section
variable {G : Glob} {bb : Bool}
theorem p49_v (gs : List Gr) (ws : List Wt) (i : Nat) (hi : i < gs.length) (hl : gs.length ≤ 1000000) (g : Gr) : EV G (Tb (bs bb)) 26 [vi i, g.v, .one (.ref [.ptr (flD gs ws)])] [] = some (vi (gErr gs i gs[i]), []) := by
  refine EV_run rfl ?_
  have q := grantErr_v (G := G) (bb := bb) gs ws i hi hl
  simp (disch := omega) only [go_sem, h26c, q]
end
end Go.Proofs.YtinageiefahjfaaDoor
