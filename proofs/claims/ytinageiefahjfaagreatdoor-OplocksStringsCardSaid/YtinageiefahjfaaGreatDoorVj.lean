/- Caches: what acts that are done do; uses that need no act. Conditions: none. -/
import Derived.Test.YtinageiefahjfaaGreatDoorTm
import Derived.Test.YtinageiefahjfaaGreatDoorUm
import Derived.Test.YtinageiefahjfaaGreatDoorVc
import Derived.Test.YtinageiefahjfaaGreatDoorRb
namespace Go.Proofs.YtinageiefahjfaaGreatDoor
set_option linter.unusedSimpArgs false
set_option linter.unusedVariables false
set_option maxRecDepth 4000
section
variable {G : Glob} {bb : Bool}
end
section
variable {G : Glob} {bb : Bool}
end
section
variable {G : Glob} {bb : Bool}
end
section
variable {G : Glob} {bb : Bool}
end
section
variable {G : Glob} {bb : Bool}
theorem rnX_M : ∀ (l : List Ac) (gs : List Gr) (ws : List Wt) (out : List An) (n : Nat), (∀ a ∈ l, True) → runM gs ws out n l = if (rnX gs ws out n l).2.2 = 0 then ((rnX gs ws out n l).1, ((n + l.length : Nat) : Int), 0) else (([], [], []), (rnX gs ws out n l).2)
  | [], gs, ws, out, n, _ => by rw [rnX, runM, if_pos rfl]; rfl
  | a :: l, gs, ws, out, n, _ => by
    rw [rnX, runM]
    by_cases he : acErr gs ws a = 0
    · rw [if_pos he, if_pos he, rnX_M l _ _ _ _ (fun _ _ => trivial), List.length_cons, show n + 1 + l.length = n + (l.length + 1) by omega]
    · rw [if_neg he, if_neg he, if_neg (by simpa using he)]
abbrev runV (r : (List Gr × List Wt × List An) × Int × Int) : AV := .tup [.agg [.dc (.slc (r.1.1.map Gr.e)), .dc (.slc (r.1.2.1.map Wt.e))], .one (.dc (.slc (r.1.2.2.map An.e))), .one (.dc (.raw (.int .i64 r.2.1))), .one (.dc (.raw (.int .i64 r.2.2)))]
set_option maxHeartbeats 1000000 in
theorem runOf_v (hG : G 0 = some alD) (l : List Ac) (hl : l.length ≤ 1000000) : EV G (Tb (bs bb)) 15 [acsV l] [] = some (runV (runF l), []) := by
  refine EV_run rfl ?_
  unfold runF
  by_cases h : l.length > 100
  · rw [if_pos h]
    simp (disch := omega) only [go_sem, h15c, h]
    try rfl
  · rw [if_neg h, rnX_M l [] [] [] 0 (fun _ _ => trivial)]
    have q := each61_v (bb := bb) hG l (by omega)
    generalize rnX [] [] [] 0 l = r at *
    obtain ⟨⟨gs, ws, out⟩, n, e⟩ := r
    simp only [runH, List.length_nil, List.map_nil] at q
    by_cases he : e = 0
    · subst he
      rw [if_pos rfl]
      simp (disch := omega) only [go_sem, h15c, h, evJ_6, q, List.take_length]
      rw [fvT_b (by rfl) (by simp)]
      simp (disch := omega) only [go_sem, List.take_length]
    · rw [if_neg (by simpa using he)]
      simp (disch := omega) only [go_sem, h15c, h, evJ_6, q, he]
      rfl
end
section
variable {G : Glob} {bb : Bool}
end
section
variable {G : Glob} {bb : Bool}
end
section
variable {G : Glob} {bb : Bool}
end
section
variable {G : Glob} {bb : Bool}
theorem open_n (hG : G 0 = some alD) (gs : List Gr) (ws : List Wt) (hg : gs.length ≤ 100000) (hw : ws.length ≤ 100000) (h : (chk gs ws).2 ≠ 0) : EV G (Tb (bs bb)) 72 [flV gs ws] [] = some (.tup [.one (.dc (.raw (.pointer none))), .one (.dc (ci (chk gs ws).2))], []) := by
  refine EV_run rfl ?_
  have q := checkFile_v (G := G) (bb := bb) hG gs ws hg hw
  simp (disch := omega) only [go_sem, h72c, q, h]
  try rfl
theorem open_y (hG : G 0 = some alD) (gs : List Gr) (ws : List Wt) (hg : gs.length ≤ 100000) (hw : ws.length ≤ 100000) (h : (chk gs ws).2 = 0) : EV G (Tb (bs bb)) 72 [flV gs ws] [] = some (.tup [.one (.ptr 4 0), .one (.dc (ci 0))], [.box [.dc (.slc (gs.map Gr.e)), .dc (.slc (ws.map Wt.e))], .box [.dc (.slc (gs.map Gr.e)), .dc (.slc (ws.map Wt.e))], .arr 0 3 (gs.map Gr.e), .arr 0 2 (ws.map Wt.e), .box [.bld 2 gs.length, .bld 3 ws.length]]) := by
  refine EV_run rfl ?_
  have q := checkFile_v (G := G) (bb := bb) hG gs ws hg hw
  have q1 := copied_v (G := G) (bb := bb) gs ws (by omega) (by omega)
  simp (disch := omega) only [go_sem, h72c, q, q1, h]
  try rfl
def stpF (gs : List Gr) (ws : List Wt) (a : Ac) : (List Gr × List Wt × An) × Int :=
  if (chk gs ws).2 = 0 then (if acErr gs ws a = 0 then (stp gs ws a, 0) else (([], [], ⟨false, [], []⟩), acErr gs ws a)) else (([], [], ⟨false, [], []⟩), (chk gs ws).2)
abbrev stpV (r : (List Gr × List Wt × An) × Int) : AV := .tup [.agg [.dc (.slc (r.1.1.map Gr.e)), .dc (.slc (r.1.2.1.map Wt.e))], .agg [.dc (.raw (.bool r.1.2.2.d)), .dc (.slc (r.1.2.2.b.map Br.e)), .dc (.slc (r.1.2.2.f.map Wt.e))], .one (.dc (.raw (.int .i64 r.2)))]
theorem ac_us {gs : List Gr} {ws : List Wt} {a : Ac} (h : acErr gs ws a = 0) : (0 ≤ a.k ∧ a.k ≤ 5) ∧ (a.k ≠ 0 → isIn gs a.c = true) := by
  have hu : usErr gs ws a = 0 := by
    unfold acErr at h
    split at h
    · rename_i h1; exact absurd h h1
    · rename_i h1; exact Classical.not_not.1 h1
  obtain ⟨h1, h2, h3, h4, h5⟩ := us_ok hu
  refine ⟨h1, fun h0 => ?_⟩
  cases hi : isIn gs a.c with
  | true => rfl
  | false => exact absurd (h5.2 hi) h0
theorem stepped_v (hG : G 0 = some alD) (gs : List Gr) (ws : List Wt) (a : Ac) (hg : gs.length ≤ 100000) (hw : ws.length ≤ 100000) : EV G (Tb (bs bb)) 22 [flV gs ws, a.v] [] = some (stpV (stpF gs ws a), []) := by
  refine EV_run rfl ?_
  unfold stpF
  by_cases h : (chk gs ws).2 = 0
  · rw [if_pos h]
    have q := open_y (bb := bb) hG gs ws hg hw h
    obtain ⟨hV, hH⟩ := chk_ok h
    have h1 := hV.gl
    have h2 := hV.wl
    have q1 := actErr_v (G := G) (bb := bb) gs ws hV.so a hg hw
    by_cases he : acErr gs ws a = 0
    · rw [if_pos he]
      rw [he] at q1
      obtain ⟨h3, h4⟩ := ac_us he
      have q2 := step_v (bb := bb) hG gs ws a hV.so (fun w hw => kOK_us (hV.wr w hw).2.1) h3 h4 (by omega)
      generalize stp gs ws a = s at *
      obtain ⟨gs', ws', an⟩ := s
      simp only [fileH] at q2
      simp (disch := omega) only [go_sem, h22c, q, q1, q2, evJ_3]
      rw [fvT_b (by rfl) (by simp)]
      simp (disch := omega) only [go_sem]
      rw [fvT_b (by rfl) (by simp)]
      simp (disch := omega) only [go_sem, List.take_length]
      try rfl
    · rw [if_neg he]
      simp (disch := omega) only [go_sem, h22c, q, q1, he]
      try rfl
  · rw [if_neg h]
    have q := open_n (bb := bb) hG gs ws hg hw h
    simp (disch := omega) only [go_sem, h22c, q, h]
    try rfl
end
section
def Nb (gs : List Gr) (ws : List Wt) : Prop := ∀ w ∈ ws, ∀ g ∈ gs, g.c = w.c → g.l ≤ 1
theorem Nb.nil {gs : List Gr} : Nb gs [] := fun w hw => by cases hw
end
section
variable {G : Glob} {bb : Bool}
def upd {α : Type} (f : Nat → α) (n : Nat) (x : α) : Nat → α := fun m => if m = n then x else f m
def caC (p s n : Nat) (v : Int) (K : Nat → Int) (D : Nat → Bool) (W : Nat → Int) : List Cel :=
  [.ptr p 0, .dc (ci v), .dc (ci (K 0)), .dc (ci (K 1)), .dc (ci (K 2)), .dc (ci (K 3)), .dc (ci (K 4)), .dc (ci (K 5)), .dc (ci (K 6)), .dc (ci (K 7)), .dc (ci (K 8)),
   .dc (.raw (.bool (D 0))), .dc (.raw (.bool (D 1))), .dc (.raw (.bool (D 2))), .dc (.raw (.bool (D 3))), .dc (.raw (.bool (D 4))), .dc (.raw (.bool (D 5))), .dc (.raw (.bool (D 6))), .dc (.raw (.bool (D 7))), .dc (.raw (.bool (D 8))),
   .dc (ci (W 0)), .dc (ci (W 1)), .dc (ci (W 2)), .dc (ci (W 3)), .dc (ci (W 4)), .dc (ci (W 5)), .dc (ci (W 6)), .dc (ci (W 7)), .dc (ci (W 8)), .bld s n]
def jkC : Bool → Bool → List Cel → List Cel
  | false, false, cs => cs
  | false, true, cs => cs.set 29 .junk
  | true, false, cs => cs.set 0 .junk
  | true, true, cs => (cs.set 0 .junk).set 29 .junk
theorem jk_ff {cs : List Cel} : jkC false false cs = cs := rfl
theorem jk_ft {cs : List Cel} : jkC false true cs = cs.set 29 .junk := rfl
theorem bneff : (false != false) = false := rfl
theorem bnetf : (true != false) = true := rfl
section
variable {p s n : Nat} {v : Int} {K : Nat → Int} {D : Nat → Bool} {W : Nat → Int}
theorem caC_len : (caC p s n v K D W).length = 30 := rfl
theorem caC_0 : ((caC p s n v K D W).drop 0).take 1 = [.ptr p 0] := rfl
theorem caC_0' : (caC p s n v K D W).take 1 = [.ptr p 0] := rfl
theorem caC_1 : ((caC p s n v K D W).drop 1).take 1 = [.dc (ci v)] := rfl
theorem caC_29 : ((caC p s n v K D W).drop 29).take 1 = [.bld s n] := rfl
theorem caC_k {m : Nat} (h : m < 9) : ((caC p s n v K D W).drop (2 + m)).take 1 = [.dc (ci (K m))] := by
  match m, h with
  | 0, _ => rfl | 1, _ => rfl | 2, _ => rfl | 3, _ => rfl | 4, _ => rfl | 5, _ => rfl | 6, _ => rfl | 7, _ => rfl | 8, _ => rfl
theorem caC_d {m : Nat} (h : m < 9) : ((caC p s n v K D W).drop (11 + m)).take 1 = [.dc (.raw (.bool (D m)))] := by
  match m, h with
  | 0, _ => rfl | 1, _ => rfl | 2, _ => rfl | 3, _ => rfl | 4, _ => rfl | 5, _ => rfl | 6, _ => rfl | 7, _ => rfl | 8, _ => rfl
theorem caC_w {m : Nat} (h : m < 9) : ((caC p s n v K D W).drop (20 + m)).take 1 = [.dc (ci (W m))] := by
  match m, h with
  | 0, _ => rfl | 1, _ => rfl | 2, _ => rfl | 3, _ => rfl | 4, _ => rfl | 5, _ => rfl | 6, _ => rfl | 7, _ => rfl | 8, _ => rfl
theorem caP_1 {x : Int} : putAt (caC p s n v K D W) 1 [.dc (ci x)] = caC p s n x K D W := rfl
theorem caP_29 {s' n' : Nat} : putAt (caC p s n v K D W) 29 [.bld s' n'] = caC p s' n' v K D W := rfl
theorem caP_k {m : Nat} (h : m < 9) {x : Int} : putAt (caC p s n v K D W) (2 + m) [.dc (ci x)] = caC p s n v (upd K m x) D W := by
  match m, h with
  | 0, _ => rfl | 1, _ => rfl | 2, _ => rfl | 3, _ => rfl | 4, _ => rfl | 5, _ => rfl | 6, _ => rfl | 7, _ => rfl | 8, _ => rfl
theorem caP_d {m : Nat} (h : m < 9) {x : Bool} : putAt (caC p s n v K D W) (11 + m) [.dc (.raw (.bool x))] = caC p s n v K (upd D m x) W := by
  match m, h with
  | 0, _ => rfl | 1, _ => rfl | 2, _ => rfl | 3, _ => rfl | 4, _ => rfl | 5, _ => rfl | 6, _ => rfl | 7, _ => rfl | 8, _ => rfl
theorem caP_w {m : Nat} (h : m < 9) {x : Int} : putAt (caC p s n v K D W) (20 + m) [.dc (ci x)] = caC p s n v K D (upd W m x) := by
  match m, h with
  | 0, _ => rfl | 1, _ => rfl | 2, _ => rfl | 3, _ => rfl | 4, _ => rfl | 5, _ => rfl | 6, _ => rfl | 7, _ => rfl | 8, _ => rfl
theorem caC_kp {J : List Nat} : kpCs J (caC p s n v K D W) = (memN p J && memN s J) := by
  simp only [caC, kpCs, kpC, Bool.true_and, Bool.and_true]
theorem caC_id : idsL (caC p s n v K D W) = [p, s] := rfl
theorem caC_ren {f : Nat → Nat} : (caC p s n v K D W).map (renC f) = caC (f p) (f s) n v K D W := rfl
theorem caC_ct {m : Nat} : ctCs m (caC p s n v K D W) = jkC (decide (m ≤ p)) (decide (m ≤ s)) (caC p s n v K D W) := by
  by_cases h1 : m ≤ p <;> by_cases h2 : m ≤ s <;> simp [caC, ctCs, ctC, jkC, h1, h2]
theorem caC_ka {A : List Nat} : kaCs A (caC p s n v K D W) = jkC (memN p A) (memN s A) (caC p s n v K D W) := by
  cases h1 : memN p A <;> cases h2 : memN s A <;> simp [caC, kaCs, kaC, jkC, h1, h2]
theorem caC_kl {i : Nat} : klCs i (caC p s n v K D W) = jkC (nq p i) (nq s i) (caC p s n v K D W) := by
  cases h1 : nq p i <;> cases h2 : nq s i <;> simp [caC, klCs, klC, jkC, h1, h2]
theorem caC_kill {f : Nat → Bool} : (caC p s n v K D W).map (killC f) = jkC (f p) (f s) (caC p s n v K D W) := by
  cases h1 : f p <;> cases h2 : f s <;> simp [caC, killC, Cel.keep, jkC, h1, h2]
theorem caJ_29 {s' n' : Nat} : putAt ((caC p s n v K D W).set 29 .junk) 29 [.bld s' n'] = caC p s' n' v K D W := rfl
theorem caJ_len : ((caC p s n v K D W).set 29 .junk).length = 30 := rfl
end
attribute [go_sem] caC_len caC_0 caC_0' caC_1 caC_29 caC_k caC_d caC_w caP_1 caP_29 caP_k caP_d caP_w caC_kp caC_id caC_ren caC_ct caC_ka caC_kl jk_ff jk_ft bneff bnetf caC_kill caJ_29 caJ_len
theorem evJ_5 {call : CallT} {d : Option Nat} {f : FuncId} {avs : List AV} {st : AS} {a0 a1 a2 a3 a4 : Nat} : evJ call d f avs st [a0, a1, a2, a3, a4] = evB call d f avs st [a0, a1, a2, a3, a4] (dstN [a0, a1, a2, a3, a4] && kpH [a0, a1, a2, a3, a4] st.hp [a0, a1, a2, a3, a4] && kpVs [a0, a1, a2, a3, a4] avs) := evJ_e _
def ci0 (i : Int) : List DC := [ci i]
abbrev caH (gs : List Gr) (ws : List Wt) (v : Int) (K : Nat → Int) (D : Nat → Bool) (W : Nat → Int) (sn : List Int) : List AObj := [.box (caC 1 4 sn.length v K D W), .box [.bld 2 gs.length, .bld 3 ws.length], .arr 0 3 (gs.map Gr.e), .arr 0 2 (ws.map Wt.e), .arr 0 1 (sn.map ci0)]
theorem grant_oy {gs : List Gr} (ws : List Wt) (hs : Srt gs) (hl : gs.length ≤ 100000) (c : Int) (h : isIn gs c = true) : EV G (Tb (bs bb)) 78 [.one (.ptr 0 0), vi c] (fileH gs ws) = some (.one (.ept 1 (pos gs c) 3 0), fileH gs ws) := by
  refine EV_run rfl ?_
  obtain ⟨hk, he⟩ := (isIn_iff hs c).1 h
  have q := place_v (G := G) (bb := bb) ws hs hl c
  rw [h] at q
  simp (disch := omega) only [go_sem, h78c, q]
theorem grant_on {gs : List Gr} (ws : List Wt) (hs : Srt gs) (hl : gs.length ≤ 100000) (c : Int) (h : isIn gs c = false) : EV G (Tb (bs bb)) 78 [.one (.ptr 0 0), vi c] (fileH gs ws) = some (.one (.dc (.raw (.pointer none))), fileH gs ws) := by
  refine EV_run rfl ?_
  have q := place_v (G := G) (bb := bb) ws hs hl c
  rw [h] at q
  simp (disch := omega) only [go_sem, h78c, q]
def lvF (gs : List Gr) (c : Int) : Int := if isIn gs c = true then (grE gs c).l else -1
def brF (gs : List Gr) (c : Int) : Bool := if isIn gs c = true then decide ((grE gs c).t ≠ (grE gs c).l) else false
theorem level_v {gs : List Gr} (ws : List Wt) (hs : Srt gs) (hl : gs.length ≤ 100000) (v : Int) (K : Nat → Int) (D : Nat → Bool) (W : Nat → Int) (sn : List Int) (c : Int) :
    EV G (Tb (bs bb)) 132 [.one (.ptr 0 0), vi c] (caH gs ws v K D W sn) = some (.tup [.one (.dc (ci (lvF gs c))), .one (.dc (.raw (.bool (brF gs c))))], caH gs ws v K D W sn) := by
  refine EV_run rfl ?_
  unfold lvF brF
  cases h : isIn gs c with
  | true =>
    have q := grant_oy (G := G) (bb := bb) ws hs hl c h
    obtain ⟨hk, he⟩ := (isIn_iff hs c).1 h
    have eg : (gs.map Gr.e)[pos gs c]? = some [ci (grE gs c).c, ci (grE gs c).l, ci (grE gs c).t] := by rw [List.getElem?_map, List.getElem?_eq_getElem hk, grE, grAt gs _ hk]; rfl
    generalize grE gs c = g at *
    simp (disch := omega) only [go_sem, h132c, q, evJ_5, eg]
  | false =>
    have q := grant_on (G := G) (bb := bb) ws hs hl c h
    simp (disch := omega) only [go_sem, h132c, q, evJ_5]
end
section
variable {G : Glob} {bb : Bool}
theorem sameW_v (l : List Wt) (hl : l.length ≤ 1000000) : EV G (Tb (bs bb)) 65 [vl (l.map Wt.e), vl (l.map Wt.e)] [] = some (vb true, []) := by
  refine EV_run rfl ?_
  simp (disch := omega) only [go_sem, h65c]
  rw [EL_loop (fun j => ⟨(vl (l.map Wt.e) :: vl (l.map Wt.e) :: jk 3 (vi j :: jk 20 [])), []⟩) l.length ?_ ?_]
  rotate_left
  · rfl
  · intro j hj
    have eg : (l.map Wt.e)[j]? = some [ci l[j].c, ci l[j].k] := by rw [List.getElem?_map, List.getElem?_eq_getElem hj]; rfl
    generalize l[j] = g at *
    simp (disch := omega) only [go_sem, h65l0, eg]
  simp (disch := omega) only [go_sem, h65l0]
theorem same_v (gs : List Gr) (ws : List Wt) (hl : gs.length ≤ 1000000) (hw : ws.length ≤ 1000000) : EV G (Tb (bs bb)) 17 [flV gs ws, flV gs ws] [] = some (vb true, []) := by
  refine EV_run rfl ?_
  have q := sameW_v (G := G) (bb := bb) ws hw
  simp (disch := omega) only [go_sem, h17c, q]
  rw [EL_loop (fun j => ⟨(jk 2 (.one (.ptr 0 0) :: .one (.ptr 1 0) :: jk 1 (vi j :: jk 33 []))), [.box [.dc (.slc (gs.map Gr.e)), .dc (.slc (ws.map Wt.e))], .box [.dc (.slc (gs.map Gr.e)), .dc (.slc (ws.map Wt.e))]]⟩) gs.length ?_ ?_]
  rotate_left
  · rfl
  · intro j hj
    have eg : (gs.map Gr.e)[j]? = some [ci gs[j].c, ci gs[j].l, ci gs[j].t] := by rw [List.getElem?_map, List.getElem?_eq_getElem hj]; rfl
    generalize gs[j] = g at *
    simp (disch := omega) only [go_sem, h17l0, eg]
  simp (disch := omega) only [go_sem, h17l0]
end
section
variable {G : Glob} {bb : Bool}
def fewB (gs : List Gr) (ws : List Wt) : Bool := decide (gs.length ≤ 12 ∧ ws.length ≤ 12)
theorem few_v (gs : List Gr) (ws : List Wt) : EV G (Tb (bs bb)) 11 [flV gs ws] [] = some (vb (fewB gs ws), []) := by
  refine EV_run rfl ?_
  unfold fewB
  by_cases h1 : gs.length ≤ 12
  · have h1' : (gs.length : Int) ≤ 12 := by omega
    by_cases h2 : ws.length ≤ 12
    · have h2' : (ws.length : Int) ≤ 12 := by omega
      rw [decide_eq_true ⟨h1, h2⟩]
      simp (disch := omega) only [go_sem, h11c, h1', h2', decide_true]
    · have h2' : ¬ (ws.length : Int) ≤ 12 := by omega
      rw [decide_eq_false (fun h => h2 h.2)]
      simp (disch := omega) only [go_sem, h11c, h1', h2', decide_false]
  · have h1' : ¬ (gs.length : Int) ≤ 12 := by omega
    rw [decide_eq_false (fun h => h1 h.1)]
    simp (disch := omega) only [go_sem, h11c, h1', decide_false]
theorem few_p {gs : List Gr} {ws : List Wt} (h : fewB gs ws = true) : gs.length ≤ 12 ∧ ws.length ≤ 12 := by simpa [fewB] using h
end
section
variable {G : Glob} {bb : Bool}
theorem byts_app {a b : List Int} (ha : Byts a) (hb : Byts b) : Byts (a ++ b) := fun x hx => by
  rcases List.mem_append.1 hx with h | h
  · exact ha x h
  · exact hb x h
theorem ltr_byts (k : Int) : Byts (ltr k) := by
  unfold ltr
  repeat' split
  all_goals exact byts1 (by omega)
theorem txG_byts (g : Gr) : Byts (txG dcR g) := byts_app (byts_app (byts_app (byts_app (dcR_byts _) (byts1 (by omega))) (dcR_byts _)) (byts1 (by omega))) (dcR_byts _)
theorem txW_byts (w : Wt) : Byts (txW dcR w) := byts_app (dcR_byts _) (ltr_byts _)
theorem jn_byts : ∀ ps : List (List Int), (∀ p ∈ ps, Byts p) → Byts (jnI [44] ps)
  | [], _ => fun x hx => by cases hx
  | [a], h => h a List.mem_cons_self
  | a :: b :: l, h => by
    rw [jnI]
    exact byts_app (byts_app (h a List.mem_cons_self) (byts1 (by omega))) (jn_byts (b :: l) (fun p hp => h p (List.mem_cons_of_mem _ hp)))
theorem txF_byts (gs : List Gr) (ws : List Wt) : Byts (txF dcR gs ws) := by
  unfold txF
  refine byts_app (byts_app (jn_byts _ (fun p hp => ?_)) (byts1 (by omega))) (jn_byts _ (fun p hp => ?_))
  · obtain ⟨g, _, rfl⟩ := List.mem_map.1 hp
    exact txG_byts g
  · obtain ⟨w, _, rfl⟩ := List.mem_map.1 hp
    exact txW_byts w
theorem psR_len {s : List Int} (hs : Byts s) (hl : s.length ≤ 1000) : (psR s).1.length ≤ 100000 ∧ (psR s).2.1.length ≤ 100000 := by
  unfold psR
  by_cases h : s.length > 200
  · rw [if_pos h]; exact ⟨by simp, by simp⟩
  · rw [if_neg h, psB_cut]
    obtain ⟨⟨ba, la⟩, bb', lb⟩ := ctI_byts hs 59
    have l1 := (prt_b ba).2.2
    have l2 := (prt_b bb').2.2
    have e1 : (psG (ctI 59 s).1).length = (prt (ctI 59 s).1).length := by unfold psG; rw [List.length_map]
    have e2 : (psW (ctI 59 s).2.1).length = (prt (ctI 59 s).2.1).length := by unfold psW; rw [List.length_map]
    split
    · exact ⟨by simp, by simp⟩
    · rename_i gs ws hq
      split at hq
      · injection hq with hq
        injection hq with h1 h2
        subst h1; subst h2
        split
        · simp only; omega
        · exact ⟨by simp, by simp⟩
      · cases hq
theorem awake_s : EV G (Tb (bsS true)) 10 [] [] = some (vb true, []) := up (EV_base rfl rfl)
theorem strings_v (hG : G 0 = some alD) (gs : List Gr) (ws : List Wt) (s : List Int) (hs : Byts s) (hg : ∀ g ∈ gs, inR g.c ∧ inR g.l ∧ inR g.t) (hw : ∀ w ∈ ws, inR w.c) :
    EV G (Tb (bsS true)) 8 [flV gs ws, sv s] [] = some (vb true, []) := by
  refine EV_run rfl ?_
  have qf := up (few_v (G := G) (bb := true) gs ws)
  have sz : ((str s).size : Int) = s.length := by rw [str_size]
  cases hf : fewB gs ws with
  | false =>
    rw [hf] at qf
    simp (disch := omega) only [go_sem, h8c, awake_s, qf]
    try rfl
  | true =>
    rw [hf] at qf
    obtain ⟨h1, h2⟩ := few_p hf
    by_cases h220 : s.length > 220
    · have h' : (s.length : Int) > 220 := by omega
      simp (disch := omega) only [go_sem, h8c, awake_s, qf, sz, h']
      try rfl
    · have h' : ¬ (s.length : Int) > 220 := by omega
      have q1 := up (rcopy_v (G := G) (bb := true) gs ws (by omega) (by omega))
      have q2 := formatS_v (G := G) (bb := true) gs ws (by omega) (by omega) hg hw
      have q3 := up (rformat_v (G := G) (bb := true) gs ws (by omega) (by omega) hg hw)
      have q4 := up (rerr_v (G := G) (bb := true) gs ws (by omega) (by omega))
      have q6 := up (same_v (G := G) (bb := true) gs ws (by omega) (by omega))
      have q7 := parse_v (G := G) (bb := true) hG s hs (by omega)
      have q8 := up (rparse_v (G := G) (bb := true) s hs (by omega))
      obtain ⟨l1, l2⟩ := psR_len hs (by omega)
      have q9 := up (same_v (G := G) (bb := true) (psR s).1 (psR s).2.1 (by omega) (by omega))
      have tg : List.take gs.length (gs.map Gr.e) = gs.map Gr.e := List.take_of_length_le (by simp)
      have tw : List.take ws.length (ws.map Wt.e) = ws.map Wt.e := List.take_of_length_le (by simp)
      generalize psR s = r at *
      obtain ⟨g', w', c'⟩ := r
      simp only at q7 q8 q9 l1 l2
      by_cases he : (chk gs ws).2 = 0
      · have ht := psR_tx he
        have lt : (txF dcR gs ws).length ≤ 200 := by
          refine Classical.byContradiction fun hn => ?_
          unfold psR at ht
          rw [if_pos (by omega)] at ht
          have := congrArg (fun x => x.2.2) ht
          simp at this
        have q5 := parse_v (G := G) (bb := true) hG (txF dcR gs ws) (txF_byts gs ws) (by omega)
        rw [ht] at q5
        rw [he] at q4
        generalize txF dcR gs ws = T at *
        simp (disch := omega) only [go_sem, h8c, awake_s, qf, sz, h', q1, q2, q3, q4, q5, q6, q7, q8, q9, tg, tw]
        try rfl
      · generalize (chk gs ws).2 = e at *
        generalize txF dcR gs ws = T at *
        simp (disch := omega) only [go_sem, h8c, awake_s, qf, sz, h', q1, q2, q3, q4, he, q7, q8, q9, tg, tw]
        try rfl
end
section
variable {G : Glob} {bb : Bool}
structure Ca where
  gs : List Gr
  ws : List Wt
  v : Int
  K : Nat → Int
  D : Nat → Bool
  W : Nat → Int
  sn : List Int
abbrev Ca.h (x : Ca) : List AObj := caH x.gs x.ws x.v x.K x.D x.W x.sn
def effF (x : Ca) (c k : Int) : Ca :=
  if k = 2 then (if lvF x.gs c ≥ 1 then { x with sn := x.sn ++ [x.v], K := upd x.K c.toNat x.v, D := upd x.D c.toNat false } else { x with sn := x.sn ++ [x.v] })
  else if k = 3 then (if lvF x.gs c ≥ 1 then { x with v := x.W c.toNat, K := upd x.K c.toNat (x.W c.toNat), D := upd x.D c.toNat false } else { x with v := x.W c.toNat })
  else x
def aloF (x : Ca) (k c u : Int) : Option Ca :=
  if k = 2 ∧ lvF x.gs c ≥ 1 ∧ x.K c.toNat ≠ -1 then some { x with sn := x.sn ++ [x.K c.toNat] }
  else if k = 3 ∧ lvF x.gs c ≥ 2 ∧ brF x.gs c = false then some { x with K := upd x.K c.toNat u, D := upd x.D c.toNat true }
  else none
theorem fvT_c {st : AS} {id off : Nat} {y : Cel} {p s n : Nat} {v : Int} {K : Nat → Int} {D : Nat → Bool} {W : Nat → Int} (h : off + 1 ≤ 30) : fvT 1 id off [y] st (some (.box (caC p s n v K D W))) = some (⟨st.sl, st.hp.set id (.box (putAt (caC p s n v K D W) off [y]))⟩, [id], [id]) := fvT_b rfl h
theorem tn1 (c : Int) : c.toNat * 1 = c.toNat := Nat.mul_one _
set_option maxHeartbeats 2000000 in
theorem effect_v (x : Ca) (hs : Srt x.gs) (hl : x.gs.length ≤ 100000) (hn : x.sn.length ≤ 100000) (c k : Int) (hc : 1 ≤ c ∧ c ≤ 8) :
    EV G (Tb (bs bb)) 131 [.one (.ptr 0 0), (Wt.mk c k).v] x.h = some (.tup [], (effF x c k).h) := by
  obtain ⟨gs, ws, v, K, D, W, sn⟩ := x
  refine EV_run rfl ?_
  have hcn : c.toNat < 9 := by omega
  unfold effF
  by_cases k2 : k = 2
  · have q := level_v (G := G) (bb := bb) ws hs hl v K D W (sn ++ [v]) c
    simp only at hn hs hl
    simp only [caH, List.length_append, List.length_cons, List.length_nil, List.map_append, List.map_cons, List.map_nil, Nat.zero_add, ci0] at q
    rw [if_pos k2]
    by_cases hlv : lvF gs c ≥ 1
    · rw [if_pos hlv]
      simp (disch := omega) only [go_sem, h131c, fvT_c, evJ_5, eq_true k2, q, hlv, tn1, List.take_length, List.length_append, List.length_cons, List.length_nil, List.map_append, List.map_cons, List.map_nil, ci0]
      simp only [Ca.h, caH, List.length_append, List.length_cons, List.length_nil, List.map_append, List.map_cons, List.map_nil, ci0, Nat.zero_add]
    · rw [if_neg hlv]
      simp (disch := omega) only [go_sem, h131c, fvT_c, evJ_5, eq_true k2, q, hlv, tn1, List.take_length, List.length_append, List.length_cons, List.length_nil, List.map_append, List.map_cons, List.map_nil, ci0]
      simp only [Ca.h, caH, List.length_append, List.length_cons, List.length_nil, List.map_append, List.map_cons, List.map_nil, ci0, Nat.zero_add]
  · rw [if_neg k2]
    by_cases k3 : k = 3
    · have q := level_v (G := G) (bb := bb) ws hs hl (W c.toNat) K D W sn c
      rw [if_pos k3]
      by_cases hlv : lvF gs c ≥ 1
      · rw [if_pos hlv]
        simp (disch := omega) only [go_sem, h131c, fvT_c, evJ_5, k2, eq_true k3, q, hlv, tn1, List.take_length]
      · rw [if_neg hlv]
        simp (disch := omega) only [go_sem, h131c, fvT_c, evJ_5, k2, eq_true k3, q, hlv, tn1, List.take_length]
    · rw [if_neg k3]
      simp (disch := omega) only [go_sem, h131c, fvT_c, k2, k3]
set_option maxHeartbeats 2000000 in
theorem alone_v (x : Ca) (hs : Srt x.gs) (hl : x.gs.length ≤ 100000) (hn : x.sn.length ≤ 100000) (k c l u : Int) (hc : 1 ≤ c ∧ c ≤ 8) :
    EV G (Tb (bs bb)) 130 [.one (.ptr 0 0), .agg [.dc (ci k), .dc (ci c), .dc (ci l), .dc (ci u)]] x.h = some (vb (aloF x k c u).isSome, ((aloF x k c u).getD x).h) := by
  obtain ⟨gs, ws, v, K, D, W, sn⟩ := x
  refine EV_run rfl ?_
  have hcn : c.toNat < 9 := by omega
  have q := level_v (G := G) (bb := bb) ws hs hl v K D W sn c
  simp only at hn hs hl
  unfold aloF
  by_cases k2 : k = 2
  · have k3 : ¬ k = 3 := by omega
    by_cases h1 : lvF gs c ≥ 1
    · by_cases h2 : K c.toNat = -1
      · rw [if_neg (fun h => h.2.2 h2), if_neg (fun h => k3 h.1)]
        simp (disch := omega) only [go_sem, h130c, evJ_5, eq_true k2, k3, q, h1, eq_true h2, tn1]
        try rfl
      · rw [if_pos ⟨k2, h1, h2⟩]
        simp (disch := omega) only [go_sem, h130c, evJ_5, eq_true k2, k3, q, h1, h2, tn1, List.take_length]
        simp only [Ca.h, caH, List.length_append, List.length_cons, List.length_nil, List.map_append, List.map_cons, List.map_nil, ci0, Nat.zero_add, Option.isSome_some, Option.getD_some]
    · rw [if_neg (fun h => h1 h.2.1), if_neg (fun h => k3 h.1)]
      simp (disch := omega) only [go_sem, h130c, evJ_5, eq_true k2, k3, q, h1, tn1]
      try rfl
  · rw [if_neg (fun h => k2 h.1)]
    by_cases k3 : k = 3
    · by_cases h1 : lvF gs c ≥ 2
      · cases h2 : brF gs c with
        | true =>
          rw [h2] at q
          rw [if_neg (by simp)]
          simp (disch := omega) only [go_sem, h130c, evJ_5, k2, eq_true k3, q, h1, tn1]
          try rfl
        | false =>
          rw [h2] at q
          rw [if_pos ⟨k3, h1, rfl⟩]
          simp (disch := omega) only [go_sem, h130c, evJ_5, k2, eq_true k3, q, h1, tn1]
          try rfl
      · rw [if_neg (fun h => h1 h.2.1)]
        simp (disch := omega) only [go_sem, h130c, evJ_5, k2, eq_true k3, q, h1, tn1]
        try rfl
    · rw [if_neg (fun h => k3 h.1)]
      simp (disch := omega) only [go_sem, h130c, evJ_5, k2, k3, q, tn1]
      try rfl
end
end Go.Proofs.YtinageiefahjfaaGreatDoor
