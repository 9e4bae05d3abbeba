/- The reference: breaks, whether an act is held up, where clients are. Conditions: none. -/
import Derived.Test.YtinageiefahjfaaGreatDoorUm
import Derived.Test.YtinageiefahjfaaGreatDoorTn
import Derived.Test.YtinageiefahjfaaGreatDoorTl
import Derived.Test.YtinageiefahjfaaGreatDoorRb
namespace Go.Proofs.YtinageiefahjfaaGreatDoor
set_option linter.unusedSimpArgs false
set_option linter.unusedVariables false
set_option maxRecDepth 4000
section
variable {G : Glob} {bb : Bool}
def An.e (a : An) : List DC := [.raw (.bool a.d), .slc (a.b.map Br.e), .slc (a.f.map Wt.e)]
abbrev An.v (a : An) : AV := .agg [.dc (.raw (.bool a.d)), .dc (.slc (a.b.map Br.e)), .dc (.slc (a.f.map Wt.e))]
theorem req_map (gs : List Gr) (c l : Int) : (reqG gs c l).map Gr.e = (gs.map Gr.e).set (pos gs c) [ci (grE gs c).c, ci l, ci l] := by
  unfold reqG; rw [List.map_set]; rfl
theorem ack_map (gs : List Gr) (c : Int) : (ackG gs c).map Gr.e = (gs.map Gr.e).set (pos gs c) [ci (grE gs c).c, ci (grE gs c).t, ci (grE gs c).t] := by
  unfold ackG; rw [List.map_set]; rfl
theorem req_len (gs : List Gr) (c l : Int) : (reqG gs c l).length = gs.length := by simp [reqG]
theorem ack_len (gs : List Gr) (c : Int) : (ackG gs c).length = gs.length := by simp [ackG]
theorem Srt_set {gs : List Gr} (hs : Srt gs) {c : Int} (hi : isIn gs c = true) (g' : Gr) (hg : g'.c = c) : Srt (gs.set (pos gs c) g') := by
  obtain ⟨f, h1, h2, _, _⟩ := set_map hs hi g' hg
  rw [h1]
  exact Srt_map h2 hs
theorem Srt_del {gs : List Gr} (hs : Srt gs) {c : Int} (hi : isIn gs c = true) : Srt (delG gs c) := by
  rw [delG_eq hs hi]
  exact List.Pairwise.sublist List.filter_sublist hs
theorem del_len {gs : List Gr} (hs : Srt gs) {c : Int} (hi : isIn gs c = true) : (delG gs c).length = gs.length - 1 := by
  obtain ⟨hp, he⟩ := (isIn_iff hs c).1 hi
  simp [delG]; omega
theorem thA_1 (p : List Gr × List Wt × List Br × List Wt) : (thA p).1 = p.1 := rfl
theorem thA_2 (p : List Gr × List Wt × List Br × List Wt) : (thA p).2.1 = p.2.1 := rfl
theorem useF_f (gs : List Gr) (ws : List Wt) (c k : Int) : (useF gs ws c k).2.2.f = [] := by
  unfold useF
  split
  · split <;> rfl
  · rfl
set_option maxHeartbeats 2000000 in
theorem step_v (hG : G 0 = some alD) (gs : List Gr) (ws : List Wt) (a : Ac) (hs : Srt gs) (hk : ∀ w ∈ ws, kOK w.k) (ha : 0 ≤ a.k ∧ a.k ≤ 5) (hi : a.k ≠ 0 → isIn gs a.c = true) (hl : gs.length + ws.length ≤ 900) :
    EV G (Tb (bs bb)) 64 [.one (.ptr 0 0), a.v] (fileH gs ws) = some (An.v (stp gs ws a).2.2, fileH (stp gs ws a).1 (stp gs ws a).2.1) := by
  refine EV_run rfl ?_
  have q := place_v (G := G) (bb := bb) ws hs (by omega) a.c
  unfold stp
  by_cases k1 : a.k = 1
  · rw [if_pos k1]
    have h := hi (by omega)
    obtain ⟨hp, he⟩ := (isIn_iff hs a.c).1 h
    have eg : (gs.map Gr.e)[pos gs a.c]? = some [ci (grE gs a.c).c, ci (grE gs a.c).l, ci (grE gs a.c).t] := by rw [List.getElem?_map, List.getElem?_eq_getElem hp, grE, grAt gs _ hp]; rfl
    have hp' : pos gs a.c < (gs.map Gr.e).length := by simpa using hp
    have e1 := fun x => set_get (x := x) hp'
    simp only [fileH, req_map, req_len]
    simp (disch := omega) only [go_sem, h64c, q, eq_true k1, eg, e1, List.set_set, List.length_set]
    rfl
  rw [if_neg k1]
  by_cases k4 : a.k = 4
  · rw [if_pos k4]
    have h := hi (by omega)
    obtain ⟨hp, he⟩ := (isIn_iff hs a.c).1 h
    have eg : (gs.map Gr.e)[pos gs a.c]? = some [ci (grE gs a.c).c, ci (grE gs a.c).l, ci (grE gs a.c).t] := by rw [List.getElem?_map, List.getElem?_eq_getElem hp, grE, grAt gs _ hp]; rfl
    have hp' : pos gs a.c < (gs.map Gr.e).length := by simpa using hp
    have e1 := fun x => set_get (x := x) hp'
    have q1 := thr_v (bb := bb) hG (ackG gs a.c) ws (Srt_set hs h _ (grE_mem hs h).2) hk (by rw [ack_len]; omega)
    simp only [fileH, ack_map, ack_len] at q1
    rw [thA_1, thA_2]
    simp only [fileH, thA]
    simp (disch := omega) only [go_sem, h64c, q, k1, eq_true k4, eg, e1, List.set_set, List.length_set, q1]
  rw [if_neg k4]
  by_cases k5 : a.k = 5
  · rw [if_pos k5]
    have h := hi (by omega)
    obtain ⟨hp, he⟩ := (isIn_iff hs a.c).1 h
    have q2 := delG_v (G := G) (bb := bb) gs (pos gs a.c) hp (by omega)
    have q1 := thr_v (bb := bb) hG (delG gs a.c) ws (Srt_del hs h) hk (by rw [del_len hs h]; omega)
    rw [show gs.take (pos gs a.c) ++ gs.drop (pos gs a.c + 1) = delG gs a.c from rfl] at q2
    simp only [fileH, del_len hs h] at q1
    rw [thA_1, thA_2]
    simp only [fileH, thA]
    simp (disch := omega) only [go_sem, h64c, q, k1, k4, eq_true k5, q1, q2]
  rw [if_neg k5]
  have q1 := use_v (bb := bb) hG gs ws hs a.c a.k (by unfold kOK; omega) (by omega) (by omega)
  simp only [fileH] at q1
  simp only [fileH, useF_f]
  simp (disch := omega) only [go_sem, h64c, q, k1, k4, k5, q1]
  unfold An.v
  rw [useF_f]
  rfl
end
section
variable {G : Glob} {bb : Bool}
theorem evJ_6 {call : CallT} {d : Option Nat} {f : FuncId} {avs : List AV} {st : AS} {a0 a1 a2 a3 a4 a5 : Nat} : evJ call d f avs st [a0, a1, a2, a3, a4, a5] = evB call d f avs st [a0, a1, a2, a3, a4, a5] (dstN [a0, a1, a2, a3, a4, a5] && kpH [a0, a1, a2, a3, a4, a5] st.hp [a0, a1, a2, a3, a4, a5] && kpVs [a0, a1, a2, a3, a4, a5] avs) := evJ_e _
abbrev acsV (l : List Ac) : AV := vl (l.map Ac.e)
abbrev runH (gs : List Gr) (ws : List Wt) (out : List An) : List AObj := [.box [.ptr 1 0], .box [.bld 2 gs.length, .bld 3 ws.length], .arr 0 3 (gs.map Gr.e), .arr 0 2 (ws.map Wt.e), .box [.bld 5 out.length], .arr 0 3 (out.map An.e)]
theorem vd_k {gs : List Gr} {ws : List Wt} (h : Vd gs ws) : ∀ w ∈ ws, kOK w.k := fun w hw => kOK_us (h.wr w hw).2.1
theorem ac_in {gs : List Gr} {ws : List Wt} {a : Ac} (h : acErr gs ws a = 0) : (0 ≤ a.k ∧ a.k ≤ 5) ∧ (a.k ≠ 0 → isIn gs a.c = true) := by
  have hu : usErr gs ws a = 0 := by
    unfold acErr at h
    split at h
    · rename_i h1; exact absurd h h1
    · rename_i h1; exact Classical.not_not.1 h1
  obtain ⟨h1, h2, h3, h4, h5⟩ := us_ok hu
  refine ⟨h1, fun h0 => ?_⟩
  cases hi : isIn gs a.c with
  | true => rfl
  | false => exact absurd (h5.2 hi) h0
set_option maxHeartbeats 2000000 in
theorem p62_v (hG : G 0 = some alD) (gs : List Gr) (ws : List Wt) (out : List An) (hv : Vd gs ws) (i : Int) (a : Ac) (ho : out.length ≤ 1000) :
    EV G (Tb (bs bb)) 62 [vi i, a.v, .one (.ptr 0 0), .one (.ptr 4 0)] (runH gs ws out) = some (vi (acErr gs ws a), if acErr gs ws a = 0 then runH (stp gs ws a).1 (stp gs ws a).2.1 (out ++ [(stp gs ws a).2.2]) else runH gs ws out) := by
  refine EV_run rfl ?_
  have h1 := hv.gl
  have h2 := hv.wl
  have q := actErr_v (G := G) (bb := bb) gs ws hv.so a (by omega) (by omega)
  by_cases he : acErr gs ws a = 0
  · rw [if_pos he]
    rw [he] at q ⊢
    obtain ⟨h3, h4⟩ := ac_in he
    have q1 := step_v (G := G) (bb := bb) hG gs ws a hv.so (vd_k hv) h3 h4 (by omega)
    simp only [fileH] at q1
    simp only [runH]
    simp (disch := omega) only [go_sem, h62c, q, q1, List.take_length, List.length_append, List.length_cons, List.length_nil, List.map_append, List.map_cons, List.map_nil, An.e]
  · rw [if_neg he]
    simp (disch := omega) only [go_sem, h62c, q, he]
end
section
variable {G : Glob} {bb : Bool}
def rnX : List Gr → List Wt → List An → Nat → List Ac → (List Gr × List Wt × List An) × Int × Int
  | gs, ws, out, n, [] => ((gs, ws, out), 0, 0)
  | gs, ws, out, n, a :: l => if acErr gs ws a = 0 then rnX (stp gs ws a).1 (stp gs ws a).2.1 (out ++ [(stp gs ws a).2.2]) (n + 1) l else ((gs, ws, out), n, acErr gs ws a)
def eaS (l : List Ac) (k : Nat) (gs : List Gr) (ws : List Wt) (out : List An) : AS := ⟨(jk 1 (.one (.fn 62 [.ptr 0 0, .ptr 4 0]) :: jk 7 (acsV l :: vi l.length :: vi k :: jk 13 []))), runH gs ws out⟩
theorem each61_key (hG : G 0 = some alD) (l : List Ac) (hl : l.length ≤ 100) : ∀ (rest : List Ac) (k : Nat) (gs : List Gr) (ws : List Wt) (out : List An), l.drop k = rest → k ≤ l.length → Vd gs ws → Hd gs ws → out.length ≤ k →
    retZ false [RetV.tmp 4, RetV.tmp 5] 6 (sqK (EV G (Tb (bs bb))) G ((HC.region [Oo 4 (AI.mov (Ki 0)), Oo 5 (AI.mov (Ki 0))]).seq HC.ret) (blkK 0 (EL (EV G (Tb (bs bb))) G h61l0 [1, 7, 0, 0] 6 (eaS l k gs ws out)))) =
      some (twoI (rnX gs ws out k rest).2, runH (rnX gs ws out k rest).1.1 (rnX gs ws out k rest).1.2.1 (rnX gs ws out k rest).1.2.2)
  | [], k, gs, ws, out, hd, hk, hv, hh, ho => by
    have hkl : k = l.length := by
      have := congrArg List.length hd
      simp at this; omega
    subst hkl
    rw [EL_unf, rnX]
    unfold eaS
    simp only [runH]
    simp (disch := omega) only [go_sem, h61l0]
  | a :: rest, k, gs, ws, out, hd, hk, hv, hh, ho => by
    have hkl : k < l.length := by
      have := congrArg List.length hd
      simp at this; omega
    have ha : l[k] = a := by
      have := List.drop_eq_getElem_cons hkl
      rw [hd] at this
      injection this with this _
      exact this.symm
    have hd' : l.drop (k + 1) = rest := by
      have := List.drop_eq_getElem_cons hkl
      rw [hd] at this
      injection this with _ this
      exact this.symm
    have eg : (l.map Ac.e)[k]? = some [ci a.k, ci a.c, ci a.l] := by rw [List.getElem?_map, List.getElem?_eq_getElem hkl, ha]; rfl
    have q := p62_v (bb := bb) hG gs ws out hv k a (by omega)
    by_cases he : acErr gs ws a = 0
    · obtain ⟨h1, h2⟩ := stp_ok hv hh he
      have ih := each61_key hG l hl rest (k + 1) (stp gs ws a).1 (stp gs ws a).2.1 (out ++ [(stp gs ws a).2.2]) hd' (by omega) h1 h2 (by simp; omega)
      have hr : rnK [1, 7, 0, 0] 6 (EC (EV G (Tb (bs bb))) G h61l0 (eaS l k gs ws out)) = some (eaS l (k + 1) (stp gs ws a).1 (stp gs ws a).2.1 (out ++ [(stp gs ws a).2.2])) := by
        unfold eaS
        rw [if_pos he, he] at q
        generalize stp gs ws a = s at *
        simp only [runH] at q ⊢
        simp (disch := omega) only [go_sem, h61l0, evJ_6, eg, q]
      rw [EL_unf, fnK_of hr, ih, rnX, if_pos he]
    · rw [EL_unf, rnX, if_neg he]
      unfold eaS
      rw [if_neg he] at q
      simp only [runH] at q ⊢
      simp (disch := omega) only [go_sem, h61l0, evJ_6, eg, q, he]
theorem each61_v (hG : G 0 = some alD) (l : List Ac) (hl : l.length ≤ 100) : EV G (Tb (bs bb)) 61 [acsV l, .one (.fn 62 [.ptr 0 0, .ptr 4 0])] (runH [] [] []) = some (twoI (rnX [] [] [] 0 l).2, runH (rnX [] [] [] 0 l).1.1 (rnX [] [] [] 0 l).1.2.1 (rnX [] [] [] 0 l).1.2.2) := by
  refine EV_run rfl ?_
  have q := each61_key (bb := bb) hG l hl l 0 [] [] [] rfl (by omega) Vd.nil Hd.nil (by simp)
  rw [← q]
  simp (disch := omega) only [go_sem, h61c]
  rfl
end
section
variable {G : Glob} {bb : Bool}
def ltr (k : Int) : List Int := if k = 0 then [111] else if k = 2 then [114] else if k = 3 then [119] else [63]
theorem c58 : (⟨#[58]⟩ : ByteArray) = str [58] := rfl
theorem c62 : (⟨#[62]⟩ : ByteArray) = str [62] := rfl
theorem c44 : (⟨#[44]⟩ : ByteArray) = str [44] := rfl
theorem c59 : (⟨#[59]⟩ : ByteArray) = str [59] := rfl
theorem c111 : (⟨#[111]⟩ : ByteArray) = str [111] := rfl
theorem c114 : (⟨#[114]⟩ : ByteArray) = str [114] := rfl
theorem c119 : (⟨#[119]⟩ : ByteArray) = str [119] := rfl
theorem c63 : (⟨#[63]⟩ : ByteArray) = str [63] := rfl
theorem letter_v (k : Int) : EV G (Tb (bs bb)) 80 [vi k] [] = some (sv (ltr k), []) := by
  refine EV_run rfl ?_
  unfold ltr
  by_cases h0 : k = 0
  · simp (disch := omega) only [go_sem, h80c, eq_true h0, c111]
  · by_cases h2 : k = 2
    · simp (disch := omega) only [go_sem, h80c, h0, eq_true h2, c114]
    · by_cases h3 : k = 3
      · simp (disch := omega) only [go_sem, h80c, h0, h2, eq_true h3, c119]
      · simp (disch := omega) only [go_sem, h80c, h0, h2, h3, c63]
section
variable (D : Int → List Int)
def txG (g : Gr) : List Int := D g.c ++ [58] ++ D g.l ++ [62] ++ D g.t
def txW (w : Wt) : List Int := D w.c ++ ltr w.k
def txF (gs : List Gr) (ws : List Wt) : List Int := jnI [44] (gs.map (txG D)) ++ [59] ++ jnI [44] (ws.map (txW D))
abbrev foH (gs : List Gr) (ws : List Wt) (a b : List (List Int)) : List AObj := [.box [.dc (.slc (gs.map Gr.e)), .dc (.slc (ws.map Wt.e))], .arr 0 1 (a.map sS), .arr 0 1 (b.map sS)]
def fo0 (gs : List Gr) (ws : List Wt) (k : Nat) : AS := ⟨(jk 1 (.one (.ptr 0 0) :: jk 1 (.one (.bld 1 k) :: .one (.bld 2 0) :: jk 5 (vl (gs.map Gr.e) :: vi gs.length :: vi k :: jk 44 [])))), foH gs ws ((gs.take k).map (txG D)) []⟩
theorem fo0_round (hD : ∀ n, (D n).length ≤ 20) (gs : List Gr) (ws : List Wt) (hl : gs.length ≤ 1000000) (k : Nat) (hk : k < gs.length) (g : Gr) (hg : gs[k] = g) (h1 : EV G (Tb (bs bb)) 79 [vi g.c] [] = some (sv (D g.c), [])) (h2 : EV G (Tb (bs bb)) 79 [vi g.l] [] = some (sv (D g.l), [])) (h3 : EV G (Tb (bs bb)) 79 [vi g.t] [] = some (sv (D g.t), [])) :
    rnK [1, 1, 0, 5, 0, 0] 3 (EC (EV G (Tb (bs bb))) G h34l0 (fo0 D gs ws k)) = some (fo0 D gs ws (k + 1)) := by
  have eg : (gs.map Gr.e)[k]? = some [ci g.c, ci g.l, ci g.t] := by rw [List.getElem?_map, List.getElem?_eq_getElem hk, hg]; rfl
  have a1 := hD g.c
  have a2 := hD g.l
  have a3 := hD g.t
  have s1 : binV .add (sv (D g.c)) (sv [58]) = some (sv (D g.c ++ [58])) := sadd_s (by simp; omega)
  have s2 : binV .add (sv (D g.c ++ [58])) (sv (D g.l)) = some (sv (D g.c ++ [58] ++ D g.l)) := sadd_s (by simp; omega)
  have s3 : binV .add (sv (D g.c ++ [58] ++ D g.l)) (sv [62]) = some (sv (D g.c ++ [58] ++ D g.l ++ [62])) := sadd_s (by simp; omega)
  have s4 : binV .add (sv (D g.c ++ [58] ++ D g.l ++ [62])) (sv (D g.t)) = some (sv (txG D g)) := sadd_s (by simp; omega)
  have al := allLen_s ((gs.take k).map (txG D))
  have et : (gs.take (k + 1)).map (txG D) = (gs.take k).map (txG D) ++ [txG D g] := by rw [List.take_add_one, List.getElem?_eq_getElem hk, hg]; simp
  have ln : ((gs.take k).map (txG D)).length = k := by simp; omega
  have lm : (((gs.take k).map (txG D)).map sS).length = k := by simp; omega
  unfold fo0
  rw [et]
  generalize (gs.take k).map (txG D) = X at *
  subst ln
  generalize txG D g = y at *
  simp only [foH, List.map_append, List.map_cons, List.map_nil, sS]
  simp (disch := omega) only [go_sem, h34l0, eg, h1, h2, h3, c58, c62, s1, s2, s3, s4, al, List.take_length]
def fo1 (gs : List Gr) (ws : List Wt) (k : Nat) : AS := ⟨(jk 3 (.one (.bld 1 gs.length) :: .one (.bld 2 k) :: jk 29 (vl (ws.map Wt.e) :: vi ws.length :: vi k :: jk 20 []))), foH gs ws (gs.map (txG D)) ((ws.take k).map (txW D))⟩
theorem ltr_len (k : Int) : (ltr k).length = 1 := by
  unfold ltr
  repeat' split
  all_goals rfl
theorem fo1_round (hD : ∀ n, (D n).length ≤ 20) (gs : List Gr) (ws : List Wt) (hl : ws.length ≤ 1000000) (k : Nat) (hk : k < ws.length) (g : Wt) (hg : ws[k] = g) (h1 : EV G (Tb (bs bb)) 79 [vi g.c] [] = some (sv (D g.c), [])) :
    rnK [3, 0, 29, 0, 0] 3 (EC (EV G (Tb (bs bb))) G h34l1 (fo1 D gs ws k)) = some (fo1 D gs ws (k + 1)) := by
  have eg : (ws.map Wt.e)[k]? = some [ci g.c, ci g.k] := by rw [List.getElem?_map, List.getElem?_eq_getElem hk, hg]; rfl
  have a1 := hD g.c
  have a2 := ltr_len g.k
  have h2 := letter_v (G := G) (bb := bb) g.k
  have s1 : binV .add (sv (D g.c)) (sv (ltr g.k)) = some (sv (txW D g)) := sadd_s (by omega)
  have al := allLen_s ((ws.take k).map (txW D))
  have et : (ws.take (k + 1)).map (txW D) = (ws.take k).map (txW D) ++ [txW D g] := by rw [List.take_add_one, List.getElem?_eq_getElem hk, hg]; simp
  have ln : ((ws.take k).map (txW D)).length = k := by simp; omega
  have lm : (((ws.take k).map (txW D)).map sS).length = k := by simp; omega
  unfold fo1
  rw [et]
  generalize (ws.take k).map (txW D) = X at *
  subst ln
  generalize txW D g = y at *
  simp only [foH, List.map_append, List.map_cons, List.map_nil, sS]
  simp (disch := omega) only [go_sem, h34l1, eg, h1, h2, s1, al, List.take_length]
theorem jnI_len (s : List Int) (m : Nat) (hs : s.length ≤ 1) : ∀ l : List (List Int), (∀ a ∈ l, a.length ≤ m) → (jnI s l).length ≤ l.length * (m + 1)
  | [], h => by simp [jnI]
  | [a], h => by
    have := h a (by simp)
    rw [jnI]; simp; omega
  | a :: b :: l, h => by
    have h1 := h a (by simp)
    have ih := jnI_len s m hs (b :: l) (fun x hx => h x (by simp at hx ⊢; right; exact hx))
    rw [jnI]
    simp only [List.length_append, List.length_cons] at ih ⊢
    rw [Nat.add_mul (l.length + 1) 1 (m + 1)]
    omega
theorem joinV (l : List (List Int)) (h1 : l.length ≤ 1000) (h2 : (jnI [44] l).length ≤ 1000000) : EV G (Tb (bs bb)) 81 [vl (l.map sS), sv [44]] [] = some (sv (jnI [44] l), []) := by
  refine EV_base rfl ?_
  have e1 : strsO (l.map sS) = some (l.map str) := by
    rw [← strsO_of (l.map str), List.map_map]; rfl
  have e2 : Lib.join ((l.map str).map (·.data.toList)) (str [44]).data.toList = (jnI [44] l).map u8 := by
    rw [← jnI_join]
    simp only [List.map_map, Function.comp_def, str_data]
  rw [show (Tb (bs bb)).base = bs bb from rfl]
  show joinO (str [44]) (strsO (l.map sS)) = _
  rw [e1]
  unfold joinO
  simp only
  rw [if_pos ⟨by simpa using h1, by rw [e2]; simpa using h2⟩, joinS_s]
theorem format_v (hD : ∀ n, (D n).length ≤ 20) (gs : List Gr) (ws : List Wt) (hl : gs.length ≤ 1000) (hw : ws.length ≤ 1000)
    (h1 : ∀ g ∈ gs, EV G (Tb (bs bb)) 79 [vi g.c] [] = some (sv (D g.c), []) ∧ EV G (Tb (bs bb)) 79 [vi g.l] [] = some (sv (D g.l), []) ∧ EV G (Tb (bs bb)) 79 [vi g.t] [] = some (sv (D g.t), []))
    (h2 : ∀ w ∈ ws, EV G (Tb (bs bb)) 79 [vi w.c] [] = some (sv (D w.c), [])) :
    EV G (Tb (bs bb)) 34 [.agg [.dc (.slc (gs.map Gr.e)), .dc (.slc (ws.map Wt.e))]] [] = some (sv (txF D gs ws), []) := by
  refine EV_run rfl ?_
  have b1 : (jnI [44] (gs.map (txG D))).length ≤ 1000 * 63 := by
    have := jnI_len [44] 62 (by simp) (gs.map (txG D)) (fun a ha => by
      obtain ⟨g, _, rfl⟩ := List.mem_map.1 ha
      have := hD g.c
      have := hD g.l
      have := hD g.t
      simp [txG]; omega)
    rw [List.length_map] at this
    omega
  have b2 : (jnI [44] (ws.map (txW D))).length ≤ 1000 * 63 := by
    have := jnI_len [44] 62 (by simp) (ws.map (txW D)) (fun a ha => by
      obtain ⟨g, _, rfl⟩ := List.mem_map.1 ha
      have := hD g.c
      have := ltr_len g.k
      simp [txW]; omega)
    rw [List.length_map] at this
    omega
  have j1 := joinV (G := G) (bb := bb) (gs.map (txG D)) (by simpa using hl) (by omega)
  have j2 := joinV (G := G) (bb := bb) (ws.map (txW D)) (by simpa using hw) (by omega)
  have s1 : binV .add (sv (jnI [44] (gs.map (txG D)))) (sv [59]) = some (sv (jnI [44] (gs.map (txG D)) ++ [59])) := sadd_s (by simp; omega)
  have s2 : binV .add (sv (jnI [44] (gs.map (txG D)) ++ [59])) (sv (jnI [44] (ws.map (txW D)))) = some (sv (txF D gs ws)) := sadd_s (by simp; omega)
  simp (disch := omega) only [go_sem, h34c, str_nil]
  rw [EL_loop (fun k => fo0 D gs ws k) gs.length ?_ (fun k hk => fo0_round D hD gs ws (by omega) k hk gs[k] rfl (h1 _ (List.getElem_mem hk)).1 (h1 _ (List.getElem_mem hk)).2.1 (h1 _ (List.getElem_mem hk)).2.2)]
  rotate_left
  · rfl
  unfold fo0
  rw [List.take_length]
  simp (disch := omega) only [go_sem, h34l0]
  rw [EL_loop (fun k => fo1 D gs ws k) ws.length ?_ (fun k hk => fo1_round D hD gs ws (by omega) k hk ws[k] rfl (h2 _ (List.getElem_mem hk)))]
  rotate_left
  · rfl
  unfold fo1
  rw [List.take_length]
  have lX : (gs.map (txG D)).length = gs.length := List.length_map ..
  have lY : (ws.map (txW D)).length = ws.length := List.length_map ..
  generalize gs.map (txG D) = X at *
  generalize ws.map (txW D) = Y at *
  generalize gs.length = n at *
  generalize ws.length = m at *
  subst lX
  subst lY
  have mX : (X.map sS).take X.length = X.map sS := List.take_of_length_le (by simp)
  have mY : (Y.map sS).take Y.length = Y.map sS := List.take_of_length_le (by simp)
  simp (disch := omega) only [go_sem, h34l1, c44, c59, List.length_map, j1, j2, s1, s2, mX, mY]
end
end
section
def dig (a : Int) : Bool := decide (48 ≤ a ∧ a ≤ 57)
def grP : List Int → Gr × Bool
  | [a, b, c, d, e] => if b = 58 ∧ d = 62 then (⟨a - 48, c - 48, e - 48⟩, dig a && dig c && dig e) else (⟨0, 0, 0⟩, false)
  | _ => (⟨0, 0, 0⟩, false)
def wtP : List Int → Wt × Bool
  | [a, b] => if b = 111 then (⟨a - 48, 0⟩, dig a) else if b = 114 then (⟨a - 48, 2⟩, dig a) else if b = 119 then (⟨a - 48, 3⟩, dig a) else (⟨0, 0⟩, false)
  | _ => (⟨0, 0⟩, false)
def prt (l : List Int) : List (List Int) := if l = [] then [] else spl 44 l
def psG (l : List Int) : List Gr := (prt l).map fun p => (grP p).1
def psW (l : List Int) : List Wt := (prt l).map fun p => (wtP p).1
def okG (l : List Int) : Bool := (prt l).all fun p => (grP p).2
def okW (l : List Int) : Bool := (prt l).all fun p => (wtP p).2
def psB (s : List Int) : Option (List Gr × List Wt) :=
  match spl 59 s with
  | [a, b] => if okG a = true ∧ okW b = true then some (psG a, psW b) else none
  | _ => none
def psR (s : List Int) : List Gr × List Wt × Int :=
  if s.length > 200 then ([], [], 8)
  else match psB s with
    | none => ([], [], 7)
    | some (gs, ws) => if (chk gs ws).2 = 0 then (gs, ws, 0) else ([], [], (chk gs ws).2)
theorem dig_no {a : Int} (h : dig a = true) : a ≠ 44 ∧ a ≠ 59 := by
  unfold dig at h
  have := of_decide_eq_true h
  omega
theorem wtP_no {p : List Int} (h : (wtP p).2 = true) : 59 ∉ p := by
  unfold wtP at h
  split at h
  · rename_i a b
    have hb : b = 111 ∨ b = 114 ∨ b = 119 := by
      repeat' split at h
      all_goals first | omega | cases h
    have ha : dig a = true := by
      repeat' split at h
      all_goals first | exact h | cases h
    have := dig_no ha
    intro hm
    simp at hm
    omega
  · cases h
theorem mem_cns (c x : Int) (ps : List (List Int)) : (∃ p ∈ cnsH x ps, c ∈ p) ↔ c = x ∨ ∃ p ∈ ps, c ∈ p := by
  cases ps with
  | nil => simp [cnsH]
  | cons p ps => simp [cnsH, or_assoc]
theorem mem_spl {c d : Int} (h : c ≠ d) : ∀ l : List Int, c ∈ l → ∃ p ∈ spl d l, c ∈ p
  | [], hm => by cases hm
  | x :: l, hm => by
    rw [spl]
    by_cases e : x = d
    · rw [if_pos e]
      rcases List.mem_cons.1 hm with rfl | hm
      · exact absurd e h
      · obtain ⟨p, h1, h2⟩ := mem_spl h l hm
        exact ⟨p, List.mem_cons_of_mem _ h1, h2⟩
    · rw [if_neg e, mem_cns]
      rcases List.mem_cons.1 hm with rfl | hm
      · exact .inl rfl
      · exact .inr (mem_spl h l hm)
theorem okW_no {b : List Int} (h : okW b = true) : 59 ∉ b := by
  intro hm
  unfold okW prt at h
  by_cases e : b = []
  · subst e; cases hm
  · rw [if_neg e] at h
    obtain ⟨p, h1, h2⟩ := mem_spl (d := 44) (by decide) b hm
    exact wtP_no (List.all_eq_true.1 h p h1) h2
theorem psB_cut (s : List Int) : psB s = if (ctI 59 s).2.2 = true ∧ okG (ctI 59 s).1 = true ∧ okW (ctI 59 s).2.1 = true then some (psG (ctI 59 s).1, psW (ctI 59 s).2.1) else none := by
  unfold psB
  rcases ctI_cases 59 s with ⟨h1, h2⟩ | ⟨a, b, rfl, h1, h2⟩
  · rw [h2, spl_free 59 s h1]
    simp
  · rw [h2, spl_app 59 a b h1]
    by_cases h3 : 59 ∈ b
    · have h4 : ¬ okW b = true := fun h => okW_no h h3
      rw [if_neg (by simp [h4])]
      rcases ctI_cases 59 b with ⟨h5, _⟩ | ⟨a', b', rfl, h5, _⟩
      · exact absurd h3 h5
      · rw [spl_app 59 a' b' h5]
        cases hs : spl 59 b' with
        | nil => exact absurd hs (spl_ne 59 b')
        | cons p ps => rfl
    · rw [spl_free 59 b h3]
      simp
theorem spl_jn (c : Int) : ∀ ps : List (List Int), ps ≠ [] → (∀ p ∈ ps, c ∉ p) → spl c (jnI [c] ps) = ps
  | [], h, _ => absurd rfl h
  | [a], _, h => spl_free c a (h a List.mem_cons_self)
  | a :: b :: l, _, h => by
    rw [jnI, List.append_assoc, List.singleton_append, spl_app c a _ (h a List.mem_cons_self), spl_jn c (b :: l) (by simp) (fun p hp => h p (List.mem_cons_of_mem _ hp))]
theorem mem_jn {c x : Int} : ∀ ps : List (List Int), x ∈ jnI [c] ps → x = c ∨ ∃ p ∈ ps, x ∈ p
  | [], h => by cases h
  | [a], h => .inr ⟨a, List.mem_cons_self, h⟩
  | a :: b :: l, h => by
    rw [jnI, List.append_assoc, List.singleton_append] at h
    rcases List.mem_append.1 h with h | h
    · exact .inr ⟨a, List.mem_cons_self, h⟩
    · rcases List.mem_cons.1 h with rfl | h
      · exact .inl rfl
      · rcases mem_jn (b :: l) h with h | ⟨p, h1, h2⟩
        · exact .inl h
        · exact .inr ⟨p, List.mem_cons_of_mem _ h1, h2⟩
theorem prt_jn (ps : List (List Int)) (h : ∀ p ∈ ps, 44 ∉ p) (hn : ∀ p ∈ ps, p ≠ []) : prt (jnI [44] ps) = ps := by
  unfold prt
  cases ps with
  | nil => rfl
  | cons a l =>
    have : jnI [44] (a :: l) ≠ [] := by
      cases l with
      | nil => exact hn a List.mem_cons_self
      | cons b l => rw [jnI]; simp
    rw [if_neg this, spl_jn 44 _ (by simp) h]
theorem txG_d {g : Gr} (h : (1 ≤ g.c ∧ g.c ≤ 8) ∧ (0 ≤ g.l ∧ g.l ≤ 3) ∧ 0 ≤ g.t ∧ g.t ≤ g.l) : txG dcR g = [48 + g.c, 58, 48 + g.l, 62, 48 + g.t] := by
  unfold txG
  rw [dcR_digit g.c (by omega), dcR_digit g.l (by omega), dcR_digit g.t (by omega)]
  rfl
theorem grP_y (a c e : Int) : grP [a, 58, c, 62, e] = (⟨a - 48, c - 48, e - 48⟩, dig a && dig c && dig e) := by simp [grP]
theorem grP_d {g : Gr} (h : (1 ≤ g.c ∧ g.c ≤ 8) ∧ (0 ≤ g.l ∧ g.l ≤ 3) ∧ 0 ≤ g.t ∧ g.t ≤ g.l) : grP (txG dcR g) = (g, true) := by
  rw [txG_d h]
  rw [grP_y]
  unfold dig
  have e1 : 48 + g.c - 48 = g.c := by omega
  have e2 : 48 + g.l - 48 = g.l := by omega
  have e3 : 48 + g.t - 48 = g.t := by omega
  rw [e1, e2, e3, decide_eq_true (by omega), decide_eq_true (by omega), decide_eq_true (by omega)]
  rfl
theorem wtP_d {w : Wt} (h : (1 ≤ w.c ∧ w.c ≤ 8) ∧ (w.k = 0 ∨ w.k = 2 ∨ w.k = 3)) : wtP (txW dcR w) = (w, true) ∧ 44 ∉ txW dcR w ∧ 59 ∉ txW dcR w ∧ (txW dcR w).length = 2 := by
  unfold txW
  rw [dcR_digit w.c (by omega)]
  have e1 : 48 + w.c - 48 = w.c := by omega
  have e2 : dig (48 + w.c) = true := by unfold dig; exact decide_eq_true (by omega)
  obtain ⟨c, k⟩ := w
  simp only at h e1 e2 ⊢
  rcases h with ⟨h1, rfl | rfl | rfl⟩
  · refine ⟨?_, ?_, ?_, rfl⟩
    · simp [ltr, wtP, e1, e2]
    · simp [ltr]; omega
    · simp [ltr]; omega
  · refine ⟨?_, ?_, ?_, rfl⟩
    · simp [ltr, wtP, e1, e2]
    · simp [ltr]; omega
    · simp [ltr]; omega
  · refine ⟨?_, ?_, ?_, rfl⟩
    · simp [ltr, wtP, e1, e2]
    · simp [ltr]; omega
    · simp [ltr]; omega
theorem psR_tx {gs : List Gr} {ws : List Wt} (h : (chk gs ws).2 = 0) : psR (txF dcR gs ws) = (gs, ws, 0) := by
  obtain ⟨hv, _⟩ := chk_ok h
  have hg : ∀ g ∈ gs, (1 ≤ g.c ∧ g.c ≤ 8) ∧ (0 ≤ g.l ∧ g.l ≤ 3) ∧ 0 ≤ g.t ∧ g.t ≤ g.l := fun g hg => ⟨(hv.rg g hg).1, (hv.rg g hg).2.1, (hv.rg g hg).2.2.1, (hv.rg g hg).2.2.2.1⟩
  have hw : ∀ w ∈ ws, (1 ≤ w.c ∧ w.c ≤ 8) ∧ (w.k = 0 ∨ w.k = 2 ∨ w.k = 3) := fun w hw => ⟨(hv.wr w hw).1, (hv.wr w hw).2.1⟩
  have ng : ∀ p ∈ gs.map (txG dcR), 44 ∉ p ∧ 59 ∉ p ∧ p ≠ [] ∧ p.length ≤ 5 := by
    intro p hp
    obtain ⟨g, h1, rfl⟩ := List.mem_map.1 hp
    have := hg g h1
    rw [txG_d (hg g h1)]
    refine ⟨?_, ?_, by simp, by simp⟩
    · simp; omega
    · simp; omega
  have nw : ∀ p ∈ ws.map (txW dcR), 44 ∉ p ∧ 59 ∉ p ∧ p ≠ [] ∧ p.length ≤ 2 := by
    intro p hp
    obtain ⟨w, h1, rfl⟩ := List.mem_map.1 hp
    obtain ⟨_, h3, h4, h5⟩ := wtP_d (hw w h1)
    exact ⟨h3, h4, (fun e => by rw [e] at h5; cases h5), by omega⟩
  have n1 : 59 ∉ jnI [44] (gs.map (txG dcR)) := fun hm => by
    rcases mem_jn _ hm with h | ⟨p, h1, h2⟩
    · omega
    · exact (ng p h1).2.1 h2
  have n2 : 59 ∉ jnI [44] (ws.map (txW dcR)) := fun hm => by
    rcases mem_jn _ hm with h | ⟨p, h1, h2⟩
    · omega
    · exact (nw p h1).2.1 h2
  have l1 := jnI_len [44] 5 (by simp) (gs.map (txG dcR)) (fun a ha => (ng a ha).2.2.2)
  have l2 := jnI_len [44] 2 (by simp) (ws.map (txW dcR)) (fun a ha => (nw a ha).2.2.2)
  have l3 := hv.gl
  have l4 := hv.wl
  rw [List.length_map] at l1 l2
  have p1 := prt_jn (gs.map (txG dcR)) (fun p hp => (ng p hp).1) (fun p hp => (ng p hp).2.2.1)
  have p2 := prt_jn (ws.map (txW dcR)) (fun p hp => (nw p hp).1) (fun p hp => (nw p hp).2.2.1)
  have e : txF dcR gs ws = jnI [44] (gs.map (txG dcR)) ++ 59 :: jnI [44] (ws.map (txW dcR)) := by unfold txF; simp
  have hB : psB (txF dcR gs ws) = some (gs, ws) := by
    rw [psB_cut, e, ctI_app 59 _ _ n1]
    unfold okG okW psG psW
    rw [p1, p2]
    have a1 : ((gs.map (txG dcR)).all fun p => (grP p).2) = true := by
      rw [List.all_eq_true]
      intro p hp
      obtain ⟨g, h1, rfl⟩ := List.mem_map.1 hp
      rw [grP_d (hg g h1)]
    have a2 : ((ws.map (txW dcR)).all fun p => (wtP p).2) = true := by
      rw [List.all_eq_true]
      intro p hp
      obtain ⟨w, h1, rfl⟩ := List.mem_map.1 hp
      rw [(wtP_d (hw w h1)).1]
    have b1 : (gs.map (txG dcR)).map (fun p => (grP p).1) = gs := by
      rw [List.map_map]
      conv => rhs; rw [← List.map_id gs]
      apply List.map_congr_left
      intro g h1
      simp [grP_d (hg g h1)]
    have b2 : (ws.map (txW dcR)).map (fun p => (wtP p).1) = ws := by
      rw [List.map_map]
      conv => rhs; rw [← List.map_id ws]
      apply List.map_congr_left
      intro w h1
      simp [(wtP_d (hw w h1)).1]
    rw [if_pos ⟨rfl, a1, a2⟩, b1, b2]
  unfold psR
  rw [if_neg (by rw [e, List.length_append, List.length_cons]; omega), hB]
  simp [h]
end
section
variable {G : Glob} {bb : Bool}
theorem meet_sw {n0 i j : Nat} {s s' : AS} (h1 : Nat.ble n0 i = true) (h2 : Nat.ble n0 j = true) (h3 : Nat.blt i s'.hp.length = true) (h4 : Nat.blt j s'.hp.length = true) (h : prm [(i, j)] s' = s) : meetE n0 (some s) (some s') = some s :=
  meetE_p [(i, j)] (fun x hx => by
    rw [List.mem_singleton] at hx
    subst hx
    exact ⟨Nat.le_of_ble_eq_true h1, Nat.le_of_ble_eq_true h2, Nat.le_of_ble_eq_true h3, Nat.le_of_ble_eq_true h4⟩) h
theorem meet23 {s s' : AS} (h3 : Nat.blt 2 s'.hp.length = true) (h4 : Nat.blt 3 s'.hp.length = true) (h : prm [(2, 3)] s' = s) : meetE 2 (some s) (some s') = some s := meet_sw rfl rfl h3 h4 h
theorem rwithin_v (n lo hi : Int) : EV G (Tb (bs bb)) 39 [vi n, vi lo, vi hi] [] = some (vb (wi n lo hi), []) := by
  refine EV_run rfl ?_
  unfold wi
  by_cases h : lo ≤ n
  all_goals simp (disch := omega) only [go_sem, h39c]
  all_goals simp [h]
theorem rclient_v (n : Int) : EV G (Tb (bs bb)) 121 [vi n] [] = some (vb (isCl n), []) := by
  refine EV_run rfl ?_
  simp (disch := omega) only [go_sem, h121c, rwithin_v]
  rfl
theorem rallows_v (k : Int) : EV G (Tb (bs bb)) 123 [vi k] [] = some (vi (al k), []) := by
  refine EV_run rfl ?_
  unfold al
  by_cases h1 : k = 0
  · simp (disch := omega) only [go_sem, h123c, eq_true h1]
  · by_cases h2 : k = 2
    · simp (disch := omega) only [go_sem, h123c, h1, eq_true h2]
    · simp (disch := omega) only [go_sem, h123c, h1, h2]
theorem rcopy_v (gs : List Gr) (ws : List Wt) (hg : gs.length ≤ 100000) (hw : ws.length ≤ 100000) : EV G (Tb (bs bb)) 13 [flV gs ws] [] = some (.agg [.bld 2 gs.length, .bld 3 ws.length], [.box [.dc (.slc (gs.map Gr.e)), .dc (.slc (ws.map Wt.e))], .box [.bld 2 gs.length, .bld 3 ws.length], .arr 0 3 (gs.map Gr.e), .arr 0 2 (ws.map Wt.e)]) := by
  refine EV_run rfl ?_
  simp (disch := omega) only [go_sem, h13c, allLen_gr, allLen_wt]
  repeat
    first
    | rw [meetE_e]
    | (rw [meet23 ?_ ?_ ?_]
       rotate_left
       · rfl
       · rfl
       · rfl)
  simp (disch := omega) only [go_sem]
end
section
variable {G : Glob} {bb : Bool}
def rbSt (gs : List Gr) (ws : List Wt) (c m : Int) (es os : List (List DC)) (j : Nat) : AS :=
  ⟨(jk 1 (vi c :: jk 4 (.one (.ptr 1 0) :: jk 1 (.one (.ptr 6 0) :: .one (.bld 7 os.length) :: vi m :: vi j :: jk 62 [])))), [.box [.dc (.slc (gs.map Gr.e)), .dc (.slc (ws.map Wt.e))], .box [.dc (.raw (.slice none 0 0)), .dc (.raw (.slice none 0 0))], .box [.dc (.slc (gs.map Gr.e)), .dc (.slc (ws.map Wt.e))], .box [.bld 4 gs.length, .bld 5 ws.length], .arr 0 3 es, .arr 0 2 (ws.map Wt.e), .box [.bld 4 gs.length, .bld 5 ws.length], .arr 0 2 os]⟩
theorem rb_round (gs : List Gr) (ws : List Wt) (c m : Int) (hm : 0 ≤ m) (hl : gs.length ≤ 1000000) (es os : List (List DC)) (j : Nat) (hj : j < gs.length) (g : Gr) (he : es[j]? = some [ci g.c, ci g.l, ci g.t]) (hel : es.length = gs.length) (ho : os.length ≤ 1000000) :
    rnK [1, 4, 1, 0, 0, 0] 8 (EC (EV G (Tb (bs bb))) G h59l0 (rbSt gs ws c m es os j)) = some (rbSt gs ws c m (es.set j (brG c m g).e) (os ++ (brB c m g).map Br.e) (j + 1)) := by
  have hje : j < es.length := by omega
  have e1 := fun x => set_get (x := x) hje
  unfold rbSt
  by_cases h1 : g.c = c
  · have a1 : brG c m g = g := by unfold brG; rw [if_pos (.inl h1)]
    have a2 : brB c m g = [] := by unfold brB; rw [if_pos (.inl h1)]
    rw [a1, a2, set_sm (x := g.e) he]
    simp (disch := omega) only [go_sem, h59l0, he, hel, eq_true h1, List.map_nil, List.append_nil]
  · by_cases h2 : g.l ≤ m
    · have a1 : brG c m g = g := by unfold brG; rw [if_pos (.inr h2)]
      have a2 : brB c m g = [] := by unfold brB; rw [if_pos (.inr h2)]
      rw [a1, a2, set_sm (x := g.e) he]
      simp (disch := omega) only [go_sem, h59l0, he, hel, h1, h2, List.map_nil, List.append_nil]
    · by_cases h3 : g.l = 1
      · have a1 : brG c m g = ⟨g.c, 0, 0⟩ := by unfold brG; rw [if_neg (by omega), if_pos h3]
        have a2 : brB c m g = [⟨g.c, 0⟩] := by unfold brB; rw [if_neg (by omega), if_pos h3]
        rw [a1, a2]
        simp (disch := omega) only [go_sem, h59l0, he, hel, h1, h2, eq_true h3, e1, List.set_set, List.length_set, Gr.e, Br.e, List.map_cons, List.map_nil, List.length_append, List.length_cons, List.length_nil, List.take_length]
      · by_cases h4 : g.t ≤ m
        · have a1 : brG c m g = g := by unfold brG; rw [if_neg (by omega), if_neg h3, if_pos h4]
          have a2 : brB c m g = [] := by unfold brB; rw [if_neg (by omega), if_neg h3, if_pos h4]
          have h4' : ¬ g.t > m := by omega
          rw [a1, a2, set_sm (x := g.e) he]
          simp (disch := omega) only [go_sem, h59l0, he, hel, h1, h2, h3, h4', List.map_nil, List.append_nil]
        · have a1 : brG c m g = ⟨g.c, g.l, m⟩ := by unfold brG; rw [if_neg (by omega), if_neg h3, if_neg h4]
          have a2 : brB c m g = [⟨g.c, m⟩] := by unfold brB; rw [if_neg (by omega), if_neg h3, if_neg h4]
          have h4' : g.t > m := by omega
          rw [a1, a2]
          simp (disch := omega) only [go_sem, h59l0, he, hel, h1, h2, h3, h4', e1, List.set_set, List.length_set, Gr.e, Br.e, List.map_cons, List.map_nil, List.length_append, List.length_cons, List.length_nil, List.take_length]
theorem rb_loop {st : AS} (gs : List Gr) (ws : List Wt) (c k : Int) (hl : gs.length ≤ 1000000) (h0 : st = rbSt gs ws c (al k) (gs.map Gr.e) [] 0) :
    EL (EV G (Tb (bs bb))) G h59l0 [1, 4, 1, 0, 0, 0] 8 st = fnK (EV G (Tb (bs bb))) G h59l0 [1, 4, 1, 0, 0, 0] 8 (EC (EV G (Tb (bs bb))) G h59l0 (rbSt gs ws c (al k) ((brGs gs c k).map Gr.e) ((brBs gs c k).map Br.e) gs.length)) := by
  subst h0
  have hm := (al_r k).1
  rw [← midE_all, ← outE_all]
  refine EL_loop (fun j => rbSt gs ws c (al k) (midE gs c (al k) j) (outE gs c (al k) j) j) gs.length ?_ ?_
  · rw [midE_0, outE_0]
  · intro j hj
    have h1 := outE_len gs c (al k) j (by omega)
    rw [midE_next c (al k) hj, outE_next c (al k) hj]
    exact rb_round gs ws c (al k) hm hl _ _ j hj gs[j] (midE_at c (al k) hj) (midE_len ..) (by omega)
abbrev brkH (gs : List Gr) (ws : List Wt) (c k : Int) : List AObj := [.box [.dc (.slc (gs.map Gr.e)), .dc (.slc (ws.map Wt.e))], .box [.bld 4 gs.length, .bld 5 ws.length], .box [.dc (.slc (gs.map Gr.e)), .dc (.slc (ws.map Wt.e))], .box [.bld 4 gs.length, .bld 5 ws.length], .arr 0 3 ((brGs gs c k).map Gr.e), .arr 0 2 (ws.map Wt.e), .box [.bld 4 gs.length, .bld 5 ws.length], .arr 0 2 ((brBs gs c k).map Br.e)]
theorem rbroken_v (gs : List Gr) (ws : List Wt) (c k : Int) (hl : gs.length ≤ 100000) (hw : ws.length ≤ 100000) :
    EV G (Tb (bs bb)) 59 [flV gs ws, vi c, vi k] [] = some (.tup [.agg [.bld 4 gs.length, .bld 5 ws.length], .one (.bld 7 (brBs gs c k).length)], brkH gs ws c k) := by
  refine EV_run rfl ?_
  have q := rcopy_v (G := G) (bb := bb) gs ws hl hw
  have e0 := brGs_len gs c k
  simp (disch := omega) only [go_sem, h59c, q, rallows_v]
  rw [rb_loop gs ws c k (by omega) ?_]
  rotate_left
  · rfl
  unfold rbSt
  simp (disch := omega) only [go_sem, h59l0, e0, List.take_length]
  try rfl
end
end Go.Proofs.YtinageiefahjfaaGreatDoor
